/- Walks, printed by an own program: the machine's calls compute the plain functions. -/
import Derived.Test.YtpciioffkjpieaaDoorW0
set_option linter.unusedVariables false
set_option linter.unusedSimpArgs false
namespace Go.Proofs.YtpciioffkjpieaaDoor
open Go Go.Proofs.XC
/-! tidewrack/glyph.find -/
theorem glyph_find_calls (K : Nat) (p0 : Int) (w : World) (o : Nat → Nat) (Lg3 : Nat) (hg3 : Ft (RdC ET192 (some ⟨3, 0, none⟩) glob3) w o Lg3)   (r : T192 × Bool) (H : glyph_find K p0 = some r) :
    Calls Tryd.prog 116 #[.int .u8 p0] w (Ret fun v_ w' => ∃ o' : Nat → Nat, v_ = .tuple #[.agg #[.int .u8 r.1.first, .int .u8 r.1.last, .int .i64 r.1.need, .int .u8 r.1.low, .int .u8 r.1.high], .bool r.2] ∧ St [] w o w' o') := by
  refine x_enter (vs := [.int .u8 p0]) Tryd.func116 rfl rfl rfl fun a hk => ?_
  obtain ⟨o0, hs, h0⟩ := St.start w o
  have fg3 := h0 _ _ hg3
  clear h0
  rw [glyph_find] at H
  refine x_seq ?_
  refine wpIn_region_lit ?_
  refine x_op hk rfl ?_
  refine op_alloc (o := o0) tab (t := 193) (cs := [.int .u8 0, .int .u8 0, .int .i64 0, .int .u8 0, .int .u8 0]) rfl rfl 1 fun bx4 w1 o2 st3 f5 => ?_
  replace fg3 := fg3.st st3 (by decide)
  replace hs := hs.loc0 st3 (by decide)
  have hk := hk.put 2 (.pointer (some ⟨bx4, 0, none⟩)) rfl
  refine x_run tab hk (k := 1) (lv := []) (ks := [0, 2]) (e' := [(0, .int .u8 p0), (2, .pointer (some ⟨bx4, 0, none⟩))]) rfl trivial fun a hk => ?_
  refine wpListIn_nil ?_
  refine then_n ?_
  refine x_mid (fun a_ w_ => ∃ o93 : Nat → Nat, Kn 23 a_ [(2, .pointer (some ⟨bx4, 0, none⟩))] ∧ St [] w (fun _ => 0) w_ o93 ∧ Ft (Bx bx4 193 [.int .u8 0, .int .u8 0, .int .i64 0, .int .u8 0, .int .u8 0]) w_ o93 13 ∧ Ft (RdC ET192 (some ⟨3, 0, none⟩) glob3) w_ o93 0 ∧ glyph_find_j1 = some r) ?_ ?_
  rotate_left
  · rintro a w94 ⟨o93, hk, hs, f5, fg3, H⟩
    rw [glyph_find_j1] at H
    refine x_seq ?_
    refine wpIn_region_lit ?_
    refine x_run tab hk (k := 1) (lv := []) (ks := [2, 22]) (e' := [(2, .pointer (some ⟨bx4, 0, none⟩)), (22, .agg #[.int .u8 0, .int .u8 0, .int .i64 0, .int .u8 0, .int .u8 0])]) rfl trivial fun a hk => ?_
    refine x_op hk rfl ?_
    refine op_store tab hk (t := 193) (v := .agg #[.int .u8 0, .int .u8 0, .int .i64 0, .int .u8 0, .int .u8 0]) (b := bx4) (k := 0) (cs' := [.int .u8 0, .int .u8 0, .int .i64 0, .int .u8 0, .int .u8 0]) rfl rfl rfl rfl rfl rfl f5 rfl rfl fun w95 o96 st97 f5_ => ?_
    replace fg3 := fg3.st st97 (by decide)
    replace hs := hs.loc0 st97 (by decide)
    replace f5 := f5_
    refine x_run tab hk (k := 1) (lv := []) (ks := [2, 3]) (e' := [(2, .pointer (some ⟨bx4, 0, none⟩)), (3, .bool false)]) rfl trivial fun a hk => ?_
    refine wpListIn_nil ?_
    refine then_n ?_
    refine wpIn_ret ?_
    obtain rfl := Option.some.inj H
    exact x_retG hk (rs := [.cell 2 193, .tmp 3]) (vs := [.agg #[.int .u8 0, .int .u8 0, .int .i64 0, .int .u8 0, .int .u8 0], .bool false]) rfl ⟨⟨_, rfl, load_box tab rfl rfl f5.now (k := 0) rfl rfl⟩, rfl, trivial⟩ ⟨fun b_ => if b_ < w.heap.size then o b_ else (fun _ => 0) (o96 b_), rfl, hs.close0 o (fun _ => 0)⟩
  refine x_seq ?_
  refine wpIn_region_lit ?_
  refine x_run tab hk (k := 2) (lv := [.agg (List.flatMap (Enc.f ET192) glob3).toArray]) (ks := [0, 2, 6, 7]) (e' := [(0, .int .u8 p0), (2, .pointer (some ⟨bx4, 0, none⟩)), (6, .agg (List.flatMap (Enc.f ET192) glob3).toArray), (7, .int .i64 0)]) rfl ⟨(load_arr (E := ET192) (xs := glob3) tab rfl rfl fg3.now rfl), trivial⟩ fun a hk => ?_
  refine wpListIn_nil ?_
  refine then_n ?_
  refine wpIn_block ?_
  refine x_loop (fun j_ a_ w_ => ∃ o126 : Nat → Nat, ∃ x127 : Int, Kn 23 a_ [(0, .int .u8 p0), (2, .pointer (some ⟨bx4, 0, none⟩)), (6, .agg (List.flatMap (Enc.f ET192) glob3).toArray), (7, .int .i64 x127)] ∧ St [] w (fun _ => 0) w_ o126 ∧ Ft (Bx bx4 193 [.int .u8 0, .int .u8 0, .int .i64 0, .int .u8 0, .int .u8 0]) w_ o126 18 ∧ Ft (RdC ET192 (some ⟨3, 0, none⟩) glob3) w_ o126 0 ∧ glyph_find_l2 p0 j_ x127 = some r) (k := K) ⟨(fun b_ => (fun l_ => if l_ = 1 then 18 else l_) (o2 b_)), 0, (by exact Kn.pick (ks := [0, 2, 6, 7]) hk rfl), (hs.relab0 (fun l_ => if l_ = 1 then 18 else l_) rfl), (f5.relab (fun l_ => if l_ = 1 then 18 else l_) rfl), (fg3.relab (fun l_ => if l_ = 1 then 18 else l_) rfl), H⟩ (by rintro _ _ ⟨_, _, _, _, _, _, H_⟩; exact absurd (show (none : Option (T192 × Bool)) = some r from H_) (by simp)) ?_
  rintro k154 a w153 ⟨o126, x127, hk, hs, f5, fg3, H⟩
  rw [glyph_find_l2] at H
  obtain ⟨lp155, hlp156⟩ : ∃ lp_, lp_ = glyph_find_l2 p0 k154 := ⟨_, rfl⟩
  rw [← hlp156] at H
  refine x_seq ?_
  refine wpIn_region_lit ?_
  refine x_run tab hk (k := 1) (lv := []) (ks := [0, 2, 6, 7, 8]) (e' := [(0, .int .u8 p0), (2, .pointer (some ⟨bx4, 0, none⟩)), (6, .agg (List.flatMap (Enc.f ET192) glob3).toArray), (7, .int .i64 x127), (8, .bool (decide (x127 < (8 : Int))))]) rfl trivial fun a hk => ?_
  refine wpListIn_nil ?_
  refine then_n ?_
  refine x_seq ?_
  cases b157 : (decide (x127 < (8 : Int)))
  · rw [b157] at hk H
    replace H := bifF H
    refine x_if hk (b := false) rfl ?_
    refine (show Code.wpIn _ _ _ _ _ _ _ from ?_)
    refine wpIn_exit ?_
    refine then_x ?_
    refine then_x ?_
    refine blk_x ?_
    refine then_n ?_
    exact ⟨(fun b_ => (fun l_ => if l_ = 18 then 13 else l_) (o126 b_)), (by exact Kn.pick (ks := [2]) hk rfl), (hs.relab0 (fun l_ => if l_ = 18 then 13 else l_) rfl), (f5.relab (fun l_ => if l_ = 18 then 13 else l_) rfl), (fg3.relab (fun l_ => if l_ = 18 then 13 else l_) rfl), H⟩
  · rw [b157] at hk H
    replace H := bifT H
    refine x_if hk (b := true) rfl ?_
    refine (show Code.wpIn _ _ _ _ _ _ _ from ?_)
    refine wpIn_skip ?_
    refine then_n ?_
    refine x_seq ?_
    refine wpIn_block ?_
    refine x_seq ?_
    refine wpIn_region_lit ?_
    obtain ⟨q158, H⟩ := ifS H
    refine x_run tab hk (k := 1) (lv := [.agg #[.int .u8 ((rdD zT192 glob3 x127).first), .int .u8 ((rdD zT192 glob3 x127).last), .int .i64 ((rdD zT192 glob3 x127).need), .int .u8 ((rdD zT192 glob3 x127).low), .int .u8 ((rdD zT192 glob3 x127).high)]]) (ks := [0, 2, 6, 7, 9]) (e' := [(0, .int .u8 p0), (2, .pointer (some ⟨bx4, 0, none⟩)), (6, .agg (List.flatMap (Enc.f ET192) glob3).toArray), (7, .int .i64 x127), (9, .agg #[.int .u8 ((rdD zT192 glob3 x127).first), .int .u8 ((rdD zT192 glob3 x127).last), .int .i64 ((rdD zT192 glob3 x127).need), .int .u8 ((rdD zT192 glob3 x127).low), .int .u8 ((rdD zT192 glob3 x127).high)])]) rfl ⟨(ask_ixS (E := ET192) (dx := zT192) tab rfl rfl rfl rfl rfl rfl q158), trivial⟩ fun a hk => ?_
    refine x_op hk rfl ?_
    refine op_alloc (o := o126) tab (t := 193) (cs := [.int .u8 0, .int .u8 0, .int .i64 0, .int .u8 0, .int .u8 0]) rfl rfl 22 fun bx162 w159 o160 st161 f163 => ?_
    replace f5 := f5.st st161 (by decide)
    replace fg3 := fg3.st st161 (by decide)
    replace hs := hs.loc0 st161 (by decide)
    have hk := hk.put 5 (.pointer (some ⟨bx162, 0, none⟩)) rfl
    refine x_op hk rfl ?_
    refine op_store tab hk (t := 193) (v := .agg #[.int .u8 ((rdD zT192 glob3 x127).first), .int .u8 ((rdD zT192 glob3 x127).last), .int .i64 ((rdD zT192 glob3 x127).need), .int .u8 ((rdD zT192 glob3 x127).low), .int .u8 ((rdD zT192 glob3 x127).high)]) (b := bx162) (k := 0) (cs' := [.int .u8 ((rdD zT192 glob3 x127).first), .int .u8 ((rdD zT192 glob3 x127).last), .int .i64 ((rdD zT192 glob3 x127).need), .int .u8 ((rdD zT192 glob3 x127).low), .int .u8 ((rdD zT192 glob3 x127).high)]) rfl rfl rfl rfl rfl rfl f163 rfl rfl fun w164 o165 st166 f163_ => ?_
    replace f5 := f5.st st166 (by decide)
    replace fg3 := fg3.st st166 (by decide)
    replace hs := hs.loc0 st166 (by decide)
    replace f163 := f163_
    refine wpListIn_nil ?_
    refine then_n ?_
    refine x_mid (fun a_ w_ => ∃ o174 : Nat → Nat, ∃ x175 : Bool, Kn 23 a_ [(0, .int .u8 p0), (2, .pointer (some ⟨bx4, 0, none⟩)), (5, .pointer (some ⟨bx162, 0, none⟩)), (6, .agg (List.flatMap (Enc.f ET192) glob3).toArray), (7, .int .i64 x127), (19, .bool x175)] ∧ St [] w (fun _ => 0) w_ o174 ∧ Ft (Bx bx162 193 [.int .u8 ((rdD zT192 glob3 x127).first), .int .u8 ((rdD zT192 glob3 x127).last), .int .i64 ((rdD zT192 glob3 x127).need), .int .u8 ((rdD zT192 glob3 x127).low), .int .u8 ((rdD zT192 glob3 x127).high)]) w_ o174 24 ∧ Ft (Bx bx4 193 [.int .u8 0, .int .u8 0, .int .i64 0, .int .u8 0, .int .u8 0]) w_ o174 23 ∧ Ft (RdC ET192 (some ⟨3, 0, none⟩) glob3) w_ o174 0 ∧ glyph_find_j3 x127 lp155 x175 = some r) ?_ ?_
    rotate_left
    · rintro a w176 ⟨o174, x175, hk, hs, f163, f5, fg3, H⟩
      rw [glyph_find_j3] at H
      cases b177 : x175
      · rw [b177] at hk H
        replace H := bifF H
        refine x_if hk (b := false) rfl ?_
        refine (show Code.wpIn _ _ _ _ _ _ _ from ?_)
        refine wpIn_skip ?_
        refine blk_n ?_
        refine then_n ?_
        refine wpIn_region_lit ?_
        refine x_run tab hk (k := 2) (lv := []) (ks := [0, 2, 6, 7]) (e' := [(0, .int .u8 p0), (2, .pointer (some ⟨bx4, 0, none⟩)), (6, .agg (List.flatMap (Enc.f ET192) glob3).toArray), (7, .int .i64 (IntKind.wrap .i64 (x127 + 1)))]) rfl trivial fun a hk => ?_
        refine wpListIn_nil ?_
        refine then_n ?_
        exact ⟨k154, Nat.le_refl _, (fun b_ => (fun l_ => if l_ = 23 then 18 else l_) (o174 b_)), (IntKind.wrap .i64 (x127 + 1)), (by exact Kn.pick (ks := [0, 2, 6, 7]) hk rfl), (hs.relab0 (fun l_ => if l_ = 23 then 18 else l_) rfl), (f5.relab (fun l_ => if l_ = 23 then 18 else l_) rfl), (fg3.relab (fun l_ => if l_ = 23 then 18 else l_) rfl), (hlp156 ▸ H)⟩
      · rw [b177] at hk H
        replace H := bifT H
        refine x_if hk (b := true) rfl ?_
        refine (show Code.wpIn _ _ _ _ _ _ _ from ?_)
        refine x_seq ?_
        refine wpIn_region_lit ?_
        refine x_run tab hk (k := 1) (lv := [.agg #[.int .u8 ((rdD zT192 glob3 x127).first), .int .u8 ((rdD zT192 glob3 x127).last), .int .i64 ((rdD zT192 glob3 x127).need), .int .u8 ((rdD zT192 glob3 x127).low), .int .u8 ((rdD zT192 glob3 x127).high)]]) (ks := [2, 20]) (e' := [(2, .pointer (some ⟨bx4, 0, none⟩)), (20, .agg #[.int .u8 ((rdD zT192 glob3 x127).first), .int .u8 ((rdD zT192 glob3 x127).last), .int .i64 ((rdD zT192 glob3 x127).need), .int .u8 ((rdD zT192 glob3 x127).low), .int .u8 ((rdD zT192 glob3 x127).high)])]) rfl ⟨(load_box tab rfl rfl f163.now (k := 0) rfl rfl), trivial⟩ fun a hk => ?_
        refine x_op hk rfl ?_
        refine op_store tab hk (t := 193) (v := .agg #[.int .u8 ((rdD zT192 glob3 x127).first), .int .u8 ((rdD zT192 glob3 x127).last), .int .i64 ((rdD zT192 glob3 x127).need), .int .u8 ((rdD zT192 glob3 x127).low), .int .u8 ((rdD zT192 glob3 x127).high)]) (b := bx4) (k := 0) (cs' := [.int .u8 ((rdD zT192 glob3 x127).first), .int .u8 ((rdD zT192 glob3 x127).last), .int .i64 ((rdD zT192 glob3 x127).need), .int .u8 ((rdD zT192 glob3 x127).low), .int .u8 ((rdD zT192 glob3 x127).high)]) rfl rfl rfl rfl rfl rfl f5 rfl rfl fun w178 o179 st180 f5_ => ?_
        replace fg3 := fg3.st st180 (by decide)
        replace hs := hs.loc0 st180 (by decide)
        replace f5 := f5_
        refine x_run tab hk (k := 1) (lv := []) (ks := [2, 3]) (e' := [(2, .pointer (some ⟨bx4, 0, none⟩)), (3, .bool true)]) rfl trivial fun a hk => ?_
        refine wpListIn_nil ?_
        refine then_n ?_
        refine wpIn_ret ?_
        refine blk_r ?_
        refine then_r ?_
        refine then_r ?_
        refine blk_r ?_
        refine then_r ?_
        obtain rfl := Option.some.inj H
        exact x_retG hk (rs := [.cell 2 193, .tmp 3]) (vs := [.agg #[.int .u8 ((rdD zT192 glob3 x127).first), .int .u8 ((rdD zT192 glob3 x127).last), .int .i64 ((rdD zT192 glob3 x127).need), .int .u8 ((rdD zT192 glob3 x127).low), .int .u8 ((rdD zT192 glob3 x127).high)], .bool true]) rfl ⟨⟨_, rfl, load_box tab rfl rfl f5.now (k := 0) rfl rfl⟩, rfl, trivial⟩ ⟨fun b_ => if b_ < w.heap.size then o b_ else (fun _ => 0) (o179 b_), rfl, hs.close0 o (fun _ => 0)⟩
    refine wpIn_region_lit ?_
    refine x_run tab hk (k := 5) (lv := [.int .u8 ((rdD zT192 glob3 x127).first)]) (ks := [0, 2, 5, 6, 7, 14]) (e' := [(0, .int .u8 p0), (2, .pointer (some ⟨bx4, 0, none⟩)), (5, .pointer (some ⟨bx162, 0, none⟩)), (6, .agg (List.flatMap (Enc.f ET192) glob3).toArray), (7, .int .i64 x127), (14, .bool (decide (p0 ≥ ((rdD zT192 glob3 x127).first))))]) rfl ⟨(load1 tab rfl ((Bx.cell f163.now 0).trans rfl)), trivial⟩ fun a hk => ?_
    cases b181 : (decide (p0 ≥ ((rdD zT192 glob3 x127).first)))
    · rw [b181] at hk H
      replace H := bifF H
      refine x_run tab hk (k := 5) (lv := []) (ks := [0, 2, 5, 6, 7, 19]) (e' := [(0, .int .u8 p0), (2, .pointer (some ⟨bx4, 0, none⟩)), (5, .pointer (some ⟨bx162, 0, none⟩)), (6, .agg (List.flatMap (Enc.f ET192) glob3).toArray), (7, .int .i64 x127), (19, .bool false)]) rfl trivial fun a hk => ?_
      refine wpListIn_nil ?_
      refine then_n ?_
      exact ⟨(fun b_ => (fun l_ => if l_ = 18 then 23 else if l_ = 22 then 24 else l_) (o165 b_)), false, (by exact Kn.pick (ks := [0, 2, 5, 6, 7, 19]) hk rfl), (hs.relab0 (fun l_ => if l_ = 18 then 23 else if l_ = 22 then 24 else l_) rfl), (f163.relab (fun l_ => if l_ = 18 then 23 else if l_ = 22 then 24 else l_) rfl), (f5.relab (fun l_ => if l_ = 18 then 23 else if l_ = 22 then 24 else l_) rfl), (fg3.relab (fun l_ => if l_ = 18 then 23 else if l_ = 22 then 24 else l_) rfl), H⟩
    · rw [b181] at hk H
      replace H := bifT H
      refine x_run tab hk (k := 5) (lv := [.int .u8 ((rdD zT192 glob3 x127).last)]) (ks := [0, 2, 5, 6, 7, 19]) (e' := [(0, .int .u8 p0), (2, .pointer (some ⟨bx4, 0, none⟩)), (5, .pointer (some ⟨bx162, 0, none⟩)), (6, .agg (List.flatMap (Enc.f ET192) glob3).toArray), (7, .int .i64 x127), (19, .bool (decide (p0 ≤ ((rdD zT192 glob3 x127).last))))]) rfl ⟨(load1 tab rfl ((Bx.cell f163.now 1).trans rfl)), trivial⟩ fun a hk => ?_
      refine wpListIn_nil ?_
      refine then_n ?_
      exact ⟨(fun b_ => (fun l_ => if l_ = 18 then 23 else if l_ = 22 then 24 else l_) (o165 b_)), (decide (p0 ≤ ((rdD zT192 glob3 x127).last))), (by exact Kn.pick (ks := [0, 2, 5, 6, 7, 19]) hk rfl), (hs.relab0 (fun l_ => if l_ = 18 then 23 else if l_ = 22 then 24 else l_) rfl), (f163.relab (fun l_ => if l_ = 18 then 23 else if l_ = 22 then 24 else l_) rfl), (f5.relab (fun l_ => if l_ = 18 then 23 else if l_ = 22 then 24 else l_) rfl), (fg3.relab (fun l_ => if l_ = 18 then 23 else if l_ = 22 then 24 else l_) rfl), H⟩

/-! tidewrack/glyph.begin -/
theorem glyph_begin_calls (K : Nat) (p0 : Int) (w : World) (o : Nat → Nat) (Lg3 : Nat) (hg3 : Ft (RdC ET192 (some ⟨3, 0, none⟩) glob3) w o Lg3)   (R0 : Nat) (r : T44 × (List Int)) (H : glyph_begin K p0 = some r) :
    Calls Tryd.prog 102 #[.int .u8 p0] w (Ret fun v_ w' => ∃ o' : Nat → Nat, ∃ A0 : Option Addr, ∃ c0 : Nat, v_ = .tuple #[.agg #[.int .u8 r.1.Lead, .int .i32 r.1.Rune, .int .i64 r.1.Need], .slice A0 (r.2).length c0] ∧ St [] w o w' o' ∧ Ft (Own (encInt .i32) 21 (.slice A0 (r.2).length c0) r.2) w' o' R0 ∧ (r.2).length ≤ c0) := by
  refine x_enter (vs := [.int .u8 p0]) Tryd.func102 rfl rfl rfl fun a hk => ?_
  obtain ⟨o0, hs, h0⟩ := St.start w o
  have fg3 := h0 _ _ hg3
  clear h0
  rw [glyph_begin] at H
  refine x_seq ?_
  refine wpIn_region_lit ?_
  refine x_op hk rfl ?_
  refine op_alloc (o := o0) tab (t := 45) (cs := [.int .u8 0, .int .i32 0, .int .i64 0]) rfl rfl 1 fun bx4 w1 o2 st3 f5 => ?_
  replace fg3 := fg3.st st3 (by decide)
  replace hs := hs.loc0 st3 (by decide)
  have hk := hk.put 2 (.pointer (some ⟨bx4, 0, none⟩)) rfl
  refine x_run tab hk (k := 1) (lv := []) (ks := [0, 2]) (e' := [(0, .int .u8 p0), (2, .pointer (some ⟨bx4, 0, none⟩))]) rfl trivial fun a hk => ?_
  refine wpListIn_nil ?_
  refine then_n ?_
  refine x_seq ?_
  refine x_seq ?_
  refine wpIn_region_lit ?_
  refine x_run tab hk (k := 2) (lv := []) (ks := [0, 2, 7]) (e' := [(0, .int .u8 p0), (2, .pointer (some ⟨bx4, 0, none⟩)), (7, .bool (decide (p0 < (128 : Int))))]) rfl trivial fun a hk => ?_
  refine wpListIn_nil ?_
  refine then_n ?_
  cases b6 : (decide (p0 < (128 : Int)))
  · rw [b6] at hk H
    replace H := bifF H
    refine x_if hk (b := false) rfl ?_
    refine (show Code.wpIn _ _ _ _ _ _ _ from ?_)
    refine wpIn_skip ?_
    refine then_n ?_
    refine x_seq ?_
    refine wpIn_region_lit ?_
    refine x_run tab hk (k := 1) (lv := []) (ks := [0, 2, 13]) (e' := [(0, .int .u8 p0), (2, .pointer (some ⟨bx4, 0, none⟩)), (13, .int .u8 p0)]) rfl trivial fun a hk => ?_
    refine x_op hk rfl ?_
    obtain ⟨t10, hc11, H⟩ := bindS H
    refine op_call hk ent_116 (vs := [.int .u8 p0]) rfl (glyph_find_calls K p0 _ o2 0 fg3   _ hc11) ?_
    rintro _ w12 ⟨o13, rfl, st14⟩
    replace f5 := f5.st st14 (by decide)
    replace fg3 := fg3.st st14 (by decide)
    replace hs := hs.loc0 st14 (by decide)
    have hk := hk.put 14 (.tuple #[.agg #[.int .u8 t10.1.first, .int .u8 t10.1.last, .int .i64 t10.1.need, .int .u8 t10.1.low, .int .u8 t10.1.high], .bool t10.2]) rfl
    refine x_run tab hk (k := 3) (lv := []) (ks := [0, 2, 15, 16]) (e' := [(0, .int .u8 p0), (2, .pointer (some ⟨bx4, 0, none⟩)), (15, .agg #[.int .u8 t10.1.first, .int .u8 t10.1.last, .int .i64 t10.1.need, .int .u8 t10.1.low, .int .u8 t10.1.high]), (16, .bool t10.2)]) rfl trivial fun a hk => ?_
    refine x_op hk rfl ?_
    refine op_alloc (o := o13) tab (t := 193) (cs := [.int .u8 0, .int .u8 0, .int .i64 0, .int .u8 0, .int .u8 0]) rfl rfl 2 fun bx18 w15 o16 st17 f19 => ?_
    replace f5 := f5.st st17 (by decide)
    replace fg3 := fg3.st st17 (by decide)
    replace hs := hs.loc0 st17 (by decide)
    have hk := hk.put 4 (.pointer (some ⟨bx18, 0, none⟩)) rfl
    refine x_op hk rfl ?_
    refine op_store tab hk (t := 193) (v := .agg #[.int .u8 t10.1.first, .int .u8 t10.1.last, .int .i64 t10.1.need, .int .u8 t10.1.low, .int .u8 t10.1.high]) (b := bx18) (k := 0) (cs' := [.int .u8 t10.1.first, .int .u8 t10.1.last, .int .i64 t10.1.need, .int .u8 t10.1.low, .int .u8 t10.1.high]) rfl rfl rfl rfl rfl rfl f19 rfl rfl fun w20 o21 st22 f19_ => ?_
    replace f5 := f5.st st22 (by decide)
    replace fg3 := fg3.st st22 (by decide)
    replace hs := hs.loc0 st22 (by decide)
    replace f19 := f19_
    refine x_run tab hk (k := 1) (lv := []) (ks := [0, 2, 4, 5]) (e' := [(0, .int .u8 p0), (2, .pointer (some ⟨bx4, 0, none⟩)), (4, .pointer (some ⟨bx18, 0, none⟩)), (5, .bool t10.2)]) rfl trivial fun a hk => ?_
    refine wpListIn_nil ?_
    refine then_n ?_
    refine x_seq ?_
    refine x_seq ?_
    refine wpIn_region_lit ?_
    refine x_run tab hk (k := 2) (lv := []) (ks := [0, 2, 4, 18]) (e' := [(0, .int .u8 p0), (2, .pointer (some ⟨bx4, 0, none⟩)), (4, .pointer (some ⟨bx18, 0, none⟩)), (18, .bool (!t10.2))]) rfl trivial fun a hk => ?_
    refine wpListIn_nil ?_
    refine then_n ?_
    cases b23 : (!t10.2)
    · rw [b23] at hk H
      replace H := bifF H
      refine x_if hk (b := false) rfl ?_
      refine (show Code.wpIn _ _ _ _ _ _ _ from ?_)
      refine wpIn_skip ?_
      refine then_n ?_
      refine x_seq ?_
      refine xd_begin (o := o21) (fun W_ => (Bx bx18 193 [.int .u8 t10.1.first, .int .u8 t10.1.last, .int .i64 t10.1.need, .int .u8 t10.1.low, .int .u8 t10.1.high]) W_ ∧ True) mixed rfl rfl fun w32 st33 => ?_
      replace f19 := f19.st st33 (by decide)
      replace f5 := f5.st st33 (by decide)
      replace fg3 := fg3.st st33 (by decide)
      replace hs := hs.loc0 st33 (by decide)
      obtain ⟨q34, H⟩ := ifS H
      refine xd_take tab hk (k := 2) (is := [0, 1, 2, 3, 4, 5, 6, 7, 8, 9]) (ls' := #[true, true, true, true, true, true, true, true, true, true, false, false]) (lv := [.int .i64 t10.1.need, .int .i64 t10.1.need]) (ks := [2, 30]) (e' := [(2, .pointer (some ⟨bx4, 0, none⟩)), (30, .agg #[.int .u8 p0, .int .i32 (bits .and .i32 (IntKind.wrap .i32 p0) (Int.fdiv 63 (2 ^ min (Int.toNat t10.1.need) 32))), .int .i64 t10.1.need])]) (by kernel_rfl) rfl rfl (by kernel_rfl) (np_then np_body) ⟨f19.now, trivial⟩ (fun W_ hS => ⟨(load1 tab rfl ((Bx.cell hS.1 2).trans rfl)), q34, (load1 tab rfl ((Bx.cell hS.1 2).trans rfl)), trivial⟩) fun a hk => ?_
      refine xd_op hk (i := 10) (by kernel_rfl) rfl rfl ?_
      refine op_store tab hk (t := 45) (v := .agg #[.int .u8 p0, .int .i32 (bits .and .i32 (IntKind.wrap .i32 p0) (Int.fdiv 63 (2 ^ min (Int.toNat t10.1.need) 32))), .int .i64 t10.1.need]) (b := bx4) (k := 0) (cs' := [.int .u8 p0, .int .i32 (bits .and .i32 (IntKind.wrap .i32 p0) (Int.fdiv 63 (2 ^ min (Int.toNat t10.1.need) 32))), .int .i64 t10.1.need]) rfl rfl rfl rfl rfl rfl f5 rfl rfl fun w35 o36 st37 f5_ => ?_
      replace f19 := f19.st st37 (by decide)
      replace fg3 := fg3.st st37 (by decide)
      replace hs := hs.loc0 st37 (by decide)
      replace f5 := f5_
      refine ⟨.inr ⟨f19.now, trivial⟩, ?_⟩
      refine xd_take tab hk (k := 0) (is := [11]) (ls' := #[true, true, true, true, true, true, true, true, true, true, true, true]) (lv := []) (ks := [2, 3]) (e' := [(2, .pointer (some ⟨bx4, 0, none⟩)), (3, .slice none 0 0)]) (by kernel_rfl) rfl rfl (by kernel_rfl) (np_then np_body) ⟨f19.now, trivial⟩ (fun W_ hS => trivial) fun a hk => ?_
      refine xd_done (by kernel_rfl) ?_
      refine then_n ?_
      refine wpIn_ret ?_
      obtain rfl := Option.some.inj H
      exact x_retG hk (rs := [.cell 2 45, .tmp 3]) (vs := [.agg #[.int .u8 p0, .int .i32 (bits .and .i32 (IntKind.wrap .i32 p0) (Int.fdiv 63 (2 ^ min (Int.toNat t10.1.need) 32))), .int .i64 t10.1.need], .slice none 0 0]) rfl ⟨⟨_, rfl, load_box tab rfl rfl f5.now (k := 0) rfl rfl⟩, rfl, trivial⟩ ⟨fun b_ => if b_ < w.heap.size then o b_ else (fun _ => 0) (o36 b_), none, 0, rfl, hs.close0 o (fun _ => 0), (Ft.of_all (fun _ => Own.nil _ _ _) _ _ _), (by simp)⟩
    · rw [b23] at hk H
      replace H := bifT H
      refine x_if hk (b := true) rfl ?_
      refine (show Code.wpIn _ _ _ _ _ _ _ from ?_)
      refine x_seq ?_
      refine wpIn_region_lit ?_
      refine x_run tab hk (k := 1) (lv := []) (ks := [2, 19]) (e' := [(2, .pointer (some ⟨bx4, 0, none⟩)), (19, .agg #[.int .u8 0, .int .i32 0, .int .i64 0])]) rfl trivial fun a hk => ?_
      refine x_op hk rfl ?_
      refine op_slice (o := o21) tab hk (vs := [.int .i32 65533]) (cs := [.int .i32 65533]) rfl rfl rfl rfl rfl rfl rfl rfl rfl 3 fun bx41 w38 o39 st40 f42 => ?_
      replace f5 := f5.st st40 (by decide)
      replace fg3 := fg3.st st40 (by decide)
      replace hs := hs.loc0 st40 (by decide)
      have f43 : Ft (Own (encInt .i32) 21 (.slice (some ⟨bx41, 0, none⟩) (([65533] : List Int)).length 1) ([65533] : List Int)) w38 o39 3 := f42.imp fun _ h_ => Own.of_box h_ rfl (by simp)
      have hk := hk.put 20 (.slice (some ⟨bx41, 0, none⟩) (([65533] : List Int)).length 1) rfl
      refine x_op hk rfl ?_
      refine op_store tab hk (t := 45) (v := .agg #[.int .u8 0, .int .i32 0, .int .i64 0]) (b := bx4) (k := 0) (cs' := [.int .u8 0, .int .i32 0, .int .i64 0]) rfl rfl rfl rfl rfl rfl f5 rfl rfl fun w44 o45 st46 f5_ => ?_
      replace f43 := f43.st st46 (by decide)
      replace fg3 := fg3.st st46 (by decide)
      replace hs := hs.loc0 st46 (by decide)
      replace f5 := f5_
      refine x_run tab hk (k := 1) (lv := []) (ks := [2, 3]) (e' := [(2, .pointer (some ⟨bx4, 0, none⟩)), (3, .slice (some ⟨bx41, 0, none⟩) (([65533] : List Int)).length 1)]) rfl trivial fun a hk => ?_
      refine wpListIn_nil ?_
      refine then_n ?_
      refine wpIn_ret ?_
      refine then_r ?_
      obtain rfl := Option.some.inj H
      exact x_retG hk (rs := [.cell 2 45, .tmp 3]) (vs := [.agg #[.int .u8 0, .int .i32 0, .int .i64 0], .slice (some ⟨bx41, 0, none⟩) (([65533] : List Int)).length 1]) rfl ⟨⟨_, rfl, load_box tab rfl rfl f5.now (k := 0) rfl rfl⟩, rfl, trivial⟩ ⟨fun b_ => if b_ < w.heap.size then o b_ else (fun _ => R0) (o45 b_), (some ⟨bx41, 0, none⟩), 1, rfl, hs.close0 o (fun _ => R0), hs.close_ft (o := o) (ρ := fun _ => R0) f43 (by decide) rfl, (Nat.le_refl _)⟩
  · rw [b6] at hk H
    replace H := bifT H
    refine x_if hk (b := true) rfl ?_
    refine (show Code.wpIn _ _ _ _ _ _ _ from ?_)
    refine x_seq ?_
    refine wpIn_region_lit ?_
    refine x_run tab hk (k := 3) (lv := []) (ks := [2, 8, 10]) (e' := [(2, .pointer (some ⟨bx4, 0, none⟩)), (8, .agg #[.int .u8 0, .int .i32 0, .int .i64 0]), (10, .int .i32 (IntKind.wrap .i32 p0))]) rfl trivial fun a hk => ?_
    refine x_op hk rfl ?_
    refine op_slice (o := o2) tab hk (vs := [.int .i32 (IntKind.wrap .i32 p0)]) (cs := [.int .i32 (IntKind.wrap .i32 p0)]) rfl rfl rfl rfl rfl rfl rfl rfl rfl 4 fun bx50 w47 o48 st49 f51 => ?_
    replace f5 := f5.st st49 (by decide)
    replace fg3 := fg3.st st49 (by decide)
    replace hs := hs.loc0 st49 (by decide)
    have f52 : Ft (Own (encInt .i32) 21 (.slice (some ⟨bx50, 0, none⟩) (([(IntKind.wrap .i32 p0)] : List Int)).length 1) ([(IntKind.wrap .i32 p0)] : List Int)) w47 o48 4 := f51.imp fun _ h_ => Own.of_box h_ rfl (by simp)
    have hk := hk.put 11 (.slice (some ⟨bx50, 0, none⟩) (([(IntKind.wrap .i32 p0)] : List Int)).length 1) rfl
    refine x_op hk rfl ?_
    refine op_store tab hk (t := 45) (v := .agg #[.int .u8 0, .int .i32 0, .int .i64 0]) (b := bx4) (k := 0) (cs' := [.int .u8 0, .int .i32 0, .int .i64 0]) rfl rfl rfl rfl rfl rfl f5 rfl rfl fun w53 o54 st55 f5_ => ?_
    replace f52 := f52.st st55 (by decide)
    replace fg3 := fg3.st st55 (by decide)
    replace hs := hs.loc0 st55 (by decide)
    replace f5 := f5_
    refine x_run tab hk (k := 1) (lv := []) (ks := [2, 3]) (e' := [(2, .pointer (some ⟨bx4, 0, none⟩)), (3, .slice (some ⟨bx50, 0, none⟩) (([(IntKind.wrap .i32 p0)] : List Int)).length 1)]) rfl trivial fun a hk => ?_
    refine wpListIn_nil ?_
    refine then_n ?_
    refine wpIn_ret ?_
    refine then_r ?_
    obtain rfl := Option.some.inj H
    exact x_retG hk (rs := [.cell 2 45, .tmp 3]) (vs := [.agg #[.int .u8 0, .int .i32 0, .int .i64 0], .slice (some ⟨bx50, 0, none⟩) (([(IntKind.wrap .i32 p0)] : List Int)).length 1]) rfl ⟨⟨_, rfl, load_box tab rfl rfl f5.now (k := 0) rfl rfl⟩, rfl, trivial⟩ ⟨fun b_ => if b_ < w.heap.size then o b_ else (fun _ => R0) (o54 b_), (some ⟨bx50, 0, none⟩), 1, rfl, hs.close0 o (fun _ => R0), hs.close_ft (o := o) (ρ := fun _ => R0) f52 (by decide) rfl, (Nat.le_refl _)⟩

/-! (tidewrack/glyph.Decoder).fits -/
theorem glyph_Decoder_fits_calls (K : Nat) (p0 : T44) (p1 : Int) (w : World) (o : Nat → Nat) (Lg3 : Nat) (hg3 : Ft (RdC ET192 (some ⟨3, 0, none⟩) glob3) w o Lg3)   (r : Bool) (H : glyph_Decoder_fits K p0 p1 = some r) :
    Calls Tryd.prog 103 #[.agg #[.int .u8 p0.Lead, .int .i32 p0.Rune, .int .i64 p0.Need], .int .u8 p1] w (Ret fun v_ w' => ∃ o' : Nat → Nat, v_ = .bool r ∧ St [] w o w' o') := by
  refine x_enter (vs := [.agg #[.int .u8 p0.Lead, .int .i32 p0.Rune, .int .i64 p0.Need], .int .u8 p1]) Tryd.func103 rfl rfl rfl fun a hk => ?_
  obtain ⟨o0, hs, h0⟩ := St.start w o
  have fg3 := h0 _ _ hg3
  clear h0
  rw [glyph_Decoder_fits] at H
  refine x_seq ?_
  refine wpIn_region_lit ?_
  refine x_op hk rfl ?_
  refine op_box (o := o0) (t := 45) (v := .agg #[.int .u8 p0.Lead, .int .i32 p0.Rune, .int .i64 p0.Need]) (cs := [.int .u8 p0.Lead, .int .i32 p0.Rune, .int .i64 p0.Need]) hk rfl rfl 1 fun bx4 w1 o2 st3 f5 => ?_
  replace fg3 := fg3.st st3 (by decide)
  replace hs := hs.loc0 st3 (by decide)
  have hk := hk.put 2 (.pointer (some ⟨bx4, 0, none⟩)) rfl
  refine x_run tab hk (k := 1) (lv := []) (ks := [1, 2]) (e' := [(1, .int .u8 p1), (2, .pointer (some ⟨bx4, 0, none⟩))]) rfl trivial fun a hk => ?_
  refine wpListIn_nil ?_
  refine then_n ?_
  refine x_seq ?_
  refine wpIn_region_lit ?_
  refine x_run tab hk (k := 2) (lv := [.int .u8 p0.Lead]) (ks := [1, 2, 9]) (e' := [(1, .int .u8 p1), (2, .pointer (some ⟨bx4, 0, none⟩)), (9, .int .u8 p0.Lead)]) rfl ⟨(load1 tab rfl ((Bx.cell f5.now 0).trans rfl)), trivial⟩ fun a hk => ?_
  refine x_op hk rfl ?_
  obtain ⟨t9, hc10, H⟩ := bindS H
  refine op_call hk ent_116 (vs := [.int .u8 p0.Lead]) rfl (glyph_find_calls K p0.Lead _ o2 0 fg3   _ hc10) ?_
  rintro _ w11 ⟨o12, rfl, st13⟩
  replace f5 := f5.st st13 (by decide)
  replace fg3 := fg3.st st13 (by decide)
  replace hs := hs.loc0 st13 (by decide)
  have hk := hk.put 10 (.tuple #[.agg #[.int .u8 t9.1.first, .int .u8 t9.1.last, .int .i64 t9.1.need, .int .u8 t9.1.low, .int .u8 t9.1.high], .bool t9.2]) rfl
  refine x_run tab hk (k := 3) (lv := []) (ks := [1, 2, 11, 12]) (e' := [(1, .int .u8 p1), (2, .pointer (some ⟨bx4, 0, none⟩)), (11, .agg #[.int .u8 t9.1.first, .int .u8 t9.1.last, .int .i64 t9.1.need, .int .u8 t9.1.low, .int .u8 t9.1.high]), (12, .bool t9.2)]) rfl trivial fun a hk => ?_
  refine x_op hk rfl ?_
  refine op_alloc (o := o12) tab (t := 193) (cs := [.int .u8 0, .int .u8 0, .int .i64 0, .int .u8 0, .int .u8 0]) rfl rfl 2 fun bx17 w14 o15 st16 f18 => ?_
  replace f5 := f5.st st16 (by decide)
  replace fg3 := fg3.st st16 (by decide)
  replace hs := hs.loc0 st16 (by decide)
  have hk := hk.put 5 (.pointer (some ⟨bx17, 0, none⟩)) rfl
  refine x_op hk rfl ?_
  refine op_store tab hk (t := 193) (v := .agg #[.int .u8 t9.1.first, .int .u8 t9.1.last, .int .i64 t9.1.need, .int .u8 t9.1.low, .int .u8 t9.1.high]) (b := bx17) (k := 0) (cs' := [.int .u8 t9.1.first, .int .u8 t9.1.last, .int .i64 t9.1.need, .int .u8 t9.1.low, .int .u8 t9.1.high]) rfl rfl rfl rfl rfl rfl f18 rfl rfl fun w19 o20 st21 f18_ => ?_
  replace f5 := f5.st st21 (by decide)
  replace fg3 := fg3.st st21 (by decide)
  replace hs := hs.loc0 st21 (by decide)
  replace f18 := f18_
  refine x_run tab hk (k := 1) (lv := []) (ks := [1, 2, 5]) (e' := [(1, .int .u8 p1), (2, .pointer (some ⟨bx4, 0, none⟩)), (5, .pointer (some ⟨bx17, 0, none⟩))]) rfl trivial fun a hk => ?_
  refine wpListIn_nil ?_
  refine then_n ?_
  refine x_seq ?_
  refine x_seq ?_
  refine wpIn_region_lit ?_
  refine x_run tab hk (k := 5) (lv := [.int .i64 p0.Need, .int .i64 t9.1.need]) (ks := [1, 5, 17]) (e' := [(1, .int .u8 p1), (5, .pointer (some ⟨bx17, 0, none⟩)), (17, .bool (decide (p0.Need < t9.1.need)))]) rfl ⟨(load1 tab rfl ((Bx.cell f5.now 2).trans rfl)), (load1 tab rfl ((Bx.cell f18.now 2).trans rfl)), trivial⟩ fun a hk => ?_
  refine wpListIn_nil ?_
  refine then_n ?_
  cases b22 : (decide (p0.Need < t9.1.need))
  · rw [b22] at hk H
    replace H := bifF H
    refine x_if hk (b := false) rfl ?_
    refine (show Code.wpIn _ _ _ _ _ _ _ from ?_)
    refine wpIn_skip ?_
    refine then_n ?_
    refine x_seq ?_
    refine wpIn_region_lit ?_
    refine x_run tab hk (k := 5) (lv := [.int .u8 t9.1.low]) (ks := [1, 5, 28]) (e' := [(1, .int .u8 p1), (5, .pointer (some ⟨bx17, 0, none⟩)), (28, .bool (decide (p1 ≥ t9.1.low)))]) rfl ⟨(load1 tab rfl ((Bx.cell f18.now 3).trans rfl)), trivial⟩ fun a hk => ?_
    cases b23 : (decide (p1 ≥ t9.1.low))
    · rw [b23] at hk H
      replace H := bifF H
      refine x_run tab hk (k := 6) (lv := []) (ks := [4]) (e' := [(4, .bool false)]) rfl trivial fun a hk => ?_
      refine wpListIn_nil ?_
      refine then_n ?_
      refine wpIn_ret ?_
      obtain rfl := Option.some.inj H
      exact x_retG hk (rs := [.tmp 4]) (vs := [.bool false]) rfl ⟨rfl, trivial⟩ ⟨fun b_ => if b_ < w.heap.size then o b_ else (fun _ => 0) (o20 b_), rfl, hs.close0 o (fun _ => 0)⟩
    · rw [b23] at hk H
      replace H := bifT H
      refine x_run tab hk (k := 6) (lv := [.int .u8 t9.1.high]) (ks := [4]) (e' := [(4, .bool (decide (p1 ≤ t9.1.high)))]) rfl ⟨(load1 tab rfl ((Bx.cell f18.now 4).trans rfl)), trivial⟩ fun a hk => ?_
      refine wpListIn_nil ?_
      refine then_n ?_
      refine wpIn_ret ?_
      obtain rfl := Option.some.inj H
      exact x_retG hk (rs := [.tmp 4]) (vs := [.bool (decide (p1 ≤ t9.1.high))]) rfl ⟨rfl, trivial⟩ ⟨fun b_ => if b_ < w.heap.size then o b_ else (fun _ => 0) (o20 b_), rfl, hs.close0 o (fun _ => 0)⟩
  · rw [b22] at hk H
    replace H := bifT H
    refine x_if hk (b := true) rfl ?_
    refine (show Code.wpIn _ _ _ _ _ _ _ from ?_)
    refine x_seq ?_
    refine wpIn_region_lit ?_
    refine x_run tab hk (k := 3) (lv := []) (ks := [1, 20]) (e' := [(1, .int .u8 p1), (20, .bool (decide (p1 ≥ (128 : Int))))]) rfl trivial fun a hk => ?_
    cases b24 : (decide (p1 ≥ (128 : Int)))
    · rw [b24] at hk H
      replace H := bifF H
      refine x_run tab hk (k := 4) (lv := []) (ks := [4]) (e' := [(4, .bool false)]) rfl trivial fun a hk => ?_
      refine wpListIn_nil ?_
      refine then_n ?_
      refine wpIn_ret ?_
      refine then_r ?_
      obtain rfl := Option.some.inj H
      exact x_retG hk (rs := [.tmp 4]) (vs := [.bool false]) rfl ⟨rfl, trivial⟩ ⟨fun b_ => if b_ < w.heap.size then o b_ else (fun _ => 0) (o20 b_), rfl, hs.close0 o (fun _ => 0)⟩
    · rw [b24] at hk H
      replace H := bifT H
      refine x_run tab hk (k := 4) (lv := []) (ks := [4]) (e' := [(4, .bool (decide (p1 ≤ (191 : Int))))]) rfl trivial fun a hk => ?_
      refine wpListIn_nil ?_
      refine then_n ?_
      refine wpIn_ret ?_
      refine then_r ?_
      obtain rfl := Option.some.inj H
      exact x_retG hk (rs := [.tmp 4]) (vs := [.bool (decide (p1 ≤ (191 : Int)))]) rfl ⟨rfl, trivial⟩ ⟨fun b_ => if b_ < w.heap.size then o b_ else (fun _ => 0) (o20 b_), rfl, hs.close0 o (fun _ => 0)⟩

/-! (tidewrack/glyph.Decoder).Next -/
theorem glyph_Decoder_Next_calls (K : Nat) (p0 : T44) (p1 : Int) (w : World) (o : Nat → Nat) (Lg3 : Nat) (hg3 : Ft (RdC ET192 (some ⟨3, 0, none⟩) glob3) w o Lg3)   (R0 : Nat) (r : T44 × (List Int)) (H : glyph_Decoder_Next K p0 p1 = some r) :
    Calls Tryd.prog 72 #[.agg #[.int .u8 p0.Lead, .int .i32 p0.Rune, .int .i64 p0.Need], .int .u8 p1] w (Ret fun v_ w' => ∃ o' : Nat → Nat, ∃ A0 : Option Addr, ∃ c0 : Nat, v_ = .tuple #[.agg #[.int .u8 r.1.Lead, .int .i32 r.1.Rune, .int .i64 r.1.Need], .slice A0 (r.2).length c0] ∧ St [] w o w' o' ∧ Ft (Own (encInt .i32) 21 (.slice A0 (r.2).length c0) r.2) w' o' R0 ∧ (r.2).length ≤ c0) := by
  refine x_enter (vs := [.agg #[.int .u8 p0.Lead, .int .i32 p0.Rune, .int .i64 p0.Need], .int .u8 p1]) Tryd.func72 rfl rfl rfl fun a hk => ?_
  obtain ⟨o0, hs, h0⟩ := St.start w o
  have fg3 := h0 _ _ hg3
  clear h0
  rw [glyph_Decoder_Next] at H
  refine x_seq ?_
  refine wpIn_region_lit ?_
  refine x_op hk rfl ?_
  refine op_box (o := o0) (t := 45) (v := .agg #[.int .u8 p0.Lead, .int .i32 p0.Rune, .int .i64 p0.Need]) (cs := [.int .u8 p0.Lead, .int .i32 p0.Rune, .int .i64 p0.Need]) hk rfl rfl 1 fun bx4 w1 o2 st3 f5 => ?_
  replace fg3 := fg3.st st3 (by decide)
  replace hs := hs.loc0 st3 (by decide)
  have hk := hk.put 2 (.pointer (some ⟨bx4, 0, none⟩)) rfl
  refine x_op hk rfl ?_
  refine op_alloc (o := o2) tab (t := 45) (cs := [.int .u8 0, .int .i32 0, .int .i64 0]) rfl rfl 2 fun bx9 w6 o7 st8 f10 => ?_
  replace f5 := f5.st st8 (by decide)
  replace fg3 := fg3.st st8 (by decide)
  replace hs := hs.loc0 st8 (by decide)
  have hk := hk.put 4 (.pointer (some ⟨bx9, 0, none⟩)) rfl
  refine x_run tab hk (k := 1) (lv := []) (ks := [1, 2, 4]) (e' := [(1, .int .u8 p1), (2, .pointer (some ⟨bx4, 0, none⟩)), (4, .pointer (some ⟨bx9, 0, none⟩))]) rfl trivial fun a hk => ?_
  refine wpListIn_nil ?_
  refine then_n ?_
  refine x_seq ?_
  refine x_seq ?_
  refine wpIn_region_lit ?_
  refine x_run tab hk (k := 3) (lv := [.int .i64 p0.Need]) (ks := [1, 2, 4, 10]) (e' := [(1, .int .u8 p1), (2, .pointer (some ⟨bx4, 0, none⟩)), (4, .pointer (some ⟨bx9, 0, none⟩)), (10, .bool (decide (p0.Need ≤ (0 : Int))))]) rfl ⟨(load1 tab rfl ((Bx.cell f5.now 2).trans rfl)), trivial⟩ fun a hk => ?_
  refine wpListIn_nil ?_
  refine then_n ?_
  cases b11 : (decide (p0.Need ≤ (0 : Int)))
  · rw [b11] at hk H
    replace H := bifF H
    refine x_if hk (b := false) rfl ?_
    refine (show Code.wpIn _ _ _ _ _ _ _ from ?_)
    refine wpIn_skip ?_
    refine then_n ?_
    refine x_seq ?_
    refine x_seq ?_
    refine wpIn_region_lit ?_
    refine x_run tab hk (k := 2) (lv := [.agg #[.int .u8 p0.Lead, .int .i32 p0.Rune, .int .i64 p0.Need]]) (ks := [1, 2, 4, 15, 16]) (e' := [(1, .int .u8 p1), (2, .pointer (some ⟨bx4, 0, none⟩)), (4, .pointer (some ⟨bx9, 0, none⟩)), (15, .agg #[.int .u8 p0.Lead, .int .i32 p0.Rune, .int .i64 p0.Need]), (16, .int .u8 p1)]) rfl ⟨(load_box tab rfl rfl f5.now (k := 0) rfl rfl), trivial⟩ fun a hk => ?_
    refine x_op hk rfl ?_
    obtain ⟨t15, hc16, H⟩ := bindS H
    refine op_call hk ent_103 (vs := [.agg #[.int .u8 p0.Lead, .int .i32 p0.Rune, .int .i64 p0.Need], .int .u8 p1]) rfl (glyph_Decoder_fits_calls K p0 p1 _ o7 0 fg3   _ hc16) ?_
    rintro _ w17 ⟨o18, rfl, st19⟩
    replace f10 := f10.st st19 (by decide)
    replace f5 := f5.st st19 (by decide)
    replace fg3 := fg3.st st19 (by decide)
    replace hs := hs.loc0 st19 (by decide)
    have hk := hk.put 17 (.bool t15) rfl
    refine x_run tab hk (k := 1) (lv := []) (ks := [1, 2, 4, 18]) (e' := [(1, .int .u8 p1), (2, .pointer (some ⟨bx4, 0, none⟩)), (4, .pointer (some ⟨bx9, 0, none⟩)), (18, .bool (!t15))]) rfl trivial fun a hk => ?_
    refine wpListIn_nil ?_
    refine then_n ?_
    cases b20 : (!t15)
    · rw [b20] at hk H
      replace H := bifF H
      refine x_if hk (b := false) rfl ?_
      refine (show Code.wpIn _ _ _ _ _ _ _ from ?_)
      refine wpIn_skip ?_
      refine then_n ?_
      refine x_seq ?_
      refine wpIn_region_lit ?_
      refine x_run tab hk (k := 10) (lv := [.int .i32 p0.Rune, .int .i64 p0.Need]) (ks := [2, 4, 34, 37]) (e' := [(2, .pointer (some ⟨bx4, 0, none⟩)), (4, .pointer (some ⟨bx9, 0, none⟩)), (34, .int .i32 (bits .or .i32 (IntKind.wrap .i32 (p0.Rune * 2 ^ min (Int.toNat 6) 32)) (bits .and .i32 (IntKind.wrap .i32 p1) 63))), (37, .int .i64 (IntKind.wrap .i64 (p0.Need - 1)))]) rfl ⟨(load1 tab rfl ((Bx.cell f5.now 1).trans rfl)), (show 0 ≤ (6 : Int) from by decide), (load1 tab rfl ((Bx.cell f5.now 2).trans rfl)), trivial⟩ fun a hk => ?_
      refine x_run tab hk (k := 1) (lv := []) (ks := [2, 4, 34, 37, 38]) (e' := [(2, .pointer (some ⟨bx4, 0, none⟩)), (4, .pointer (some ⟨bx9, 0, none⟩)), (34, .int .i32 (bits .or .i32 (IntKind.wrap .i32 (p0.Rune * 2 ^ min (Int.toNat 6) 32)) (bits .and .i32 (IntKind.wrap .i32 p1) 63))), (37, .int .i64 (IntKind.wrap .i64 (p0.Need - 1))), (38, .pointer (some ((⟨bx4, 0, none⟩ : Addr).add 1)))]) rfl trivial fun a hk => ?_
      refine x_op hk rfl ?_
      refine op_store tab hk (t := 21) (v := .int .i32 (bits .or .i32 (IntKind.wrap .i32 (p0.Rune * 2 ^ min (Int.toNat 6) 32)) (bits .and .i32 (IntKind.wrap .i32 p1) 63))) (b := bx4) (k := 1) (cs' := [.int .u8 p0.Lead, .int .i32 (bits .or .i32 (IntKind.wrap .i32 (p0.Rune * 2 ^ min (Int.toNat 6) 32)) (bits .and .i32 (IntKind.wrap .i32 p1) 63)), .int .i64 p0.Need]) rfl rfl rfl rfl rfl rfl f5 rfl rfl fun w21 o22 st23 f5_ => ?_
      replace f10 := f10.st st23 (by decide)
      replace fg3 := fg3.st st23 (by decide)
      replace hs := hs.loc0 st23 (by decide)
      replace f5 := f5_
      refine x_run tab hk (k := 1) (lv := []) (ks := [2, 4, 37, 39]) (e' := [(2, .pointer (some ⟨bx4, 0, none⟩)), (4, .pointer (some ⟨bx9, 0, none⟩)), (37, .int .i64 (IntKind.wrap .i64 (p0.Need - 1))), (39, .pointer (some ((⟨bx4, 0, none⟩ : Addr).add 2)))]) rfl trivial fun a hk => ?_
      refine x_op hk rfl ?_
      refine op_store tab hk (t := 3) (v := .int .i64 (IntKind.wrap .i64 (p0.Need - 1))) (b := bx4) (k := 2) (cs' := [.int .u8 p0.Lead, .int .i32 (bits .or .i32 (IntKind.wrap .i32 (p0.Rune * 2 ^ min (Int.toNat 6) 32)) (bits .and .i32 (IntKind.wrap .i32 p1) 63)), .int .i64 (IntKind.wrap .i64 (p0.Need - 1))]) rfl rfl rfl rfl rfl rfl f5 rfl rfl fun w24 o25 st26 f5_ => ?_
      replace f10 := f10.st st26 (by decide)
      replace fg3 := fg3.st st26 (by decide)
      replace hs := hs.loc0 st26 (by decide)
      replace f5 := f5_
      refine wpListIn_nil ?_
      refine then_n ?_
      refine x_seq ?_
      refine x_seq ?_
      refine wpIn_region_lit ?_
      refine x_run tab hk (k := 3) (lv := [.int .i64 (IntKind.wrap .i64 (p0.Need - 1))]) (ks := [2, 4, 42]) (e' := [(2, .pointer (some ⟨bx4, 0, none⟩)), (4, .pointer (some ⟨bx9, 0, none⟩)), (42, .bool ((IntKind.wrap .i64 (p0.Need - 1)) == (0 : Int)))]) rfl ⟨(load1 tab rfl ((Bx.cell f5.now 2).trans rfl)), trivial⟩ fun a hk => ?_
      refine wpListIn_nil ?_
      refine then_n ?_
      cases b27 : ((IntKind.wrap .i64 (p0.Need - 1)) == (0 : Int))
      · rw [b27] at hk H
        replace H := bifF H
        refine x_if hk (b := false) rfl ?_
        refine (show Code.wpIn _ _ _ _ _ _ _ from ?_)
        refine wpIn_skip ?_
        refine then_n ?_
        refine x_seq ?_
        refine wpIn_region_lit ?_
        refine x_run tab hk (k := 1) (lv := [.agg #[.int .u8 p0.Lead, .int .i32 (bits .or .i32 (IntKind.wrap .i32 (p0.Rune * 2 ^ min (Int.toNat 6) 32)) (bits .and .i32 (IntKind.wrap .i32 p1) 63)), .int .i64 (IntKind.wrap .i64 (p0.Need - 1))]]) (ks := [4, 47]) (e' := [(4, .pointer (some ⟨bx9, 0, none⟩)), (47, .agg #[.int .u8 p0.Lead, .int .i32 (bits .or .i32 (IntKind.wrap .i32 (p0.Rune * 2 ^ min (Int.toNat 6) 32)) (bits .and .i32 (IntKind.wrap .i32 p1) 63)), .int .i64 (IntKind.wrap .i64 (p0.Need - 1))])]) rfl ⟨(load_box tab rfl rfl f5.now (k := 0) rfl rfl), trivial⟩ fun a hk => ?_
        refine x_op hk rfl ?_
        refine op_store tab hk (t := 45) (v := .agg #[.int .u8 p0.Lead, .int .i32 (bits .or .i32 (IntKind.wrap .i32 (p0.Rune * 2 ^ min (Int.toNat 6) 32)) (bits .and .i32 (IntKind.wrap .i32 p1) 63)), .int .i64 (IntKind.wrap .i64 (p0.Need - 1))]) (b := bx9) (k := 0) (cs' := [.int .u8 p0.Lead, .int .i32 (bits .or .i32 (IntKind.wrap .i32 (p0.Rune * 2 ^ min (Int.toNat 6) 32)) (bits .and .i32 (IntKind.wrap .i32 p1) 63)), .int .i64 (IntKind.wrap .i64 (p0.Need - 1))]) rfl rfl rfl rfl rfl rfl f10 rfl rfl fun w28 o29 st30 f10_ => ?_
        replace fg3 := fg3.st st30 (by decide)
        replace hs := hs.loc0 st30 (by decide)
        replace f10 := f10_
        refine x_run tab hk (k := 1) (lv := []) (ks := [4, 5]) (e' := [(4, .pointer (some ⟨bx9, 0, none⟩)), (5, .slice none 0 0)]) rfl trivial fun a hk => ?_
        refine wpListIn_nil ?_
        refine then_n ?_
        refine wpIn_ret ?_
        obtain rfl := Option.some.inj H
        exact x_retG hk (rs := [.cell 4 45, .tmp 5]) (vs := [.agg #[.int .u8 p0.Lead, .int .i32 (bits .or .i32 (IntKind.wrap .i32 (p0.Rune * 2 ^ min (Int.toNat 6) 32)) (bits .and .i32 (IntKind.wrap .i32 p1) 63)), .int .i64 (IntKind.wrap .i64 (p0.Need - 1))], .slice none 0 0]) rfl ⟨⟨_, rfl, load_box tab rfl rfl f10.now (k := 0) rfl rfl⟩, rfl, trivial⟩ ⟨fun b_ => if b_ < w.heap.size then o b_ else (fun _ => 0) (o29 b_), none, 0, rfl, hs.close0 o (fun _ => 0), (Ft.of_all (fun _ => Own.nil _ _ _) _ _ _), (by simp)⟩
      · rw [b27] at hk H
        replace H := bifT H
        refine x_if hk (b := true) rfl ?_
        refine (show Code.wpIn _ _ _ _ _ _ _ from ?_)
        refine x_seq ?_
        refine x_cut (fun a_ w_ => ∃ o127 : Nat → Nat, ∃ A128 : Option Addr, ∃ c129 : Nat, Kn 48 a_ [(4, .pointer (some ⟨bx9, 0, none⟩)), (5, .slice A128 (([(bits .or .i32 (IntKind.wrap .i32 (p0.Rune * 2 ^ min (Int.toNat 6) 32)) (bits .and .i32 (IntKind.wrap .i32 p1) 63))] : List Int)).length c129)] ∧ St [] w (fun _ => 0) w_ o127 ∧ Ft (Bx bx9 45 [.int .u8 0, .int .i32 0, .int .i64 0]) w_ o127 15 ∧ Ft (Own (encInt .i32) 21 (.slice A128 (([(bits .or .i32 (IntKind.wrap .i32 (p0.Rune * 2 ^ min (Int.toNat 6) 32)) (bits .and .i32 (IntKind.wrap .i32 p1) 63))] : List Int)).length c129) ([(bits .or .i32 (IntKind.wrap .i32 (p0.Rune * 2 ^ min (Int.toNat 6) 32)) (bits .and .i32 (IntKind.wrap .i32 p1) 63))] : List Int)) w_ o127 16 ∧ Ft (RdC ET192 (some ⟨3, 0, none⟩) glob3) w_ o127 0 ∧ (([(bits .or .i32 (IntKind.wrap .i32 (p0.Rune * 2 ^ min (Int.toNat 6) 32)) (bits .and .i32 (IntKind.wrap .i32 p1) 63))] : List Int)).length ≤ c129 ∧ glyph_Decoder_Next_j1 p0 p1 = some r) ?_ ?_
        rotate_left
        · rintro a w132 ⟨o127, A128, c129, hk, hs, f10, f130, fg3, hc131, H⟩
          rw [glyph_Decoder_Next_j1] at H
          refine then_n ?_
          refine wpIn_ret ?_
          refine then_r ?_
          obtain rfl := Option.some.inj H
          exact x_retG hk (rs := [.cell 4 45, .tmp 5]) (vs := [.agg #[.int .u8 0, .int .i32 0, .int .i64 0], .slice A128 (([(bits .or .i32 (IntKind.wrap .i32 (p0.Rune * 2 ^ min (Int.toNat 6) 32)) (bits .and .i32 (IntKind.wrap .i32 p1) 63))] : List Int)).length c129]) rfl ⟨⟨_, rfl, load_box tab rfl rfl f10.now (k := 0) rfl rfl⟩, rfl, trivial⟩ ⟨fun b_ => if b_ < w.heap.size then o b_ else (fun _ => R0) (o127 b_), A128, c129, rfl, hs.close0 o (fun _ => R0), hs.close_ft (o := o) (ρ := fun _ => R0) f130 (by decide) rfl, hc131⟩
        refine xd_begin (o := o25) (fun W_ => (Bx bx4 45 [.int .u8 p0.Lead, .int .i32 (bits .or .i32 (IntKind.wrap .i32 (p0.Rune * 2 ^ min (Int.toNat 6) 32)) (bits .and .i32 (IntKind.wrap .i32 p1) 63)), .int .i64 (IntKind.wrap .i64 (p0.Need - 1))]) W_ ∧ True) mixed rfl rfl fun w169 st170 => ?_
        replace f10 := f10.st st170 (by decide)
        replace f5 := f5.st st170 (by decide)
        replace fg3 := fg3.st st170 (by decide)
        replace hs := hs.loc0 st170 (by decide)
        refine xd_abs fun G hG => ?_
        have N192 : ∀ (a_ : Act) (w_ : World), (∃ o186 : Nat → Nat, ∃ A187 : Option Addr, ∃ c188 : Nat, Kn 48 a_ [(4, .pointer (some ⟨bx9, 0, none⟩)), (43, .agg #[.int .u8 0, .int .i32 0, .int .i64 0]), (46, .slice A187 (([(bits .or .i32 (IntKind.wrap .i32 (p0.Rune * 2 ^ min (Int.toNat 6) 32)) (bits .and .i32 (IntKind.wrap .i32 p1) 63))] : List Int)).length c188)] ∧ St [] w (fun _ => 0) w_ o186 ∧ Ft (Bx bx9 45 [.int .u8 0, .int .i32 0, .int .i64 0]) w_ o186 23 ∧ Ft (Own (encInt .i32) 21 (.slice A187 (([(bits .or .i32 (IntKind.wrap .i32 (p0.Rune * 2 ^ min (Int.toNat 6) 32)) (bits .and .i32 (IntKind.wrap .i32 p1) 63))] : List Int)).length c188) ([(bits .or .i32 (IntKind.wrap .i32 (p0.Rune * 2 ^ min (Int.toNat 6) 32)) (bits .and .i32 (IntKind.wrap .i32 p1) 63))] : List Int)) w_ o186 24 ∧ Ft (Bx bx4 45 [.int .u8 p0.Lead, .int .i32 (bits .or .i32 (IntKind.wrap .i32 (p0.Rune * 2 ^ min (Int.toNat 6) 32)) (bits .and .i32 (IntKind.wrap .i32 p1) 63)), .int .i64 (IntKind.wrap .i64 (p0.Need - 1))]) w_ o186 22 ∧ Ft (RdC ET192 (some ⟨3, 0, none⟩) glob3) w_ o186 0 ∧ (([(bits .or .i32 (IntKind.wrap .i32 (p0.Rune * 2 ^ min (Int.toNat 6) 32)) (bits .and .i32 (IntKind.wrap .i32 p1) 63))] : List Int)).length ≤ c188) → G 2 #[true, true, true, true, false, false] a_ w_ := by
          rintro a w191 ⟨o186, A187, c188, hk, hs, f10, f189, f5, fg3, hc190⟩
          refine xd_of hG ?_
          refine xd_op hk (i := 4) (by kernel_rfl) rfl rfl ?_
          refine op_store tab hk (t := 45) (v := .agg #[.int .u8 0, .int .i32 0, .int .i64 0]) (b := bx9) (k := 0) (cs' := [.int .u8 0, .int .i32 0, .int .i64 0]) rfl rfl rfl rfl rfl rfl f10 rfl rfl fun w193 o194 st195 f10_ => ?_
          replace f189 := f189.st st195 (by decide)
          replace f5 := f5.st st195 (by decide)
          replace fg3 := fg3.st st195 (by decide)
          replace hs := hs.loc0 st195 (by decide)
          replace f10 := f10_
          refine ⟨.inr ⟨f5.now, trivial⟩, ?_⟩
          refine xd_take tab hk (k := 0) (is := [5]) (ls' := #[true, true, true, true, true, true]) (lv := []) (ks := [4, 5]) (e' := [(4, .pointer (some ⟨bx9, 0, none⟩)), (5, .slice A187 (([(bits .or .i32 (IntKind.wrap .i32 (p0.Rune * 2 ^ min (Int.toNat 6) 32)) (bits .and .i32 (IntKind.wrap .i32 p1) 63))] : List Int)).length c188)]) (by kernel_rfl) rfl rfl (by kernel_rfl) (np_then (np_then (np_then np_body))) ⟨f5.now, trivial⟩ (fun W_ hS => trivial) fun a hk => ?_
          refine xd_done (by kernel_rfl) ?_
          refine then_n ?_
          exact ⟨(fun b_ => (fun l_ => if l_ = 23 then 15 else if l_ = 24 then 16 else l_) (o194 b_)), A187, c188, (by exact Kn.pick (ks := [4, 5]) hk rfl), (hs.relab0 (fun l_ => if l_ = 23 then 15 else if l_ = 24 then 16 else l_) rfl), (f10.relab (fun l_ => if l_ = 23 then 15 else if l_ = 24 then 16 else l_) rfl), (f189.relab (fun l_ => if l_ = 23 then 15 else if l_ = 24 then 16 else l_) rfl), (fg3.relab (fun l_ => if l_ = 23 then 15 else if l_ = 24 then 16 else l_) rfl), hc190, H⟩
        have N204 : ∀ (a_ : Act) (w_ : World), (∃ o202 : Nat → Nat, Kn 48 a_ [(4, .pointer (some ⟨bx9, 0, none⟩)), (45, .int .i32 (bits .or .i32 (IntKind.wrap .i32 (p0.Rune * 2 ^ min (Int.toNat 6) 32)) (bits .and .i32 (IntKind.wrap .i32 p1) 63)))] ∧ St [] w (fun _ => 0) w_ o202 ∧ Ft (Bx bx9 45 [.int .u8 0, .int .i32 0, .int .i64 0]) w_ o202 26 ∧ Ft (Bx bx4 45 [.int .u8 p0.Lead, .int .i32 (bits .or .i32 (IntKind.wrap .i32 (p0.Rune * 2 ^ min (Int.toNat 6) 32)) (bits .and .i32 (IntKind.wrap .i32 p1) 63)), .int .i64 (IntKind.wrap .i64 (p0.Need - 1))]) w_ o202 25 ∧ Ft (RdC ET192 (some ⟨3, 0, none⟩) glob3) w_ o202 0) → G 2 #[true, true, true, false, true, false] a_ w_ := by
          rintro a w203 ⟨o202, hk, hs, f10, f5, fg3⟩
          refine xd_of hG ?_
          refine xd_op hk (i := 3) (by kernel_rfl) rfl rfl ?_
          refine op_slice (o := o202) tab hk (vs := [.int .i32 (bits .or .i32 (IntKind.wrap .i32 (p0.Rune * 2 ^ min (Int.toNat 6) 32)) (bits .and .i32 (IntKind.wrap .i32 p1) 63))]) (cs := [.int .i32 (bits .or .i32 (IntKind.wrap .i32 (p0.Rune * 2 ^ min (Int.toNat 6) 32)) (bits .and .i32 (IntKind.wrap .i32 p1) 63))]) rfl rfl rfl rfl rfl rfl rfl rfl rfl 27 fun bx208 w205 o206 st207 f209 => ?_
          replace f10 := f10.st st207 (by decide)
          replace f5 := f5.st st207 (by decide)
          replace fg3 := fg3.st st207 (by decide)
          replace hs := hs.loc0 st207 (by decide)
          have f210 : Ft (Own (encInt .i32) 21 (.slice (some ⟨bx208, 0, none⟩) (([(bits .or .i32 (IntKind.wrap .i32 (p0.Rune * 2 ^ min (Int.toNat 6) 32)) (bits .and .i32 (IntKind.wrap .i32 p1) 63))] : List Int)).length 1) ([(bits .or .i32 (IntKind.wrap .i32 (p0.Rune * 2 ^ min (Int.toNat 6) 32)) (bits .and .i32 (IntKind.wrap .i32 p1) 63))] : List Int)) w205 o206 27 := f209.imp fun _ h_ => Own.of_box h_ rfl (by simp)
          have hk := hk.put 46 (.slice (some ⟨bx208, 0, none⟩) (([(bits .or .i32 (IntKind.wrap .i32 (p0.Rune * 2 ^ min (Int.toNat 6) 32)) (bits .and .i32 (IntKind.wrap .i32 p1) 63))] : List Int)).length 1) rfl
          refine ⟨.inr ⟨f5.now, trivial⟩, ?_⟩
          refine xd_take tab hk (k := 0) (is := [5]) (ls' := #[true, true, true, true, true, true]) (lv := []) (ks := [4, 5]) (e' := [(4, .pointer (some ⟨bx9, 0, none⟩)), (5, .slice (some ⟨bx208, 0, none⟩) (([(bits .or .i32 (IntKind.wrap .i32 (p0.Rune * 2 ^ min (Int.toNat 6) 32)) (bits .and .i32 (IntKind.wrap .i32 p1) 63))] : List Int)).length 1)]) (by kernel_rfl) rfl rfl (by kernel_rfl) (np_then (np_then (np_then np_body))) ⟨f5.now, trivial⟩ (fun W_ hS => trivial) fun a hk => ?_
          refine xd_done (by kernel_rfl) ?_
          refine then_n ?_
          exact ⟨(fun b_ => (fun l_ => if l_ = 26 then 15 else if l_ = 27 then 16 else l_) (o206 b_)), (some ⟨bx208, 0, none⟩), 1, (by exact Kn.pick (ks := [4, 5]) hk rfl), (hs.relab0 (fun l_ => if l_ = 26 then 15 else if l_ = 27 then 16 else l_) rfl), (f10.relab (fun l_ => if l_ = 26 then 15 else if l_ = 27 then 16 else l_) rfl), (f210.relab (fun l_ => if l_ = 26 then 15 else if l_ = 27 then 16 else l_) rfl), (fg3.relab (fun l_ => if l_ = 26 then 15 else if l_ = 27 then 16 else l_) rfl), (Nat.le_refl _), H⟩
        refine xd_of hG ?_
        refine xd_take tab hk (k := 3) (is := [0, 1, 2]) (ls' := #[true, true, true, false, false, false]) (lv := [.int .i32 (bits .or .i32 (IntKind.wrap .i32 (p0.Rune * 2 ^ min (Int.toNat 6) 32)) (bits .and .i32 (IntKind.wrap .i32 p1) 63))]) (ks := [4, 43, 45]) (e' := [(4, .pointer (some ⟨bx9, 0, none⟩)), (43, .agg #[.int .u8 0, .int .i32 0, .int .i64 0]), (45, .int .i32 (bits .or .i32 (IntKind.wrap .i32 (p0.Rune * 2 ^ min (Int.toNat 6) 32)) (bits .and .i32 (IntKind.wrap .i32 p1) 63)))]) (by kernel_rfl) rfl rfl (by kernel_rfl) (np_then (np_then (np_then np_body))) ⟨f5.now, trivial⟩ (fun W_ hS => ⟨(load1 tab rfl ((Bx.cell hS.1 1).trans rfl)), trivial⟩) fun a hk => ?_
        refine xd_each [3, 4] (by kernel_rfl) rfl ⟨?_, ?_, trivial⟩
        · refine xd_one hk rfl rfl ?_
          refine op_slice (o := o25) tab hk (vs := [.int .i32 (bits .or .i32 (IntKind.wrap .i32 (p0.Rune * 2 ^ min (Int.toNat 6) 32)) (bits .and .i32 (IntKind.wrap .i32 p1) 63))]) (cs := [.int .i32 (bits .or .i32 (IntKind.wrap .i32 (p0.Rune * 2 ^ min (Int.toNat 6) 32)) (bits .and .i32 (IntKind.wrap .i32 p1) 63))]) rfl rfl rfl rfl rfl rfl rfl rfl rfl 21 fun bx174 w171 o172 st173 f175 => ?_
          replace f10 := f10.st st173 (by decide)
          replace f5 := f5.st st173 (by decide)
          replace fg3 := fg3.st st173 (by decide)
          replace hs := hs.loc0 st173 (by decide)
          have f176 : Ft (Own (encInt .i32) 21 (.slice (some ⟨bx174, 0, none⟩) (([(bits .or .i32 (IntKind.wrap .i32 (p0.Rune * 2 ^ min (Int.toNat 6) 32)) (bits .and .i32 (IntKind.wrap .i32 p1) 63))] : List Int)).length 1) ([(bits .or .i32 (IntKind.wrap .i32 (p0.Rune * 2 ^ min (Int.toNat 6) 32)) (bits .and .i32 (IntKind.wrap .i32 p1) 63))] : List Int)) w171 o172 21 := f175.imp fun _ h_ => Own.of_box h_ rfl (by simp)
          have hk := hk.put 46 (.slice (some ⟨bx174, 0, none⟩) (([(bits .or .i32 (IntKind.wrap .i32 (p0.Rune * 2 ^ min (Int.toNat 6) 32)) (bits .and .i32 (IntKind.wrap .i32 p1) 63))] : List Int)).length 1) rfl
          refine ⟨.inr ⟨f5.now, trivial⟩, ?_⟩
          exact xd_to hG rfl (N192 _ _ ⟨(fun b_ => (fun l_ => if l_ = 1 then 22 else if l_ = 2 then 23 else if l_ = 21 then 24 else l_) (o172 b_)), (some ⟨bx174, 0, none⟩), 1, (by exact Kn.pick (ks := [4, 43, 46]) hk rfl), (hs.relab0 (fun l_ => if l_ = 1 then 22 else if l_ = 2 then 23 else if l_ = 21 then 24 else l_) rfl), (f10.relab (fun l_ => if l_ = 1 then 22 else if l_ = 2 then 23 else if l_ = 21 then 24 else l_) rfl), (f176.relab (fun l_ => if l_ = 1 then 22 else if l_ = 2 then 23 else if l_ = 21 then 24 else l_) rfl), (f5.relab (fun l_ => if l_ = 1 then 22 else if l_ = 2 then 23 else if l_ = 21 then 24 else l_) rfl), (fg3.relab (fun l_ => if l_ = 1 then 22 else if l_ = 2 then 23 else if l_ = 21 then 24 else l_) rfl), (Nat.le_refl _)⟩)
        · refine xd_one hk rfl rfl ?_
          refine op_store tab hk (t := 45) (v := .agg #[.int .u8 0, .int .i32 0, .int .i64 0]) (b := bx9) (k := 0) (cs' := [.int .u8 0, .int .i32 0, .int .i64 0]) rfl rfl rfl rfl rfl rfl f10 rfl rfl fun w196 o197 st198 f10_ => ?_
          replace f5 := f5.st st198 (by decide)
          replace fg3 := fg3.st st198 (by decide)
          replace hs := hs.loc0 st198 (by decide)
          replace f10 := f10_
          refine ⟨.inr ⟨f5.now, trivial⟩, ?_⟩
          exact xd_to hG rfl (N204 _ _ ⟨(fun b_ => (fun l_ => if l_ = 1 then 25 else if l_ = 2 then 26 else l_) (o197 b_)), (by exact Kn.pick (ks := [4, 45]) hk rfl), (hs.relab0 (fun l_ => if l_ = 1 then 25 else if l_ = 2 then 26 else l_) rfl), (f10.relab (fun l_ => if l_ = 1 then 25 else if l_ = 2 then 26 else l_) rfl), (f5.relab (fun l_ => if l_ = 1 then 25 else if l_ = 2 then 26 else l_) rfl), (fg3.relab (fun l_ => if l_ = 1 then 25 else if l_ = 2 then 26 else l_) rfl)⟩)
    · rw [b20] at hk H
      replace H := bifT H
      refine x_if hk (b := true) rfl ?_
      refine (show Code.wpIn _ _ _ _ _ _ _ from ?_)
      refine x_seq ?_
      refine wpIn_region_lit ?_
      refine x_run tab hk (k := 1) (lv := []) (ks := [4, 20]) (e' := [(4, .pointer (some ⟨bx9, 0, none⟩)), (20, .int .u8 p1)]) rfl trivial fun a hk => ?_
      refine x_op hk rfl ?_
      obtain ⟨t214, hc215, H⟩ := bindS H
      refine op_call hk ent_102 (vs := [.int .u8 p1]) rfl (glyph_begin_calls K p1 _ o18 0 fg3 28  _ hc215) ?_
      rintro _ w216 ⟨o217, A219, c220, rfl, st218, f221, hc222⟩
      replace f10 := f10.st st218 (by decide)
      replace fg3 := fg3.st st218 (by decide)
      replace hs := hs.loc0 st218 (by decide)
      have hk := hk.put 21 (.tuple #[.agg #[.int .u8 t214.1.Lead, .int .i32 t214.1.Rune, .int .i64 t214.1.Need], .slice A219 (t214.2).length c220]) rfl
      refine x_run tab hk (k := 3) (lv := []) (ks := [4, 22, 23]) (e' := [(4, .pointer (some ⟨bx9, 0, none⟩)), (22, .agg #[.int .u8 t214.1.Lead, .int .i32 t214.1.Rune, .int .i64 t214.1.Need]), (23, .slice A219 (t214.2).length c220)]) rfl trivial fun a hk => ?_
      refine x_op hk rfl ?_
      refine op_alloc (o := o217) tab (t := 45) (cs := [.int .u8 0, .int .i32 0, .int .i64 0]) rfl rfl 29 fun bx226 w223 o224 st225 f227 => ?_
      replace f10 := f10.st st225 (by decide)
      replace f221 := f221.st st225 (by decide)
      replace fg3 := fg3.st st225 (by decide)
      replace hs := hs.loc0 st225 (by decide)
      have hk := hk.put 6 (.pointer (some ⟨bx226, 0, none⟩)) rfl
      refine x_op hk rfl ?_
      refine op_store tab hk (t := 45) (v := .agg #[.int .u8 t214.1.Lead, .int .i32 t214.1.Rune, .int .i64 t214.1.Need]) (b := bx226) (k := 0) (cs' := [.int .u8 t214.1.Lead, .int .i32 t214.1.Rune, .int .i64 t214.1.Need]) rfl rfl rfl rfl rfl rfl f227 rfl rfl fun w228 o229 st230 f227_ => ?_
      replace f10 := f10.st st230 (by decide)
      replace f221 := f221.st st230 (by decide)
      replace fg3 := fg3.st st230 (by decide)
      replace hs := hs.loc0 st230 (by decide)
      replace f227 := f227_
      refine x_run tab hk (k := 1) (lv := []) (ks := [4, 6, 7]) (e' := [(4, .pointer (some ⟨bx9, 0, none⟩)), (6, .pointer (some ⟨bx226, 0, none⟩)), (7, .slice A219 (t214.2).length c220)]) rfl trivial fun a hk => ?_
      refine wpListIn_nil ?_
      refine then_n ?_
      refine x_seq ?_
      refine xd_begin (o := o229) (fun W_ => (Bx bx226 45 [.int .u8 t214.1.Lead, .int .i32 t214.1.Rune, .int .i64 t214.1.Need]) W_ ∧ True) mixed rfl rfl fun w265 st266 => ?_
      replace f10 := f10.st st266 (by decide)
      replace f221 := f221.st st266 (by decide)
      replace f227 := f227.st st266 (by decide)
      replace fg3 := fg3.st st266 (by decide)
      replace hs := hs.loc0 st266 (by decide)
      refine xd_take tab hk (k := 4) (is := [0, 2]) (ls' := #[true, false, true, false, false, false]) (lv := [.agg #[.int .u8 t214.1.Lead, .int .i32 t214.1.Rune, .int .i64 t214.1.Need]]) (ks := [4, 24, 26]) (e' := [(4, .pointer (some ⟨bx9, 0, none⟩)), (24, .agg #[.int .u8 t214.1.Lead, .int .i32 t214.1.Rune, .int .i64 t214.1.Need]), (26, .slice A219 (t214.2).length c220)]) (by kernel_rfl) rfl rfl (by kernel_rfl) (np_then (np_then np_body)) ⟨f227.now, trivial⟩ (fun W_ hS => ⟨(load_box tab rfl rfl hS.1 (k := 0) rfl rfl), trivial⟩) fun a hk => ?_
      refine xd_op hk (i := 1) (by kernel_rfl) rfl rfl ?_
      refine op_slice (o := o229) tab hk (vs := [.int .i32 65533]) (cs := [.int .i32 65533]) rfl rfl rfl rfl rfl rfl rfl rfl rfl 32 fun bx270 w267 o268 st269 f271 => ?_
      replace f10 := f10.st st269 (by decide)
      replace f221 := f221.st st269 (by decide)
      replace f227 := f227.st st269 (by decide)
      replace fg3 := fg3.st st269 (by decide)
      replace hs := hs.loc0 st269 (by decide)
      have f272 : Ft (Own (encInt .i32) 21 (.slice (some ⟨bx270, 0, none⟩) (([65533] : List Int)).length 1) ([65533] : List Int)) w267 o268 32 := f271.imp fun _ h_ => Own.of_box h_ rfl (by simp)
      have hk := hk.put 25 (.slice (some ⟨bx270, 0, none⟩) (([65533] : List Int)).length 1) rfl
      refine ⟨.inr ⟨f227.now, trivial⟩, ?_⟩
      refine xd_op hk (i := 3) (by kernel_rfl) rfl rfl ?_
      obtain ⟨q276, H⟩ := ifS H
      refine op_append (o := o268) (E := (encInt .i32)) (xs := ([65533] : List Int)) (ys := t214.2) tab hk rfl rfl rfl rfl rfl rfl rfl f272 (Own.rd f221.now) q276 fun A277 c278 w273 o274 st275 f279 hc280 => ?_
      replace f10 := f10.st st275 (by decide)
      replace f221 := f221.st st275 (by decide)
      replace f227 := f227.st st275 (by decide)
      replace fg3 := fg3.st st275 (by decide)
      replace hs := hs.loc0 st275 (by decide)
      have hk := hk.put 27 (.slice A277 ((([65533] : List Int) ++ t214.2)).length c278) rfl
      refine ⟨.inr ⟨f227.now, trivial⟩, ?_⟩
      refine xd_op hk (i := 4) (by kernel_rfl) rfl rfl ?_
      refine op_store tab hk (t := 45) (v := .agg #[.int .u8 t214.1.Lead, .int .i32 t214.1.Rune, .int .i64 t214.1.Need]) (b := bx9) (k := 0) (cs' := [.int .u8 t214.1.Lead, .int .i32 t214.1.Rune, .int .i64 t214.1.Need]) rfl rfl rfl rfl rfl rfl f10 rfl rfl fun w281 o282 st283 f10_ => ?_
      replace f221 := f221.st st283 (by decide)
      replace f227 := f227.st st283 (by decide)
      replace f279 := f279.st st283 (by decide)
      replace fg3 := fg3.st st283 (by decide)
      replace hs := hs.loc0 st283 (by decide)
      replace f10 := f10_
      refine ⟨.inr ⟨f227.now, trivial⟩, ?_⟩
      refine xd_take tab hk (k := 0) (is := [5]) (ls' := #[true, true, true, true, true, true]) (lv := []) (ks := [4, 5]) (e' := [(4, .pointer (some ⟨bx9, 0, none⟩)), (5, .slice A277 ((([65533] : List Int) ++ t214.2)).length c278)]) (by kernel_rfl) rfl rfl (by kernel_rfl) (np_then (np_then np_body)) ⟨f227.now, trivial⟩ (fun W_ hS => trivial) fun a hk => ?_
      refine xd_done (by kernel_rfl) ?_
      refine then_n ?_
      refine wpIn_ret ?_
      refine then_r ?_
      obtain rfl := Option.some.inj H
      exact x_retG hk (rs := [.cell 4 45, .tmp 5]) (vs := [.agg #[.int .u8 t214.1.Lead, .int .i32 t214.1.Rune, .int .i64 t214.1.Need], .slice A277 ((([65533] : List Int) ++ t214.2)).length c278]) rfl ⟨⟨_, rfl, load_box tab rfl rfl f10.now (k := 0) rfl rfl⟩, rfl, trivial⟩ ⟨fun b_ => if b_ < w.heap.size then o b_ else (fun _ => R0) (o282 b_), A277, c278, rfl, hs.close0 o (fun _ => R0), hs.close_ft (o := o) (ρ := fun _ => R0) f279 (by decide) rfl, hc280⟩
  · rw [b11] at hk H
    replace H := bifT H
    refine x_if hk (b := true) rfl ?_
    refine (show Code.wpIn _ _ _ _ _ _ _ from ?_)
    refine x_seq ?_
    refine wpIn_region_lit ?_
    refine x_run tab hk (k := 1) (lv := []) (ks := [4, 11]) (e' := [(4, .pointer (some ⟨bx9, 0, none⟩)), (11, .int .u8 p1)]) rfl trivial fun a hk => ?_
    refine x_op hk rfl ?_
    obtain ⟨t287, hc288, H⟩ := bindS H
    refine op_call hk ent_102 (vs := [.int .u8 p1]) rfl (glyph_begin_calls K p1 _ o7 0 fg3 33  _ hc288) ?_
    rintro _ w289 ⟨o290, A292, c293, rfl, st291, f294, hc295⟩
    replace f10 := f10.st st291 (by decide)
    replace fg3 := fg3.st st291 (by decide)
    replace hs := hs.loc0 st291 (by decide)
    have hk := hk.put 12 (.tuple #[.agg #[.int .u8 t287.1.Lead, .int .i32 t287.1.Rune, .int .i64 t287.1.Need], .slice A292 (t287.2).length c293]) rfl
    refine x_run tab hk (k := 2) (lv := []) (ks := [4, 13, 14]) (e' := [(4, .pointer (some ⟨bx9, 0, none⟩)), (13, .agg #[.int .u8 t287.1.Lead, .int .i32 t287.1.Rune, .int .i64 t287.1.Need]), (14, .slice A292 (t287.2).length c293)]) rfl trivial fun a hk => ?_
    refine x_op hk rfl ?_
    refine op_store tab hk (t := 45) (v := .agg #[.int .u8 t287.1.Lead, .int .i32 t287.1.Rune, .int .i64 t287.1.Need]) (b := bx9) (k := 0) (cs' := [.int .u8 t287.1.Lead, .int .i32 t287.1.Rune, .int .i64 t287.1.Need]) rfl rfl rfl rfl rfl rfl f10 rfl rfl fun w296 o297 st298 f10_ => ?_
    replace f294 := f294.st st298 (by decide)
    replace fg3 := fg3.st st298 (by decide)
    replace hs := hs.loc0 st298 (by decide)
    replace f10 := f10_
    refine x_run tab hk (k := 1) (lv := []) (ks := [4, 5]) (e' := [(4, .pointer (some ⟨bx9, 0, none⟩)), (5, .slice A292 (t287.2).length c293)]) rfl trivial fun a hk => ?_
    refine wpListIn_nil ?_
    refine then_n ?_
    refine wpIn_ret ?_
    refine then_r ?_
    obtain rfl := Option.some.inj H
    exact x_retG hk (rs := [.cell 4 45, .tmp 5]) (vs := [.agg #[.int .u8 t287.1.Lead, .int .i32 t287.1.Rune, .int .i64 t287.1.Need], .slice A292 (t287.2).length c293]) rfl ⟨⟨_, rfl, load_box tab rfl rfl f10.now (k := 0) rfl rfl⟩, rfl, trivial⟩ ⟨fun b_ => if b_ < w.heap.size then o b_ else (fun _ => R0) (o297 b_), A292, c293, rfl, hs.close0 o (fun _ => R0), hs.close_ft (o := o) (ρ := fun _ => R0) f294 (by decide) rfl, hc295⟩

/-! (tidewrack/glyph.Decoder).Run -/
theorem glyph_Decoder_Run_calls (K : Nat) (p0 : T44) (p1 : ByteArray) (w : World) (o : Nat → Nat) (Lg3 : Nat) (hg3 : Ft (RdC ET192 (some ⟨3, 0, none⟩) glob3) w o Lg3)   (R0 : Nat) (r : T44 × (List Int)) (H : glyph_Decoder_Run K p0 p1 = some r) :
    Calls Tryd.prog 37 #[.agg #[.int .u8 p0.Lead, .int .i32 p0.Rune, .int .i64 p0.Need], .string p1] w (Ret fun v_ w' => ∃ o' : Nat → Nat, ∃ A0 : Option Addr, ∃ c0 : Nat, v_ = .tuple #[.agg #[.int .u8 r.1.Lead, .int .i32 r.1.Rune, .int .i64 r.1.Need], .slice A0 (r.2).length c0] ∧ St [] w o w' o' ∧ Ft (Own (encInt .i32) 21 (.slice A0 (r.2).length c0) r.2) w' o' R0 ∧ (r.2).length ≤ c0) := by
  refine x_enter (vs := [.agg #[.int .u8 p0.Lead, .int .i32 p0.Rune, .int .i64 p0.Need], .string p1]) Tryd.func37 rfl rfl rfl fun a hk => ?_
  obtain ⟨o0, hs, h0⟩ := St.start w o
  have fg3 := h0 _ _ hg3
  clear h0
  rw [glyph_Decoder_Run] at H
  refine x_seq ?_
  refine wpIn_region_lit ?_
  refine x_op hk rfl ?_
  refine op_box (o := o0) (t := 45) (v := .agg #[.int .u8 p0.Lead, .int .i32 p0.Rune, .int .i64 p0.Need]) (cs := [.int .u8 p0.Lead, .int .i32 p0.Rune, .int .i64 p0.Need]) hk rfl rfl 1 fun bx4 w1 o2 st3 f5 => ?_
  replace fg3 := fg3.st st3 (by decide)
  replace hs := hs.loc0 st3 (by decide)
  have hk := hk.put 2 (.pointer (some ⟨bx4, 0, none⟩)) rfl
  refine x_op hk rfl ?_
  refine op_alloc (o := o2) tab (t := 45) (cs := [.int .u8 0, .int .i32 0, .int .i64 0]) rfl rfl 2 fun bx9 w6 o7 st8 f10 => ?_
  replace f5 := f5.st st8 (by decide)
  replace fg3 := fg3.st st8 (by decide)
  replace hs := hs.loc0 st8 (by decide)
  have hk := hk.put 4 (.pointer (some ⟨bx9, 0, none⟩)) rfl
  refine x_run tab hk (k := 1) (lv := []) (ks := [1, 2, 4]) (e' := [(1, .string p1), (2, .pointer (some ⟨bx4, 0, none⟩)), (4, .pointer (some ⟨bx9, 0, none⟩))]) rfl trivial fun a hk => ?_
  refine wpListIn_nil ?_
  refine then_n ?_
  refine x_seq ?_
  refine wpIn_region_lit ?_
  refine x_run tab hk (k := 1) (lv := []) (ks := [1, 2, 4, 6]) (e' := [(1, .string p1), (2, .pointer (some ⟨bx4, 0, none⟩)), (4, .pointer (some ⟨bx9, 0, none⟩)), (6, .slice none 0 0)]) rfl trivial fun a hk => ?_
  refine wpListIn_nil ?_
  refine then_n ?_
  refine x_mid (fun a_ w_ => ∃ o214 : Nat → Nat, ∃ x215 : T44, ∃ A216 : Option Addr, ∃ c217 : Nat, ∃ l218 : List Int, Kn 28 a_ [(2, .pointer (some ⟨bx4, 0, none⟩)), (4, .pointer (some ⟨bx9, 0, none⟩)), (6, .slice A216 (l218).length c217)] ∧ St [] w (fun _ => 0) w_ o214 ∧ Ft (Bx bx9 45 [.int .u8 0, .int .i32 0, .int .i64 0]) w_ o214 20 ∧ Ft (Own (encInt .i32) 21 (.slice A216 (l218).length c217) l218) w_ o214 21 ∧ Ft (Bx bx4 45 [.int .u8 x215.Lead, .int .i32 x215.Rune, .int .i64 x215.Need]) w_ o214 19 ∧ Ft (RdC ET192 (some ⟨3, 0, none⟩) glob3) w_ o214 0 ∧ (l218).length ≤ c217 ∧ glyph_Decoder_Run_j1 x215 l218 = some r) ?_ ?_
  rotate_left
  · rintro a w221 ⟨o214, x215, A216, c217, l218, hk, hs, f10, f219, f5, fg3, hc220, H⟩
    rw [glyph_Decoder_Run_j1] at H
    refine x_seq ?_
    refine wpIn_region_lit ?_
    refine x_run tab hk (k := 2) (lv := [.agg #[.int .u8 x215.Lead, .int .i32 x215.Rune, .int .i64 x215.Need]]) (ks := [4, 26, 27]) (e' := [(4, .pointer (some ⟨bx9, 0, none⟩)), (26, .agg #[.int .u8 x215.Lead, .int .i32 x215.Rune, .int .i64 x215.Need]), (27, .slice A216 (l218).length c217)]) rfl ⟨(load_box tab rfl rfl f5.now (k := 0) rfl rfl), trivial⟩ fun a hk => ?_
    refine x_op hk rfl ?_
    refine op_store tab hk (t := 45) (v := .agg #[.int .u8 x215.Lead, .int .i32 x215.Rune, .int .i64 x215.Need]) (b := bx9) (k := 0) (cs' := [.int .u8 x215.Lead, .int .i32 x215.Rune, .int .i64 x215.Need]) rfl rfl rfl rfl rfl rfl f10 rfl rfl fun w222 o223 st224 f10_ => ?_
    replace f219 := f219.st st224 (by decide)
    replace fg3 := fg3.st st224 (by decide)
    replace hs := hs.loc0 st224 (by decide)
    replace f10 := f10_
    refine x_run tab hk (k := 1) (lv := []) (ks := [4, 5]) (e' := [(4, .pointer (some ⟨bx9, 0, none⟩)), (5, .slice A216 (l218).length c217)]) rfl trivial fun a hk => ?_
    refine wpListIn_nil ?_
    refine then_n ?_
    refine wpIn_ret ?_
    obtain rfl := Option.some.inj H
    exact x_retG hk (rs := [.cell 4 45, .tmp 5]) (vs := [.agg #[.int .u8 x215.Lead, .int .i32 x215.Rune, .int .i64 x215.Need], .slice A216 (l218).length c217]) rfl ⟨⟨_, rfl, load_box tab rfl rfl f10.now (k := 0) rfl rfl⟩, rfl, trivial⟩ ⟨fun b_ => if b_ < w.heap.size then o b_ else (fun _ => R0) (o223 b_), A216, c217, rfl, hs.close0 o (fun _ => R0), hs.close_ft (o := o) (ρ := fun _ => R0) f219 (by decide) rfl, hc220⟩
  refine x_seq ?_
  refine wpIn_region_lit ?_
  refine x_run tab hk (k := 3) (lv := []) (ks := [1, 2, 4, 6, 10, 11]) (e' := [(1, .string p1), (2, .pointer (some ⟨bx4, 0, none⟩)), (4, .pointer (some ⟨bx9, 0, none⟩)), (6, .slice none 0 0), (10, .int .i64 ((p1).size : Int)), (11, .int .i64 0)]) rfl trivial fun a hk => ?_
  refine wpListIn_nil ?_
  refine then_n ?_
  refine wpIn_block ?_
  refine x_loop (fun j_ a_ w_ => ∃ o287 : Nat → Nat, ∃ x288 : T44, ∃ A289 : Option Addr, ∃ c290 : Nat, ∃ l291 : List Int, ∃ x294 : Int, Kn 28 a_ [(1, .string p1), (2, .pointer (some ⟨bx4, 0, none⟩)), (4, .pointer (some ⟨bx9, 0, none⟩)), (6, .slice A289 (l291).length c290), (10, .int .i64 ((p1).size : Int)), (11, .int .i64 x294)] ∧ St [] w (fun _ => 0) w_ o287 ∧ Ft (Bx bx9 45 [.int .u8 0, .int .i32 0, .int .i64 0]) w_ o287 29 ∧ Ft (Own (encInt .i32) 21 (.slice A289 (l291).length c290) l291) w_ o287 30 ∧ Ft (Bx bx4 45 [.int .u8 x288.Lead, .int .i32 x288.Rune, .int .i64 x288.Need]) w_ o287 28 ∧ Ft (RdC ET192 (some ⟨3, 0, none⟩) glob3) w_ o287 0 ∧ (l291).length ≤ c290 ∧ glyph_Decoder_Run_l2 K p1 j_ x288 l291 x294 = some r) (k := K) ⟨(fun b_ => (fun l_ => if l_ = 1 then 28 else if l_ = 2 then 29 else l_) (o7 b_)), p0, none, 0, ([] : List Int), 0, (by exact Kn.pick (ks := [1, 2, 4, 6, 10, 11]) hk rfl), (hs.relab0 (fun l_ => if l_ = 1 then 28 else if l_ = 2 then 29 else l_) rfl), (f10.relab (fun l_ => if l_ = 1 then 28 else if l_ = 2 then 29 else l_) rfl), (Ft.of_all (fun _ => Own.nil _ _ _) _ _ _), (f5.relab (fun l_ => if l_ = 1 then 28 else if l_ = 2 then 29 else l_) rfl), (fg3.relab (fun l_ => if l_ = 1 then 28 else if l_ = 2 then 29 else l_) rfl), (by simp), H⟩ (by rintro _ _ ⟨_, _, _, _, _, _, _, _, _, _, _, _, _, H_⟩; exact absurd (show (none : Option (T44 × (List Int))) = some r from H_) (by simp)) ?_
  rintro k355 a w354 ⟨o287, x288, A289, c290, l291, x294, hk, hs, f10, f292, f5, fg3, hc293, H⟩
  rw [glyph_Decoder_Run_l2] at H
  obtain ⟨lp356, hlp357⟩ : ∃ lp_, lp_ = glyph_Decoder_Run_l2 K p1 k355 := ⟨_, rfl⟩
  rw [← hlp357] at H
  refine x_seq ?_
  refine wpIn_region_lit ?_
  refine x_run tab hk (k := 1) (lv := []) (ks := [1, 2, 4, 6, 10, 11, 12]) (e' := [(1, .string p1), (2, .pointer (some ⟨bx4, 0, none⟩)), (4, .pointer (some ⟨bx9, 0, none⟩)), (6, .slice A289 (l291).length c290), (10, .int .i64 ((p1).size : Int)), (11, .int .i64 x294), (12, .bool (decide (x294 < ((p1).size : Int))))]) rfl trivial fun a hk => ?_
  refine wpListIn_nil ?_
  refine then_n ?_
  refine x_seq ?_
  cases b358 : (decide (x294 < ((p1).size : Int)))
  · rw [b358] at hk H
    replace H := bifF H
    refine x_if hk (b := false) rfl ?_
    refine (show Code.wpIn _ _ _ _ _ _ _ from ?_)
    refine wpIn_exit ?_
    refine then_x ?_
    refine then_x ?_
    refine blk_x ?_
    refine then_n ?_
    exact ⟨(fun b_ => (fun l_ => if l_ = 28 then 19 else if l_ = 29 then 20 else if l_ = 30 then 21 else l_) (o287 b_)), x288, A289, c290, l291, (by exact Kn.pick (ks := [2, 4, 6]) hk rfl), (hs.relab0 (fun l_ => if l_ = 28 then 19 else if l_ = 29 then 20 else if l_ = 30 then 21 else l_) rfl), (f10.relab (fun l_ => if l_ = 28 then 19 else if l_ = 29 then 20 else if l_ = 30 then 21 else l_) rfl), (f292.relab (fun l_ => if l_ = 28 then 19 else if l_ = 29 then 20 else if l_ = 30 then 21 else l_) rfl), (f5.relab (fun l_ => if l_ = 28 then 19 else if l_ = 29 then 20 else if l_ = 30 then 21 else l_) rfl), (fg3.relab (fun l_ => if l_ = 28 then 19 else if l_ = 29 then 20 else if l_ = 30 then 21 else l_) rfl), hc293, H⟩
  · rw [b358] at hk H
    replace H := bifT H
    refine x_if hk (b := true) rfl ?_
    refine (show Code.wpIn _ _ _ _ _ _ _ from ?_)
    refine wpIn_skip ?_
    refine then_n ?_
    refine x_seq ?_
    refine wpIn_block ?_
    refine x_seq ?_
    refine wpIn_region_lit ?_
    refine x_run tab hk (k := 2) (lv := []) (ks := [1, 2, 4, 6, 7, 10, 11]) (e' := [(1, .string p1), (2, .pointer (some ⟨bx4, 0, none⟩)), (4, .pointer (some ⟨bx9, 0, none⟩)), (6, .slice A289 (l291).length c290), (7, .int .i64 x294), (10, .int .i64 ((p1).size : Int)), (11, .int .i64 x294)]) rfl trivial fun a hk => ?_
    refine wpListIn_nil ?_
    refine then_n ?_
    refine x_seq ?_
    refine wpIn_region_lit ?_
    refine x_run tab hk (k := 1) (lv := []) (ks := [1, 2, 4, 6, 7, 10, 11]) (e' := [(1, .string p1), (2, .pointer (some ⟨bx4, 0, none⟩)), (4, .pointer (some ⟨bx9, 0, none⟩)), (6, .slice A289 (l291).length c290), (7, .int .i64 x294), (10, .int .i64 ((p1).size : Int)), (11, .int .i64 x294)]) rfl trivial fun a hk => ?_
    refine wpListIn_nil ?_
    refine then_n ?_
    refine x_seq ?_
    refine xd_begin (o := o287) (fun W_ => True) mixed rfl rfl fun w391 st392 => ?_
    replace f10 := f10.st st392 (by decide)
    replace f292 := f292.st st392 (by decide)
    replace f5 := f5.st st392 (by decide)
    replace fg3 := fg3.st st392 (by decide)
    replace hs := hs.loc0 st392 (by decide)
    obtain ⟨q393, H⟩ := ifS H
    refine xd_take tab hk (k := 7) (is := [1, 2, 3]) (ls' := #[false, true, true, true, false, false, false, false, false, false]) (lv := []) (ks := [1, 2, 4, 6, 10, 11, 18]) (e' := [(1, .string p1), (2, .pointer (some ⟨bx4, 0, none⟩)), (4, .pointer (some ⟨bx9, 0, none⟩)), (6, .slice A289 (l291).length c290), (10, .int .i64 ((p1).size : Int)), (11, .int .i64 x294), (18, .int .u8 (bt p1 x294))]) (by kernel_rfl) rfl rfl (by kernel_rfl) (np_then (np_blk (np_then (np_then (np_blk (np_then np_body)))))) trivial (fun W_ hS => ⟨q393, trivial⟩) fun a hk => ?_
    refine xd_op hk (i := 0) (by kernel_rfl) rfl rfl ?_
    refine op_quiet tab hk (lv := [.agg #[.int .u8 x288.Lead, .int .i32 x288.Rune, .int .i64 x288.Need]]) (v := .agg #[.int .u8 x288.Lead, .int .i32 x288.Rune, .int .i64 x288.Need]) rfl ⟨(load_box tab rfl rfl f5.now (k := 0) rfl rfl), trivial⟩ ?_
    have hk := hk.put 15 (.agg #[.int .u8 x288.Lead, .int .i32 x288.Rune, .int .i64 x288.Need]) rfl
    refine ⟨.inr trivial, ?_⟩
    refine xd_op hk (i := 4) (by kernel_rfl) rfl rfl ?_
    obtain ⟨t397, hc398, H⟩ := bindS H
    refine op_call hk ent_72 (vs := [.agg #[.int .u8 x288.Lead, .int .i32 x288.Rune, .int .i64 x288.Need], .int .u8 (bt p1 x294)]) rfl (glyph_Decoder_Next_calls K x288 (bt p1 x294) _ o287 0 fg3 36  _ hc398) ?_
    rintro _ w399 ⟨o400, A402, c403, rfl, st401, f404, hc405⟩
    replace f10 := f10.st st401 (by decide)
    replace f292 := f292.st st401 (by decide)
    replace f5 := f5.st st401 (by decide)
    replace fg3 := fg3.st st401 (by decide)
    replace hs := hs.loc0 st401 (by decide)
    have hk := hk.put 19 (.tuple #[.agg #[.int .u8 t397.1.Lead, .int .i32 t397.1.Rune, .int .i64 t397.1.Need], .slice A402 (t397.2).length c403]) rfl
    refine ⟨.inr trivial, ?_⟩
    refine xd_take tab hk (k := 2) (is := [5, 6, 7]) (ls' := #[true, true, true, true, true, true, true, true, false, false]) (lv := []) (ks := [1, 2, 4, 6, 10, 11, 20, 21]) (e' := [(1, .string p1), (2, .pointer (some ⟨bx4, 0, none⟩)), (4, .pointer (some ⟨bx9, 0, none⟩)), (6, .slice A289 (l291).length c290), (10, .int .i64 ((p1).size : Int)), (11, .int .i64 x294), (20, .agg #[.int .u8 t397.1.Lead, .int .i32 t397.1.Rune, .int .i64 t397.1.Need]), (21, .slice A402 (t397.2).length c403)]) (by kernel_rfl) rfl rfl (by kernel_rfl) (np_then (np_blk (np_then (np_then (np_blk (np_then np_body)))))) trivial (fun W_ hS => trivial) fun a hk => ?_
    refine xd_op hk (i := 8) (by kernel_rfl) rfl rfl ?_
    refine op_store tab hk (t := 45) (v := .agg #[.int .u8 t397.1.Lead, .int .i32 t397.1.Rune, .int .i64 t397.1.Need]) (b := bx4) (k := 0) (cs' := [.int .u8 t397.1.Lead, .int .i32 t397.1.Rune, .int .i64 t397.1.Need]) rfl rfl rfl rfl rfl rfl f5 rfl rfl fun w406 o407 st408 f5_ => ?_
    replace f10 := f10.st st408 (by decide)
    replace f292 := f292.st st408 (by decide)
    replace f404 := f404.st st408 (by decide)
    replace fg3 := fg3.st st408 (by decide)
    replace hs := hs.loc0 st408 (by decide)
    replace f5 := f5_
    refine ⟨.inr trivial, ?_⟩
    refine xd_take tab hk (k := 0) (is := [9]) (ls' := #[true, true, true, true, true, true, true, true, true, true]) (lv := []) (ks := [1, 2, 4, 6, 8, 10, 11]) (e' := [(1, .string p1), (2, .pointer (some ⟨bx4, 0, none⟩)), (4, .pointer (some ⟨bx9, 0, none⟩)), (6, .slice A289 (l291).length c290), (8, .slice A402 (t397.2).length c403), (10, .int .i64 ((p1).size : Int)), (11, .int .i64 x294)]) (by kernel_rfl) rfl rfl (by kernel_rfl) (np_then (np_blk (np_then (np_then (np_blk (np_then np_body)))))) trivial (fun W_ hS => trivial) fun a hk => ?_
    refine xd_done (by kernel_rfl) ?_
    refine then_n ?_
    refine wpIn_region_lit ?_
    refine x_run tab hk (k := 2) (lv := []) (ks := [1, 2, 4, 10, 11, 22, 23]) (e' := [(1, .string p1), (2, .pointer (some ⟨bx4, 0, none⟩)), (4, .pointer (some ⟨bx9, 0, none⟩)), (10, .int .i64 ((p1).size : Int)), (11, .int .i64 x294), (22, .slice A289 (l291).length c290), (23, .slice A402 (t397.2).length c403)]) rfl trivial fun a hk => ?_
    refine x_op hk rfl ?_
    obtain ⟨q412, H⟩ := ifS H
    refine op_append (o := o407) (E := (encInt .i32)) (xs := l291) (ys := t397.2) tab hk rfl rfl rfl rfl rfl rfl rfl f292 (Own.rd f404.now) q412 fun A413 c414 w409 o410 st411 f415 hc416 => ?_
    replace f10 := f10.st st411 (by decide)
    replace f404 := f404.st st411 (by decide)
    replace f5 := f5.st st411 (by decide)
    replace fg3 := fg3.st st411 (by decide)
    replace hs := hs.loc0 st411 (by decide)
    have hk := hk.put 24 (.slice A413 ((l291 ++ t397.2)).length c414) rfl
    refine x_run tab hk (k := 1) (lv := []) (ks := [1, 2, 4, 6, 10, 11]) (e' := [(1, .string p1), (2, .pointer (some ⟨bx4, 0, none⟩)), (4, .pointer (some ⟨bx9, 0, none⟩)), (6, .slice A413 ((l291 ++ t397.2)).length c414), (10, .int .i64 ((p1).size : Int)), (11, .int .i64 x294)]) rfl trivial fun a hk => ?_
    refine wpListIn_nil ?_
    refine blk_n ?_
    refine then_n ?_
    refine wpIn_region_lit ?_
    refine x_run tab hk (k := 2) (lv := []) (ks := [1, 2, 4, 6, 10, 11]) (e' := [(1, .string p1), (2, .pointer (some ⟨bx4, 0, none⟩)), (4, .pointer (some ⟨bx9, 0, none⟩)), (6, .slice A413 ((l291 ++ t397.2)).length c414), (10, .int .i64 ((p1).size : Int)), (11, .int .i64 (IntKind.wrap .i64 (x294 + 1)))]) rfl trivial fun a hk => ?_
    refine wpListIn_nil ?_
    refine then_n ?_
    exact ⟨k355, Nat.le_refl _, o410, t397.1, A413, c414, (l291 ++ t397.2), (IntKind.wrap .i64 (x294 + 1)), (by exact Kn.pick (ks := [1, 2, 4, 6, 10, 11]) hk rfl), hs, f10, f415, f5, fg3, hc416, (hlp357 ▸ H)⟩

/-! (tidewrack/glyph.Decoder).End -/
theorem glyph_Decoder_End_calls (p0 : T44) (w : World) (o : Nat → Nat)   (R0 : Nat) (r : List Int) (H : glyph_Decoder_End p0 = some r) :
    Calls Tryd.prog 38 #[.agg #[.int .u8 p0.Lead, .int .i32 p0.Rune, .int .i64 p0.Need]] w (Ret fun v_ w' => ∃ o' : Nat → Nat, ∃ A0 : Option Addr, ∃ c0 : Nat, v_ = .slice A0 (r).length c0 ∧ St [] w o w' o' ∧ Ft (Own (encInt .i32) 21 (.slice A0 (r).length c0) r) w' o' R0 ∧ (r).length ≤ c0) := by
  refine x_enter (vs := [.agg #[.int .u8 p0.Lead, .int .i32 p0.Rune, .int .i64 p0.Need]]) Tryd.func38 rfl rfl rfl fun a hk => ?_
  obtain ⟨o0, hs, h0⟩ := St.start w o
  clear h0
  rw [glyph_Decoder_End] at H
  refine x_seq ?_
  refine wpIn_region_lit ?_
  refine x_op hk rfl ?_
  refine op_box (o := o0) (t := 45) (v := .agg #[.int .u8 p0.Lead, .int .i32 p0.Rune, .int .i64 p0.Need]) (cs := [.int .u8 p0.Lead, .int .i32 p0.Rune, .int .i64 p0.Need]) hk rfl rfl 1 fun bx4 w1 o2 st3 f5 => ?_
  replace hs := hs.loc0 st3 (by decide)
  have hk := hk.put 1 (.pointer (some ⟨bx4, 0, none⟩)) rfl
  refine x_run tab hk (k := 1) (lv := []) (ks := [1]) (e' := [(1, .pointer (some ⟨bx4, 0, none⟩))]) rfl trivial fun a hk => ?_
  refine wpListIn_nil ?_
  refine then_n ?_
  refine x_seq ?_
  refine x_seq ?_
  refine wpIn_region_lit ?_
  refine x_run tab hk (k := 3) (lv := [.int .i64 p0.Need]) (ks := [5]) (e' := [(5, .bool (decide (p0.Need ≤ (0 : Int))))]) rfl ⟨(load1 tab rfl ((Bx.cell f5.now 2).trans rfl)), trivial⟩ fun a hk => ?_
  refine wpListIn_nil ?_
  refine then_n ?_
  cases b6 : (decide (p0.Need ≤ (0 : Int)))
  · rw [b6] at hk H
    replace H := bifF H
    refine x_if hk (b := false) rfl ?_
    refine (show Code.wpIn _ _ _ _ _ _ _ from ?_)
    refine wpIn_skip ?_
    refine then_n ?_
    refine x_seq ?_
    refine wpIn_region_lit ?_
    refine x_op hk rfl ?_
    refine op_slice (o := o2) tab hk (vs := [.int .i32 65533]) (cs := [.int .i32 65533]) rfl rfl rfl rfl rfl rfl rfl rfl rfl 2 fun bx10 w7 o8 st9 f11 => ?_
    replace hs := hs.loc0 st9 (by decide)
    have f12 : Ft (Own (encInt .i32) 21 (.slice (some ⟨bx10, 0, none⟩) (([65533] : List Int)).length 1) ([65533] : List Int)) w7 o8 2 := f11.imp fun _ h_ => Own.of_box h_ rfl (by simp)
    have hk := hk.put 6 (.slice (some ⟨bx10, 0, none⟩) (([65533] : List Int)).length 1) rfl
    refine x_run tab hk (k := 1) (lv := []) (ks := [2]) (e' := [(2, .slice (some ⟨bx10, 0, none⟩) (([65533] : List Int)).length 1)]) rfl trivial fun a hk => ?_
    refine wpListIn_nil ?_
    refine then_n ?_
    refine wpIn_ret ?_
    obtain rfl := Option.some.inj H
    exact x_retG hk (rs := [.tmp 2]) (vs := [.slice (some ⟨bx10, 0, none⟩) (([65533] : List Int)).length 1]) rfl ⟨rfl, trivial⟩ ⟨fun b_ => if b_ < w.heap.size then o b_ else (fun _ => R0) (o8 b_), (some ⟨bx10, 0, none⟩), 1, rfl, hs.close0 o (fun _ => R0), hs.close_ft (o := o) (ρ := fun _ => R0) f12 (by decide) rfl, (Nat.le_refl _)⟩
  · rw [b6] at hk H
    replace H := bifT H
    refine x_if hk (b := true) rfl ?_
    refine (show Code.wpIn _ _ _ _ _ _ _ from ?_)
    refine x_seq ?_
    refine wpIn_region_lit ?_
    refine x_run tab hk (k := 1) (lv := []) (ks := [2]) (e' := [(2, .slice none 0 0)]) rfl trivial fun a hk => ?_
    refine wpListIn_nil ?_
    refine then_n ?_
    refine wpIn_ret ?_
    refine then_r ?_
    obtain rfl := Option.some.inj H
    exact x_retG hk (rs := [.tmp 2]) (vs := [.slice none 0 0]) rfl ⟨rfl, trivial⟩ ⟨fun b_ => if b_ < w.heap.size then o b_ else (fun _ => 0) (o2 b_), none, 0, rfl, hs.close0 o (fun _ => 0), (Ft.of_all (fun _ => Own.nil _ _ _) _ _ _), (by simp)⟩

/-! tidewrack/glyph.Decode -/
theorem glyph_Decode_calls (K : Nat) (p0 : ByteArray) (w : World) (o : Nat → Nat) (Lg3 : Nat) (hg3 : Ft (RdC ET192 (some ⟨3, 0, none⟩) glob3) w o Lg3)   (R0 : Nat) (r : List Int) (H : glyph_Decode K p0 = some r) :
    Calls Tryd.prog 9 #[.string p0] w (Ret fun v_ w' => ∃ o' : Nat → Nat, ∃ A0 : Option Addr, ∃ c0 : Nat, v_ = .slice A0 (r).length c0 ∧ St [] w o w' o' ∧ Ft (Own (encInt .i32) 21 (.slice A0 (r).length c0) r) w' o' R0 ∧ (r).length ≤ c0) := by
  refine x_enter (vs := [.string p0]) Tryd.func9 rfl rfl rfl fun a hk => ?_
  obtain ⟨o0, hs, h0⟩ := St.start w o
  have fg3 := h0 _ _ hg3
  clear h0
  rw [glyph_Decode] at H
  refine x_seq ?_
  refine wpIn_region_lit ?_
  refine x_run tab hk (k := 1) (lv := []) (ks := [0]) (e' := [(0, .string p0)]) rfl trivial fun a hk => ?_
  refine wpListIn_nil ?_
  refine then_n ?_
  refine x_seq ?_
  refine wpIn_region_lit ?_
  refine x_run tab hk (k := 2) (lv := []) (ks := [6, 7]) (e' := [(6, .agg #[.int .u8 0, .int .i32 0, .int .i64 0]), (7, .string p0)]) rfl trivial fun a hk => ?_
  refine x_op hk rfl ?_
  obtain ⟨t4, hc5, H⟩ := bindS H
  refine op_call hk ent_37 (vs := [.agg #[.int .u8 0, .int .i32 0, .int .i64 0], .string p0]) rfl (glyph_Decoder_Run_calls K (⟨0, 0, 0⟩ : T44) p0 _ o0 0 fg3 1  _ hc5) ?_
  rintro _ w6 ⟨o7, A9, c10, rfl, st8, f11, hc12⟩
  replace fg3 := fg3.st st8 (by decide)
  replace hs := hs.loc0 st8 (by decide)
  have hk := hk.put 8 (.tuple #[.agg #[.int .u8 t4.1.Lead, .int .i32 t4.1.Rune, .int .i64 t4.1.Need], .slice A9 (t4.2).length c10]) rfl
  refine x_run tab hk (k := 3) (lv := []) (ks := [9, 10]) (e' := [(9, .agg #[.int .u8 t4.1.Lead, .int .i32 t4.1.Rune, .int .i64 t4.1.Need]), (10, .slice A9 (t4.2).length c10)]) rfl trivial fun a hk => ?_
  refine x_op hk rfl ?_
  refine op_alloc (o := o7) tab (t := 45) (cs := [.int .u8 0, .int .i32 0, .int .i64 0]) rfl rfl 2 fun bx16 w13 o14 st15 f17 => ?_
  replace f11 := f11.st st15 (by decide)
  replace fg3 := fg3.st st15 (by decide)
  replace hs := hs.loc0 st15 (by decide)
  have hk := hk.put 3 (.pointer (some ⟨bx16, 0, none⟩)) rfl
  refine x_op hk rfl ?_
  refine op_store tab hk (t := 45) (v := .agg #[.int .u8 t4.1.Lead, .int .i32 t4.1.Rune, .int .i64 t4.1.Need]) (b := bx16) (k := 0) (cs' := [.int .u8 t4.1.Lead, .int .i32 t4.1.Rune, .int .i64 t4.1.Need]) rfl rfl rfl rfl rfl rfl f17 rfl rfl fun w18 o19 st20 f17_ => ?_
  replace f11 := f11.st st20 (by decide)
  replace fg3 := fg3.st st20 (by decide)
  replace hs := hs.loc0 st20 (by decide)
  replace f17 := f17_
  refine x_run tab hk (k := 1) (lv := []) (ks := [3, 4]) (e' := [(3, .pointer (some ⟨bx16, 0, none⟩)), (4, .slice A9 (t4.2).length c10)]) rfl trivial fun a hk => ?_
  refine wpListIn_nil ?_
  refine then_n ?_
  refine x_seq ?_
  refine wpIn_region_lit ?_
  refine x_run tab hk (k := 2) (lv := [.agg #[.int .u8 t4.1.Lead, .int .i32 t4.1.Rune, .int .i64 t4.1.Need]]) (ks := [11, 12]) (e' := [(11, .slice A9 (t4.2).length c10), (12, .agg #[.int .u8 t4.1.Lead, .int .i32 t4.1.Rune, .int .i64 t4.1.Need])]) rfl ⟨(load_box tab rfl rfl f17.now (k := 0) rfl rfl), trivial⟩ fun a hk => ?_
  refine x_op hk rfl ?_
  obtain ⟨t24, hc25, H⟩ := bindS H
  refine op_call hk ent_38 (vs := [.agg #[.int .u8 t4.1.Lead, .int .i32 t4.1.Rune, .int .i64 t4.1.Need]]) rfl (glyph_Decoder_End_calls t4.1 _ o19  3  _ hc25) ?_
  rintro _ w26 ⟨o27, A29, c30, rfl, st28, f31, hc32⟩
  replace f11 := f11.st st28 (by decide)
  replace fg3 := fg3.st st28 (by decide)
  replace hs := hs.loc0 st28 (by decide)
  have hk := hk.put 13 (.slice A29 (t24).length c30) rfl
  refine x_op hk rfl ?_
  obtain ⟨q36, H⟩ := ifS H
  refine op_append (o := o27) (E := (encInt .i32)) (xs := t4.2) (ys := t24) tab hk rfl rfl rfl rfl rfl rfl rfl f11 (Own.rd f31.now) q36 fun A37 c38 w33 o34 st35 f39 hc40 => ?_
  replace f31 := f31.st st35 (by decide)
  replace fg3 := fg3.st st35 (by decide)
  replace hs := hs.loc0 st35 (by decide)
  have hk := hk.put 14 (.slice A37 ((t4.2 ++ t24)).length c38) rfl
  refine x_run tab hk (k := 1) (lv := []) (ks := [2]) (e' := [(2, .slice A37 ((t4.2 ++ t24)).length c38)]) rfl trivial fun a hk => ?_
  refine wpListIn_nil ?_
  refine then_n ?_
  refine wpIn_ret ?_
  obtain rfl := Option.some.inj H
  exact x_retG hk (rs := [.tmp 2]) (vs := [.slice A37 ((t4.2 ++ t24)).length c38]) rfl ⟨rfl, trivial⟩ ⟨fun b_ => if b_ < w.heap.size then o b_ else (fun _ => R0) (o34 b_), A37, c38, rfl, hs.close0 o (fun _ => R0), hs.close_ft (o := o) (ρ := fun _ => R0) f39 (by decide) rfl, hc40⟩

/-! tidewrack/glyph.Encode -/
theorem glyph_Encode_calls (K : Nat) (Ap0 : Option Addr) (cp0 : Nat) (p0 : List Int) (w : World) (o : Nat → Nat) (Lp0 : Nat) (hp0 : Ft (RdC (encInt .i32) Ap0 p0) w o Lp0) (hcp0 : (p0).length ≤ cp0)  (r : ByteArray) (H : glyph_Encode K p0 = some r) :
    Calls Tryd.prog 13 #[.slice Ap0 (p0).length cp0] w (Ret fun v_ w' => ∃ o' : Nat → Nat, v_ = .string r ∧ St [] w o w' o') := by
  refine x_enter (vs := [.slice Ap0 (p0).length cp0]) Tryd.func13 rfl rfl rfl fun a hk => ?_
  obtain ⟨o0, hs, h0⟩ := St.start w o
  have f900000 := h0 _ _ hp0
  clear h0
  rw [glyph_Encode] at H
  refine x_seq ?_
  refine wpIn_region_lit ?_
  refine x_run tab hk (k := 1) (lv := []) (ks := [0]) (e' := [(0, .slice Ap0 (p0).length cp0)]) rfl trivial fun a hk => ?_
  refine wpListIn_nil ?_
  refine then_n ?_
  refine x_seq ?_
  refine wpIn_region_lit ?_
  refine x_run tab hk (k := 1) (lv := []) (ks := [0, 3]) (e' := [(0, .slice Ap0 (p0).length cp0), (3, .slice none 0 0)]) rfl trivial fun a hk => ?_
  refine wpListIn_nil ?_
  refine then_n ?_
  refine x_mid (fun a_ w_ => ∃ o262 : Nat → Nat, ∃ A263 : Option Addr, ∃ c264 : Nat, ∃ l265 : List Int, Kn 91 a_ [(3, .slice A263 (l265).length c264)] ∧ St [] w (fun _ => 0) w_ o262 ∧ Ft (Own (encInt .u8) 5 (.slice A263 (l265).length c264) l265) w_ o262 21 ∧ (l265).length ≤ c264 ∧ glyph_Encode_j1 l265 = some r) ?_ ?_
  rotate_left
  · rintro a w268 ⟨o262, A263, c264, l265, hk, hs, f266, hc267, H⟩
    rw [glyph_Encode_j1] at H
    refine x_seq ?_
    refine wpIn_region_lit ?_
    refine x_run tab hk (k := 3) (lv := [.string (strOfNums l265)]) (ks := [2]) (e' := [(2, .string (strOfNums l265))]) rfl ⟨(ask_str tab rfl rfl rfl rfl (Own.rd f266.now) (Own.plain f266.now _ _ _ rfl)), trivial⟩ fun a hk => ?_
    refine wpListIn_nil ?_
    refine then_n ?_
    refine wpIn_ret ?_
    obtain rfl := Option.some.inj H
    exact x_retG hk (rs := [.tmp 2]) (vs := [.string (strOfNums l265)]) rfl ⟨rfl, trivial⟩ ⟨fun b_ => if b_ < w.heap.size then o b_ else (fun _ => 0) (o262 b_), rfl, hs.close0 o (fun _ => 0)⟩
  refine x_seq ?_
  refine wpIn_region_lit ?_
  refine x_run tab hk (k := 3) (lv := []) (ks := [3, 6, 7, 8]) (e' := [(3, .slice none 0 0), (6, .slice Ap0 (p0).length cp0), (7, .int .i64 ((p0).length : Int)), (8, .int .i64 0)]) rfl trivial fun a hk => ?_
  refine wpListIn_nil ?_
  refine then_n ?_
  refine wpIn_block ?_
  refine x_loop (fun j_ a_ w_ => ∃ o351 : Nat → Nat, ∃ A352 : Option Addr, ∃ c353 : Nat, ∃ l354 : List Int, ∃ x357 : Int, Kn 91 a_ [(3, .slice A352 (l354).length c353), (6, .slice Ap0 (p0).length cp0), (7, .int .i64 ((p0).length : Int)), (8, .int .i64 x357)] ∧ St [] w (fun _ => 0) w_ o351 ∧ Ft (Own (encInt .u8) 5 (.slice A352 (l354).length c353) l354) w_ o351 30 ∧ Ft (RdC (encInt .i32) Ap0 p0) w_ o351 0 ∧ (l354).length ≤ c353 ∧ glyph_Encode_l2 p0 j_ l354 x357 = some r) (k := K) ⟨o0, none, 0, ([] : List Int), 0, (by exact Kn.pick (ks := [3, 6, 7, 8]) hk rfl), hs, (Ft.of_all (fun _ => Own.nil _ _ _) _ _ _), f900000, (by simp), H⟩ (by rintro _ _ ⟨_, _, _, _, _, _, _, _, _, _, H_⟩; exact absurd (show (none : Option ByteArray) = some r from H_) (by simp)) ?_
  rintro k438 a w437 ⟨o351, A352, c353, l354, x357, hk, hs, f355, f900000, hc356, H⟩
  rw [glyph_Encode_l2] at H
  obtain ⟨lp439, hlp440⟩ : ∃ lp_, lp_ = glyph_Encode_l2 p0 k438 := ⟨_, rfl⟩
  rw [← hlp440] at H
  refine x_seq ?_
  refine wpIn_region_lit ?_
  refine x_run tab hk (k := 1) (lv := []) (ks := [3, 6, 7, 8, 9]) (e' := [(3, .slice A352 (l354).length c353), (6, .slice Ap0 (p0).length cp0), (7, .int .i64 ((p0).length : Int)), (8, .int .i64 x357), (9, .bool (decide (x357 < ((p0).length : Int))))]) rfl trivial fun a hk => ?_
  refine wpListIn_nil ?_
  refine then_n ?_
  refine x_seq ?_
  cases b441 : (decide (x357 < ((p0).length : Int)))
  · rw [b441] at hk H
    replace H := bifF H
    refine x_if hk (b := false) rfl ?_
    refine (show Code.wpIn _ _ _ _ _ _ _ from ?_)
    refine wpIn_exit ?_
    refine then_x ?_
    refine then_x ?_
    refine blk_x ?_
    refine then_n ?_
    exact ⟨(fun b_ => (fun l_ => if l_ = 30 then 21 else l_) (o351 b_)), A352, c353, l354, (by exact Kn.pick (ks := [3]) hk rfl), (hs.relab0 (fun l_ => if l_ = 30 then 21 else l_) rfl), (f355.relab (fun l_ => if l_ = 30 then 21 else l_) rfl), hc356, H⟩
  · rw [b441] at hk H
    replace H := bifT H
    refine x_if hk (b := true) rfl ?_
    refine (show Code.wpIn _ _ _ _ _ _ _ from ?_)
    refine wpIn_skip ?_
    refine then_n ?_
    refine x_seq ?_
    refine wpIn_block ?_
    refine x_seq ?_
    refine wpIn_region_lit ?_
    obtain ⟨q442, H⟩ := ifS H
    obtain ⟨ad443, hAad443⟩ := RdC.addr f900000.now q442
    have hk_C := hk
    have f355_C := f355
    have f900000_C := f900000
    subst hAad443
    have hk := hk_C
    clear hk_C
    have f355 := f355_C
    clear f355_C
    have f900000 := f900000_C
    clear f900000_C
    refine x_run tab hk (k := 3) (lv := [.int .i32 (rdD 0 p0 x357)]) (ks := [3, 5, 6, 7, 8]) (e' := [(3, .slice A352 (l354).length c353), (5, .int .i32 (rdD 0 p0 x357)), (6, .slice (some ad443) (p0).length cp0), (7, .int .i64 ((p0).length : Int)), (8, .int .i64 x357)]) rfl ⟨q442, (load1 tab rfl (RdC.at0 (E := (encInt .i32)) (d := 0) (i := x357) f900000.now q442 rfl)), trivial⟩ fun a hk => ?_
    refine wpListIn_nil ?_
    refine then_n ?_
    refine x_mid (fun a_ w_ => ∃ o454 : Nat → Nat, ∃ x455 : Int, Kn 91 a_ [(3, .slice A352 (l354).length c353), (5, .int .i32 x455), (6, .slice (some ad443) (p0).length cp0), (7, .int .i64 ((p0).length : Int)), (8, .int .i64 x357)] ∧ St [] w (fun _ => 0) w_ o454 ∧ Ft (Own (encInt .u8) 5 (.slice A352 (l354).length c353) l354) w_ o454 36 ∧ Ft (RdC (encInt .i32) (some ad443) p0) w_ o454 0 ∧ glyph_Encode_j3 l354 x357 lp439 x455 = some r) ?_ ?_
    rotate_left
    · rintro a w456 ⟨o454, x455, hk, hs, f355, f900000, H⟩
      rw [glyph_Encode_j3] at H
      refine wpIn_block ?_
      refine x_seq ?_
      refine wpIn_region_lit ?_
      refine x_run tab hk (k := 3) (lv := []) (ks := [3, 5, 6, 7, 8, 47]) (e' := [(3, .slice A352 (l354).length c353), (5, .int .i32 x455), (6, .slice (some ad443) (p0).length cp0), (7, .int .i64 ((p0).length : Int)), (8, .int .i64 x357), (47, .bool (decide (x455 < (128 : Int))))]) rfl trivial fun a hk => ?_
      refine wpListIn_nil ?_
      refine then_n ?_
      cases b457 : (decide (x455 < (128 : Int)))
      · rw [b457] at hk H
        replace H := bifF H
        refine x_if hk (b := false) rfl ?_
        refine (show Code.wpIn _ _ _ _ _ _ _ from ?_)
        refine x_seq ?_
        refine wpIn_region_lit ?_
        refine x_run tab hk (k := 3) (lv := []) (ks := [3, 5, 6, 7, 8, 55]) (e' := [(3, .slice A352 (l354).length c353), (5, .int .i32 x455), (6, .slice (some ad443) (p0).length cp0), (7, .int .i64 ((p0).length : Int)), (8, .int .i64 x357), (55, .bool (decide (x455 < (2048 : Int))))]) rfl trivial fun a hk => ?_
        refine wpListIn_nil ?_
        refine then_n ?_
        cases b458 : (decide (x455 < (2048 : Int)))
        · rw [b458] at hk H
          replace H := bifF H
          refine x_if hk (b := false) rfl ?_
          refine (show Code.wpIn _ _ _ _ _ _ _ from ?_)
          refine x_seq ?_
          refine wpIn_region_lit ?_
          refine x_run tab hk (k := 3) (lv := []) (ks := [3, 5, 6, 7, 8, 69]) (e' := [(3, .slice A352 (l354).length c353), (5, .int .i32 x455), (6, .slice (some ad443) (p0).length cp0), (7, .int .i64 ((p0).length : Int)), (8, .int .i64 x357), (69, .bool (decide (x455 < (65536 : Int))))]) rfl trivial fun a hk => ?_
          refine wpListIn_nil ?_
          refine then_n ?_
          cases b459 : (decide (x455 < (65536 : Int)))
          · rw [b459] at hk H
            replace H := bifF H
            refine x_if hk (b := false) rfl ?_
            refine (show Code.wpIn _ _ _ _ _ _ _ from ?_)
            refine wpIn_region_lit ?_
            refine x_run tab hk (k := 10) (lv := []) (ks := [5, 6, 7, 8, 26, 30, 35]) (e' := [(5, .int .i32 x455), (6, .slice (some ad443) (p0).length cp0), (7, .int .i64 ((p0).length : Int)), (8, .int .i64 x357), (26, .slice A352 (l354).length c353), (30, .int .u8 (IntKind.wrap .u8 (bits .or .i32 240 (Int.fdiv x455 (2 ^ min (Int.toNat 18) 32))))), (35, .int .u8 (IntKind.wrap .u8 (bits .or .i32 128 (bits .and .i32 (Int.fdiv x455 (2 ^ min (Int.toNat 12) 32)) 63))))]) rfl ⟨(show 0 ≤ (18 : Int) from by decide), (show 0 ≤ (12 : Int) from by decide), trivial⟩ fun a hk => ?_
            refine x_run tab hk (k := 9) (lv := []) (ks := [6, 7, 8, 26, 30, 35, 40, 44]) (e' := [(6, .slice (some ad443) (p0).length cp0), (7, .int .i64 ((p0).length : Int)), (8, .int .i64 x357), (26, .slice A352 (l354).length c353), (30, .int .u8 (IntKind.wrap .u8 (bits .or .i32 240 (Int.fdiv x455 (2 ^ min (Int.toNat 18) 32))))), (35, .int .u8 (IntKind.wrap .u8 (bits .or .i32 128 (bits .and .i32 (Int.fdiv x455 (2 ^ min (Int.toNat 12) 32)) 63)))), (40, .int .u8 (IntKind.wrap .u8 (bits .or .i32 128 (bits .and .i32 (Int.fdiv x455 (2 ^ min (Int.toNat 6) 32)) 63)))), (44, .int .u8 (IntKind.wrap .u8 (bits .or .i32 128 (bits .and .i32 x455 63))))]) rfl ⟨(show 0 ≤ (6 : Int) from by decide), trivial⟩ fun a hk => ?_
            refine x_op hk rfl ?_
            refine op_slice (o := o454) tab hk (vs := [.int .u8 (IntKind.wrap .u8 (bits .or .i32 240 (Int.fdiv x455 (2 ^ min (Int.toNat 18) 32)))), .int .u8 (IntKind.wrap .u8 (bits .or .i32 128 (bits .and .i32 (Int.fdiv x455 (2 ^ min (Int.toNat 12) 32)) 63))), .int .u8 (IntKind.wrap .u8 (bits .or .i32 128 (bits .and .i32 (Int.fdiv x455 (2 ^ min (Int.toNat 6) 32)) 63))), .int .u8 (IntKind.wrap .u8 (bits .or .i32 128 (bits .and .i32 x455 63)))]) (cs := [.int .u8 (IntKind.wrap .u8 (bits .or .i32 240 (Int.fdiv x455 (2 ^ min (Int.toNat 18) 32)))), .int .u8 (IntKind.wrap .u8 (bits .or .i32 128 (bits .and .i32 (Int.fdiv x455 (2 ^ min (Int.toNat 12) 32)) 63))), .int .u8 (IntKind.wrap .u8 (bits .or .i32 128 (bits .and .i32 (Int.fdiv x455 (2 ^ min (Int.toNat 6) 32)) 63))), .int .u8 (IntKind.wrap .u8 (bits .or .i32 128 (bits .and .i32 x455 63)))]) rfl rfl rfl rfl rfl rfl rfl rfl rfl 37 fun bx463 w460 o461 st462 f464 => ?_
            replace f355 := f355.st st462 (by decide)
            replace f900000 := f900000.st st462 (by decide)
            replace hs := hs.loc0 st462 (by decide)
            have f465 : Ft (Own (encInt .u8) 5 (.slice (some ⟨bx463, 0, none⟩) (([(IntKind.wrap .u8 (bits .or .i32 240 (Int.fdiv x455 (2 ^ min (Int.toNat 18) 32)))), (IntKind.wrap .u8 (bits .or .i32 128 (bits .and .i32 (Int.fdiv x455 (2 ^ min (Int.toNat 12) 32)) 63))), (IntKind.wrap .u8 (bits .or .i32 128 (bits .and .i32 (Int.fdiv x455 (2 ^ min (Int.toNat 6) 32)) 63))), (IntKind.wrap .u8 (bits .or .i32 128 (bits .and .i32 x455 63)))] : List Int)).length 4) ([(IntKind.wrap .u8 (bits .or .i32 240 (Int.fdiv x455 (2 ^ min (Int.toNat 18) 32)))), (IntKind.wrap .u8 (bits .or .i32 128 (bits .and .i32 (Int.fdiv x455 (2 ^ min (Int.toNat 12) 32)) 63))), (IntKind.wrap .u8 (bits .or .i32 128 (bits .and .i32 (Int.fdiv x455 (2 ^ min (Int.toNat 6) 32)) 63))), (IntKind.wrap .u8 (bits .or .i32 128 (bits .and .i32 x455 63)))] : List Int)) w460 o461 37 := f464.imp fun _ h_ => Own.of_box h_ rfl (by simp)
            have hk := hk.put 45 (.slice (some ⟨bx463, 0, none⟩) (([(IntKind.wrap .u8 (bits .or .i32 240 (Int.fdiv x455 (2 ^ min (Int.toNat 18) 32)))), (IntKind.wrap .u8 (bits .or .i32 128 (bits .and .i32 (Int.fdiv x455 (2 ^ min (Int.toNat 12) 32)) 63))), (IntKind.wrap .u8 (bits .or .i32 128 (bits .and .i32 (Int.fdiv x455 (2 ^ min (Int.toNat 6) 32)) 63))), (IntKind.wrap .u8 (bits .or .i32 128 (bits .and .i32 x455 63)))] : List Int)).length 4) rfl
            refine x_op hk rfl ?_
            obtain ⟨q469, H⟩ := ifS H
            refine op_append (o := o461) (E := (encInt .u8)) (xs := l354) (ys := ([(IntKind.wrap .u8 (bits .or .i32 240 (Int.fdiv x455 (2 ^ min (Int.toNat 18) 32)))), (IntKind.wrap .u8 (bits .or .i32 128 (bits .and .i32 (Int.fdiv x455 (2 ^ min (Int.toNat 12) 32)) 63))), (IntKind.wrap .u8 (bits .or .i32 128 (bits .and .i32 (Int.fdiv x455 (2 ^ min (Int.toNat 6) 32)) 63))), (IntKind.wrap .u8 (bits .or .i32 128 (bits .and .i32 x455 63)))] : List Int)) tab hk rfl rfl rfl rfl rfl rfl rfl f355 (Own.rd f465.now) q469 fun A470 c471 w466 o467 st468 f472 hc473 => ?_
            replace f465 := f465.st st468 (by decide)
            replace f900000 := f900000.st st468 (by decide)
            replace hs := hs.loc0 st468 (by decide)
            have hk := hk.put 46 (.slice A470 ((l354 ++ ([(IntKind.wrap .u8 (bits .or .i32 240 (Int.fdiv x455 (2 ^ min (Int.toNat 18) 32)))), (IntKind.wrap .u8 (bits .or .i32 128 (bits .and .i32 (Int.fdiv x455 (2 ^ min (Int.toNat 12) 32)) 63))), (IntKind.wrap .u8 (bits .or .i32 128 (bits .and .i32 (Int.fdiv x455 (2 ^ min (Int.toNat 6) 32)) 63))), (IntKind.wrap .u8 (bits .or .i32 128 (bits .and .i32 x455 63)))] : List Int))).length c471) rfl
            refine x_run tab hk (k := 1) (lv := []) (ks := [3, 6, 7, 8]) (e' := [(3, .slice A470 ((l354 ++ ([(IntKind.wrap .u8 (bits .or .i32 240 (Int.fdiv x455 (2 ^ min (Int.toNat 18) 32)))), (IntKind.wrap .u8 (bits .or .i32 128 (bits .and .i32 (Int.fdiv x455 (2 ^ min (Int.toNat 12) 32)) 63))), (IntKind.wrap .u8 (bits .or .i32 128 (bits .and .i32 (Int.fdiv x455 (2 ^ min (Int.toNat 6) 32)) 63))), (IntKind.wrap .u8 (bits .or .i32 128 (bits .and .i32 x455 63)))] : List Int))).length c471), (6, .slice (some ad443) (p0).length cp0), (7, .int .i64 ((p0).length : Int)), (8, .int .i64 x357)]) rfl trivial fun a hk => ?_
            refine wpListIn_nil ?_
            refine blk_n ?_
            refine blk_n ?_
            refine then_n ?_
            refine wpIn_region_lit ?_
            refine x_run tab hk (k := 2) (lv := []) (ks := [3, 6, 7, 8]) (e' := [(3, .slice A470 ((l354 ++ ([(IntKind.wrap .u8 (bits .or .i32 240 (Int.fdiv x455 (2 ^ min (Int.toNat 18) 32)))), (IntKind.wrap .u8 (bits .or .i32 128 (bits .and .i32 (Int.fdiv x455 (2 ^ min (Int.toNat 12) 32)) 63))), (IntKind.wrap .u8 (bits .or .i32 128 (bits .and .i32 (Int.fdiv x455 (2 ^ min (Int.toNat 6) 32)) 63))), (IntKind.wrap .u8 (bits .or .i32 128 (bits .and .i32 x455 63)))] : List Int))).length c471), (6, .slice (some ad443) (p0).length cp0), (7, .int .i64 ((p0).length : Int)), (8, .int .i64 (IntKind.wrap .i64 (x357 + 1)))]) rfl trivial fun a hk => ?_
            refine wpListIn_nil ?_
            refine then_n ?_
            exact ⟨k438, Nat.le_refl _, (fun b_ => (fun l_ => if l_ = 36 then 30 else l_) (o467 b_)), A470, c471, (l354 ++ ([(IntKind.wrap .u8 (bits .or .i32 240 (Int.fdiv x455 (2 ^ min (Int.toNat 18) 32)))), (IntKind.wrap .u8 (bits .or .i32 128 (bits .and .i32 (Int.fdiv x455 (2 ^ min (Int.toNat 12) 32)) 63))), (IntKind.wrap .u8 (bits .or .i32 128 (bits .and .i32 (Int.fdiv x455 (2 ^ min (Int.toNat 6) 32)) 63))), (IntKind.wrap .u8 (bits .or .i32 128 (bits .and .i32 x455 63)))] : List Int)), (IntKind.wrap .i64 (x357 + 1)), (by exact Kn.pick (ks := [3, 6, 7, 8]) hk rfl), (hs.relab0 (fun l_ => if l_ = 36 then 30 else l_) rfl), (f472.relab (fun l_ => if l_ = 36 then 30 else l_) rfl), (f900000.relab (fun l_ => if l_ = 36 then 30 else l_) rfl), hc473, (hlp440 ▸ H)⟩
          · rw [b459] at hk H
            replace H := bifT H
            refine x_if hk (b := true) rfl ?_
            refine (show Code.wpIn _ _ _ _ _ _ _ from ?_)
            refine wpIn_region_lit ?_
            refine x_run tab hk (k := 10) (lv := []) (ks := [5, 6, 7, 8, 72, 76, 81]) (e' := [(5, .int .i32 x455), (6, .slice (some ad443) (p0).length cp0), (7, .int .i64 ((p0).length : Int)), (8, .int .i64 x357), (72, .slice A352 (l354).length c353), (76, .int .u8 (IntKind.wrap .u8 (bits .or .i32 224 (Int.fdiv x455 (2 ^ min (Int.toNat 12) 32))))), (81, .int .u8 (IntKind.wrap .u8 (bits .or .i32 128 (bits .and .i32 (Int.fdiv x455 (2 ^ min (Int.toNat 6) 32)) 63))))]) rfl ⟨(show 0 ≤ (12 : Int) from by decide), (show 0 ≤ (6 : Int) from by decide), trivial⟩ fun a hk => ?_
            refine x_run tab hk (k := 4) (lv := []) (ks := [6, 7, 8, 72, 76, 81, 85]) (e' := [(6, .slice (some ad443) (p0).length cp0), (7, .int .i64 ((p0).length : Int)), (8, .int .i64 x357), (72, .slice A352 (l354).length c353), (76, .int .u8 (IntKind.wrap .u8 (bits .or .i32 224 (Int.fdiv x455 (2 ^ min (Int.toNat 12) 32))))), (81, .int .u8 (IntKind.wrap .u8 (bits .or .i32 128 (bits .and .i32 (Int.fdiv x455 (2 ^ min (Int.toNat 6) 32)) 63)))), (85, .int .u8 (IntKind.wrap .u8 (bits .or .i32 128 (bits .and .i32 x455 63))))]) rfl trivial fun a hk => ?_
            refine x_op hk rfl ?_
            refine op_slice (o := o454) tab hk (vs := [.int .u8 (IntKind.wrap .u8 (bits .or .i32 224 (Int.fdiv x455 (2 ^ min (Int.toNat 12) 32)))), .int .u8 (IntKind.wrap .u8 (bits .or .i32 128 (bits .and .i32 (Int.fdiv x455 (2 ^ min (Int.toNat 6) 32)) 63))), .int .u8 (IntKind.wrap .u8 (bits .or .i32 128 (bits .and .i32 x455 63)))]) (cs := [.int .u8 (IntKind.wrap .u8 (bits .or .i32 224 (Int.fdiv x455 (2 ^ min (Int.toNat 12) 32)))), .int .u8 (IntKind.wrap .u8 (bits .or .i32 128 (bits .and .i32 (Int.fdiv x455 (2 ^ min (Int.toNat 6) 32)) 63))), .int .u8 (IntKind.wrap .u8 (bits .or .i32 128 (bits .and .i32 x455 63)))]) rfl rfl rfl rfl rfl rfl rfl rfl rfl 38 fun bx477 w474 o475 st476 f478 => ?_
            replace f355 := f355.st st476 (by decide)
            replace f900000 := f900000.st st476 (by decide)
            replace hs := hs.loc0 st476 (by decide)
            have f479 : Ft (Own (encInt .u8) 5 (.slice (some ⟨bx477, 0, none⟩) (([(IntKind.wrap .u8 (bits .or .i32 224 (Int.fdiv x455 (2 ^ min (Int.toNat 12) 32)))), (IntKind.wrap .u8 (bits .or .i32 128 (bits .and .i32 (Int.fdiv x455 (2 ^ min (Int.toNat 6) 32)) 63))), (IntKind.wrap .u8 (bits .or .i32 128 (bits .and .i32 x455 63)))] : List Int)).length 3) ([(IntKind.wrap .u8 (bits .or .i32 224 (Int.fdiv x455 (2 ^ min (Int.toNat 12) 32)))), (IntKind.wrap .u8 (bits .or .i32 128 (bits .and .i32 (Int.fdiv x455 (2 ^ min (Int.toNat 6) 32)) 63))), (IntKind.wrap .u8 (bits .or .i32 128 (bits .and .i32 x455 63)))] : List Int)) w474 o475 38 := f478.imp fun _ h_ => Own.of_box h_ rfl (by simp)
            have hk := hk.put 86 (.slice (some ⟨bx477, 0, none⟩) (([(IntKind.wrap .u8 (bits .or .i32 224 (Int.fdiv x455 (2 ^ min (Int.toNat 12) 32)))), (IntKind.wrap .u8 (bits .or .i32 128 (bits .and .i32 (Int.fdiv x455 (2 ^ min (Int.toNat 6) 32)) 63))), (IntKind.wrap .u8 (bits .or .i32 128 (bits .and .i32 x455 63)))] : List Int)).length 3) rfl
            refine x_op hk rfl ?_
            obtain ⟨q483, H⟩ := ifS H
            refine op_append (o := o475) (E := (encInt .u8)) (xs := l354) (ys := ([(IntKind.wrap .u8 (bits .or .i32 224 (Int.fdiv x455 (2 ^ min (Int.toNat 12) 32)))), (IntKind.wrap .u8 (bits .or .i32 128 (bits .and .i32 (Int.fdiv x455 (2 ^ min (Int.toNat 6) 32)) 63))), (IntKind.wrap .u8 (bits .or .i32 128 (bits .and .i32 x455 63)))] : List Int)) tab hk rfl rfl rfl rfl rfl rfl rfl f355 (Own.rd f479.now) q483 fun A484 c485 w480 o481 st482 f486 hc487 => ?_
            replace f479 := f479.st st482 (by decide)
            replace f900000 := f900000.st st482 (by decide)
            replace hs := hs.loc0 st482 (by decide)
            have hk := hk.put 87 (.slice A484 ((l354 ++ ([(IntKind.wrap .u8 (bits .or .i32 224 (Int.fdiv x455 (2 ^ min (Int.toNat 12) 32)))), (IntKind.wrap .u8 (bits .or .i32 128 (bits .and .i32 (Int.fdiv x455 (2 ^ min (Int.toNat 6) 32)) 63))), (IntKind.wrap .u8 (bits .or .i32 128 (bits .and .i32 x455 63)))] : List Int))).length c485) rfl
            refine x_run tab hk (k := 1) (lv := []) (ks := [3, 6, 7, 8]) (e' := [(3, .slice A484 ((l354 ++ ([(IntKind.wrap .u8 (bits .or .i32 224 (Int.fdiv x455 (2 ^ min (Int.toNat 12) 32)))), (IntKind.wrap .u8 (bits .or .i32 128 (bits .and .i32 (Int.fdiv x455 (2 ^ min (Int.toNat 6) 32)) 63))), (IntKind.wrap .u8 (bits .or .i32 128 (bits .and .i32 x455 63)))] : List Int))).length c485), (6, .slice (some ad443) (p0).length cp0), (7, .int .i64 ((p0).length : Int)), (8, .int .i64 x357)]) rfl trivial fun a hk => ?_
            refine wpListIn_nil ?_
            refine blk_n ?_
            refine blk_n ?_
            refine then_n ?_
            refine wpIn_region_lit ?_
            refine x_run tab hk (k := 2) (lv := []) (ks := [3, 6, 7, 8]) (e' := [(3, .slice A484 ((l354 ++ ([(IntKind.wrap .u8 (bits .or .i32 224 (Int.fdiv x455 (2 ^ min (Int.toNat 12) 32)))), (IntKind.wrap .u8 (bits .or .i32 128 (bits .and .i32 (Int.fdiv x455 (2 ^ min (Int.toNat 6) 32)) 63))), (IntKind.wrap .u8 (bits .or .i32 128 (bits .and .i32 x455 63)))] : List Int))).length c485), (6, .slice (some ad443) (p0).length cp0), (7, .int .i64 ((p0).length : Int)), (8, .int .i64 (IntKind.wrap .i64 (x357 + 1)))]) rfl trivial fun a hk => ?_
            refine wpListIn_nil ?_
            refine then_n ?_
            exact ⟨k438, Nat.le_refl _, (fun b_ => (fun l_ => if l_ = 36 then 30 else l_) (o481 b_)), A484, c485, (l354 ++ ([(IntKind.wrap .u8 (bits .or .i32 224 (Int.fdiv x455 (2 ^ min (Int.toNat 12) 32)))), (IntKind.wrap .u8 (bits .or .i32 128 (bits .and .i32 (Int.fdiv x455 (2 ^ min (Int.toNat 6) 32)) 63))), (IntKind.wrap .u8 (bits .or .i32 128 (bits .and .i32 x455 63)))] : List Int)), (IntKind.wrap .i64 (x357 + 1)), (by exact Kn.pick (ks := [3, 6, 7, 8]) hk rfl), (hs.relab0 (fun l_ => if l_ = 36 then 30 else l_) rfl), (f486.relab (fun l_ => if l_ = 36 then 30 else l_) rfl), (f900000.relab (fun l_ => if l_ = 36 then 30 else l_) rfl), hc487, (hlp440 ▸ H)⟩
        · rw [b458] at hk H
          replace H := bifT H
          refine x_if hk (b := true) rfl ?_
          refine (show Code.wpIn _ _ _ _ _ _ _ from ?_)
          refine wpIn_region_lit ?_
          refine x_run tab hk (k := 9) (lv := []) (ks := [6, 7, 8, 58, 62, 66]) (e' := [(6, .slice (some ad443) (p0).length cp0), (7, .int .i64 ((p0).length : Int)), (8, .int .i64 x357), (58, .slice A352 (l354).length c353), (62, .int .u8 (IntKind.wrap .u8 (bits .or .i32 192 (Int.fdiv x455 (2 ^ min (Int.toNat 6) 32))))), (66, .int .u8 (IntKind.wrap .u8 (bits .or .i32 128 (bits .and .i32 x455 63))))]) rfl ⟨(show 0 ≤ (6 : Int) from by decide), trivial⟩ fun a hk => ?_
          refine x_op hk rfl ?_
          refine op_slice (o := o454) tab hk (vs := [.int .u8 (IntKind.wrap .u8 (bits .or .i32 192 (Int.fdiv x455 (2 ^ min (Int.toNat 6) 32)))), .int .u8 (IntKind.wrap .u8 (bits .or .i32 128 (bits .and .i32 x455 63)))]) (cs := [.int .u8 (IntKind.wrap .u8 (bits .or .i32 192 (Int.fdiv x455 (2 ^ min (Int.toNat 6) 32)))), .int .u8 (IntKind.wrap .u8 (bits .or .i32 128 (bits .and .i32 x455 63)))]) rfl rfl rfl rfl rfl rfl rfl rfl rfl 39 fun bx491 w488 o489 st490 f492 => ?_
          replace f355 := f355.st st490 (by decide)
          replace f900000 := f900000.st st490 (by decide)
          replace hs := hs.loc0 st490 (by decide)
          have f493 : Ft (Own (encInt .u8) 5 (.slice (some ⟨bx491, 0, none⟩) (([(IntKind.wrap .u8 (bits .or .i32 192 (Int.fdiv x455 (2 ^ min (Int.toNat 6) 32)))), (IntKind.wrap .u8 (bits .or .i32 128 (bits .and .i32 x455 63)))] : List Int)).length 2) ([(IntKind.wrap .u8 (bits .or .i32 192 (Int.fdiv x455 (2 ^ min (Int.toNat 6) 32)))), (IntKind.wrap .u8 (bits .or .i32 128 (bits .and .i32 x455 63)))] : List Int)) w488 o489 39 := f492.imp fun _ h_ => Own.of_box h_ rfl (by simp)
          have hk := hk.put 67 (.slice (some ⟨bx491, 0, none⟩) (([(IntKind.wrap .u8 (bits .or .i32 192 (Int.fdiv x455 (2 ^ min (Int.toNat 6) 32)))), (IntKind.wrap .u8 (bits .or .i32 128 (bits .and .i32 x455 63)))] : List Int)).length 2) rfl
          refine x_op hk rfl ?_
          obtain ⟨q497, H⟩ := ifS H
          refine op_append (o := o489) (E := (encInt .u8)) (xs := l354) (ys := ([(IntKind.wrap .u8 (bits .or .i32 192 (Int.fdiv x455 (2 ^ min (Int.toNat 6) 32)))), (IntKind.wrap .u8 (bits .or .i32 128 (bits .and .i32 x455 63)))] : List Int)) tab hk rfl rfl rfl rfl rfl rfl rfl f355 (Own.rd f493.now) q497 fun A498 c499 w494 o495 st496 f500 hc501 => ?_
          replace f493 := f493.st st496 (by decide)
          replace f900000 := f900000.st st496 (by decide)
          replace hs := hs.loc0 st496 (by decide)
          have hk := hk.put 68 (.slice A498 ((l354 ++ ([(IntKind.wrap .u8 (bits .or .i32 192 (Int.fdiv x455 (2 ^ min (Int.toNat 6) 32)))), (IntKind.wrap .u8 (bits .or .i32 128 (bits .and .i32 x455 63)))] : List Int))).length c499) rfl
          refine x_run tab hk (k := 1) (lv := []) (ks := [3, 6, 7, 8]) (e' := [(3, .slice A498 ((l354 ++ ([(IntKind.wrap .u8 (bits .or .i32 192 (Int.fdiv x455 (2 ^ min (Int.toNat 6) 32)))), (IntKind.wrap .u8 (bits .or .i32 128 (bits .and .i32 x455 63)))] : List Int))).length c499), (6, .slice (some ad443) (p0).length cp0), (7, .int .i64 ((p0).length : Int)), (8, .int .i64 x357)]) rfl trivial fun a hk => ?_
          refine wpListIn_nil ?_
          refine blk_n ?_
          refine blk_n ?_
          refine then_n ?_
          refine wpIn_region_lit ?_
          refine x_run tab hk (k := 2) (lv := []) (ks := [3, 6, 7, 8]) (e' := [(3, .slice A498 ((l354 ++ ([(IntKind.wrap .u8 (bits .or .i32 192 (Int.fdiv x455 (2 ^ min (Int.toNat 6) 32)))), (IntKind.wrap .u8 (bits .or .i32 128 (bits .and .i32 x455 63)))] : List Int))).length c499), (6, .slice (some ad443) (p0).length cp0), (7, .int .i64 ((p0).length : Int)), (8, .int .i64 (IntKind.wrap .i64 (x357 + 1)))]) rfl trivial fun a hk => ?_
          refine wpListIn_nil ?_
          refine then_n ?_
          exact ⟨k438, Nat.le_refl _, (fun b_ => (fun l_ => if l_ = 36 then 30 else l_) (o495 b_)), A498, c499, (l354 ++ ([(IntKind.wrap .u8 (bits .or .i32 192 (Int.fdiv x455 (2 ^ min (Int.toNat 6) 32)))), (IntKind.wrap .u8 (bits .or .i32 128 (bits .and .i32 x455 63)))] : List Int)), (IntKind.wrap .i64 (x357 + 1)), (by exact Kn.pick (ks := [3, 6, 7, 8]) hk rfl), (hs.relab0 (fun l_ => if l_ = 36 then 30 else l_) rfl), (f500.relab (fun l_ => if l_ = 36 then 30 else l_) rfl), (f900000.relab (fun l_ => if l_ = 36 then 30 else l_) rfl), hc501, (hlp440 ▸ H)⟩
      · rw [b457] at hk H
        replace H := bifT H
        refine x_if hk (b := true) rfl ?_
        refine (show Code.wpIn _ _ _ _ _ _ _ from ?_)
        refine wpIn_region_lit ?_
        refine x_run tab hk (k := 3) (lv := []) (ks := [6, 7, 8, 50, 52]) (e' := [(6, .slice (some ad443) (p0).length cp0), (7, .int .i64 ((p0).length : Int)), (8, .int .i64 x357), (50, .slice A352 (l354).length c353), (52, .int .u8 (IntKind.wrap .u8 x455))]) rfl trivial fun a hk => ?_
        refine x_op hk rfl ?_
        refine op_slice (o := o454) tab hk (vs := [.int .u8 (IntKind.wrap .u8 x455)]) (cs := [.int .u8 (IntKind.wrap .u8 x455)]) rfl rfl rfl rfl rfl rfl rfl rfl rfl 40 fun bx505 w502 o503 st504 f506 => ?_
        replace f355 := f355.st st504 (by decide)
        replace f900000 := f900000.st st504 (by decide)
        replace hs := hs.loc0 st504 (by decide)
        have f507 : Ft (Own (encInt .u8) 5 (.slice (some ⟨bx505, 0, none⟩) (([(IntKind.wrap .u8 x455)] : List Int)).length 1) ([(IntKind.wrap .u8 x455)] : List Int)) w502 o503 40 := f506.imp fun _ h_ => Own.of_box h_ rfl (by simp)
        have hk := hk.put 53 (.slice (some ⟨bx505, 0, none⟩) (([(IntKind.wrap .u8 x455)] : List Int)).length 1) rfl
        refine x_op hk rfl ?_
        obtain ⟨q511, H⟩ := ifS H
        refine op_append (o := o503) (E := (encInt .u8)) (xs := l354) (ys := ([(IntKind.wrap .u8 x455)] : List Int)) tab hk rfl rfl rfl rfl rfl rfl rfl f355 (Own.rd f507.now) q511 fun A512 c513 w508 o509 st510 f514 hc515 => ?_
        replace f507 := f507.st st510 (by decide)
        replace f900000 := f900000.st st510 (by decide)
        replace hs := hs.loc0 st510 (by decide)
        have hk := hk.put 54 (.slice A512 ((l354 ++ ([(IntKind.wrap .u8 x455)] : List Int))).length c513) rfl
        refine x_run tab hk (k := 1) (lv := []) (ks := [3, 6, 7, 8]) (e' := [(3, .slice A512 ((l354 ++ ([(IntKind.wrap .u8 x455)] : List Int))).length c513), (6, .slice (some ad443) (p0).length cp0), (7, .int .i64 ((p0).length : Int)), (8, .int .i64 x357)]) rfl trivial fun a hk => ?_
        refine wpListIn_nil ?_
        refine blk_n ?_
        refine blk_n ?_
        refine then_n ?_
        refine wpIn_region_lit ?_
        refine x_run tab hk (k := 2) (lv := []) (ks := [3, 6, 7, 8]) (e' := [(3, .slice A512 ((l354 ++ ([(IntKind.wrap .u8 x455)] : List Int))).length c513), (6, .slice (some ad443) (p0).length cp0), (7, .int .i64 ((p0).length : Int)), (8, .int .i64 (IntKind.wrap .i64 (x357 + 1)))]) rfl trivial fun a hk => ?_
        refine wpListIn_nil ?_
        refine then_n ?_
        exact ⟨k438, Nat.le_refl _, (fun b_ => (fun l_ => if l_ = 36 then 30 else l_) (o509 b_)), A512, c513, (l354 ++ ([(IntKind.wrap .u8 x455)] : List Int)), (IntKind.wrap .i64 (x357 + 1)), (by exact Kn.pick (ks := [3, 6, 7, 8]) hk rfl), (hs.relab0 (fun l_ => if l_ = 36 then 30 else l_) rfl), (f514.relab (fun l_ => if l_ = 36 then 30 else l_) rfl), (f900000.relab (fun l_ => if l_ = 36 then 30 else l_) rfl), hc515, (hlp440 ▸ H)⟩
    refine x_seq ?_
    refine wpIn_region_lit ?_
    refine x_run tab hk (k := 3) (lv := []) (ks := [3, 5, 6, 7, 8, 14]) (e' := [(3, .slice A352 (l354).length c353), (5, .int .i32 (rdD 0 p0 x357)), (6, .slice (some ad443) (p0).length cp0), (7, .int .i64 ((p0).length : Int)), (8, .int .i64 x357), (14, .bool (decide ((rdD 0 p0 x357) < (0 : Int))))]) rfl trivial fun a hk => ?_
    cases b516 : (decide ((rdD 0 p0 x357) < (0 : Int)))
    · rw [b516] at hk H
      replace H := bifF H
      refine x_run tab hk (k := 4) (lv := []) (ks := [3, 5, 6, 7, 8, 18]) (e' := [(3, .slice A352 (l354).length c353), (5, .int .i32 (rdD 0 p0 x357)), (6, .slice (some ad443) (p0).length cp0), (7, .int .i64 ((p0).length : Int)), (8, .int .i64 x357), (18, .bool (decide ((rdD 0 p0 x357) > (1114111 : Int))))]) rfl trivial fun a hk => ?_
      cases b517 : (decide ((rdD 0 p0 x357) > (1114111 : Int)))
      · rw [b517] at hk H
        replace H := bifF H
        refine x_run tab hk (k := 3) (lv := []) (ks := [3, 5, 6, 7, 8, 18, 21]) (e' := [(3, .slice A352 (l354).length c353), (5, .int .i32 (rdD 0 p0 x357)), (6, .slice (some ad443) (p0).length cp0), (7, .int .i64 ((p0).length : Int)), (8, .int .i64 x357), (18, .bool false), (21, .bool (decide ((rdD 0 p0 x357) ≥ (55296 : Int))))]) rfl trivial fun a hk => ?_
        cases b518 : (decide ((rdD 0 p0 x357) ≥ (55296 : Int)))
        · rw [b518] at hk H
          replace H := bifF H
          refine x_run tab hk (k := 4) (lv := []) (ks := [3, 5, 6, 7, 8, 25]) (e' := [(3, .slice A352 (l354).length c353), (5, .int .i32 (rdD 0 p0 x357)), (6, .slice (some ad443) (p0).length cp0), (7, .int .i64 ((p0).length : Int)), (8, .int .i64 x357), (25, .bool false)]) rfl trivial fun a hk => ?_
          refine wpListIn_nil ?_
          refine then_n ?_
          refine x_if hk (b := false) rfl ?_
          refine (show Code.wpIn _ _ _ _ _ _ _ from ?_)
          refine wpIn_skip ?_
          refine then_n ?_
          exact ⟨(fun b_ => (fun l_ => if l_ = 30 then 36 else l_) (o351 b_)), (rdD 0 p0 x357), (by exact Kn.pick (ks := [3, 5, 6, 7, 8]) hk rfl), (hs.relab0 (fun l_ => if l_ = 30 then 36 else l_) rfl), (f355.relab (fun l_ => if l_ = 30 then 36 else l_) rfl), (f900000.relab (fun l_ => if l_ = 30 then 36 else l_) rfl), H⟩
        · rw [b518] at hk H
          replace H := bifT H
          refine x_run tab hk (k := 4) (lv := []) (ks := [3, 5, 6, 7, 8, 25]) (e' := [(3, .slice A352 (l354).length c353), (5, .int .i32 (rdD 0 p0 x357)), (6, .slice (some ad443) (p0).length cp0), (7, .int .i64 ((p0).length : Int)), (8, .int .i64 x357), (25, .bool (decide ((rdD 0 p0 x357) ≤ (57343 : Int))))]) rfl trivial fun a hk => ?_
          refine wpListIn_nil ?_
          refine then_n ?_
          cases b519 : (decide ((rdD 0 p0 x357) ≤ (57343 : Int)))
          · rw [b519] at hk H
            replace H := bifF H
            refine x_if hk (b := false) rfl ?_
            refine (show Code.wpIn _ _ _ _ _ _ _ from ?_)
            refine wpIn_skip ?_
            refine then_n ?_
            exact ⟨(fun b_ => (fun l_ => if l_ = 30 then 36 else l_) (o351 b_)), (rdD 0 p0 x357), (by exact Kn.pick (ks := [3, 5, 6, 7, 8]) hk rfl), (hs.relab0 (fun l_ => if l_ = 30 then 36 else l_) rfl), (f355.relab (fun l_ => if l_ = 30 then 36 else l_) rfl), (f900000.relab (fun l_ => if l_ = 30 then 36 else l_) rfl), H⟩
          · rw [b519] at hk H
            replace H := bifT H
            refine x_if hk (b := true) rfl ?_
            refine (show Code.wpIn _ _ _ _ _ _ _ from ?_)
            refine wpIn_region_lit ?_
            refine x_run tab hk (k := 1) (lv := []) (ks := [3, 5, 6, 7, 8]) (e' := [(3, .slice A352 (l354).length c353), (5, .int .i32 65533), (6, .slice (some ad443) (p0).length cp0), (7, .int .i64 ((p0).length : Int)), (8, .int .i64 x357)]) rfl trivial fun a hk => ?_
            refine wpListIn_nil ?_
            refine then_n ?_
            exact ⟨(fun b_ => (fun l_ => if l_ = 30 then 36 else l_) (o351 b_)), 65533, (by exact Kn.pick (ks := [3, 5, 6, 7, 8]) hk rfl), (hs.relab0 (fun l_ => if l_ = 30 then 36 else l_) rfl), (f355.relab (fun l_ => if l_ = 30 then 36 else l_) rfl), (f900000.relab (fun l_ => if l_ = 30 then 36 else l_) rfl), H⟩
      · rw [b517] at hk H
        replace H := bifT H
        refine x_run tab hk (k := 7) (lv := []) (ks := [3, 5, 6, 7, 8, 25]) (e' := [(3, .slice A352 (l354).length c353), (5, .int .i32 (rdD 0 p0 x357)), (6, .slice (some ad443) (p0).length cp0), (7, .int .i64 ((p0).length : Int)), (8, .int .i64 x357), (25, .bool true)]) rfl trivial fun a hk => ?_
        refine wpListIn_nil ?_
        refine then_n ?_
        refine x_if hk (b := true) rfl ?_
        refine (show Code.wpIn _ _ _ _ _ _ _ from ?_)
        refine wpIn_region_lit ?_
        refine x_run tab hk (k := 1) (lv := []) (ks := [3, 5, 6, 7, 8]) (e' := [(3, .slice A352 (l354).length c353), (5, .int .i32 65533), (6, .slice (some ad443) (p0).length cp0), (7, .int .i64 ((p0).length : Int)), (8, .int .i64 x357)]) rfl trivial fun a hk => ?_
        refine wpListIn_nil ?_
        refine then_n ?_
        exact ⟨(fun b_ => (fun l_ => if l_ = 30 then 36 else l_) (o351 b_)), 65533, (by exact Kn.pick (ks := [3, 5, 6, 7, 8]) hk rfl), (hs.relab0 (fun l_ => if l_ = 30 then 36 else l_) rfl), (f355.relab (fun l_ => if l_ = 30 then 36 else l_) rfl), (f900000.relab (fun l_ => if l_ = 30 then 36 else l_) rfl), H⟩
    · rw [b516] at hk H
      replace H := bifT H
      refine x_run tab hk (k := 10) (lv := []) (ks := [3, 5, 6, 7, 8, 18, 24]) (e' := [(3, .slice A352 (l354).length c353), (5, .int .i32 (rdD 0 p0 x357)), (6, .slice (some ad443) (p0).length cp0), (7, .int .i64 ((p0).length : Int)), (8, .int .i64 x357), (18, .bool true), (24, undef)]) rfl trivial fun a hk => ?_
      refine x_run tab hk (k := 1) (lv := []) (ks := [3, 5, 6, 7, 8, 25]) (e' := [(3, .slice A352 (l354).length c353), (5, .int .i32 (rdD 0 p0 x357)), (6, .slice (some ad443) (p0).length cp0), (7, .int .i64 ((p0).length : Int)), (8, .int .i64 x357), (25, .bool true)]) rfl trivial fun a hk => ?_
      refine wpListIn_nil ?_
      refine then_n ?_
      refine x_if hk (b := true) rfl ?_
      refine (show Code.wpIn _ _ _ _ _ _ _ from ?_)
      refine wpIn_region_lit ?_
      refine x_run tab hk (k := 1) (lv := []) (ks := [3, 5, 6, 7, 8]) (e' := [(3, .slice A352 (l354).length c353), (5, .int .i32 65533), (6, .slice (some ad443) (p0).length cp0), (7, .int .i64 ((p0).length : Int)), (8, .int .i64 x357)]) rfl trivial fun a hk => ?_
      refine wpListIn_nil ?_
      refine then_n ?_
      exact ⟨(fun b_ => (fun l_ => if l_ = 30 then 36 else l_) (o351 b_)), 65533, (by exact Kn.pick (ks := [3, 5, 6, 7, 8]) hk rfl), (hs.relab0 (fun l_ => if l_ = 30 then 36 else l_) rfl), (f355.relab (fun l_ => if l_ = 30 then 36 else l_) rfl), (f900000.relab (fun l_ => if l_ = 30 then 36 else l_) rfl), H⟩

/-! (*tidewrack/seq.Parser).tell -/
theorem seq_Parser_tell_calls (bp0 : Nat) (Ap0_0 : Option Addr) (cp0_0 : Nat) (Ap0_1 : Option Addr) (cp0_1 : Nat) (p0 : T47) (Ap1_0 : Option Addr) (cp1_0 : Nat) (p1 : T50) (w : World) (o : Nat → Nat) (LF : Nat) (Lp0 : Nat) (hp0 : Ft (Bx bp0 48 [.int .i64 p0.state, .bool p0.order_private_, .bool p0.order_wrong, .bool p0.order_any, .bool p0.order_some, .int .i64 p0.order_n, .slice Ap0_0 (p0.order_nums).length cp0_0, .string p0.text, .int .u8 p0.runes_Lead, .int .i32 p0.runes_Rune, .int .i64 p0.runes_Need, .slice Ap0_1 (p0.out).length cp0_1]) w o Lp0) (Lp0_0 : Nat) (hp0_0 : CO (encInt .i64) 3 Ap0_0 cp0_0 p0.order_nums (p0.state == (3 : Int)) w o Lp0_0 LF) (hcp0_0 : (p0.order_nums).length ≤ cp0_0) (Lp0_1 : Nat) (hp0_1 : NOwn dT50 51 Ap0_1 cp0_1 p0.out w o Lp0_1 LF) (hcp0_1 : (p0.out).length ≤ cp0_1) (hp1_0 : Ft (RdC (encInt .i64) Ap1_0 p1.Nums) w o LF) (hcp1_0 : (p1.Nums).length ≤ cp1_0) (hd0 : ([LF, Lp0, Lp0_0, Lp0_1] : List Nat).Nodup) (r : T47) (H : seq_Parser_tell p0 p1 = some r) :
    Calls Tryd.prog 107 #[.pointer (some ⟨bp0, 0, none⟩), .agg #[.int .i64 p1.Kind, .int .i32 p1.Rune, .int .u8 p1.Byte, .bool p1.Private, .slice Ap1_0 (p1.Nums).length cp1_0, .string p1.Text]] w (Ret fun v_ w' => ∃ o' : Nat → Nat, ∃ A0 : Option Addr, ∃ c0 : Nat, ∃ A1 : Option Addr, ∃ c1 : Nat, v_ = .tuple #[] ∧ St [Lp0, Lp0_0, Lp0_1] w o w' o' ∧ Ft (Bx bp0 48 [.int .i64 r.state, .bool r.order_private_, .bool r.order_wrong, .bool r.order_any, .bool r.order_some, .int .i64 r.order_n, .slice A0 (r.order_nums).length c0, .string r.text, .int .u8 r.runes_Lead, .int .i32 r.runes_Rune, .int .i64 r.runes_Need, .slice A1 (r.out).length c1]) w' o' Lp0 ∧ CO (encInt .i64) 3 A0 c0 (r.order_nums) (r.state == (3 : Int)) w' o' Lp0_0 LF ∧ (r.order_nums).length ≤ c0 ∧ NOwn dT50 51 A1 c1 r.out w' o' Lp0_1 LF ∧ (r.out).length ≤ c1) := by
  refine x_enter (vs := [.pointer (some ⟨bp0, 0, none⟩), .agg #[.int .i64 p1.Kind, .int .i32 p1.Rune, .int .u8 p1.Byte, .bool p1.Private, .slice Ap1_0 (p1.Nums).length cp1_0, .string p1.Text]]) Tryd.func107 rfl rfl rfl fun a hk => ?_
  obtain ⟨oi, hs0, h0, h1, hob, hoz, hoa⟩ := St.startM2 w o (m := 4) hd0 rfl
  have hs := hs0 [2, 3, 4]
  have f900000 := hp0_0.conv (fun _ h_ => h1 2 3 h_ rfl rfl) (fun _ h_ => h1 0 1 h_ rfl rfl)
  have f900001 := hp0_1.conv (fun _ h_ => h1 3 4 h_ rfl rfl) (fun _ h_ => h1 0 1 h_ rfl rfl)
  have f900019 := h1 1 2 hp0 rfl rfl
  have f900020 := h1 0 1 hp1_0 rfl rfl
  clear h0 h1 hs0
  rw [seq_Parser_tell] at H
  refine x_seq ?_
  refine wpIn_region_lit ?_
  refine x_op hk rfl ?_
  refine op_box (o := oi) (t := 51) (v := .agg #[.int .i64 p1.Kind, .int .i32 p1.Rune, .int .u8 p1.Byte, .bool p1.Private, .slice Ap1_0 (p1.Nums).length cp1_0, .string p1.Text]) (cs := [.int .i64 p1.Kind, .int .i32 p1.Rune, .int .u8 p1.Byte, .bool p1.Private, .slice Ap1_0 (p1.Nums).length cp1_0, .string p1.Text]) hk rfl rfl 5 fun bx4 w1 o2 st3 f5 => ?_
  replace f900000 := f900000.st st3 (by decide)
  replace f900001 := f900001.st st3 (by decide)
  replace f900019 := f900019.st st3 (by decide)
  replace f900020 := f900020.st st3 (by decide)
  replace hs := hs.locQ st3 hob rfl
  have hk := hk.put 3 (.pointer (some ⟨bx4, 0, none⟩)) rfl
  refine wpListIn_nil ?_
  refine then_n ?_
  refine x_cut (fun a_ w_ => ∃ o154 : Nat → Nat, ∃ A155 : Option Addr, ∃ c156 : Nat, Kn 14 a_ [] ∧ St [2, 3, 4] w oi w_ o154 ∧ NOwn dT50 51 A155 c156 (p0.out ++ ([p1] : List T50)) w_ o154 4 1 ∧ CO (encInt .i64) 3 Ap0_0 cp0_0 p0.order_nums (p0.state == (3 : Int)) w_ o154 3 1 ∧ Ft (Bx bp0 48 [.int .i64 p0.state, .bool p0.order_private_, .bool p0.order_wrong, .bool p0.order_any, .bool p0.order_some, .int .i64 p0.order_n, .slice Ap0_0 (p0.order_nums).length cp0_0, .string p0.text, .int .u8 p0.runes_Lead, .int .i32 p0.runes_Rune, .int .i64 p0.runes_Need, .slice A155 ((p0.out ++ ([p1] : List T50))).length c156]) w_ o154 2 ∧ ((p0.out ++ ([p1] : List T50))).length ≤ c156 ∧ seq_Parser_tell_j1 p0 p1 = some r) ?_ ?_
  rotate_left
  · rintro a w159 ⟨o154, A155, c156, hk, hs, f157, f900000, f900019, hc158, H⟩
    rw [seq_Parser_tell_j1] at H
    obtain rfl := Option.some.inj H
    exact x_endG hk (rs := []) (vs := []) rfl trivial ⟨cl w oi o [2, 3, 4] (fun l_ => if l_ = 1 then LF else if l_ = 2 then Lp0 else if l_ = 3 then Lp0_0 else if l_ = 4 then Lp0_1 else 0) o154, Ap0_0, cp0_0, A155, c156, rfl, hs.closeF (Lm := [Lp0, Lp0_0, Lp0_1]) (Sh := []) hoa rfl (fun l_ => if l_ = 1 then LF else if l_ = 2 then Lp0 else if l_ = 3 then Lp0_0 else if l_ = 4 then Lp0_1 else 0), hs.closeM_ft (o := o) (ρ := fun l_ => if l_ = 1 then LF else if l_ = 2 then Lp0 else if l_ = 3 then Lp0_0 else if l_ = 4 then Lp0_1 else 0) f900019 (lab_at hoa (i := 1) rfl) rfl, f900000.conv (fun _ h_ => hs.closeM_ft (o := o) (ρ := fun l_ => if l_ = 1 then LF else if l_ = 2 then Lp0 else if l_ = 3 then Lp0_0 else if l_ = 4 then Lp0_1 else 0) h_ (lab_at hoa (i := 2) rfl) rfl) (fun _ h_ => hs.closeM_ft (o := o) (ρ := fun l_ => if l_ = 1 then LF else if l_ = 2 then Lp0 else if l_ = 3 then Lp0_0 else if l_ = 4 then Lp0_1 else 0) h_ (lab_at hoa (i := 0) rfl) rfl), hcp0_0, f157.conv (fun _ h_ => hs.closeM_ft (o := o) (ρ := fun l_ => if l_ = 1 then LF else if l_ = 2 then Lp0 else if l_ = 3 then Lp0_0 else if l_ = 4 then Lp0_1 else 0) h_ (lab_at hoa (i := 3) rfl) rfl) (fun _ h_ => hs.closeM_ft (o := o) (ρ := fun l_ => if l_ = 1 then LF else if l_ = 2 then Lp0 else if l_ = 3 then Lp0_0 else if l_ = 4 then Lp0_1 else 0) h_ (lab_at hoa (i := 0) rfl) rfl), hc158⟩
  obtain ⟨q186, H⟩ := ifS H
  refine xd_begin (o := o2) (fun W_ => (Bx bx4 51 [.int .i64 p1.Kind, .int .i32 p1.Rune, .int .u8 p1.Byte, .bool p1.Private, .slice Ap1_0 (p1.Nums).length cp1_0, .string p1.Text]) W_ ∧ True) mixed rfl rfl fun w226 st227 => ?_
  replace f5 := f5.st st227 (by decide)
  replace f900000 := f900000.st st227 (by decide)
  replace f900001 := f900001.st st227 (by decide)
  replace f900019 := f900019.st st227 (by decide)
  replace f900020 := f900020.st st227 (by decide)
  replace hs := hs.locQ st227 hob rfl
  refine xd_abs fun G hG => ?_
  have N233 : ∀ (a_ : Act) (w_ : World), (∃ o231 : Nat → Nat, Kn 14 a_ [(4, .pointer (some ⟨bp0, 0, none⟩)), (8, .slice Ap0_1 (p0.out).length cp0_1), (9, .agg #[.int .i64 p1.Kind, .int .i32 p1.Rune, .int .u8 p1.Byte, .bool p1.Private, .slice Ap1_0 (p1.Nums).length cp1_0, .string p1.Text])] ∧ St [2, 3, 4] w oi w_ o231 ∧ Ft (Bx bx4 51 [.int .i64 p1.Kind, .int .i32 p1.Rune, .int .u8 p1.Byte, .bool p1.Private, .slice Ap1_0 (p1.Nums).length cp1_0, .string p1.Text]) w_ o231 20 ∧ CO (encInt .i64) 3 Ap0_0 cp0_0 p0.order_nums (p0.state == (3 : Int)) w_ o231 3 1 ∧ NOwn dT50 51 Ap0_1 cp0_1 p0.out w_ o231 4 1 ∧ Ft (Bx bp0 48 [.int .i64 p0.state, .bool p0.order_private_, .bool p0.order_wrong, .bool p0.order_any, .bool p0.order_some, .int .i64 p0.order_n, .slice Ap0_0 (p0.order_nums).length cp0_0, .string p0.text, .int .u8 p0.runes_Lead, .int .i32 p0.runes_Rune, .int .i64 p0.runes_Need, .slice Ap0_1 (p0.out).length cp0_1]) w_ o231 2 ∧ Ft (RdC (encInt .i64) Ap1_0 p1.Nums) w_ o231 1) → G 5 #[true, true, true, true, true, true, false, false, false, false, false] a_ w_ := by
    rintro a w232 ⟨o231, hk, hs, f5, f900000, f900001, f900019, f900020⟩
    refine xd_of hG ?_
    refine xd_op hk (i := 6) (by kernel_rfl) rfl rfl ?_
    refine op_slice (o := o231) tab hk (vs := [.agg #[.int .i64 p1.Kind, .int .i32 p1.Rune, .int .u8 p1.Byte, .bool p1.Private, .slice Ap1_0 (p1.Nums).length cp1_0, .string p1.Text]]) (cs := [.int .i64 p1.Kind, .int .i32 p1.Rune, .int .u8 p1.Byte, .bool p1.Private, .slice Ap1_0 (p1.Nums).length cp1_0, .string p1.Text]) rfl rfl rfl rfl rfl rfl rfl rfl rfl 21 fun bx237 w234 o235 st236 f238 => ?_
    replace f5 := f5.st st236 (by decide)
    replace f900000 := f900000.st st236 (by decide)
    replace f900001 := f900001.st st236 (by decide)
    replace f900019 := f900019.st st236 (by decide)
    replace f900020 := f900020.st st236 (by decide)
    replace hs := hs.locQ st236 hob rfl
    have f239 : NOwn dT50 51 (some ⟨bx237, 0, none⟩) 1 ([p1] : List T50) w234 o235 21 1 := NOwn.litD (D := dT50) f238 [(⟨p1, Ap1_0, cp1_0⟩ : NT50)] rfl (Inn.consD (D := dT50) (r := (⟨p1, Ap1_0, cp1_0⟩ : NT50)) (f900020.imp fun _ h_ => ⟨h_, hcp1_0⟩) (Inn.nilD _ _ _ _)) rfl (Nat.le_of_ble_eq_true rfl)
    have hk := hk.put 10 (.slice (some ⟨bx237, 0, none⟩) (([p1] : List T50)).length 1) rfl
    refine ⟨.inr ⟨f5.now, trivial⟩, ?_⟩
    refine xd_op hk (i := 7) (by kernel_rfl) rfl rfl ?_
    refine op_appendN (o := o235) (D := dT50) (xs := p0.out) (ys := ([p1] : List T50)) tab hk rfl rfl rfl rfl rfl rfl rfl f900001 f239.rd (by decide) q186 fun A243 c244 w240 o241 st242 f245 hc246 => ?_
    replace f239 := f239.st st242 (by decide)
    replace f5 := f5.st st242 (by decide)
    replace f900000 := f900000.st st242 (by decide)
    replace f900019 := f900019.st st242 (by decide)
    replace f900020 := f900020.st st242 (by decide)
    replace hs := hs.locQ st242 hob rfl
    have hk := hk.put 11 (.slice A243 ((p0.out ++ ([p1] : List T50))).length c244) rfl
    refine ⟨.inr ⟨f5.now, trivial⟩, ?_⟩
    refine xd_take tab hk (k := 1) (is := [8, 9]) (ls' := #[true, true, true, true, true, true, true, true, true, true, false]) (lv := []) (ks := [11, 13]) (e' := [(11, .slice A243 ((p0.out ++ ([p1] : List T50))).length c244), (13, .pointer (some ((⟨bp0, 0, none⟩ : Addr).add 11)))]) (by kernel_rfl) rfl rfl (by kernel_rfl) (np_then np_body) ⟨f5.now, trivial⟩ (fun W_ hS => trivial) fun a hk => ?_
    refine xd_op hk (i := 10) (by kernel_rfl) rfl rfl ?_
    refine op_store tab hk (t := 46) (v := .slice A243 ((p0.out ++ ([p1] : List T50))).length c244) (b := bp0) (k := 11) (cs' := [.int .i64 p0.state, .bool p0.order_private_, .bool p0.order_wrong, .bool p0.order_any, .bool p0.order_some, .int .i64 p0.order_n, .slice Ap0_0 (p0.order_nums).length cp0_0, .string p0.text, .int .u8 p0.runes_Lead, .int .i32 p0.runes_Rune, .int .i64 p0.runes_Need, .slice A243 ((p0.out ++ ([p1] : List T50))).length c244]) rfl rfl rfl rfl rfl rfl f900019 rfl rfl fun w247 o248 st249 f900019_ => ?_
    replace f239 := f239.st st249 (by decide)
    replace f245 := f245.st st249 (by decide)
    replace f5 := f5.st st249 (by decide)
    replace f900000 := f900000.st st249 (by decide)
    replace f900020 := f900020.st st249 (by decide)
    replace hs := hs.locQ st249 hob rfl
    replace f900019 := f900019_
    refine ⟨.inr ⟨f5.now, trivial⟩, ?_⟩
    refine xd_done (by kernel_rfl) ?_
    refine then_n ?_
    exact ⟨o248, A243, c244, (by exact Kn.pick (ks := []) hk rfl), hs, f245, f900000, f900019, hc246, H⟩
  have N271 : ∀ (a_ : Act) (w_ : World), (∃ o265 : Nat → Nat, ∃ A266 : Option Addr, ∃ c267 : Nat, Kn 14 a_ [(4, .pointer (some ⟨bp0, 0, none⟩)), (7, .pointer (some ((⟨bp0, 0, none⟩ : Addr).add 11))), (10, .slice A266 (([p1] : List T50)).length c267)] ∧ St [2, 3, 4] w oi w_ o265 ∧ NOwn dT50 51 A266 c267 ([p1] : List T50) w_ o265 24 1 ∧ Ft (Bx bx4 51 [.int .i64 p1.Kind, .int .i32 p1.Rune, .int .u8 p1.Byte, .bool p1.Private, .slice Ap1_0 (p1.Nums).length cp1_0, .string p1.Text]) w_ o265 23 ∧ CO (encInt .i64) 3 Ap0_0 cp0_0 p0.order_nums (p0.state == (3 : Int)) w_ o265 3 1 ∧ NOwn dT50 51 Ap0_1 cp0_1 p0.out w_ o265 4 1 ∧ Ft (Bx bp0 48 [.int .i64 p0.state, .bool p0.order_private_, .bool p0.order_wrong, .bool p0.order_any, .bool p0.order_some, .int .i64 p0.order_n, .slice Ap0_0 (p0.order_nums).length cp0_0, .string p0.text, .int .u8 p0.runes_Lead, .int .i32 p0.runes_Rune, .int .i64 p0.runes_Need, .slice Ap0_1 (p0.out).length cp0_1]) w_ o265 2 ∧ Ft (RdC (encInt .i64) Ap1_0 p1.Nums) w_ o265 1 ∧ (([p1] : List T50)).length ≤ c267) → G 5 #[true, true, true, true, false, true, true, false, false, false, false] a_ w_ := by
    rintro a w270 ⟨o265, A266, c267, hk, hs, f268, f5, f900000, f900001, f900019, f900020, hc269⟩
    refine xd_of hG ?_
    refine xd_op hk (i := 4) (by kernel_rfl) rfl rfl ?_
    refine op_quiet tab hk (lv := [.slice Ap0_1 (p0.out).length cp0_1]) (v := .slice Ap0_1 (p0.out).length cp0_1) rfl ⟨(load1 tab rfl ((Bx.cell f900019.now 11).trans rfl)), trivial⟩ ?_
    have hk := hk.put 8 (.slice Ap0_1 (p0.out).length cp0_1) rfl
    refine ⟨.inr ⟨f5.now, trivial⟩, ?_⟩
    refine xd_op hk (i := 7) (by kernel_rfl) rfl rfl ?_
    refine op_appendN (o := o265) (D := dT50) (xs := p0.out) (ys := ([p1] : List T50)) tab hk rfl rfl rfl rfl rfl rfl rfl f900001 f268.rd (by decide) q186 fun A275 c276 w272 o273 st274 f277 hc278 => ?_
    replace f268 := f268.st st274 (by decide)
    replace f5 := f5.st st274 (by decide)
    replace f900000 := f900000.st st274 (by decide)
    replace f900019 := f900019.st st274 (by decide)
    replace f900020 := f900020.st st274 (by decide)
    replace hs := hs.locQ st274 hob rfl
    have hk := hk.put 11 (.slice A275 ((p0.out ++ ([p1] : List T50))).length c276) rfl
    refine ⟨.inr ⟨f5.now, trivial⟩, ?_⟩
    refine xd_take tab hk (k := 1) (is := [8, 9]) (ls' := #[true, true, true, true, true, true, true, true, true, true, false]) (lv := []) (ks := [11, 13]) (e' := [(11, .slice A275 ((p0.out ++ ([p1] : List T50))).length c276), (13, .pointer (some ((⟨bp0, 0, none⟩ : Addr).add 11)))]) (by kernel_rfl) rfl rfl (by kernel_rfl) (np_then np_body) ⟨f5.now, trivial⟩ (fun W_ hS => trivial) fun a hk => ?_
    refine xd_op hk (i := 10) (by kernel_rfl) rfl rfl ?_
    refine op_store tab hk (t := 46) (v := .slice A275 ((p0.out ++ ([p1] : List T50))).length c276) (b := bp0) (k := 11) (cs' := [.int .i64 p0.state, .bool p0.order_private_, .bool p0.order_wrong, .bool p0.order_any, .bool p0.order_some, .int .i64 p0.order_n, .slice Ap0_0 (p0.order_nums).length cp0_0, .string p0.text, .int .u8 p0.runes_Lead, .int .i32 p0.runes_Rune, .int .i64 p0.runes_Need, .slice A275 ((p0.out ++ ([p1] : List T50))).length c276]) rfl rfl rfl rfl rfl rfl f900019 rfl rfl fun w279 o280 st281 f900019_ => ?_
    replace f268 := f268.st st281 (by decide)
    replace f277 := f277.st st281 (by decide)
    replace f5 := f5.st st281 (by decide)
    replace f900000 := f900000.st st281 (by decide)
    replace f900020 := f900020.st st281 (by decide)
    replace hs := hs.locQ st281 hob rfl
    replace f900019 := f900019_
    refine ⟨.inr ⟨f5.now, trivial⟩, ?_⟩
    refine xd_done (by kernel_rfl) ?_
    refine then_n ?_
    exact ⟨o280, A275, c276, (by exact Kn.pick (ks := []) hk rfl), hs, f277, f900000, f900019, hc278, H⟩
  refine xd_of hG ?_
  refine xd_take tab hk (k := 6) (is := [0, 1, 2, 3, 5]) (ls' := #[true, true, true, true, false, true, false, false, false, false, false]) (lv := [.agg #[.int .i64 p1.Kind, .int .i32 p1.Rune, .int .u8 p1.Byte, .bool p1.Private, .slice Ap1_0 (p1.Nums).length cp1_0, .string p1.Text]]) (ks := [4, 7, 9]) (e' := [(4, .pointer (some ⟨bp0, 0, none⟩)), (7, .pointer (some ((⟨bp0, 0, none⟩ : Addr).add 11))), (9, .agg #[.int .i64 p1.Kind, .int .i32 p1.Rune, .int .u8 p1.Byte, .bool p1.Private, .slice Ap1_0 (p1.Nums).length cp1_0, .string p1.Text])]) (by kernel_rfl) rfl rfl (by kernel_rfl) (np_then np_body) ⟨f5.now, trivial⟩ (fun W_ hS => ⟨(load_box tab rfl rfl hS.1 (k := 0) rfl rfl), trivial⟩) fun a hk => ?_
  refine xd_each [4, 6] (by kernel_rfl) rfl ⟨?_, ?_, trivial⟩
  · refine xd_one hk rfl rfl ?_
    refine op_quiet tab hk (lv := [.slice Ap0_1 (p0.out).length cp0_1]) (v := .slice Ap0_1 (p0.out).length cp0_1) rfl ⟨(load1 tab rfl ((Bx.cell f900019.now 11).trans rfl)), trivial⟩ ?_
    have hk := hk.put 8 (.slice Ap0_1 (p0.out).length cp0_1) rfl
    refine ⟨.inr ⟨f5.now, trivial⟩, ?_⟩
    exact xd_to hG rfl (N233 _ _ ⟨(fun b_ => (fun l_ => if l_ = 5 then 20 else l_) (o2 b_)), (by exact Kn.pick (ks := [4, 8, 9]) hk rfl), (hs.relabM hob (fun l_ => if l_ = 5 then 20 else l_) (by decide)), (f5.relab (fun l_ => if l_ = 5 then 20 else l_) rfl), (f900000.relab (fun l_ => if l_ = 5 then 20 else l_) rfl), (f900001.relab (fun l_ => if l_ = 5 then 20 else l_) rfl), (f900019.relab (fun l_ => if l_ = 5 then 20 else l_) rfl), (f900020.relab (fun l_ => if l_ = 5 then 20 else l_) rfl)⟩)
  · refine xd_one hk rfl rfl ?_
    refine op_slice (o := o2) tab hk (vs := [.agg #[.int .i64 p1.Kind, .int .i32 p1.Rune, .int .u8 p1.Byte, .bool p1.Private, .slice Ap1_0 (p1.Nums).length cp1_0, .string p1.Text]]) (cs := [.int .i64 p1.Kind, .int .i32 p1.Rune, .int .u8 p1.Byte, .bool p1.Private, .slice Ap1_0 (p1.Nums).length cp1_0, .string p1.Text]) rfl rfl rfl rfl rfl rfl rfl rfl rfl 22 fun bx253 w250 o251 st252 f254 => ?_
    replace f5 := f5.st st252 (by decide)
    replace f900000 := f900000.st st252 (by decide)
    replace f900001 := f900001.st st252 (by decide)
    replace f900019 := f900019.st st252 (by decide)
    replace f900020 := f900020.st st252 (by decide)
    replace hs := hs.locQ st252 hob rfl
    have f255 : NOwn dT50 51 (some ⟨bx253, 0, none⟩) 1 ([p1] : List T50) w250 o251 22 1 := NOwn.litD (D := dT50) f254 [(⟨p1, Ap1_0, cp1_0⟩ : NT50)] rfl (Inn.consD (D := dT50) (r := (⟨p1, Ap1_0, cp1_0⟩ : NT50)) (f900020.imp fun _ h_ => ⟨h_, hcp1_0⟩) (Inn.nilD _ _ _ _)) rfl (Nat.le_of_ble_eq_true rfl)
    have hk := hk.put 10 (.slice (some ⟨bx253, 0, none⟩) (([p1] : List T50)).length 1) rfl
    refine ⟨.inr ⟨f5.now, trivial⟩, ?_⟩
    exact xd_to hG rfl (N271 _ _ ⟨(fun b_ => (fun l_ => if l_ = 5 then 23 else if l_ = 22 then 24 else l_) (o251 b_)), (some ⟨bx253, 0, none⟩), 1, (by exact Kn.pick (ks := [4, 7, 10]) hk rfl), (hs.relabM hob (fun l_ => if l_ = 5 then 23 else if l_ = 22 then 24 else l_) (by decide)), (f255.relab (fun l_ => if l_ = 5 then 23 else if l_ = 22 then 24 else l_) rfl), (f5.relab (fun l_ => if l_ = 5 then 23 else if l_ = 22 then 24 else l_) rfl), (f900000.relab (fun l_ => if l_ = 5 then 23 else if l_ = 22 then 24 else l_) rfl), (f900001.relab (fun l_ => if l_ = 5 then 23 else if l_ = 22 then 24 else l_) rfl), (f900019.relab (fun l_ => if l_ = 5 then 23 else if l_ = 22 then 24 else l_) rfl), (f900020.relab (fun l_ => if l_ = 5 then 23 else if l_ = 22 then 24 else l_) rfl), (Nat.le_refl _)⟩)

/-! (*tidewrack/seq.Parser).print -/
theorem seq_Parser_print_calls (K : Nat) (bp0 : Nat) (Ap0_0 : Option Addr) (cp0_0 : Nat) (Ap0_1 : Option Addr) (cp0_1 : Nat) (p0 : T47) (Ap1 : Option Addr) (cp1 : Nat) (p1 : List Int) (w : World) (o : Nat → Nat) (LF : Nat) (Lp0 : Nat) (hp0 : Ft (Bx bp0 48 [.int .i64 p0.state, .bool p0.order_private_, .bool p0.order_wrong, .bool p0.order_any, .bool p0.order_some, .int .i64 p0.order_n, .slice Ap0_0 (p0.order_nums).length cp0_0, .string p0.text, .int .u8 p0.runes_Lead, .int .i32 p0.runes_Rune, .int .i64 p0.runes_Need, .slice Ap0_1 (p0.out).length cp0_1]) w o Lp0) (Lp0_0 : Nat) (hp0_0 : CO (encInt .i64) 3 Ap0_0 cp0_0 p0.order_nums (p0.state == (3 : Int)) w o Lp0_0 LF) (hcp0_0 : (p0.order_nums).length ≤ cp0_0) (Lp0_1 : Nat) (hp0_1 : NOwn dT50 51 Ap0_1 cp0_1 p0.out w o Lp0_1 LF) (hcp0_1 : (p0.out).length ≤ cp0_1) (Lp1 : Nat) (hp1 : Ft (RdC (encInt .i32) Ap1 p1) w o Lp1) (hcp1 : (p1).length ≤ cp1) (hd0 : ([LF, Lp0, Lp0_0, Lp0_1] : List Nat).Nodup) (hd1 : Lp1 ∉ [LF, Lp0, Lp0_0, Lp0_1]) (r : T47) (H : seq_Parser_print K p0 p1 = some r) :
    Calls Tryd.prog 105 #[.pointer (some ⟨bp0, 0, none⟩), .slice Ap1 (p1).length cp1] w (Ret fun v_ w' => ∃ o' : Nat → Nat, ∃ A0 : Option Addr, ∃ c0 : Nat, ∃ A1 : Option Addr, ∃ c1 : Nat, v_ = .tuple #[] ∧ St [Lp0, Lp0_0, Lp0_1] w o w' o' ∧ Ft (Bx bp0 48 [.int .i64 r.state, .bool r.order_private_, .bool r.order_wrong, .bool r.order_any, .bool r.order_some, .int .i64 r.order_n, .slice A0 (r.order_nums).length c0, .string r.text, .int .u8 r.runes_Lead, .int .i32 r.runes_Rune, .int .i64 r.runes_Need, .slice A1 (r.out).length c1]) w' o' Lp0 ∧ CO (encInt .i64) 3 A0 c0 (r.order_nums) (r.state == (3 : Int)) w' o' Lp0_0 LF ∧ (r.order_nums).length ≤ c0 ∧ NOwn dT50 51 A1 c1 r.out w' o' Lp0_1 LF ∧ (r.out).length ≤ c1) := by
  refine x_enter (vs := [.pointer (some ⟨bp0, 0, none⟩), .slice Ap1 (p1).length cp1]) Tryd.func105 rfl rfl rfl fun a hk => ?_
  obtain ⟨oi, hs0, h0, h1, hob, hoz, hoa⟩ := St.startM2 w o (m := 4) hd0 rfl
  have hs := hs0 [2, 3, 4]
  have f900000 := hp0_0.conv (fun _ h_ => h1 2 3 h_ rfl rfl) (fun _ h_ => h1 0 1 h_ rfl rfl)
  have f900001 := hp0_1.conv (fun _ h_ => h1 3 4 h_ rfl rfl) (fun _ h_ => h1 0 1 h_ rfl rfl)
  have f900019 := h1 1 2 hp0 rfl rfl
  have f900020 := h0 _ _ hd1 hp1
  clear h0 h1 hs0
  rw [seq_Parser_print] at H
  refine x_seq ?_
  refine wpIn_region_lit ?_
  refine x_run tab hk (k := 3) (lv := []) (ks := [0, 6, 7, 8]) (e' := [(0, .pointer (some ⟨bp0, 0, none⟩)), (6, .slice Ap1 (p1).length cp1), (7, .int .i64 ((p1).length : Int)), (8, .int .i64 0)]) rfl trivial fun a hk => ?_
  refine wpListIn_nil ?_
  refine then_n ?_
  refine wpIn_block ?_
  refine x_loop (fun j_ a_ w_ => ∃ o24 : Nat → Nat, ∃ x25 : Int, ∃ x26 : Bool, ∃ x27 : Bool, ∃ x28 : Bool, ∃ x29 : Bool, ∃ x30 : Int, ∃ A31 : Option Addr, ∃ c32 : Nat, ∃ l33 : List Int, ∃ x36 : ByteArray, ∃ x37 : Int, ∃ x38 : Int, ∃ x39 : Int, ∃ A40 : Option Addr, ∃ c41 : Nat, ∃ l42 : List T50, ∃ x45 : Int, Kn 17 a_ [(0, .pointer (some ⟨bp0, 0, none⟩)), (6, .slice Ap1 (p1).length cp1), (7, .int .i64 ((p1).length : Int)), (8, .int .i64 x45)] ∧ St [2, 3, 4] w oi w_ o24 ∧ CO (encInt .i64) 3 A31 c32 l33 (x25 == (3 : Int)) w_ o24 3 1 ∧ NOwn dT50 51 A40 c41 l42 w_ o24 4 1 ∧ Ft (Bx bp0 48 [.int .i64 x25, .bool x26, .bool x27, .bool x28, .bool x29, .int .i64 x30, .slice A31 (l33).length c32, .string x36, .int .u8 x37, .int .i32 x38, .int .i64 x39, .slice A40 (l42).length c41]) w_ o24 2 ∧ Ft (RdC (encInt .i32) Ap1 p1) w_ o24 0 ∧ (l33).length ≤ c32 ∧ (l42).length ≤ c41 ∧ seq_Parser_print_l1 p1 j_ x25 x26 x27 x28 x29 x30 l33 x36 x37 x38 x39 l42 x45 = some r) (k := K) ⟨oi, p0.state, p0.order_private_, p0.order_wrong, p0.order_any, p0.order_some, p0.order_n, Ap0_0, cp0_0, p0.order_nums, p0.text, p0.runes_Lead, p0.runes_Rune, p0.runes_Need, Ap0_1, cp0_1, p0.out, 0, (by exact Kn.pick (ks := [0, 6, 7, 8]) hk rfl), hs, f900000, f900001, f900019, f900020, hcp0_0, hcp0_1, H⟩ (by rintro _ _ ⟨_, _, _, _, _, _, _, _, _, _, _, _, _, _, _, _, _, _, _, _, _, _, _, _, _, _, H_⟩; exact absurd (show (none : Option T47) = some r from H_) (by simp)) ?_
  rintro k67 a w66 ⟨o24, x25, x26, x27, x28, x29, x30, A31, c32, l33, x36, x37, x38, x39, A40, c41, l42, x45, hk, hs, f34, f43, f900019, f900020, hc35, hc44, H⟩
  rw [seq_Parser_print_l1] at H
  obtain ⟨lp68, hlp69⟩ : ∃ lp_, lp_ = seq_Parser_print_l1 p1 k67 := ⟨_, rfl⟩
  rw [← hlp69] at H
  refine x_seq ?_
  refine wpIn_region_lit ?_
  refine x_run tab hk (k := 1) (lv := []) (ks := [0, 6, 7, 8, 9]) (e' := [(0, .pointer (some ⟨bp0, 0, none⟩)), (6, .slice Ap1 (p1).length cp1), (7, .int .i64 ((p1).length : Int)), (8, .int .i64 x45), (9, .bool (decide (x45 < ((p1).length : Int))))]) rfl trivial fun a hk => ?_
  refine wpListIn_nil ?_
  refine then_n ?_
  refine x_seq ?_
  cases b70 : (decide (x45 < ((p1).length : Int)))
  · rw [b70] at hk H
    replace H := bifF H
    refine x_if hk (b := false) rfl ?_
    refine (show Code.wpIn _ _ _ _ _ _ _ from ?_)
    refine wpIn_exit ?_
    refine then_x ?_
    refine then_x ?_
    refine blk_x ?_
    obtain rfl := Option.some.inj H
    exact x_endG hk (rs := []) (vs := []) rfl trivial ⟨cl w oi o [2, 3, 4] (fun l_ => if l_ = 1 then LF else if l_ = 2 then Lp0 else if l_ = 3 then Lp0_0 else if l_ = 4 then Lp0_1 else 0) o24, A31, c32, A40, c41, rfl, hs.closeF (Lm := [Lp0, Lp0_0, Lp0_1]) (Sh := []) hoa rfl (fun l_ => if l_ = 1 then LF else if l_ = 2 then Lp0 else if l_ = 3 then Lp0_0 else if l_ = 4 then Lp0_1 else 0), hs.closeM_ft (o := o) (ρ := fun l_ => if l_ = 1 then LF else if l_ = 2 then Lp0 else if l_ = 3 then Lp0_0 else if l_ = 4 then Lp0_1 else 0) f900019 (lab_at hoa (i := 1) rfl) rfl, f34.conv (fun _ h_ => hs.closeM_ft (o := o) (ρ := fun l_ => if l_ = 1 then LF else if l_ = 2 then Lp0 else if l_ = 3 then Lp0_0 else if l_ = 4 then Lp0_1 else 0) h_ (lab_at hoa (i := 2) rfl) rfl) (fun _ h_ => hs.closeM_ft (o := o) (ρ := fun l_ => if l_ = 1 then LF else if l_ = 2 then Lp0 else if l_ = 3 then Lp0_0 else if l_ = 4 then Lp0_1 else 0) h_ (lab_at hoa (i := 0) rfl) rfl), hc35, f43.conv (fun _ h_ => hs.closeM_ft (o := o) (ρ := fun l_ => if l_ = 1 then LF else if l_ = 2 then Lp0 else if l_ = 3 then Lp0_0 else if l_ = 4 then Lp0_1 else 0) h_ (lab_at hoa (i := 3) rfl) rfl) (fun _ h_ => hs.closeM_ft (o := o) (ρ := fun l_ => if l_ = 1 then LF else if l_ = 2 then Lp0 else if l_ = 3 then Lp0_0 else if l_ = 4 then Lp0_1 else 0) h_ (lab_at hoa (i := 0) rfl) rfl), hc44⟩
  · rw [b70] at hk H
    replace H := bifT H
    refine x_if hk (b := true) rfl ?_
    refine (show Code.wpIn _ _ _ _ _ _ _ from ?_)
    refine wpIn_skip ?_
    refine then_n ?_
    refine x_seq ?_
    refine wpIn_block ?_
    refine x_seq ?_
    refine wpIn_region_lit ?_
    obtain ⟨q71, H⟩ := ifS H
    obtain ⟨ad72, hAad72⟩ := RdC.addr f900020.now q71
    have hk_C := hk
    have f34_C := f34
    have f43_C := f43
    have f900019_C := f900019
    have f900020_C := f900020
    subst hAad72
    have hk := hk_C
    clear hk_C
    have f34 := f34_C
    clear f34_C
    have f43 := f43_C
    clear f43_C
    have f900019 := f900019_C
    clear f900019_C
    have f900020 := f900020_C
    clear f900020_C
    refine x_run tab hk (k := 3) (lv := [.int .i32 (rdD 0 p1 x45)]) (ks := [0, 5, 6, 7, 8]) (e' := [(0, .pointer (some ⟨bp0, 0, none⟩)), (5, .int .i32 (rdD 0 p1 x45)), (6, .slice (some ad72) (p1).length cp1), (7, .int .i64 ((p1).length : Int)), (8, .int .i64 x45)]) rfl ⟨q71, (load1 tab rfl (RdC.at0 (E := (encInt .i32)) (d := 0) (i := x45) f900020.now q71 rfl)), trivial⟩ fun a hk => ?_
    refine wpListIn_nil ?_
    refine then_n ?_
    refine wpIn_region_lit ?_
    refine x_run tab hk (k := 3) (lv := []) (ks := [0, 6, 7, 8, 12, 14]) (e' := [(0, .pointer (some ⟨bp0, 0, none⟩)), (6, .slice (some ad72) (p1).length cp1), (7, .int .i64 ((p1).length : Int)), (8, .int .i64 x45), (12, .pointer (some ⟨bp0, 0, none⟩)), (14, .agg #[.int .i64 1, .int .i32 (rdD 0 p1 x45), .int .u8 0, .bool false, .slice none 0 0, .string (⟨#[]⟩ : ByteArray)])]) rfl trivial fun a hk => ?_
    refine x_op hk rfl ?_
    obtain ⟨t76, hc77, H⟩ := bindS H
    refine op_call hk ent_107 (vs := [.pointer (some ⟨bp0, 0, none⟩), .agg #[.int .i64 1, .int .i32 (rdD 0 p1 x45), .int .u8 0, .bool false, .slice none 0 0, .string (⟨#[]⟩ : ByteArray)]]) rfl (seq_Parser_tell_calls bp0 A31 c32 A40 c41 (⟨x25, x26, x27, x28, x29, x30, l33, x36, x37, x38, x39, l42⟩ : T47) none 0 (⟨1, (rdD 0 p1 x45), 0, false, ([] : List Int), (⟨#[]⟩ : ByteArray)⟩ : T50) _ o24 1 2 f900019 3 f34 hc35 4 f43 hc44 (Ft.of_all (fun _ => RdC.nilr _ _ _) _ _ _) (Nat.le_refl _) (by decide)   _ hc77) ?_
    rintro _ w78 ⟨o79, A82, c83, A86, c87, rfl, st80, f81, f84, hc85, f88, hc89⟩
    replace f900020 := f900020.st st80 (by decide)
    replace hs := hs.locQ st80 hob rfl
    have hk := hk.put 15 (.tuple #[]) rfl
    refine wpListIn_nil ?_
    refine blk_n ?_
    refine then_n ?_
    refine wpIn_region_lit ?_
    refine x_run tab hk (k := 2) (lv := []) (ks := [0, 6, 7, 8]) (e' := [(0, .pointer (some ⟨bp0, 0, none⟩)), (6, .slice (some ad72) (p1).length cp1), (7, .int .i64 ((p1).length : Int)), (8, .int .i64 (IntKind.wrap .i64 (x45 + 1)))]) rfl trivial fun a hk => ?_
    refine wpListIn_nil ?_
    refine then_n ?_
    exact ⟨k67, Nat.le_refl _, o79, t76.state, t76.order_private_, t76.order_wrong, t76.order_any, t76.order_some, t76.order_n, A82, c83, t76.order_nums, t76.text, t76.runes_Lead, t76.runes_Rune, t76.runes_Need, A86, c87, t76.out, (IntKind.wrap .i64 (x45 + 1)), (by exact Kn.pick (ks := [0, 6, 7, 8]) hk rfl), hs, f84, f88, f81, f900020, hc85, hc89, (hlp69 ▸ H)⟩

/-! (*tidewrack/seq.Parser).common -/
theorem seq_Parser_common_calls (bp0 : Nat) (Ap0_0 : Option Addr) (cp0_0 : Nat) (Ap0_1 : Option Addr) (cp0_1 : Nat) (p0 : T47) (p1 : Int) (w : World) (o : Nat → Nat) (LF : Nat) (Lp0 : Nat) (hp0 : Ft (Bx bp0 48 [.int .i64 p0.state, .bool p0.order_private_, .bool p0.order_wrong, .bool p0.order_any, .bool p0.order_some, .int .i64 p0.order_n, .slice Ap0_0 (p0.order_nums).length cp0_0, .string p0.text, .int .u8 p0.runes_Lead, .int .i32 p0.runes_Rune, .int .i64 p0.runes_Need, .slice Ap0_1 (p0.out).length cp0_1]) w o Lp0) (Lp0_0 : Nat) (hp0_0 : CO (encInt .i64) 3 Ap0_0 cp0_0 p0.order_nums (p0.state == (3 : Int)) w o Lp0_0 LF) (hcp0_0 : (p0.order_nums).length ≤ cp0_0) (Lp0_1 : Nat) (hp0_1 : NOwn dT50 51 Ap0_1 cp0_1 p0.out w o Lp0_1 LF) (hcp0_1 : (p0.out).length ≤ cp0_1) (hd0 : ([LF, Lp0, Lp0_0, Lp0_1] : List Nat).Nodup) (r : Bool × T47) (H : seq_Parser_common p0 p1 = some r) :
    Calls Tryd.prog 106 #[.pointer (some ⟨bp0, 0, none⟩), .int .u8 p1] w (Ret fun v_ w' => ∃ o' : Nat → Nat, ∃ A0 : Option Addr, ∃ c0 : Nat, ∃ A1 : Option Addr, ∃ c1 : Nat, v_ = .bool r.1 ∧ St [Lp0, Lp0_0, Lp0_1] w o w' o' ∧ Ft (Bx bp0 48 [.int .i64 r.2.state, .bool r.2.order_private_, .bool r.2.order_wrong, .bool r.2.order_any, .bool r.2.order_some, .int .i64 r.2.order_n, .slice A0 (r.2.order_nums).length c0, .string r.2.text, .int .u8 r.2.runes_Lead, .int .i32 r.2.runes_Rune, .int .i64 r.2.runes_Need, .slice A1 (r.2.out).length c1]) w' o' Lp0 ∧ CO (encInt .i64) 3 A0 c0 (r.2.order_nums) (r.2.state == (3 : Int)) w' o' Lp0_0 LF ∧ (r.2.order_nums).length ≤ c0 ∧ NOwn dT50 51 A1 c1 r.2.out w' o' Lp0_1 LF ∧ (r.2.out).length ≤ c1) := by
  refine x_enter (vs := [.pointer (some ⟨bp0, 0, none⟩), .int .u8 p1]) Tryd.func106 rfl rfl rfl fun a hk => ?_
  obtain ⟨oi, hs0, h0, h1, hob, hoz, hoa⟩ := St.startM2 w o (m := 4) hd0 rfl
  have hs := hs0 [2, 3, 4]
  have f900000 := hp0_0.conv (fun _ h_ => h1 2 3 h_ rfl rfl) (fun _ h_ => h1 0 1 h_ rfl rfl)
  have f900001 := hp0_1.conv (fun _ h_ => h1 3 4 h_ rfl rfl) (fun _ h_ => h1 0 1 h_ rfl rfl)
  have f900019 := h1 1 2 hp0 rfl rfl
  clear h0 h1 hs0
  rw [seq_Parser_common] at H
  refine x_seq ?_
  refine wpIn_region_lit ?_
  refine x_run tab hk (k := 1) (lv := []) (ks := [0, 1]) (e' := [(0, .pointer (some ⟨bp0, 0, none⟩)), (1, .int .u8 p1)]) rfl trivial fun a hk => ?_
  refine wpListIn_nil ?_
  refine then_n ?_
  refine x_seq ?_
  refine wpIn_block ?_
  refine x_mid (fun a_ w_ => ∃ o8 : Nat → Nat, ∃ x9 : Bool, Kn 30 a_ [(0, .pointer (some ⟨bp0, 0, none⟩)), (1, .int .u8 p1), (7, .bool x9)] ∧ St [2, 3, 4] w oi w_ o8 ∧ CO (encInt .i64) 3 Ap0_0 cp0_0 p0.order_nums (p0.state == (3 : Int)) w_ o8 3 1 ∧ NOwn dT50 51 Ap0_1 cp0_1 p0.out w_ o8 4 1 ∧ Ft (Bx bp0 48 [.int .i64 p0.state, .bool p0.order_private_, .bool p0.order_wrong, .bool p0.order_any, .bool p0.order_some, .int .i64 p0.order_n, .slice Ap0_0 (p0.order_nums).length cp0_0, .string p0.text, .int .u8 p0.runes_Lead, .int .i32 p0.runes_Rune, .int .i64 p0.runes_Need, .slice Ap0_1 (p0.out).length cp0_1]) w_ o8 2 ∧ seq_Parser_common_j1 p0 p1 x9 = some r) ?_ ?_
  rotate_left
  · rintro a w10 ⟨o8, x9, hk, hs, f900000, f900001, f900019, H⟩
    rw [seq_Parser_common_j1] at H
    cases b11 : x9
    · rw [b11] at hk H
      replace H := bifF H
      refine x_if hk (b := false) rfl ?_
      refine (show Code.wpIn _ _ _ _ _ _ _ from ?_)
      refine x_seq ?_
      refine wpIn_region_lit ?_
      refine x_run tab hk (k := 3) (lv := []) (ks := [0, 1, 17]) (e' := [(0, .pointer (some ⟨bp0, 0, none⟩)), (1, .int .u8 p1), (17, .bool (p1 == (27 : Int)))]) rfl trivial fun a hk => ?_
      refine wpListIn_nil ?_
      refine then_n ?_
      cases b12 : (p1 == (27 : Int))
      · rw [b12] at hk H
        replace H := bifF H
        refine x_if hk (b := false) rfl ?_
        refine (show Code.wpIn _ _ _ _ _ _ _ from ?_)
        refine x_seq ?_
        refine wpIn_region_lit ?_
        refine x_run tab hk (k := 3) (lv := []) (ks := [0, 1, 23]) (e' := [(0, .pointer (some ⟨bp0, 0, none⟩)), (1, .int .u8 p1), (23, .bool (decide (p1 < (32 : Int))))]) rfl trivial fun a hk => ?_
        refine wpListIn_nil ?_
        refine then_n ?_
        cases b13 : (decide (p1 < (32 : Int)))
        · rw [b13] at hk H
          replace H := bifF H
          refine x_if hk (b := false) rfl ?_
          refine (show Code.wpIn _ _ _ _ _ _ _ from ?_)
          refine x_seq ?_
          refine wpIn_region_lit ?_
          refine x_run tab hk (k := 3) (lv := []) (ks := [4]) (e' := [(4, .bool (p1 == (127 : Int)))]) rfl trivial fun a hk => ?_
          refine wpListIn_nil ?_
          refine then_n ?_
          refine wpIn_ret ?_
          refine blk_r ?_
          refine then_r ?_
          obtain rfl := Option.some.inj H
          exact x_retG hk (rs := [.tmp 4]) (vs := [.bool (p1 == (127 : Int))]) rfl ⟨rfl, trivial⟩ ⟨cl w oi o [2, 3, 4] (fun l_ => if l_ = 1 then LF else if l_ = 2 then Lp0 else if l_ = 3 then Lp0_0 else if l_ = 4 then Lp0_1 else 0) o8, Ap0_0, cp0_0, Ap0_1, cp0_1, rfl, hs.closeF (Lm := [Lp0, Lp0_0, Lp0_1]) (Sh := []) hoa rfl (fun l_ => if l_ = 1 then LF else if l_ = 2 then Lp0 else if l_ = 3 then Lp0_0 else if l_ = 4 then Lp0_1 else 0), hs.closeM_ft (o := o) (ρ := fun l_ => if l_ = 1 then LF else if l_ = 2 then Lp0 else if l_ = 3 then Lp0_0 else if l_ = 4 then Lp0_1 else 0) f900019 (lab_at hoa (i := 1) rfl) rfl, f900000.conv (fun _ h_ => hs.closeM_ft (o := o) (ρ := fun l_ => if l_ = 1 then LF else if l_ = 2 then Lp0 else if l_ = 3 then Lp0_0 else if l_ = 4 then Lp0_1 else 0) h_ (lab_at hoa (i := 2) rfl) rfl) (fun _ h_ => hs.closeM_ft (o := o) (ρ := fun l_ => if l_ = 1 then LF else if l_ = 2 then Lp0 else if l_ = 3 then Lp0_0 else if l_ = 4 then Lp0_1 else 0) h_ (lab_at hoa (i := 0) rfl) rfl), hcp0_0, f900001.conv (fun _ h_ => hs.closeM_ft (o := o) (ρ := fun l_ => if l_ = 1 then LF else if l_ = 2 then Lp0 else if l_ = 3 then Lp0_0 else if l_ = 4 then Lp0_1 else 0) h_ (lab_at hoa (i := 3) rfl) rfl) (fun _ h_ => hs.closeM_ft (o := o) (ρ := fun l_ => if l_ = 1 then LF else if l_ = 2 then Lp0 else if l_ = 3 then Lp0_0 else if l_ = 4 then Lp0_1 else 0) h_ (lab_at hoa (i := 0) rfl) rfl), hcp0_1⟩
        · rw [b13] at hk H
          replace H := bifT H
          refine x_if hk (b := true) rfl ?_
          refine (show Code.wpIn _ _ _ _ _ _ _ from ?_)
          refine wpIn_region_lit ?_
          refine x_run tab hk (k := 3) (lv := []) (ks := [26, 28]) (e' := [(26, .pointer (some ⟨bp0, 0, none⟩)), (28, .agg #[.int .i64 2, .int .i32 0, .int .u8 p1, .bool false, .slice none 0 0, .string (⟨#[]⟩ : ByteArray)])]) rfl trivial fun a hk => ?_
          refine x_op hk rfl ?_
          obtain ⟨t17, hc18, H⟩ := bindS H
          refine op_call hk ent_107 (vs := [.pointer (some ⟨bp0, 0, none⟩), .agg #[.int .i64 2, .int .i32 0, .int .u8 p1, .bool false, .slice none 0 0, .string (⟨#[]⟩ : ByteArray)]]) rfl (seq_Parser_tell_calls bp0 Ap0_0 cp0_0 Ap0_1 cp0_1 p0 none 0 (⟨2, 0, p1, false, ([] : List Int), (⟨#[]⟩ : ByteArray)⟩ : T50) _ o8 1 2 f900019 3 f900000 hcp0_0 4 f900001 hcp0_1 (Ft.of_all (fun _ => RdC.nilr _ _ _) _ _ _) (Nat.le_refl _) (by decide)   _ hc18) ?_
          rintro _ w19 ⟨o20, A23, c24, A27, c28, rfl, st21, f22, f25, hc26, f29, hc30⟩
          replace hs := hs.locQ st21 hob rfl
          have hk := hk.put 29 (.tuple #[]) rfl
          refine wpListIn_nil ?_
          refine blk_n ?_
          refine then_n ?_
          refine x_seq ?_
          refine wpIn_region_lit ?_
          refine x_run tab hk (k := 1) (lv := []) (ks := [4]) (e' := [(4, .bool true)]) rfl trivial fun a hk => ?_
          refine wpListIn_nil ?_
          refine then_n ?_
          refine wpIn_ret ?_
          obtain rfl := Option.some.inj H
          exact x_retG hk (rs := [.tmp 4]) (vs := [.bool true]) rfl ⟨rfl, trivial⟩ ⟨cl w oi o [2, 3, 4] (fun l_ => if l_ = 1 then LF else if l_ = 2 then Lp0 else if l_ = 3 then Lp0_0 else if l_ = 4 then Lp0_1 else 0) o20, A23, c24, A27, c28, rfl, hs.closeF (Lm := [Lp0, Lp0_0, Lp0_1]) (Sh := []) hoa rfl (fun l_ => if l_ = 1 then LF else if l_ = 2 then Lp0 else if l_ = 3 then Lp0_0 else if l_ = 4 then Lp0_1 else 0), hs.closeM_ft (o := o) (ρ := fun l_ => if l_ = 1 then LF else if l_ = 2 then Lp0 else if l_ = 3 then Lp0_0 else if l_ = 4 then Lp0_1 else 0) f22 (lab_at hoa (i := 1) rfl) rfl, f25.conv (fun _ h_ => hs.closeM_ft (o := o) (ρ := fun l_ => if l_ = 1 then LF else if l_ = 2 then Lp0 else if l_ = 3 then Lp0_0 else if l_ = 4 then Lp0_1 else 0) h_ (lab_at hoa (i := 2) rfl) rfl) (fun _ h_ => hs.closeM_ft (o := o) (ρ := fun l_ => if l_ = 1 then LF else if l_ = 2 then Lp0 else if l_ = 3 then Lp0_0 else if l_ = 4 then Lp0_1 else 0) h_ (lab_at hoa (i := 0) rfl) rfl), hc26, f29.conv (fun _ h_ => hs.closeM_ft (o := o) (ρ := fun l_ => if l_ = 1 then LF else if l_ = 2 then Lp0 else if l_ = 3 then Lp0_0 else if l_ = 4 then Lp0_1 else 0) h_ (lab_at hoa (i := 3) rfl) rfl) (fun _ h_ => hs.closeM_ft (o := o) (ρ := fun l_ => if l_ = 1 then LF else if l_ = 2 then Lp0 else if l_ = 3 then Lp0_0 else if l_ = 4 then Lp0_1 else 0) h_ (lab_at hoa (i := 0) rfl) rfl), hc30⟩
      · rw [b12] at hk H
        replace H := bifT H
        refine x_if hk (b := true) rfl ?_
        refine (show Code.wpIn _ _ _ _ _ _ _ from ?_)
        refine wpIn_region_lit ?_
        refine x_run tab hk (k := 3) (lv := []) (ks := [22]) (e' := [(22, .pointer (some ⟨bp0, 0, none⟩))]) rfl trivial fun a hk => ?_
        refine x_op hk rfl ?_
        refine op_store tab hk (t := 3) (v := .int .i64 1) (b := bp0) (k := 0) (cs' := [.int .i64 1, .bool p0.order_private_, .bool p0.order_wrong, .bool p0.order_any, .bool p0.order_some, .int .i64 p0.order_n, .slice Ap0_0 (p0.order_nums).length cp0_0, .string p0.text, .int .u8 p0.runes_Lead, .int .i32 p0.runes_Rune, .int .i64 p0.runes_Need, .slice Ap0_1 (p0.out).length cp0_1]) rfl rfl rfl rfl rfl rfl f900019 rfl rfl fun w31 o32 st33 f900019_ => ?_
        replace f900000 := f900000.st st33 (by decide)
        replace f900001 := f900001.st st33 (by decide)
        replace hs := hs.locQ st33 hob rfl
        replace f900019 := f900019_
        replace f900000 := f900000.weak
        refine wpListIn_nil ?_
        refine blk_n ?_
        refine then_n ?_
        refine x_seq ?_
        refine wpIn_region_lit ?_
        refine x_run tab hk (k := 1) (lv := []) (ks := [4]) (e' := [(4, .bool true)]) rfl trivial fun a hk => ?_
        refine wpListIn_nil ?_
        refine then_n ?_
        refine wpIn_ret ?_
        obtain rfl := Option.some.inj H
        exact x_retG hk (rs := [.tmp 4]) (vs := [.bool true]) rfl ⟨rfl, trivial⟩ ⟨cl w oi o [2, 3, 4] (fun l_ => if l_ = 1 then LF else if l_ = 2 then Lp0 else if l_ = 3 then Lp0_0 else if l_ = 4 then Lp0_1 else 0) o32, Ap0_0, cp0_0, Ap0_1, cp0_1, rfl, hs.closeF (Lm := [Lp0, Lp0_0, Lp0_1]) (Sh := []) hoa rfl (fun l_ => if l_ = 1 then LF else if l_ = 2 then Lp0 else if l_ = 3 then Lp0_0 else if l_ = 4 then Lp0_1 else 0), hs.closeM_ft (o := o) (ρ := fun l_ => if l_ = 1 then LF else if l_ = 2 then Lp0 else if l_ = 3 then Lp0_0 else if l_ = 4 then Lp0_1 else 0) f900019 (lab_at hoa (i := 1) rfl) rfl, f900000.conv (fun _ h_ => hs.closeM_ft (o := o) (ρ := fun l_ => if l_ = 1 then LF else if l_ = 2 then Lp0 else if l_ = 3 then Lp0_0 else if l_ = 4 then Lp0_1 else 0) h_ (lab_at hoa (i := 2) rfl) rfl) (fun _ h_ => hs.closeM_ft (o := o) (ρ := fun l_ => if l_ = 1 then LF else if l_ = 2 then Lp0 else if l_ = 3 then Lp0_0 else if l_ = 4 then Lp0_1 else 0) h_ (lab_at hoa (i := 0) rfl) rfl), hcp0_0, f900001.conv (fun _ h_ => hs.closeM_ft (o := o) (ρ := fun l_ => if l_ = 1 then LF else if l_ = 2 then Lp0 else if l_ = 3 then Lp0_0 else if l_ = 4 then Lp0_1 else 0) h_ (lab_at hoa (i := 3) rfl) rfl) (fun _ h_ => hs.closeM_ft (o := o) (ρ := fun l_ => if l_ = 1 then LF else if l_ = 2 then Lp0 else if l_ = 3 then Lp0_0 else if l_ = 4 then Lp0_1 else 0) h_ (lab_at hoa (i := 0) rfl) rfl), hcp0_1⟩
    · rw [b11] at hk H
      replace H := bifT H
      refine x_if hk (b := true) rfl ?_
      refine (show Code.wpIn _ _ _ _ _ _ _ from ?_)
      refine wpIn_region_lit ?_
      refine x_run tab hk (k := 3) (lv := []) (ks := [16]) (e' := [(16, .pointer (some ⟨bp0, 0, none⟩))]) rfl trivial fun a hk => ?_
      refine x_op hk rfl ?_
      refine op_store tab hk (t := 3) (v := .int .i64 0) (b := bp0) (k := 0) (cs' := [.int .i64 0, .bool p0.order_private_, .bool p0.order_wrong, .bool p0.order_any, .bool p0.order_some, .int .i64 p0.order_n, .slice Ap0_0 (p0.order_nums).length cp0_0, .string p0.text, .int .u8 p0.runes_Lead, .int .i32 p0.runes_Rune, .int .i64 p0.runes_Need, .slice Ap0_1 (p0.out).length cp0_1]) rfl rfl rfl rfl rfl rfl f900019 rfl rfl fun w34 o35 st36 f900019_ => ?_
      replace f900000 := f900000.st st36 (by decide)
      replace f900001 := f900001.st st36 (by decide)
      replace hs := hs.locQ st36 hob rfl
      replace f900019 := f900019_
      replace f900000 := f900000.weak
      refine wpListIn_nil ?_
      refine blk_n ?_
      refine then_n ?_
      refine x_seq ?_
      refine wpIn_region_lit ?_
      refine x_run tab hk (k := 1) (lv := []) (ks := [4]) (e' := [(4, .bool true)]) rfl trivial fun a hk => ?_
      refine wpListIn_nil ?_
      refine then_n ?_
      refine wpIn_ret ?_
      obtain rfl := Option.some.inj H
      exact x_retG hk (rs := [.tmp 4]) (vs := [.bool true]) rfl ⟨rfl, trivial⟩ ⟨cl w oi o [2, 3, 4] (fun l_ => if l_ = 1 then LF else if l_ = 2 then Lp0 else if l_ = 3 then Lp0_0 else if l_ = 4 then Lp0_1 else 0) o35, Ap0_0, cp0_0, Ap0_1, cp0_1, rfl, hs.closeF (Lm := [Lp0, Lp0_0, Lp0_1]) (Sh := []) hoa rfl (fun l_ => if l_ = 1 then LF else if l_ = 2 then Lp0 else if l_ = 3 then Lp0_0 else if l_ = 4 then Lp0_1 else 0), hs.closeM_ft (o := o) (ρ := fun l_ => if l_ = 1 then LF else if l_ = 2 then Lp0 else if l_ = 3 then Lp0_0 else if l_ = 4 then Lp0_1 else 0) f900019 (lab_at hoa (i := 1) rfl) rfl, f900000.conv (fun _ h_ => hs.closeM_ft (o := o) (ρ := fun l_ => if l_ = 1 then LF else if l_ = 2 then Lp0 else if l_ = 3 then Lp0_0 else if l_ = 4 then Lp0_1 else 0) h_ (lab_at hoa (i := 2) rfl) rfl) (fun _ h_ => hs.closeM_ft (o := o) (ρ := fun l_ => if l_ = 1 then LF else if l_ = 2 then Lp0 else if l_ = 3 then Lp0_0 else if l_ = 4 then Lp0_1 else 0) h_ (lab_at hoa (i := 0) rfl) rfl), hcp0_0, f900001.conv (fun _ h_ => hs.closeM_ft (o := o) (ρ := fun l_ => if l_ = 1 then LF else if l_ = 2 then Lp0 else if l_ = 3 then Lp0_0 else if l_ = 4 then Lp0_1 else 0) h_ (lab_at hoa (i := 3) rfl) rfl) (fun _ h_ => hs.closeM_ft (o := o) (ρ := fun l_ => if l_ = 1 then LF else if l_ = 2 then Lp0 else if l_ = 3 then Lp0_0 else if l_ = 4 then Lp0_1 else 0) h_ (lab_at hoa (i := 0) rfl) rfl), hcp0_1⟩
  refine wpIn_region_lit ?_
  refine x_run tab hk (k := 3) (lv := []) (ks := [0, 1, 10]) (e' := [(0, .pointer (some ⟨bp0, 0, none⟩)), (1, .int .u8 p1), (10, .bool (p1 == (24 : Int)))]) rfl trivial fun a hk => ?_
  cases b37 : (p1 == (24 : Int))
  · rw [b37] at hk H
    replace H := bifF H
    refine x_run tab hk (k := 4) (lv := []) (ks := [0, 1, 7]) (e' := [(0, .pointer (some ⟨bp0, 0, none⟩)), (1, .int .u8 p1), (7, .bool (p1 == (26 : Int)))]) rfl trivial fun a hk => ?_
    refine wpListIn_nil ?_
    refine then_n ?_
    exact ⟨oi, (p1 == (26 : Int)), (by exact Kn.pick (ks := [0, 1, 7]) hk rfl), hs, f900000, f900001, f900019, H⟩
  · rw [b37] at hk H
    replace H := bifT H
    refine x_run tab hk (k := 4) (lv := []) (ks := [0, 1, 7]) (e' := [(0, .pointer (some ⟨bp0, 0, none⟩)), (1, .int .u8 p1), (7, .bool true)]) rfl trivial fun a hk => ?_
    refine wpListIn_nil ?_
    refine then_n ?_
    exact ⟨oi, true, (by exact Kn.pick (ks := [0, 1, 7]) hk rfl), hs, f900000, f900001, f900019, H⟩

/-! (*tidewrack/seq.Parser).onGround -/
theorem seq_Parser_onGround_calls (K : Nat) (bp0 : Nat) (Ap0_0 : Option Addr) (cp0_0 : Nat) (Ap0_1 : Option Addr) (cp0_1 : Nat) (p0 : T47) (p1 : Int) (w : World) (o : Nat → Nat) (LF : Nat) (Lg3 : Nat) (hg3 : Ft (RdC ET192 (some ⟨3, 0, none⟩) glob3) w o Lg3) (Lp0 : Nat) (hp0 : Ft (Bx bp0 48 [.int .i64 p0.state, .bool p0.order_private_, .bool p0.order_wrong, .bool p0.order_any, .bool p0.order_some, .int .i64 p0.order_n, .slice Ap0_0 (p0.order_nums).length cp0_0, .string p0.text, .int .u8 p0.runes_Lead, .int .i32 p0.runes_Rune, .int .i64 p0.runes_Need, .slice Ap0_1 (p0.out).length cp0_1]) w o Lp0) (Lp0_0 : Nat) (hp0_0 : CO (encInt .i64) 3 Ap0_0 cp0_0 p0.order_nums (p0.state == (3 : Int)) w o Lp0_0 LF) (hcp0_0 : (p0.order_nums).length ≤ cp0_0) (Lp0_1 : Nat) (hp0_1 : NOwn dT50 51 Ap0_1 cp0_1 p0.out w o Lp0_1 LF) (hcp0_1 : (p0.out).length ≤ cp0_1) (hd0 : ([LF, Lp0, Lp0_0, Lp0_1] : List Nat).Nodup) (hd1 : Lg3 ∉ [LF, Lp0, Lp0_0, Lp0_1]) (r : T47) (H : seq_Parser_onGround K p0 p1 = some r) :
    Calls Tryd.prog 77 #[.pointer (some ⟨bp0, 0, none⟩), .int .u8 p1] w (Ret fun v_ w' => ∃ o' : Nat → Nat, ∃ A0 : Option Addr, ∃ c0 : Nat, ∃ A1 : Option Addr, ∃ c1 : Nat, v_ = .tuple #[] ∧ St [Lp0, Lp0_0, Lp0_1] w o w' o' ∧ Ft (Bx bp0 48 [.int .i64 r.state, .bool r.order_private_, .bool r.order_wrong, .bool r.order_any, .bool r.order_some, .int .i64 r.order_n, .slice A0 (r.order_nums).length c0, .string r.text, .int .u8 r.runes_Lead, .int .i32 r.runes_Rune, .int .i64 r.runes_Need, .slice A1 (r.out).length c1]) w' o' Lp0 ∧ CO (encInt .i64) 3 A0 c0 (r.order_nums) (r.state == (3 : Int)) w' o' Lp0_0 LF ∧ (r.order_nums).length ≤ c0 ∧ NOwn dT50 51 A1 c1 r.out w' o' Lp0_1 LF ∧ (r.out).length ≤ c1) := by
  refine x_enter (vs := [.pointer (some ⟨bp0, 0, none⟩), .int .u8 p1]) Tryd.func77 rfl rfl rfl fun a hk => ?_
  obtain ⟨oi, hs0, h0, h1, hob, hoz, hoa⟩ := St.startM2 w o (m := 4) hd0 rfl
  have hs := hs0 [2, 3, 4]
  have fg3 := h0 _ _ hd1 hg3
  have f900000 := hp0_0.conv (fun _ h_ => h1 2 3 h_ rfl rfl) (fun _ h_ => h1 0 1 h_ rfl rfl)
  have f900001 := hp0_1.conv (fun _ h_ => h1 3 4 h_ rfl rfl) (fun _ h_ => h1 0 1 h_ rfl rfl)
  have f900019 := h1 1 2 hp0 rfl rfl
  clear h0 h1 hs0
  rw [seq_Parser_onGround] at H
  refine x_mid (fun a_ w_ => ∃ o65 : Nat → Nat, Kn 40 a_ [(0, .pointer (some ⟨bp0, 0, none⟩)), (1, .int .u8 p1)] ∧ St [2, 3, 4] w oi w_ o65 ∧ CO (encInt .i64) 3 Ap0_0 cp0_0 p0.order_nums (p0.state == (3 : Int)) w_ o65 3 1 ∧ NOwn dT50 51 Ap0_1 cp0_1 p0.out w_ o65 4 1 ∧ Ft (Bx bp0 48 [.int .i64 p0.state, .bool p0.order_private_, .bool p0.order_wrong, .bool p0.order_any, .bool p0.order_some, .int .i64 p0.order_n, .slice Ap0_0 (p0.order_nums).length cp0_0, .string p0.text, .int .u8 p0.runes_Lead, .int .i32 p0.runes_Rune, .int .i64 p0.runes_Need, .slice Ap0_1 (p0.out).length cp0_1]) w_ o65 2 ∧ Ft (RdC ET192 (some ⟨3, 0, none⟩) glob3) w_ o65 0 ∧ seq_Parser_onGround_j1 K p0 p1 = some r) ?_ ?_
  rotate_left
  · rintro a w66 ⟨o65, hk, hs, f900000, f900001, f900019, fg3, H⟩
    rw [seq_Parser_onGround_j1] at H
    refine x_seq ?_
    refine wpIn_region_lit ?_
    refine x_run tab hk (k := 1) (lv := []) (ks := [0, 1]) (e' := [(0, .pointer (some ⟨bp0, 0, none⟩)), (1, .int .u8 p1)]) rfl trivial fun a hk => ?_
    refine wpListIn_nil ?_
    refine then_n ?_
    refine x_seq ?_
    refine wpIn_region_lit ?_
    refine x_run tab hk (k := 6) (lv := [.agg #[.int .u8 p0.runes_Lead, .int .i32 p0.runes_Rune, .int .i64 p0.runes_Need]]) (ks := [0, 26, 30, 31]) (e' := [(0, .pointer (some ⟨bp0, 0, none⟩)), (26, .pointer (some ⟨bp0, 0, none⟩)), (30, .agg #[.int .u8 p0.runes_Lead, .int .i32 p0.runes_Rune, .int .i64 p0.runes_Need]), (31, .int .u8 p1)]) rfl ⟨(load_box tab rfl rfl f900019.now (k := 8) rfl rfl), trivial⟩ fun a hk => ?_
    refine x_op hk rfl ?_
    obtain ⟨t70, hc71, H⟩ := bindS H
    refine op_call hk ent_72 (vs := [.agg #[.int .u8 p0.runes_Lead, .int .i32 p0.runes_Rune, .int .i64 p0.runes_Need], .int .u8 p1]) rfl (glyph_Decoder_Next_calls K (⟨p0.runes_Lead, p0.runes_Rune, p0.runes_Need⟩ : T44) p1 _ o65 0 fg3 6  _ hc71) ?_
    rintro _ w72 ⟨o73, A75, c76, rfl, st74, f77, hc78⟩
    replace f900000 := f900000.st st74 (by decide)
    replace f900001 := f900001.st st74 (by decide)
    replace f900019 := f900019.st st74 (by decide)
    replace fg3 := fg3.st st74 (by decide)
    replace hs := hs.locQ st74 hob rfl
    have hk := hk.put 32 (.tuple #[.agg #[.int .u8 t70.1.Lead, .int .i32 t70.1.Rune, .int .i64 t70.1.Need], .slice A75 (t70.2).length c76]) rfl
    refine x_run tab hk (k := 5) (lv := []) (ks := [0, 33, 34, 36]) (e' := [(0, .pointer (some ⟨bp0, 0, none⟩)), (33, .agg #[.int .u8 t70.1.Lead, .int .i32 t70.1.Rune, .int .i64 t70.1.Need]), (34, .slice A75 (t70.2).length c76), (36, .pointer (some ((⟨bp0, 0, none⟩ : Addr).add 8)))]) rfl trivial fun a hk => ?_
    refine x_op hk rfl ?_
    refine op_store tab hk (t := 45) (v := .agg #[.int .u8 t70.1.Lead, .int .i32 t70.1.Rune, .int .i64 t70.1.Need]) (b := bp0) (k := 8) (cs' := [.int .i64 p0.state, .bool p0.order_private_, .bool p0.order_wrong, .bool p0.order_any, .bool p0.order_some, .int .i64 p0.order_n, .slice Ap0_0 (p0.order_nums).length cp0_0, .string p0.text, .int .u8 t70.1.Lead, .int .i32 t70.1.Rune, .int .i64 t70.1.Need, .slice Ap0_1 (p0.out).length cp0_1]) rfl rfl rfl rfl rfl rfl f900019 rfl rfl fun w79 o80 st81 f900019_ => ?_
    replace f77 := f77.st st81 (by decide)
    replace f900000 := f900000.st st81 (by decide)
    replace f900001 := f900001.st st81 (by decide)
    replace fg3 := fg3.st st81 (by decide)
    replace hs := hs.locQ st81 hob rfl
    replace f900019 := f900019_
    refine x_run tab hk (k := 1) (lv := []) (ks := [0, 4]) (e' := [(0, .pointer (some ⟨bp0, 0, none⟩)), (4, .slice A75 (t70.2).length c76)]) rfl trivial fun a hk => ?_
    refine wpListIn_nil ?_
    refine then_n ?_
    refine wpIn_region_lit ?_
    refine x_run tab hk (k := 2) (lv := []) (ks := [37, 38]) (e' := [(37, .pointer (some ⟨bp0, 0, none⟩)), (38, .slice A75 (t70.2).length c76)]) rfl trivial fun a hk => ?_
    refine x_op hk rfl ?_
    obtain ⟨t85, hc86, H⟩ := bindS H
    refine op_call hk ent_105 (vs := [.pointer (some ⟨bp0, 0, none⟩), .slice A75 (t70.2).length c76]) rfl (seq_Parser_print_calls K bp0 Ap0_0 cp0_0 Ap0_1 cp0_1 (⟨p0.state, p0.order_private_, p0.order_wrong, p0.order_any, p0.order_some, p0.order_n, p0.order_nums, p0.text, t70.1.Lead, t70.1.Rune, t70.1.Need, p0.out⟩ : T47) A75 c76 t70.2 _ o80 1 2 f900019 3 f900000 hcp0_0 4 f900001 hcp0_1 _ (f77.imp fun _ h_ => Own.rd h_) hc78 (by decide) (by decide)   _ hc86) ?_
    rintro _ w87 ⟨o88, A91, c92, A95, c96, rfl, st89, f90, f93, hc94, f97, hc98⟩
    replace f77 := f77.st st89 (by decide)
    replace fg3 := fg3.st st89 (by decide)
    replace hs := hs.locQ st89 hob rfl
    have hk := hk.put 39 (.tuple #[]) rfl
    refine wpListIn_nil ?_
    obtain rfl := Option.some.inj H
    exact x_endG hk (rs := []) (vs := []) rfl trivial ⟨cl w oi o [2, 3, 4] (fun l_ => if l_ = 1 then LF else if l_ = 2 then Lp0 else if l_ = 3 then Lp0_0 else if l_ = 4 then Lp0_1 else 0) o88, A91, c92, A95, c96, rfl, hs.closeF (Lm := [Lp0, Lp0_0, Lp0_1]) (Sh := []) hoa rfl (fun l_ => if l_ = 1 then LF else if l_ = 2 then Lp0 else if l_ = 3 then Lp0_0 else if l_ = 4 then Lp0_1 else 0), hs.closeM_ft (o := o) (ρ := fun l_ => if l_ = 1 then LF else if l_ = 2 then Lp0 else if l_ = 3 then Lp0_0 else if l_ = 4 then Lp0_1 else 0) f90 (lab_at hoa (i := 1) rfl) rfl, f93.conv (fun _ h_ => hs.closeM_ft (o := o) (ρ := fun l_ => if l_ = 1 then LF else if l_ = 2 then Lp0 else if l_ = 3 then Lp0_0 else if l_ = 4 then Lp0_1 else 0) h_ (lab_at hoa (i := 2) rfl) rfl) (fun _ h_ => hs.closeM_ft (o := o) (ρ := fun l_ => if l_ = 1 then LF else if l_ = 2 then Lp0 else if l_ = 3 then Lp0_0 else if l_ = 4 then Lp0_1 else 0) h_ (lab_at hoa (i := 0) rfl) rfl), hc94, f97.conv (fun _ h_ => hs.closeM_ft (o := o) (ρ := fun l_ => if l_ = 1 then LF else if l_ = 2 then Lp0 else if l_ = 3 then Lp0_0 else if l_ = 4 then Lp0_1 else 0) h_ (lab_at hoa (i := 3) rfl) rfl) (fun _ h_ => hs.closeM_ft (o := o) (ρ := fun l_ => if l_ = 1 then LF else if l_ = 2 then Lp0 else if l_ = 3 then Lp0_0 else if l_ = 4 then Lp0_1 else 0) h_ (lab_at hoa (i := 0) rfl) rfl), hc98⟩
  refine x_mid (fun a_ w_ => ∃ o106 : Nat → Nat, ∃ x107 : Bool, Kn 40 a_ [(0, .pointer (some ⟨bp0, 0, none⟩)), (1, .int .u8 p1), (10, .bool x107)] ∧ St [2, 3, 4] w oi w_ o106 ∧ CO (encInt .i64) 3 Ap0_0 cp0_0 p0.order_nums (p0.state == (3 : Int)) w_ o106 3 1 ∧ NOwn dT50 51 Ap0_1 cp0_1 p0.out w_ o106 4 1 ∧ Ft (Bx bp0 48 [.int .i64 p0.state, .bool p0.order_private_, .bool p0.order_wrong, .bool p0.order_any, .bool p0.order_some, .int .i64 p0.order_n, .slice Ap0_0 (p0.order_nums).length cp0_0, .string p0.text, .int .u8 p0.runes_Lead, .int .i32 p0.runes_Rune, .int .i64 p0.runes_Need, .slice Ap0_1 (p0.out).length cp0_1]) w_ o106 2 ∧ Ft (RdC ET192 (some ⟨3, 0, none⟩) glob3) w_ o106 0 ∧ seq_Parser_onGround_j2 K p0 p1 x107 = some r) ?_ ?_
  rotate_left
  · rintro a w108 ⟨o106, x107, hk, hs, f900000, f900001, f900019, fg3, H⟩
    rw [seq_Parser_onGround_j2] at H
    cases b109 : x107
    · rw [b109] at hk H
      replace H := bifF H
      refine x_if hk (b := false) rfl ?_
      refine (show Code.wpIn _ _ _ _ _ _ _ from ?_)
      refine wpIn_skip ?_
      refine then_n ?_
      exact ⟨o106, (by exact Kn.pick (ks := [0, 1]) hk rfl), hs, f900000, f900001, f900019, fg3, H⟩
    · rw [b109] at hk H
      replace H := bifT H
      refine x_if hk (b := true) rfl ?_
      refine (show Code.wpIn _ _ _ _ _ _ _ from ?_)
      refine x_seq ?_
      refine wpIn_region_lit ?_
      refine x_run tab hk (k := 5) (lv := [.agg #[.int .u8 p0.runes_Lead, .int .i32 p0.runes_Rune, .int .i64 p0.runes_Need]]) (ks := [0, 1, 11, 15]) (e' := [(0, .pointer (some ⟨bp0, 0, none⟩)), (1, .int .u8 p1), (11, .pointer (some ⟨bp0, 0, none⟩)), (15, .agg #[.int .u8 p0.runes_Lead, .int .i32 p0.runes_Rune, .int .i64 p0.runes_Need])]) rfl ⟨(load_box tab rfl rfl f900019.now (k := 8) rfl rfl), trivial⟩ fun a hk => ?_
      refine x_op hk rfl ?_
      obtain ⟨t113, hc114, H⟩ := bindS H
      refine op_call hk ent_38 (vs := [.agg #[.int .u8 p0.runes_Lead, .int .i32 p0.runes_Rune, .int .i64 p0.runes_Need]]) rfl (glyph_Decoder_End_calls (⟨p0.runes_Lead, p0.runes_Rune, p0.runes_Need⟩ : T44) _ o106  7  _ hc114) ?_
      rintro _ w115 ⟨o116, A118, c119, rfl, st117, f120, hc121⟩
      replace f900000 := f900000.st st117 (by decide)
      replace f900001 := f900001.st st117 (by decide)
      replace f900019 := f900019.st st117 (by decide)
      replace fg3 := fg3.st st117 (by decide)
      replace hs := hs.locQ st117 hob rfl
      have hk := hk.put 16 (.slice A118 (t113).length c119) rfl
      refine x_op hk rfl ?_
      obtain ⟨t125, hc126, H⟩ := bindS H
      refine op_call hk ent_105 (vs := [.pointer (some ⟨bp0, 0, none⟩), .slice A118 (t113).length c119]) rfl (seq_Parser_print_calls K bp0 Ap0_0 cp0_0 Ap0_1 cp0_1 p0 A118 c119 t113 _ o116 1 2 f900019 3 f900000 hcp0_0 4 f900001 hcp0_1 _ (f120.imp fun _ h_ => Own.rd h_) hc121 (by decide) (by decide)   _ hc126) ?_
      rintro _ w127 ⟨o128, A131, c132, A135, c136, rfl, st129, f130, f133, hc134, f137, hc138⟩
      replace f120 := f120.st st129 (by decide)
      replace fg3 := fg3.st st129 (by decide)
      replace hs := hs.locQ st129 hob rfl
      have hk := hk.put 17 (.tuple #[]) rfl
      refine wpListIn_nil ?_
      refine then_n ?_
      refine x_seq ?_
      refine wpIn_region_lit ?_
      refine x_run tab hk (k := 4) (lv := []) (ks := [0, 1, 19, 21]) (e' := [(0, .pointer (some ⟨bp0, 0, none⟩)), (1, .int .u8 p1), (19, .agg #[.int .u8 0, .int .i32 0, .int .i64 0]), (21, .pointer (some ((⟨bp0, 0, none⟩ : Addr).add 8)))]) rfl trivial fun a hk => ?_
      refine x_op hk rfl ?_
      refine op_store tab hk (t := 45) (v := .agg #[.int .u8 0, .int .i32 0, .int .i64 0]) (b := bp0) (k := 8) (cs' := [.int .i64 t125.state, .bool t125.order_private_, .bool t125.order_wrong, .bool t125.order_any, .bool t125.order_some, .int .i64 t125.order_n, .slice A131 (t125.order_nums).length c132, .string t125.text, .int .u8 0, .int .i32 0, .int .i64 0, .slice A135 (t125.out).length c136]) rfl rfl rfl rfl rfl rfl f130 rfl rfl fun w139 o140 st141 f130_ => ?_
      replace f133 := f133.st st141 (by decide)
      replace f137 := f137.st st141 (by decide)
      replace fg3 := fg3.st st141 (by decide)
      replace hs := hs.locQ st141 hob rfl
      replace f130 := f130_
      refine wpListIn_nil ?_
      refine then_n ?_
      refine x_seq ?_
      refine wpIn_region_lit ?_
      refine x_run tab hk (k := 2) (lv := []) (ks := [22, 23]) (e' := [(22, .pointer (some ⟨bp0, 0, none⟩)), (23, .int .u8 p1)]) rfl trivial fun a hk => ?_
      refine x_op hk rfl ?_
      obtain ⟨t145, hc146, H⟩ := bindS H
      refine op_call hk ent_106 (vs := [.pointer (some ⟨bp0, 0, none⟩), .int .u8 p1]) rfl (seq_Parser_common_calls bp0 A131 c132 A135 c136 (⟨t125.state, t125.order_private_, t125.order_wrong, t125.order_any, t125.order_some, t125.order_n, t125.order_nums, t125.text, 0, 0, 0, t125.out⟩ : T47) p1 _ o140 1 2 f130 3 f133 hc134 4 f137 hc138 (by decide)   _ hc146) ?_
      rintro _ w147 ⟨o148, A151, c152, A155, c156, rfl, st149, f150, f153, hc154, f157, hc158⟩
      replace fg3 := fg3.st st149 (by decide)
      replace hs := hs.locQ st149 hob rfl
      have hk := hk.put 24 (.bool t145.1) rfl
      refine wpListIn_nil ?_
      refine then_n ?_
      refine wpIn_ret ?_
      refine then_r ?_
      obtain rfl := Option.some.inj H
      exact x_retG hk (rs := []) (vs := []) rfl trivial ⟨cl w oi o [2, 3, 4] (fun l_ => if l_ = 1 then LF else if l_ = 2 then Lp0 else if l_ = 3 then Lp0_0 else if l_ = 4 then Lp0_1 else 0) o148, A151, c152, A155, c156, rfl, hs.closeF (Lm := [Lp0, Lp0_0, Lp0_1]) (Sh := []) hoa rfl (fun l_ => if l_ = 1 then LF else if l_ = 2 then Lp0 else if l_ = 3 then Lp0_0 else if l_ = 4 then Lp0_1 else 0), hs.closeM_ft (o := o) (ρ := fun l_ => if l_ = 1 then LF else if l_ = 2 then Lp0 else if l_ = 3 then Lp0_0 else if l_ = 4 then Lp0_1 else 0) f150 (lab_at hoa (i := 1) rfl) rfl, f153.conv (fun _ h_ => hs.closeM_ft (o := o) (ρ := fun l_ => if l_ = 1 then LF else if l_ = 2 then Lp0 else if l_ = 3 then Lp0_0 else if l_ = 4 then Lp0_1 else 0) h_ (lab_at hoa (i := 2) rfl) rfl) (fun _ h_ => hs.closeM_ft (o := o) (ρ := fun l_ => if l_ = 1 then LF else if l_ = 2 then Lp0 else if l_ = 3 then Lp0_0 else if l_ = 4 then Lp0_1 else 0) h_ (lab_at hoa (i := 0) rfl) rfl), hc154, f157.conv (fun _ h_ => hs.closeM_ft (o := o) (ρ := fun l_ => if l_ = 1 then LF else if l_ = 2 then Lp0 else if l_ = 3 then Lp0_0 else if l_ = 4 then Lp0_1 else 0) h_ (lab_at hoa (i := 3) rfl) rfl) (fun _ h_ => hs.closeM_ft (o := o) (ρ := fun l_ => if l_ = 1 then LF else if l_ = 2 then Lp0 else if l_ = 3 then Lp0_0 else if l_ = 4 then Lp0_1 else 0) h_ (lab_at hoa (i := 0) rfl) rfl), hc158⟩
  refine wpIn_region_lit ?_
  refine x_run tab hk (k := 3) (lv := []) (ks := [0, 1, 7]) (e' := [(0, .pointer (some ⟨bp0, 0, none⟩)), (1, .int .u8 p1), (7, .bool (decide (p1 < (32 : Int))))]) rfl trivial fun a hk => ?_
  cases b159 : (decide (p1 < (32 : Int)))
  · rw [b159] at hk H
    replace H := bifF H
    refine x_run tab hk (k := 3) (lv := []) (ks := [0, 1, 10]) (e' := [(0, .pointer (some ⟨bp0, 0, none⟩)), (1, .int .u8 p1), (10, .bool (p1 == (127 : Int)))]) rfl trivial fun a hk => ?_
    refine wpListIn_nil ?_
    refine then_n ?_
    exact ⟨oi, (p1 == (127 : Int)), (by exact Kn.pick (ks := [0, 1, 10]) hk rfl), hs, f900000, f900001, f900019, fg3, H⟩
  · rw [b159] at hk H
    replace H := bifT H
    refine x_run tab hk (k := 3) (lv := []) (ks := [0, 1, 10]) (e' := [(0, .pointer (some ⟨bp0, 0, none⟩)), (1, .int .u8 p1), (10, .bool true)]) rfl trivial fun a hk => ?_
    refine wpListIn_nil ?_
    refine then_n ?_
    exact ⟨oi, true, (by exact Kn.pick (ks := [0, 1, 10]) hk rfl), hs, f900000, f900001, f900019, fg3, H⟩

/-! (*tidewrack/seq.Parser).onEscape -/
theorem seq_Parser_onEscape_calls (bp0 : Nat) (Ap0_0 : Option Addr) (cp0_0 : Nat) (Ap0_1 : Option Addr) (cp0_1 : Nat) (p0 : T47) (p1 : Int) (w : World) (o : Nat → Nat) (LF : Nat) (Lp0 : Nat) (hp0 : Ft (Bx bp0 48 [.int .i64 p0.state, .bool p0.order_private_, .bool p0.order_wrong, .bool p0.order_any, .bool p0.order_some, .int .i64 p0.order_n, .slice Ap0_0 (p0.order_nums).length cp0_0, .string p0.text, .int .u8 p0.runes_Lead, .int .i32 p0.runes_Rune, .int .i64 p0.runes_Need, .slice Ap0_1 (p0.out).length cp0_1]) w o Lp0) (Lp0_0 : Nat) (hp0_0 : CO (encInt .i64) 3 Ap0_0 cp0_0 p0.order_nums (p0.state == (3 : Int)) w o Lp0_0 LF) (hcp0_0 : (p0.order_nums).length ≤ cp0_0) (Lp0_1 : Nat) (hp0_1 : NOwn dT50 51 Ap0_1 cp0_1 p0.out w o Lp0_1 LF) (hcp0_1 : (p0.out).length ≤ cp0_1) (hd0 : ([LF, Lp0, Lp0_0, Lp0_1] : List Nat).Nodup) (r : T47) (H : seq_Parser_onEscape p0 p1 = some r) :
    Calls Tryd.prog 78 #[.pointer (some ⟨bp0, 0, none⟩), .int .u8 p1] w (Ret fun v_ w' => ∃ o' : Nat → Nat, ∃ A0 : Option Addr, ∃ c0 : Nat, ∃ A1 : Option Addr, ∃ c1 : Nat, v_ = .tuple #[] ∧ St [Lp0, Lp0_0, Lp0_1] w o w' o' ∧ Ft (Bx bp0 48 [.int .i64 r.state, .bool r.order_private_, .bool r.order_wrong, .bool r.order_any, .bool r.order_some, .int .i64 r.order_n, .slice A0 (r.order_nums).length c0, .string r.text, .int .u8 r.runes_Lead, .int .i32 r.runes_Rune, .int .i64 r.runes_Need, .slice A1 (r.out).length c1]) w' o' Lp0 ∧ CO (encInt .i64) 3 A0 c0 (r.order_nums) (r.state == (3 : Int)) w' o' Lp0_0 LF ∧ (r.order_nums).length ≤ c0 ∧ NOwn dT50 51 A1 c1 r.out w' o' Lp0_1 LF ∧ (r.out).length ≤ c1) := by
  refine x_enter (vs := [.pointer (some ⟨bp0, 0, none⟩), .int .u8 p1]) Tryd.func78 rfl rfl rfl fun a hk => ?_
  obtain ⟨oi, hs0, h0, h1, hob, hoz, hoa⟩ := St.startM2 w o (m := 4) hd0 rfl
  have hs := hs0 [2, 3, 4]
  have f900000 := hp0_0.conv (fun _ h_ => h1 2 3 h_ rfl rfl) (fun _ h_ => h1 0 1 h_ rfl rfl)
  have f900001 := hp0_1.conv (fun _ h_ => h1 3 4 h_ rfl rfl) (fun _ h_ => h1 0 1 h_ rfl rfl)
  have f900019 := h1 1 2 hp0 rfl rfl
  clear h0 h1 hs0
  rw [seq_Parser_onEscape] at H
  refine x_seq ?_
  refine x_seq ?_
  refine wpIn_region_lit ?_
  refine x_run tab hk (k := 2) (lv := []) (ks := [0, 1, 4, 5]) (e' := [(0, .pointer (some ⟨bp0, 0, none⟩)), (1, .int .u8 p1), (4, .pointer (some ⟨bp0, 0, none⟩)), (5, .int .u8 p1)]) rfl trivial fun a hk => ?_
  refine x_op hk rfl ?_
  obtain ⟨t4, hc5, H⟩ := bindS H
  refine op_call hk ent_106 (vs := [.pointer (some ⟨bp0, 0, none⟩), .int .u8 p1]) rfl (seq_Parser_common_calls bp0 Ap0_0 cp0_0 Ap0_1 cp0_1 p0 p1 _ oi 1 2 f900019 3 f900000 hcp0_0 4 f900001 hcp0_1 (by decide)   _ hc5) ?_
  rintro _ w6 ⟨o7, A10, c11, A14, c15, rfl, st8, f9, f12, hc13, f16, hc17⟩
  replace hs := hs.locQ st8 hob rfl
  have hk := hk.put 6 (.bool t4.1) rfl
  refine wpListIn_nil ?_
  refine then_n ?_
  cases b18 : t4.1
  · rw [b18] at hk H
    replace H := bifF H
    refine x_if hk (b := false) rfl ?_
    refine (show Code.wpIn _ _ _ _ _ _ _ from ?_)
    refine wpIn_skip ?_
    refine then_n ?_
    refine x_seq ?_
    refine wpIn_block ?_
    refine x_seq ?_
    refine wpIn_region_lit ?_
    refine x_run tab hk (k := 3) (lv := []) (ks := [0, 1, 7]) (e' := [(0, .pointer (some ⟨bp0, 0, none⟩)), (1, .int .u8 p1), (7, .bool (p1 == (91 : Int)))]) rfl trivial fun a hk => ?_
    refine wpListIn_nil ?_
    refine then_n ?_
    cases b19 : (p1 == (91 : Int))
    · rw [b19] at hk H
      replace H := bifF H
      refine x_if hk (b := false) rfl ?_
      refine (show Code.wpIn _ _ _ _ _ _ _ from ?_)
      refine x_seq ?_
      refine wpIn_region_lit ?_
      refine x_run tab hk (k := 3) (lv := []) (ks := [0, 1, 17]) (e' := [(0, .pointer (some ⟨bp0, 0, none⟩)), (1, .int .u8 p1), (17, .bool (p1 == (93 : Int)))]) rfl trivial fun a hk => ?_
      refine wpListIn_nil ?_
      refine then_n ?_
      cases b20 : (p1 == (93 : Int))
      · rw [b20] at hk H
        replace H := bifF H
        refine x_if hk (b := false) rfl ?_
        refine (show Code.wpIn _ _ _ _ _ _ _ from ?_)
        refine x_seq ?_
        refine wpIn_region_lit ?_
        refine x_run tab hk (k := 3) (lv := []) (ks := [0, 1, 26]) (e' := [(0, .pointer (some ⟨bp0, 0, none⟩)), (1, .int .u8 p1), (26, .bool (decide (p1 < (48 : Int))))]) rfl trivial fun a hk => ?_
        refine wpListIn_nil ?_
        refine then_n ?_
        cases b21 : (decide (p1 < (48 : Int)))
        · rw [b21] at hk H
          replace H := bifF H
          refine x_if hk (b := false) rfl ?_
          refine (show Code.wpIn _ _ _ _ _ _ _ from ?_)
          refine x_seq ?_
          refine wpIn_region_lit ?_
          refine x_run tab hk (k := 3) (lv := []) (ks := [0, 1, 32]) (e' := [(0, .pointer (some ⟨bp0, 0, none⟩)), (1, .int .u8 p1), (32, .bool (decide (p1 < (127 : Int))))]) rfl trivial fun a hk => ?_
          refine wpListIn_nil ?_
          refine then_n ?_
          cases b22 : (decide (p1 < (127 : Int)))
          · rw [b22] at hk H
            replace H := bifF H
            refine x_if hk (b := false) rfl ?_
            refine (show Code.wpIn _ _ _ _ _ _ _ from ?_)
            refine wpIn_skip ?_
            refine blk_n ?_
            refine then_n ?_
            refine wpIn_region_lit ?_
            refine x_run tab hk (k := 3) (lv := []) (ks := [41]) (e' := [(41, .pointer (some ⟨bp0, 0, none⟩))]) rfl trivial fun a hk => ?_
            refine x_op hk rfl ?_
            refine op_store tab hk (t := 3) (v := .int .i64 0) (b := bp0) (k := 0) (cs' := [.int .i64 0, .bool t4.2.order_private_, .bool t4.2.order_wrong, .bool t4.2.order_any, .bool t4.2.order_some, .int .i64 t4.2.order_n, .slice A10 (t4.2.order_nums).length c11, .string t4.2.text, .int .u8 t4.2.runes_Lead, .int .i32 t4.2.runes_Rune, .int .i64 t4.2.runes_Need, .slice A14 (t4.2.out).length c15]) rfl rfl rfl rfl rfl rfl f9 rfl rfl fun w23 o24 st25 f9_ => ?_
            replace f12 := f12.st st25 (by decide)
            replace f16 := f16.st st25 (by decide)
            replace hs := hs.locQ st25 hob rfl
            replace f9 := f9_
            replace f12 := f12.weak
            refine wpListIn_nil ?_
            obtain rfl := Option.some.inj H
            exact x_endG hk (rs := []) (vs := []) rfl trivial ⟨cl w oi o [2, 3, 4] (fun l_ => if l_ = 1 then LF else if l_ = 2 then Lp0 else if l_ = 3 then Lp0_0 else if l_ = 4 then Lp0_1 else 0) o24, A10, c11, A14, c15, rfl, hs.closeF (Lm := [Lp0, Lp0_0, Lp0_1]) (Sh := []) hoa rfl (fun l_ => if l_ = 1 then LF else if l_ = 2 then Lp0 else if l_ = 3 then Lp0_0 else if l_ = 4 then Lp0_1 else 0), hs.closeM_ft (o := o) (ρ := fun l_ => if l_ = 1 then LF else if l_ = 2 then Lp0 else if l_ = 3 then Lp0_0 else if l_ = 4 then Lp0_1 else 0) f9 (lab_at hoa (i := 1) rfl) rfl, f12.conv (fun _ h_ => hs.closeM_ft (o := o) (ρ := fun l_ => if l_ = 1 then LF else if l_ = 2 then Lp0 else if l_ = 3 then Lp0_0 else if l_ = 4 then Lp0_1 else 0) h_ (lab_at hoa (i := 2) rfl) rfl) (fun _ h_ => hs.closeM_ft (o := o) (ρ := fun l_ => if l_ = 1 then LF else if l_ = 2 then Lp0 else if l_ = 3 then Lp0_0 else if l_ = 4 then Lp0_1 else 0) h_ (lab_at hoa (i := 0) rfl) rfl), hc13, f16.conv (fun _ h_ => hs.closeM_ft (o := o) (ρ := fun l_ => if l_ = 1 then LF else if l_ = 2 then Lp0 else if l_ = 3 then Lp0_0 else if l_ = 4 then Lp0_1 else 0) h_ (lab_at hoa (i := 3) rfl) rfl) (fun _ h_ => hs.closeM_ft (o := o) (ρ := fun l_ => if l_ = 1 then LF else if l_ = 2 then Lp0 else if l_ = 3 then Lp0_0 else if l_ = 4 then Lp0_1 else 0) h_ (lab_at hoa (i := 0) rfl) rfl), hc17⟩
          · rw [b22] at hk H
            replace H := bifT H
            refine x_if hk (b := true) rfl ?_
            refine (show Code.wpIn _ _ _ _ _ _ _ from ?_)
            refine wpIn_region_lit ?_
            refine x_run tab hk (k := 3) (lv := []) (ks := [0, 35, 37]) (e' := [(0, .pointer (some ⟨bp0, 0, none⟩)), (35, .pointer (some ⟨bp0, 0, none⟩)), (37, .agg #[.int .i64 3, .int .i32 0, .int .u8 p1, .bool false, .slice none 0 0, .string (⟨#[]⟩ : ByteArray)])]) rfl trivial fun a hk => ?_
            refine x_op hk rfl ?_
            obtain ⟨t29, hc30, H⟩ := bindS H
            refine op_call hk ent_107 (vs := [.pointer (some ⟨bp0, 0, none⟩), .agg #[.int .i64 3, .int .i32 0, .int .u8 p1, .bool false, .slice none 0 0, .string (⟨#[]⟩ : ByteArray)]]) rfl (seq_Parser_tell_calls bp0 A10 c11 A14 c15 t4.2 none 0 (⟨3, 0, p1, false, ([] : List Int), (⟨#[]⟩ : ByteArray)⟩ : T50) _ o7 1 2 f9 3 f12 hc13 4 f16 hc17 (Ft.of_all (fun _ => RdC.nilr _ _ _) _ _ _) (Nat.le_refl _) (by decide)   _ hc30) ?_
            rintro _ w31 ⟨o32, A35, c36, A39, c40, rfl, st33, f34, f37, hc38, f41, hc42⟩
            replace hs := hs.locQ st33 hob rfl
            have hk := hk.put 38 (.tuple #[]) rfl
            refine wpListIn_nil ?_
            refine blk_n ?_
            refine then_n ?_
            refine wpIn_region_lit ?_
            refine x_run tab hk (k := 3) (lv := []) (ks := [41]) (e' := [(41, .pointer (some ⟨bp0, 0, none⟩))]) rfl trivial fun a hk => ?_
            refine x_op hk rfl ?_
            refine op_store tab hk (t := 3) (v := .int .i64 0) (b := bp0) (k := 0) (cs' := [.int .i64 0, .bool t29.order_private_, .bool t29.order_wrong, .bool t29.order_any, .bool t29.order_some, .int .i64 t29.order_n, .slice A35 (t29.order_nums).length c36, .string t29.text, .int .u8 t29.runes_Lead, .int .i32 t29.runes_Rune, .int .i64 t29.runes_Need, .slice A39 (t29.out).length c40]) rfl rfl rfl rfl rfl rfl f34 rfl rfl fun w43 o44 st45 f34_ => ?_
            replace f37 := f37.st st45 (by decide)
            replace f41 := f41.st st45 (by decide)
            replace hs := hs.locQ st45 hob rfl
            replace f34 := f34_
            replace f37 := f37.weak
            refine wpListIn_nil ?_
            obtain rfl := Option.some.inj H
            exact x_endG hk (rs := []) (vs := []) rfl trivial ⟨cl w oi o [2, 3, 4] (fun l_ => if l_ = 1 then LF else if l_ = 2 then Lp0 else if l_ = 3 then Lp0_0 else if l_ = 4 then Lp0_1 else 0) o44, A35, c36, A39, c40, rfl, hs.closeF (Lm := [Lp0, Lp0_0, Lp0_1]) (Sh := []) hoa rfl (fun l_ => if l_ = 1 then LF else if l_ = 2 then Lp0 else if l_ = 3 then Lp0_0 else if l_ = 4 then Lp0_1 else 0), hs.closeM_ft (o := o) (ρ := fun l_ => if l_ = 1 then LF else if l_ = 2 then Lp0 else if l_ = 3 then Lp0_0 else if l_ = 4 then Lp0_1 else 0) f34 (lab_at hoa (i := 1) rfl) rfl, f37.conv (fun _ h_ => hs.closeM_ft (o := o) (ρ := fun l_ => if l_ = 1 then LF else if l_ = 2 then Lp0 else if l_ = 3 then Lp0_0 else if l_ = 4 then Lp0_1 else 0) h_ (lab_at hoa (i := 2) rfl) rfl) (fun _ h_ => hs.closeM_ft (o := o) (ρ := fun l_ => if l_ = 1 then LF else if l_ = 2 then Lp0 else if l_ = 3 then Lp0_0 else if l_ = 4 then Lp0_1 else 0) h_ (lab_at hoa (i := 0) rfl) rfl), hc38, f41.conv (fun _ h_ => hs.closeM_ft (o := o) (ρ := fun l_ => if l_ = 1 then LF else if l_ = 2 then Lp0 else if l_ = 3 then Lp0_0 else if l_ = 4 then Lp0_1 else 0) h_ (lab_at hoa (i := 3) rfl) rfl) (fun _ h_ => hs.closeM_ft (o := o) (ρ := fun l_ => if l_ = 1 then LF else if l_ = 2 then Lp0 else if l_ = 3 then Lp0_0 else if l_ = 4 then Lp0_1 else 0) h_ (lab_at hoa (i := 0) rfl) rfl), hc42⟩
        · rw [b21] at hk H
          replace H := bifT H
          refine x_if hk (b := true) rfl ?_
          refine (show Code.wpIn _ _ _ _ _ _ _ from ?_)
          refine x_seq ?_
          refine wpIn_region_lit ?_
          refine x_run tab hk (k := 3) (lv := []) (ks := [31]) (e' := [(31, .pointer (some ⟨bp0, 0, none⟩))]) rfl trivial fun a hk => ?_
          refine x_op hk rfl ?_
          refine op_store tab hk (t := 3) (v := .int .i64 2) (b := bp0) (k := 0) (cs' := [.int .i64 2, .bool t4.2.order_private_, .bool t4.2.order_wrong, .bool t4.2.order_any, .bool t4.2.order_some, .int .i64 t4.2.order_n, .slice A10 (t4.2.order_nums).length c11, .string t4.2.text, .int .u8 t4.2.runes_Lead, .int .i32 t4.2.runes_Rune, .int .i64 t4.2.runes_Need, .slice A14 (t4.2.out).length c15]) rfl rfl rfl rfl rfl rfl f9 rfl rfl fun w46 o47 st48 f9_ => ?_
          replace f12 := f12.st st48 (by decide)
          replace f16 := f16.st st48 (by decide)
          replace hs := hs.locQ st48 hob rfl
          replace f9 := f9_
          replace f12 := f12.weak
          refine wpListIn_nil ?_
          refine then_n ?_
          refine wpIn_ret ?_
          refine blk_r ?_
          refine then_r ?_
          obtain rfl := Option.some.inj H
          exact x_retG hk (rs := []) (vs := []) rfl trivial ⟨cl w oi o [2, 3, 4] (fun l_ => if l_ = 1 then LF else if l_ = 2 then Lp0 else if l_ = 3 then Lp0_0 else if l_ = 4 then Lp0_1 else 0) o47, A10, c11, A14, c15, rfl, hs.closeF (Lm := [Lp0, Lp0_0, Lp0_1]) (Sh := []) hoa rfl (fun l_ => if l_ = 1 then LF else if l_ = 2 then Lp0 else if l_ = 3 then Lp0_0 else if l_ = 4 then Lp0_1 else 0), hs.closeM_ft (o := o) (ρ := fun l_ => if l_ = 1 then LF else if l_ = 2 then Lp0 else if l_ = 3 then Lp0_0 else if l_ = 4 then Lp0_1 else 0) f9 (lab_at hoa (i := 1) rfl) rfl, f12.conv (fun _ h_ => hs.closeM_ft (o := o) (ρ := fun l_ => if l_ = 1 then LF else if l_ = 2 then Lp0 else if l_ = 3 then Lp0_0 else if l_ = 4 then Lp0_1 else 0) h_ (lab_at hoa (i := 2) rfl) rfl) (fun _ h_ => hs.closeM_ft (o := o) (ρ := fun l_ => if l_ = 1 then LF else if l_ = 2 then Lp0 else if l_ = 3 then Lp0_0 else if l_ = 4 then Lp0_1 else 0) h_ (lab_at hoa (i := 0) rfl) rfl), hc13, f16.conv (fun _ h_ => hs.closeM_ft (o := o) (ρ := fun l_ => if l_ = 1 then LF else if l_ = 2 then Lp0 else if l_ = 3 then Lp0_0 else if l_ = 4 then Lp0_1 else 0) h_ (lab_at hoa (i := 3) rfl) rfl) (fun _ h_ => hs.closeM_ft (o := o) (ρ := fun l_ => if l_ = 1 then LF else if l_ = 2 then Lp0 else if l_ = 3 then Lp0_0 else if l_ = 4 then Lp0_1 else 0) h_ (lab_at hoa (i := 0) rfl) rfl), hc17⟩
      · rw [b20] at hk H
        replace H := bifT H
        refine x_if hk (b := true) rfl ?_
        refine (show Code.wpIn _ _ _ _ _ _ _ from ?_)
        refine x_seq ?_
        refine wpIn_region_lit ?_
        refine x_run tab hk (k := 4) (lv := []) (ks := [21, 23]) (e' := [(21, .pointer (some ⟨bp0, 0, none⟩)), (23, .pointer (some ⟨bp0, 0, none⟩))]) rfl trivial fun a hk => ?_
        refine x_op hk rfl ?_
        refine op_store tab hk (t := 3) (v := .int .i64 4) (b := bp0) (k := 0) (cs' := [.int .i64 4, .bool t4.2.order_private_, .bool t4.2.order_wrong, .bool t4.2.order_any, .bool t4.2.order_some, .int .i64 t4.2.order_n, .slice A10 (t4.2.order_nums).length c11, .string t4.2.text, .int .u8 t4.2.runes_Lead, .int .i32 t4.2.runes_Rune, .int .i64 t4.2.runes_Need, .slice A14 (t4.2.out).length c15]) rfl rfl rfl rfl rfl rfl f9 rfl rfl fun w49 o50 st51 f9_ => ?_
        replace f12 := f12.st st51 (by decide)
        replace f16 := f16.st st51 (by decide)
        replace hs := hs.locQ st51 hob rfl
        replace f9 := f9_
        replace f12 := f12.weak
        refine x_run tab hk (k := 2) (lv := []) (ks := [25]) (e' := [(25, .pointer (some ((⟨bp0, 0, none⟩ : Addr).add 7)))]) rfl trivial fun a hk => ?_
        refine x_op hk rfl ?_
        refine op_store tab hk (t := 9) (v := .string (⟨#[]⟩ : ByteArray)) (b := bp0) (k := 7) (cs' := [.int .i64 4, .bool t4.2.order_private_, .bool t4.2.order_wrong, .bool t4.2.order_any, .bool t4.2.order_some, .int .i64 t4.2.order_n, .slice A10 (t4.2.order_nums).length c11, .string (⟨#[]⟩ : ByteArray), .int .u8 t4.2.runes_Lead, .int .i32 t4.2.runes_Rune, .int .i64 t4.2.runes_Need, .slice A14 (t4.2.out).length c15]) rfl rfl rfl rfl rfl rfl f9 rfl rfl fun w52 o53 st54 f9_ => ?_
        replace f12 := f12.st st54 (by decide)
        replace f16 := f16.st st54 (by decide)
        replace hs := hs.locQ st54 hob rfl
        replace f9 := f9_
        refine wpListIn_nil ?_
        refine then_n ?_
        refine wpIn_ret ?_
        refine blk_r ?_
        refine then_r ?_
        obtain rfl := Option.some.inj H
        exact x_retG hk (rs := []) (vs := []) rfl trivial ⟨cl w oi o [2, 3, 4] (fun l_ => if l_ = 1 then LF else if l_ = 2 then Lp0 else if l_ = 3 then Lp0_0 else if l_ = 4 then Lp0_1 else 0) o53, A10, c11, A14, c15, rfl, hs.closeF (Lm := [Lp0, Lp0_0, Lp0_1]) (Sh := []) hoa rfl (fun l_ => if l_ = 1 then LF else if l_ = 2 then Lp0 else if l_ = 3 then Lp0_0 else if l_ = 4 then Lp0_1 else 0), hs.closeM_ft (o := o) (ρ := fun l_ => if l_ = 1 then LF else if l_ = 2 then Lp0 else if l_ = 3 then Lp0_0 else if l_ = 4 then Lp0_1 else 0) f9 (lab_at hoa (i := 1) rfl) rfl, f12.conv (fun _ h_ => hs.closeM_ft (o := o) (ρ := fun l_ => if l_ = 1 then LF else if l_ = 2 then Lp0 else if l_ = 3 then Lp0_0 else if l_ = 4 then Lp0_1 else 0) h_ (lab_at hoa (i := 2) rfl) rfl) (fun _ h_ => hs.closeM_ft (o := o) (ρ := fun l_ => if l_ = 1 then LF else if l_ = 2 then Lp0 else if l_ = 3 then Lp0_0 else if l_ = 4 then Lp0_1 else 0) h_ (lab_at hoa (i := 0) rfl) rfl), hc13, f16.conv (fun _ h_ => hs.closeM_ft (o := o) (ρ := fun l_ => if l_ = 1 then LF else if l_ = 2 then Lp0 else if l_ = 3 then Lp0_0 else if l_ = 4 then Lp0_1 else 0) h_ (lab_at hoa (i := 3) rfl) rfl) (fun _ h_ => hs.closeM_ft (o := o) (ρ := fun l_ => if l_ = 1 then LF else if l_ = 2 then Lp0 else if l_ = 3 then Lp0_0 else if l_ = 4 then Lp0_1 else 0) h_ (lab_at hoa (i := 0) rfl) rfl), hc17⟩
    · rw [b19] at hk H
      replace H := bifT H
      refine x_if hk (b := true) rfl ?_
      refine (show Code.wpIn _ _ _ _ _ _ _ from ?_)
      refine x_seq ?_
      refine wpIn_region_lit ?_
      refine x_run tab hk (k := 5) (lv := []) (ks := [11, 12, 14]) (e' := [(11, .pointer (some ⟨bp0, 0, none⟩)), (12, .agg #[.bool false, .bool false, .bool false, .bool false, .int .i64 0, .slice none 0 0]), (14, .pointer (some ⟨bp0, 0, none⟩))]) rfl trivial fun a hk => ?_
      refine x_op hk rfl ?_
      refine op_store tab hk (t := 3) (v := .int .i64 3) (b := bp0) (k := 0) (cs' := [.int .i64 3, .bool t4.2.order_private_, .bool t4.2.order_wrong, .bool t4.2.order_any, .bool t4.2.order_some, .int .i64 t4.2.order_n, .slice A10 (t4.2.order_nums).length c11, .string t4.2.text, .int .u8 t4.2.runes_Lead, .int .i32 t4.2.runes_Rune, .int .i64 t4.2.runes_Need, .slice A14 (t4.2.out).length c15]) rfl rfl rfl rfl rfl rfl f9 rfl rfl fun w55 o56 st57 f9_ => ?_
      replace f12 := f12.st st57 (by decide)
      replace f16 := f16.st st57 (by decide)
      replace hs := hs.locQ st57 hob rfl
      replace f9 := f9_
      replace f12 := f12.weak
      refine x_run tab hk (k := 2) (lv := []) (ks := [12, 16]) (e' := [(12, .agg #[.bool false, .bool false, .bool false, .bool false, .int .i64 0, .slice none 0 0]), (16, .pointer (some ((⟨bp0, 0, none⟩ : Addr).add 1)))]) rfl trivial fun a hk => ?_
      refine x_op hk rfl ?_
      refine op_store tab hk (t := 43) (v := .agg #[.bool false, .bool false, .bool false, .bool false, .int .i64 0, .slice none 0 0]) (b := bp0) (k := 1) (cs' := [.int .i64 3, .bool false, .bool false, .bool false, .bool false, .int .i64 0, .slice none 0 0, .string t4.2.text, .int .u8 t4.2.runes_Lead, .int .i32 t4.2.runes_Rune, .int .i64 t4.2.runes_Need, .slice A14 (t4.2.out).length c15]) rfl rfl rfl rfl rfl rfl f9 rfl rfl fun w58 o59 st60 f9_ => ?_
      replace f12 := f12.st st60 (by decide)
      replace f16 := f16.st st60 (by decide)
      replace hs := hs.locQ st60 hob rfl
      replace f9 := f9_
      refine wpListIn_nil ?_
      refine then_n ?_
      refine wpIn_ret ?_
      refine blk_r ?_
      refine then_r ?_
      obtain rfl := Option.some.inj H
      exact x_retG hk (rs := []) (vs := []) rfl trivial ⟨cl w oi o [2, 3, 4] (fun l_ => if l_ = 1 then LF else if l_ = 2 then Lp0 else if l_ = 4 then Lp0_1 else 0) o59, none, 0, A14, c15, rfl, hs.closeF (Lm := [Lp0, Lp0_0, Lp0_1]) (Sh := []) hoa rfl (fun l_ => if l_ = 1 then LF else if l_ = 2 then Lp0 else if l_ = 4 then Lp0_1 else 0), hs.closeM_ft (o := o) (ρ := fun l_ => if l_ = 1 then LF else if l_ = 2 then Lp0 else if l_ = 4 then Lp0_1 else 0) f9 (lab_at hoa (i := 1) rfl) rfl, (CO.nil _ _ _ _ _ _ _), (by simp), f16.conv (fun _ h_ => hs.closeM_ft (o := o) (ρ := fun l_ => if l_ = 1 then LF else if l_ = 2 then Lp0 else if l_ = 4 then Lp0_1 else 0) h_ (lab_at hoa (i := 3) rfl) rfl) (fun _ h_ => hs.closeM_ft (o := o) (ρ := fun l_ => if l_ = 1 then LF else if l_ = 2 then Lp0 else if l_ = 4 then Lp0_1 else 0) h_ (lab_at hoa (i := 0) rfl) rfl), hc17⟩
  · rw [b18] at hk H
    replace H := bifT H
    refine x_if hk (b := true) rfl ?_
    refine (show Code.wpIn _ _ _ _ _ _ _ from ?_)
    refine wpIn_ret ?_
    refine then_r ?_
    obtain rfl := Option.some.inj H
    exact x_retG hk (rs := []) (vs := []) rfl trivial ⟨cl w oi o [2, 3, 4] (fun l_ => if l_ = 1 then LF else if l_ = 2 then Lp0 else if l_ = 3 then Lp0_0 else if l_ = 4 then Lp0_1 else 0) o7, A10, c11, A14, c15, rfl, hs.closeF (Lm := [Lp0, Lp0_0, Lp0_1]) (Sh := []) hoa rfl (fun l_ => if l_ = 1 then LF else if l_ = 2 then Lp0 else if l_ = 3 then Lp0_0 else if l_ = 4 then Lp0_1 else 0), hs.closeM_ft (o := o) (ρ := fun l_ => if l_ = 1 then LF else if l_ = 2 then Lp0 else if l_ = 3 then Lp0_0 else if l_ = 4 then Lp0_1 else 0) f9 (lab_at hoa (i := 1) rfl) rfl, f12.conv (fun _ h_ => hs.closeM_ft (o := o) (ρ := fun l_ => if l_ = 1 then LF else if l_ = 2 then Lp0 else if l_ = 3 then Lp0_0 else if l_ = 4 then Lp0_1 else 0) h_ (lab_at hoa (i := 2) rfl) rfl) (fun _ h_ => hs.closeM_ft (o := o) (ρ := fun l_ => if l_ = 1 then LF else if l_ = 2 then Lp0 else if l_ = 3 then Lp0_0 else if l_ = 4 then Lp0_1 else 0) h_ (lab_at hoa (i := 0) rfl) rfl), hc13, f16.conv (fun _ h_ => hs.closeM_ft (o := o) (ρ := fun l_ => if l_ = 1 then LF else if l_ = 2 then Lp0 else if l_ = 3 then Lp0_0 else if l_ = 4 then Lp0_1 else 0) h_ (lab_at hoa (i := 3) rfl) rfl) (fun _ h_ => hs.closeM_ft (o := o) (ρ := fun l_ => if l_ = 1 then LF else if l_ = 2 then Lp0 else if l_ = 3 then Lp0_0 else if l_ = 4 then Lp0_1 else 0) h_ (lab_at hoa (i := 0) rfl) rfl), hc17⟩

end Go.Proofs.YtpciioffkjpieaaDoor
