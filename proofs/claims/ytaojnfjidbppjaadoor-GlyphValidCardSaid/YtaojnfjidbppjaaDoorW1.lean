/- Walks, printed by an own program: the machine's calls compute the plain functions. -/
import Derived.Test.YtaojnfjidbppjaaDoorW0
set_option linter.unusedVariables false
set_option linter.unusedSimpArgs false
namespace Go.Proofs.YtaojnfjidbppjaaDoor
open Go Go.Proofs.XC
/-! tidewrack/glyph.find -/
theorem glyph_find_calls (K : Nat) (p0 : Int) (w : World) (o : Nat → Nat) (Lg0 : Nat) (hg0 : Ft (RdC ET47 (some ⟨0, 0, none⟩) glob0) w o Lg0)  (r : T47 × Bool) (H : glyph_find K p0 = some r) :
    Calls Tryd.prog 21 #[.int .u8 p0] w (Ret fun v_ w' => ∃ o' : Nat → Nat, v_ = .tuple #[.agg #[.int .u8 r.1.first, .int .u8 r.1.last, .int .i64 r.1.need, .int .u8 r.1.low, .int .u8 r.1.high], .bool r.2] ∧ St [] w o w' o') := by
  refine x_enter (vs := [.int .u8 p0]) Tryd.func21 rfl rfl rfl fun a hk => ?_
  obtain ⟨o0, hs, h0⟩ := St.start w o
  have fg0 := h0 _ _ hg0
  clear h0
  rw [glyph_find] at H
  refine x_seq ?_
  refine wp_region_lit ?_
  refine x_op hk rfl ?_
  refine op_alloc (o := o0) tab (t := 48) (cs := [.int .u8 0, .int .u8 0, .int .i64 0, .int .u8 0, .int .u8 0]) rfl rfl 1 fun bx4 w1 o2 st3 f5 => ?_
  replace fg0 := fg0.st st3 (by decide)
  replace hs := hs.loc0 st3 (by decide)
  have hk := hk.put 2 (.pointer (some ⟨bx4, 0, none⟩)) rfl
  refine x_run tab hk (k := 1) (lv := []) (ks := [0, 2]) (e' := [(0, .int .u8 p0), (2, .pointer (some ⟨bx4, 0, none⟩))]) rfl trivial fun a hk => ?_
  refine wpList_nil ?_
  refine then_n ?_
  refine x_mid (fun a_ w_ => ∃ o93 : Nat → Nat, Kn 23 a_ [(2, .pointer (some ⟨bx4, 0, none⟩))] ∧ St [] w (fun _ => 0) w_ o93 ∧ Ft (Bx bx4 48 [.int .u8 0, .int .u8 0, .int .i64 0, .int .u8 0, .int .u8 0]) w_ o93 13 ∧ Ft (RdC ET47 (some ⟨0, 0, none⟩) glob0) w_ o93 0 ∧ glyph_find_j1 = some r) ?_ ?_
  rotate_left
  · rintro a w94 ⟨o93, hk, hs, f5, fg0, H⟩
    rw [glyph_find_j1] at H
    refine x_seq ?_
    refine wp_region_lit ?_
    refine x_run tab hk (k := 1) (lv := []) (ks := [2, 22]) (e' := [(2, .pointer (some ⟨bx4, 0, none⟩)), (22, .agg #[.int .u8 0, .int .u8 0, .int .i64 0, .int .u8 0, .int .u8 0])]) rfl trivial fun a hk => ?_
    refine x_op hk rfl ?_
    refine op_store tab hk (t := 48) (v := .agg #[.int .u8 0, .int .u8 0, .int .i64 0, .int .u8 0, .int .u8 0]) (b := bx4) (k := 0) (cs' := [.int .u8 0, .int .u8 0, .int .i64 0, .int .u8 0, .int .u8 0]) rfl rfl rfl rfl rfl rfl f5 rfl rfl fun w95 o96 st97 f5_ => ?_
    replace fg0 := fg0.st st97 (by decide)
    replace hs := hs.loc0 st97 (by decide)
    replace f5 := f5_
    refine x_run tab hk (k := 1) (lv := []) (ks := [2, 3]) (e' := [(2, .pointer (some ⟨bx4, 0, none⟩)), (3, .bool false)]) rfl trivial fun a hk => ?_
    refine wpList_nil ?_
    refine then_n ?_
    refine wp_ret ?_
    obtain rfl := Option.some.inj H
    exact x_retG hk (rs := [.cell 2 48, .tmp 3]) (vs := [.agg #[.int .u8 0, .int .u8 0, .int .i64 0, .int .u8 0, .int .u8 0], .bool false]) rfl ⟨⟨_, rfl, load_box tab rfl rfl f5.now (k := 0) rfl rfl⟩, rfl, trivial⟩ ⟨fun b_ => if b_ < w.heap.size then o b_ else (fun _ => 0) (o96 b_), rfl, hs.close0 o (fun _ => 0)⟩
  refine x_seq ?_
  refine wp_region_lit ?_
  refine x_run tab hk (k := 2) (lv := [.agg (List.flatMap (Enc.f ET47) glob0).toArray]) (ks := [0, 2, 6, 7]) (e' := [(0, .int .u8 p0), (2, .pointer (some ⟨bx4, 0, none⟩)), (6, .agg (List.flatMap (Enc.f ET47) glob0).toArray), (7, .int .i64 0)]) rfl ⟨(load_arr (E := ET47) (xs := glob0) tab rfl rfl fg0.now rfl), trivial⟩ fun a hk => ?_
  refine wpList_nil ?_
  refine then_n ?_
  refine wp_block ?_
  refine x_loop (fun j_ a_ w_ => ∃ o126 : Nat → Nat, ∃ x127 : Int, Kn 23 a_ [(0, .int .u8 p0), (2, .pointer (some ⟨bx4, 0, none⟩)), (6, .agg (List.flatMap (Enc.f ET47) glob0).toArray), (7, .int .i64 x127)] ∧ St [] w (fun _ => 0) w_ o126 ∧ Ft (Bx bx4 48 [.int .u8 0, .int .u8 0, .int .i64 0, .int .u8 0, .int .u8 0]) w_ o126 18 ∧ Ft (RdC ET47 (some ⟨0, 0, none⟩) glob0) w_ o126 0 ∧ glyph_find_l2 p0 j_ x127 = some r) (k := K) ⟨(fun b_ => (fun l_ => if l_ = 1 then 18 else l_) (o2 b_)), 0, (by exact Kn.pick (ks := [0, 2, 6, 7]) hk rfl), (hs.relab0 (fun l_ => if l_ = 1 then 18 else l_) rfl), (f5.relab (fun l_ => if l_ = 1 then 18 else l_) rfl), (fg0.relab (fun l_ => if l_ = 1 then 18 else l_) rfl), H⟩ (by rintro _ _ ⟨_, _, _, _, _, _, H_⟩; exact absurd (show (none : Option (T47 × Bool)) = some r from H_) (by simp)) ?_
  rintro k154 a w153 ⟨o126, x127, hk, hs, f5, fg0, H⟩
  rw [glyph_find_l2] at H
  obtain ⟨lp155, hlp156⟩ : ∃ lp_, lp_ = glyph_find_l2 p0 k154 := ⟨_, rfl⟩
  rw [← hlp156] at H
  refine x_seq ?_
  refine wp_region_lit ?_
  refine x_run tab hk (k := 1) (lv := []) (ks := [0, 2, 6, 7, 8]) (e' := [(0, .int .u8 p0), (2, .pointer (some ⟨bx4, 0, none⟩)), (6, .agg (List.flatMap (Enc.f ET47) glob0).toArray), (7, .int .i64 x127), (8, .bool (decide (x127 < (8 : Int))))]) rfl trivial fun a hk => ?_
  refine wpList_nil ?_
  refine then_n ?_
  refine x_seq ?_
  cases b157 : (decide (x127 < (8 : Int)))
  · rw [b157] at hk H
    replace H := bifF H
    refine x_if hk (b := false) rfl ?_
    refine (show Code.wp _ _ _ _ _ from ?_)
    refine wp_exit ?_
    refine then_x ?_
    refine then_x ?_
    refine blk_x ?_
    refine then_n ?_
    exact ⟨(fun b_ => (fun l_ => if l_ = 18 then 13 else l_) (o126 b_)), (by exact Kn.pick (ks := [2]) hk rfl), (hs.relab0 (fun l_ => if l_ = 18 then 13 else l_) rfl), (f5.relab (fun l_ => if l_ = 18 then 13 else l_) rfl), (fg0.relab (fun l_ => if l_ = 18 then 13 else l_) rfl), H⟩
  · rw [b157] at hk H
    replace H := bifT H
    refine x_if hk (b := true) rfl ?_
    refine (show Code.wp _ _ _ _ _ from ?_)
    refine wp_skip ?_
    refine then_n ?_
    refine x_seq ?_
    refine wp_block ?_
    refine x_seq ?_
    refine wp_region_lit ?_
    obtain ⟨q158, H⟩ := ifS H
    refine x_run tab hk (k := 1) (lv := [.agg #[.int .u8 ((rdD zT47 glob0 x127).first), .int .u8 ((rdD zT47 glob0 x127).last), .int .i64 ((rdD zT47 glob0 x127).need), .int .u8 ((rdD zT47 glob0 x127).low), .int .u8 ((rdD zT47 glob0 x127).high)]]) (ks := [0, 2, 6, 7, 9]) (e' := [(0, .int .u8 p0), (2, .pointer (some ⟨bx4, 0, none⟩)), (6, .agg (List.flatMap (Enc.f ET47) glob0).toArray), (7, .int .i64 x127), (9, .agg #[.int .u8 ((rdD zT47 glob0 x127).first), .int .u8 ((rdD zT47 glob0 x127).last), .int .i64 ((rdD zT47 glob0 x127).need), .int .u8 ((rdD zT47 glob0 x127).low), .int .u8 ((rdD zT47 glob0 x127).high)])]) rfl ⟨(ask_ixS (E := ET47) (dx := zT47) tab rfl rfl rfl rfl rfl rfl q158), trivial⟩ fun a hk => ?_
    refine x_op hk rfl ?_
    refine op_alloc (o := o126) tab (t := 48) (cs := [.int .u8 0, .int .u8 0, .int .i64 0, .int .u8 0, .int .u8 0]) rfl rfl 22 fun bx162 w159 o160 st161 f163 => ?_
    replace f5 := f5.st st161 (by decide)
    replace fg0 := fg0.st st161 (by decide)
    replace hs := hs.loc0 st161 (by decide)
    have hk := hk.put 5 (.pointer (some ⟨bx162, 0, none⟩)) rfl
    refine x_op hk rfl ?_
    refine op_store tab hk (t := 48) (v := .agg #[.int .u8 ((rdD zT47 glob0 x127).first), .int .u8 ((rdD zT47 glob0 x127).last), .int .i64 ((rdD zT47 glob0 x127).need), .int .u8 ((rdD zT47 glob0 x127).low), .int .u8 ((rdD zT47 glob0 x127).high)]) (b := bx162) (k := 0) (cs' := [.int .u8 ((rdD zT47 glob0 x127).first), .int .u8 ((rdD zT47 glob0 x127).last), .int .i64 ((rdD zT47 glob0 x127).need), .int .u8 ((rdD zT47 glob0 x127).low), .int .u8 ((rdD zT47 glob0 x127).high)]) rfl rfl rfl rfl rfl rfl f163 rfl rfl fun w164 o165 st166 f163_ => ?_
    replace f5 := f5.st st166 (by decide)
    replace fg0 := fg0.st st166 (by decide)
    replace hs := hs.loc0 st166 (by decide)
    replace f163 := f163_
    refine wpList_nil ?_
    refine then_n ?_
    refine x_mid (fun a_ w_ => ∃ o174 : Nat → Nat, ∃ x175 : Bool, Kn 23 a_ [(0, .int .u8 p0), (2, .pointer (some ⟨bx4, 0, none⟩)), (5, .pointer (some ⟨bx162, 0, none⟩)), (6, .agg (List.flatMap (Enc.f ET47) glob0).toArray), (7, .int .i64 x127), (19, .bool x175)] ∧ St [] w (fun _ => 0) w_ o174 ∧ Ft (Bx bx162 48 [.int .u8 ((rdD zT47 glob0 x127).first), .int .u8 ((rdD zT47 glob0 x127).last), .int .i64 ((rdD zT47 glob0 x127).need), .int .u8 ((rdD zT47 glob0 x127).low), .int .u8 ((rdD zT47 glob0 x127).high)]) w_ o174 24 ∧ Ft (Bx bx4 48 [.int .u8 0, .int .u8 0, .int .i64 0, .int .u8 0, .int .u8 0]) w_ o174 23 ∧ Ft (RdC ET47 (some ⟨0, 0, none⟩) glob0) w_ o174 0 ∧ glyph_find_j3 x127 lp155 x175 = some r) ?_ ?_
    rotate_left
    · rintro a w176 ⟨o174, x175, hk, hs, f163, f5, fg0, H⟩
      rw [glyph_find_j3] at H
      cases b177 : x175
      · rw [b177] at hk H
        replace H := bifF H
        refine x_if hk (b := false) rfl ?_
        refine (show Code.wp _ _ _ _ _ from ?_)
        refine wp_skip ?_
        refine blk_n ?_
        refine then_n ?_
        refine wp_region_lit ?_
        refine x_run tab hk (k := 2) (lv := []) (ks := [0, 2, 6, 7]) (e' := [(0, .int .u8 p0), (2, .pointer (some ⟨bx4, 0, none⟩)), (6, .agg (List.flatMap (Enc.f ET47) glob0).toArray), (7, .int .i64 (IntKind.wrap .i64 (x127 + 1)))]) rfl trivial fun a hk => ?_
        refine wpList_nil ?_
        refine then_n ?_
        exact ⟨k154, Nat.le_refl _, (fun b_ => (fun l_ => if l_ = 23 then 18 else l_) (o174 b_)), (IntKind.wrap .i64 (x127 + 1)), (by exact Kn.pick (ks := [0, 2, 6, 7]) hk rfl), (hs.relab0 (fun l_ => if l_ = 23 then 18 else l_) rfl), (f5.relab (fun l_ => if l_ = 23 then 18 else l_) rfl), (fg0.relab (fun l_ => if l_ = 23 then 18 else l_) rfl), (hlp156 ▸ H)⟩
      · rw [b177] at hk H
        replace H := bifT H
        refine x_if hk (b := true) rfl ?_
        refine (show Code.wp _ _ _ _ _ from ?_)
        refine x_seq ?_
        refine wp_region_lit ?_
        refine x_run tab hk (k := 1) (lv := [.agg #[.int .u8 ((rdD zT47 glob0 x127).first), .int .u8 ((rdD zT47 glob0 x127).last), .int .i64 ((rdD zT47 glob0 x127).need), .int .u8 ((rdD zT47 glob0 x127).low), .int .u8 ((rdD zT47 glob0 x127).high)]]) (ks := [2, 20]) (e' := [(2, .pointer (some ⟨bx4, 0, none⟩)), (20, .agg #[.int .u8 ((rdD zT47 glob0 x127).first), .int .u8 ((rdD zT47 glob0 x127).last), .int .i64 ((rdD zT47 glob0 x127).need), .int .u8 ((rdD zT47 glob0 x127).low), .int .u8 ((rdD zT47 glob0 x127).high)])]) rfl ⟨(load_box tab rfl rfl f163.now (k := 0) rfl rfl), trivial⟩ fun a hk => ?_
        refine x_op hk rfl ?_
        refine op_store tab hk (t := 48) (v := .agg #[.int .u8 ((rdD zT47 glob0 x127).first), .int .u8 ((rdD zT47 glob0 x127).last), .int .i64 ((rdD zT47 glob0 x127).need), .int .u8 ((rdD zT47 glob0 x127).low), .int .u8 ((rdD zT47 glob0 x127).high)]) (b := bx4) (k := 0) (cs' := [.int .u8 ((rdD zT47 glob0 x127).first), .int .u8 ((rdD zT47 glob0 x127).last), .int .i64 ((rdD zT47 glob0 x127).need), .int .u8 ((rdD zT47 glob0 x127).low), .int .u8 ((rdD zT47 glob0 x127).high)]) rfl rfl rfl rfl rfl rfl f5 rfl rfl fun w178 o179 st180 f5_ => ?_
        replace fg0 := fg0.st st180 (by decide)
        replace hs := hs.loc0 st180 (by decide)
        replace f5 := f5_
        refine x_run tab hk (k := 1) (lv := []) (ks := [2, 3]) (e' := [(2, .pointer (some ⟨bx4, 0, none⟩)), (3, .bool true)]) rfl trivial fun a hk => ?_
        refine wpList_nil ?_
        refine then_n ?_
        refine wp_ret ?_
        refine blk_r ?_
        refine then_r ?_
        refine then_r ?_
        refine blk_r ?_
        refine then_r ?_
        obtain rfl := Option.some.inj H
        exact x_retG hk (rs := [.cell 2 48, .tmp 3]) (vs := [.agg #[.int .u8 ((rdD zT47 glob0 x127).first), .int .u8 ((rdD zT47 glob0 x127).last), .int .i64 ((rdD zT47 glob0 x127).need), .int .u8 ((rdD zT47 glob0 x127).low), .int .u8 ((rdD zT47 glob0 x127).high)], .bool true]) rfl ⟨⟨_, rfl, load_box tab rfl rfl f5.now (k := 0) rfl rfl⟩, rfl, trivial⟩ ⟨fun b_ => if b_ < w.heap.size then o b_ else (fun _ => 0) (o179 b_), rfl, hs.close0 o (fun _ => 0)⟩
    refine wp_region_lit ?_
    refine x_run tab hk (k := 5) (lv := [.int .u8 ((rdD zT47 glob0 x127).first)]) (ks := [0, 2, 5, 6, 7, 14]) (e' := [(0, .int .u8 p0), (2, .pointer (some ⟨bx4, 0, none⟩)), (5, .pointer (some ⟨bx162, 0, none⟩)), (6, .agg (List.flatMap (Enc.f ET47) glob0).toArray), (7, .int .i64 x127), (14, .bool (decide (p0 ≥ ((rdD zT47 glob0 x127).first))))]) rfl ⟨(load1 tab rfl ((Bx.cell f163.now 0).trans rfl)), trivial⟩ fun a hk => ?_
    cases b181 : (decide (p0 ≥ ((rdD zT47 glob0 x127).first)))
    · rw [b181] at hk H
      replace H := bifF H
      refine x_run tab hk (k := 5) (lv := []) (ks := [0, 2, 5, 6, 7, 19]) (e' := [(0, .int .u8 p0), (2, .pointer (some ⟨bx4, 0, none⟩)), (5, .pointer (some ⟨bx162, 0, none⟩)), (6, .agg (List.flatMap (Enc.f ET47) glob0).toArray), (7, .int .i64 x127), (19, .bool false)]) rfl trivial fun a hk => ?_
      refine wpList_nil ?_
      refine then_n ?_
      exact ⟨(fun b_ => (fun l_ => if l_ = 18 then 23 else if l_ = 22 then 24 else l_) (o165 b_)), false, (by exact Kn.pick (ks := [0, 2, 5, 6, 7, 19]) hk rfl), (hs.relab0 (fun l_ => if l_ = 18 then 23 else if l_ = 22 then 24 else l_) rfl), (f163.relab (fun l_ => if l_ = 18 then 23 else if l_ = 22 then 24 else l_) rfl), (f5.relab (fun l_ => if l_ = 18 then 23 else if l_ = 22 then 24 else l_) rfl), (fg0.relab (fun l_ => if l_ = 18 then 23 else if l_ = 22 then 24 else l_) rfl), H⟩
    · rw [b181] at hk H
      replace H := bifT H
      refine x_run tab hk (k := 5) (lv := [.int .u8 ((rdD zT47 glob0 x127).last)]) (ks := [0, 2, 5, 6, 7, 19]) (e' := [(0, .int .u8 p0), (2, .pointer (some ⟨bx4, 0, none⟩)), (5, .pointer (some ⟨bx162, 0, none⟩)), (6, .agg (List.flatMap (Enc.f ET47) glob0).toArray), (7, .int .i64 x127), (19, .bool (decide (p0 ≤ ((rdD zT47 glob0 x127).last))))]) rfl ⟨(load1 tab rfl ((Bx.cell f163.now 1).trans rfl)), trivial⟩ fun a hk => ?_
      refine wpList_nil ?_
      refine then_n ?_
      exact ⟨(fun b_ => (fun l_ => if l_ = 18 then 23 else if l_ = 22 then 24 else l_) (o165 b_)), (decide (p0 ≤ ((rdD zT47 glob0 x127).last))), (by exact Kn.pick (ks := [0, 2, 5, 6, 7, 19]) hk rfl), (hs.relab0 (fun l_ => if l_ = 18 then 23 else if l_ = 22 then 24 else l_) rfl), (f163.relab (fun l_ => if l_ = 18 then 23 else if l_ = 22 then 24 else l_) rfl), (f5.relab (fun l_ => if l_ = 18 then 23 else if l_ = 22 then 24 else l_) rfl), (fg0.relab (fun l_ => if l_ = 18 then 23 else if l_ = 22 then 24 else l_) rfl), H⟩

/-! tidewrack/glyph.begin -/
theorem glyph_begin_calls (K : Nat) (p0 : Int) (w : World) (o : Nat → Nat) (Lg0 : Nat) (hg0 : Ft (RdC ET47 (some ⟨0, 0, none⟩) glob0) w o Lg0)  (R0 : Nat) (r : T24 × (List Int)) (H : glyph_begin K p0 = some r) :
    Calls Tryd.prog 19 #[.int .u8 p0] w (Ret fun v_ w' => ∃ o' : Nat → Nat, ∃ A0 : Option Addr, ∃ c0 : Nat, v_ = .tuple #[.agg #[.int .u8 r.1.Lead, .int .i32 r.1.Rune, .int .i64 r.1.Need], .slice A0 (r.2).length c0] ∧ St [] w o w' o' ∧ Ft (Own (encInt .i32) 21 (.slice A0 (r.2).length c0) (r.2)) w' o' R0 ∧ (r.2).length ≤ c0) := by
  refine x_enter (vs := [.int .u8 p0]) Tryd.func19 rfl rfl rfl fun a hk => ?_
  obtain ⟨o0, hs, h0⟩ := St.start w o
  have fg0 := h0 _ _ hg0
  clear h0
  rw [glyph_begin] at H
  refine x_seq ?_
  refine wp_region_lit ?_
  refine x_op hk rfl ?_
  refine op_alloc (o := o0) tab (t := 25) (cs := [.int .u8 0, .int .i32 0, .int .i64 0]) rfl rfl 1 fun bx4 w1 o2 st3 f5 => ?_
  replace fg0 := fg0.st st3 (by decide)
  replace hs := hs.loc0 st3 (by decide)
  have hk := hk.put 2 (.pointer (some ⟨bx4, 0, none⟩)) rfl
  refine x_run tab hk (k := 1) (lv := []) (ks := [0, 2]) (e' := [(0, .int .u8 p0), (2, .pointer (some ⟨bx4, 0, none⟩))]) rfl trivial fun a hk => ?_
  refine wpList_nil ?_
  refine then_n ?_
  refine x_seq ?_
  refine x_seq ?_
  refine wp_region_lit ?_
  refine x_run tab hk (k := 2) (lv := []) (ks := [0, 2, 7]) (e' := [(0, .int .u8 p0), (2, .pointer (some ⟨bx4, 0, none⟩)), (7, .bool (decide (p0 < (128 : Int))))]) rfl trivial fun a hk => ?_
  refine wpList_nil ?_
  refine then_n ?_
  cases b6 : (decide (p0 < (128 : Int)))
  · rw [b6] at hk H
    replace H := bifF H
    refine x_if hk (b := false) rfl ?_
    refine (show Code.wp _ _ _ _ _ from ?_)
    refine wp_skip ?_
    refine then_n ?_
    refine x_seq ?_
    refine wp_region_lit ?_
    refine x_run tab hk (k := 1) (lv := []) (ks := [0, 2, 13]) (e' := [(0, .int .u8 p0), (2, .pointer (some ⟨bx4, 0, none⟩)), (13, .int .u8 p0)]) rfl trivial fun a hk => ?_
    refine x_op hk rfl ?_
    obtain ⟨t10, hc11, H⟩ := bindS H
    refine op_call hk ent_21 (vs := [.int .u8 p0]) rfl (glyph_find_calls K p0 _ o2 0 fg0   _ hc11) ?_
    rintro _ w12 ⟨o13, rfl, st14⟩
    replace f5 := f5.st st14 (by decide)
    replace fg0 := fg0.st st14 (by decide)
    replace hs := hs.loc0 st14 (by decide)
    have hk := hk.put 14 (.tuple #[.agg #[.int .u8 t10.1.first, .int .u8 t10.1.last, .int .i64 t10.1.need, .int .u8 t10.1.low, .int .u8 t10.1.high], .bool t10.2]) rfl
    refine x_run tab hk (k := 3) (lv := []) (ks := [0, 2, 15, 16]) (e' := [(0, .int .u8 p0), (2, .pointer (some ⟨bx4, 0, none⟩)), (15, .agg #[.int .u8 t10.1.first, .int .u8 t10.1.last, .int .i64 t10.1.need, .int .u8 t10.1.low, .int .u8 t10.1.high]), (16, .bool t10.2)]) rfl trivial fun a hk => ?_
    refine x_op hk rfl ?_
    refine op_alloc (o := o13) tab (t := 48) (cs := [.int .u8 0, .int .u8 0, .int .i64 0, .int .u8 0, .int .u8 0]) rfl rfl 2 fun bx18 w15 o16 st17 f19 => ?_
    replace f5 := f5.st st17 (by decide)
    replace fg0 := fg0.st st17 (by decide)
    replace hs := hs.loc0 st17 (by decide)
    have hk := hk.put 4 (.pointer (some ⟨bx18, 0, none⟩)) rfl
    refine x_op hk rfl ?_
    refine op_store tab hk (t := 48) (v := .agg #[.int .u8 t10.1.first, .int .u8 t10.1.last, .int .i64 t10.1.need, .int .u8 t10.1.low, .int .u8 t10.1.high]) (b := bx18) (k := 0) (cs' := [.int .u8 t10.1.first, .int .u8 t10.1.last, .int .i64 t10.1.need, .int .u8 t10.1.low, .int .u8 t10.1.high]) rfl rfl rfl rfl rfl rfl f19 rfl rfl fun w20 o21 st22 f19_ => ?_
    replace f5 := f5.st st22 (by decide)
    replace fg0 := fg0.st st22 (by decide)
    replace hs := hs.loc0 st22 (by decide)
    replace f19 := f19_
    refine x_run tab hk (k := 1) (lv := []) (ks := [0, 2, 4, 5]) (e' := [(0, .int .u8 p0), (2, .pointer (some ⟨bx4, 0, none⟩)), (4, .pointer (some ⟨bx18, 0, none⟩)), (5, .bool t10.2)]) rfl trivial fun a hk => ?_
    refine wpList_nil ?_
    refine then_n ?_
    refine x_seq ?_
    refine x_seq ?_
    refine wp_region_lit ?_
    refine x_run tab hk (k := 2) (lv := []) (ks := [0, 2, 4, 18]) (e' := [(0, .int .u8 p0), (2, .pointer (some ⟨bx4, 0, none⟩)), (4, .pointer (some ⟨bx18, 0, none⟩)), (18, .bool (!t10.2))]) rfl trivial fun a hk => ?_
    refine wpList_nil ?_
    refine then_n ?_
    cases b23 : (!t10.2)
    · rw [b23] at hk H
      replace H := bifF H
      refine x_if hk (b := false) rfl ?_
      refine (show Code.wp _ _ _ _ _ from ?_)
      refine wp_skip ?_
      refine then_n ?_
      refine x_seq ?_
      refine xd_begin (o := o21) (fun W_ => (Bx bx18 48 [.int .u8 t10.1.first, .int .u8 t10.1.last, .int .i64 t10.1.need, .int .u8 t10.1.low, .int .u8 t10.1.high]) W_ ∧ True) mixed rfl rfl fun w32 st33 => ?_
      replace f19 := f19.st st33 (by decide)
      replace f5 := f5.st st33 (by decide)
      replace fg0 := fg0.st st33 (by decide)
      replace hs := hs.loc0 st33 (by decide)
      obtain ⟨q34, H⟩ := ifS H
      refine xd_take tab hk (k := 2) (is := [0, 1, 2, 3, 4, 5, 6, 7, 8, 9]) (ls' := #[true, true, true, true, true, true, true, true, true, true, false, false]) (lv := [.int .i64 t10.1.need, .int .i64 t10.1.need]) (ks := [2, 30]) (e' := [(2, .pointer (some ⟨bx4, 0, none⟩)), (30, .agg #[.int .u8 p0, .int .i32 (bits .and .i32 (IntKind.wrap .i32 p0) (Int.fdiv 63 (2 ^ min (Int.toNat t10.1.need) 32))), .int .i64 t10.1.need])]) (by kernel_rfl) rfl rfl (by kernel_rfl) (np_then np_body) ⟨f19.now, trivial⟩ (fun W_ hS => ⟨(load1 tab rfl ((Bx.cell hS.1 2).trans rfl)), q34, (load1 tab rfl ((Bx.cell hS.1 2).trans rfl)), trivial⟩) fun a hk => ?_
      refine xd_op hk (i := 10) (by kernel_rfl) rfl rfl ?_
      refine op_store tab hk (t := 25) (v := .agg #[.int .u8 p0, .int .i32 (bits .and .i32 (IntKind.wrap .i32 p0) (Int.fdiv 63 (2 ^ min (Int.toNat t10.1.need) 32))), .int .i64 t10.1.need]) (b := bx4) (k := 0) (cs' := [.int .u8 p0, .int .i32 (bits .and .i32 (IntKind.wrap .i32 p0) (Int.fdiv 63 (2 ^ min (Int.toNat t10.1.need) 32))), .int .i64 t10.1.need]) rfl rfl rfl rfl rfl rfl f5 rfl rfl fun w35 o36 st37 f5_ => ?_
      replace f19 := f19.st st37 (by decide)
      replace fg0 := fg0.st st37 (by decide)
      replace hs := hs.loc0 st37 (by decide)
      replace f5 := f5_
      refine ⟨.inr ⟨f19.now, trivial⟩, ?_⟩
      refine xd_take tab hk (k := 0) (is := [11]) (ls' := #[true, true, true, true, true, true, true, true, true, true, true, true]) (lv := []) (ks := [2, 3]) (e' := [(2, .pointer (some ⟨bx4, 0, none⟩)), (3, .slice none 0 0)]) (by kernel_rfl) rfl rfl (by kernel_rfl) (np_then np_body) ⟨f19.now, trivial⟩ (fun W_ hS => trivial) fun a hk => ?_
      refine xd_done (by kernel_rfl) ?_
      refine then_n ?_
      refine wp_ret ?_
      obtain rfl := Option.some.inj H
      exact x_retG hk (rs := [.cell 2 25, .tmp 3]) (vs := [.agg #[.int .u8 p0, .int .i32 (bits .and .i32 (IntKind.wrap .i32 p0) (Int.fdiv 63 (2 ^ min (Int.toNat t10.1.need) 32))), .int .i64 t10.1.need], .slice none 0 0]) rfl ⟨⟨_, rfl, load_box tab rfl rfl f5.now (k := 0) rfl rfl⟩, rfl, trivial⟩ ⟨fun b_ => if b_ < w.heap.size then o b_ else (fun _ => R0) (o36 b_), none, 0, rfl, hs.close0 o (fun _ => R0), (Ft.of_all (fun _ => Own.nil _ _ _) _ _ _), (by simp)⟩
    · rw [b23] at hk H
      replace H := bifT H
      refine x_if hk (b := true) rfl ?_
      refine (show Code.wp _ _ _ _ _ from ?_)
      refine x_seq ?_
      refine wp_region_lit ?_
      refine x_run tab hk (k := 1) (lv := []) (ks := [2, 19]) (e' := [(2, .pointer (some ⟨bx4, 0, none⟩)), (19, .agg #[.int .u8 0, .int .i32 0, .int .i64 0])]) rfl trivial fun a hk => ?_
      refine x_op hk rfl ?_
      refine op_slice (o := o21) tab hk (vs := [.int .i32 65533]) (cs := [.int .i32 65533]) rfl rfl rfl rfl rfl rfl rfl rfl rfl 3 fun bx41 w38 o39 st40 f42 => ?_
      replace f5 := f5.st st40 (by decide)
      replace fg0 := fg0.st st40 (by decide)
      replace hs := hs.loc0 st40 (by decide)
      have f43 : Ft (Own (encInt .i32) 21 (.slice (some ⟨bx41, 0, none⟩) (([65533] : List Int)).length 1) ([65533] : List Int)) w38 o39 3 := f42.imp fun _ h_ => Own.of_box h_ rfl (by simp)
      have hk := hk.put 20 (.slice (some ⟨bx41, 0, none⟩) (([65533] : List Int)).length 1) rfl
      refine x_op hk rfl ?_
      refine op_store tab hk (t := 25) (v := .agg #[.int .u8 0, .int .i32 0, .int .i64 0]) (b := bx4) (k := 0) (cs' := [.int .u8 0, .int .i32 0, .int .i64 0]) rfl rfl rfl rfl rfl rfl f5 rfl rfl fun w44 o45 st46 f5_ => ?_
      replace f43 := f43.st st46 (by decide)
      replace fg0 := fg0.st st46 (by decide)
      replace hs := hs.loc0 st46 (by decide)
      replace f5 := f5_
      refine x_run tab hk (k := 1) (lv := []) (ks := [2, 3]) (e' := [(2, .pointer (some ⟨bx4, 0, none⟩)), (3, .slice (some ⟨bx41, 0, none⟩) (([65533] : List Int)).length 1)]) rfl trivial fun a hk => ?_
      refine wpList_nil ?_
      refine then_n ?_
      refine wp_ret ?_
      refine then_r ?_
      obtain rfl := Option.some.inj H
      exact x_retG hk (rs := [.cell 2 25, .tmp 3]) (vs := [.agg #[.int .u8 0, .int .i32 0, .int .i64 0], .slice (some ⟨bx41, 0, none⟩) (([65533] : List Int)).length 1]) rfl ⟨⟨_, rfl, load_box tab rfl rfl f5.now (k := 0) rfl rfl⟩, rfl, trivial⟩ ⟨fun b_ => if b_ < w.heap.size then o b_ else (fun _ => R0) (o45 b_), (some ⟨bx41, 0, none⟩), 1, rfl, hs.close0 o (fun _ => R0), hs.close_ft (o := o) (ρ := fun _ => R0) f43 (by decide) rfl, (Nat.le_refl _)⟩
  · rw [b6] at hk H
    replace H := bifT H
    refine x_if hk (b := true) rfl ?_
    refine (show Code.wp _ _ _ _ _ from ?_)
    refine x_seq ?_
    refine wp_region_lit ?_
    refine x_run tab hk (k := 3) (lv := []) (ks := [2, 8, 10]) (e' := [(2, .pointer (some ⟨bx4, 0, none⟩)), (8, .agg #[.int .u8 0, .int .i32 0, .int .i64 0]), (10, .int .i32 (IntKind.wrap .i32 p0))]) rfl trivial fun a hk => ?_
    refine x_op hk rfl ?_
    refine op_slice (o := o2) tab hk (vs := [.int .i32 (IntKind.wrap .i32 p0)]) (cs := [.int .i32 (IntKind.wrap .i32 p0)]) rfl rfl rfl rfl rfl rfl rfl rfl rfl 4 fun bx50 w47 o48 st49 f51 => ?_
    replace f5 := f5.st st49 (by decide)
    replace fg0 := fg0.st st49 (by decide)
    replace hs := hs.loc0 st49 (by decide)
    have f52 : Ft (Own (encInt .i32) 21 (.slice (some ⟨bx50, 0, none⟩) (([(IntKind.wrap .i32 p0)] : List Int)).length 1) ([(IntKind.wrap .i32 p0)] : List Int)) w47 o48 4 := f51.imp fun _ h_ => Own.of_box h_ rfl (by simp)
    have hk := hk.put 11 (.slice (some ⟨bx50, 0, none⟩) (([(IntKind.wrap .i32 p0)] : List Int)).length 1) rfl
    refine x_op hk rfl ?_
    refine op_store tab hk (t := 25) (v := .agg #[.int .u8 0, .int .i32 0, .int .i64 0]) (b := bx4) (k := 0) (cs' := [.int .u8 0, .int .i32 0, .int .i64 0]) rfl rfl rfl rfl rfl rfl f5 rfl rfl fun w53 o54 st55 f5_ => ?_
    replace f52 := f52.st st55 (by decide)
    replace fg0 := fg0.st st55 (by decide)
    replace hs := hs.loc0 st55 (by decide)
    replace f5 := f5_
    refine x_run tab hk (k := 1) (lv := []) (ks := [2, 3]) (e' := [(2, .pointer (some ⟨bx4, 0, none⟩)), (3, .slice (some ⟨bx50, 0, none⟩) (([(IntKind.wrap .i32 p0)] : List Int)).length 1)]) rfl trivial fun a hk => ?_
    refine wpList_nil ?_
    refine then_n ?_
    refine wp_ret ?_
    refine then_r ?_
    obtain rfl := Option.some.inj H
    exact x_retG hk (rs := [.cell 2 25, .tmp 3]) (vs := [.agg #[.int .u8 0, .int .i32 0, .int .i64 0], .slice (some ⟨bx50, 0, none⟩) (([(IntKind.wrap .i32 p0)] : List Int)).length 1]) rfl ⟨⟨_, rfl, load_box tab rfl rfl f5.now (k := 0) rfl rfl⟩, rfl, trivial⟩ ⟨fun b_ => if b_ < w.heap.size then o b_ else (fun _ => R0) (o54 b_), (some ⟨bx50, 0, none⟩), 1, rfl, hs.close0 o (fun _ => R0), hs.close_ft (o := o) (ρ := fun _ => R0) f52 (by decide) rfl, (Nat.le_refl _)⟩

/-! (tidewrack/glyph.Decoder).fits -/
theorem glyph_Decoder_fits_calls (K : Nat) (p0 : T24) (p1 : Int) (w : World) (o : Nat → Nat) (Lg0 : Nat) (hg0 : Ft (RdC ET47 (some ⟨0, 0, none⟩) glob0) w o Lg0)  (r : Bool) (H : glyph_Decoder_fits K p0 p1 = some r) :
    Calls Tryd.prog 20 #[.agg #[.int .u8 p0.Lead, .int .i32 p0.Rune, .int .i64 p0.Need], .int .u8 p1] w (Ret fun v_ w' => ∃ o' : Nat → Nat, v_ = .bool r ∧ St [] w o w' o') := by
  refine x_enter (vs := [.agg #[.int .u8 p0.Lead, .int .i32 p0.Rune, .int .i64 p0.Need], .int .u8 p1]) Tryd.func20 rfl rfl rfl fun a hk => ?_
  obtain ⟨o0, hs, h0⟩ := St.start w o
  have fg0 := h0 _ _ hg0
  clear h0
  rw [glyph_Decoder_fits] at H
  refine x_seq ?_
  refine wp_region_lit ?_
  refine x_op hk rfl ?_
  refine op_box (o := o0) (t := 25) (v := .agg #[.int .u8 p0.Lead, .int .i32 p0.Rune, .int .i64 p0.Need]) (cs := [.int .u8 p0.Lead, .int .i32 p0.Rune, .int .i64 p0.Need]) hk rfl rfl 1 fun bx4 w1 o2 st3 f5 => ?_
  replace fg0 := fg0.st st3 (by decide)
  replace hs := hs.loc0 st3 (by decide)
  have hk := hk.put 2 (.pointer (some ⟨bx4, 0, none⟩)) rfl
  refine x_run tab hk (k := 1) (lv := []) (ks := [1, 2]) (e' := [(1, .int .u8 p1), (2, .pointer (some ⟨bx4, 0, none⟩))]) rfl trivial fun a hk => ?_
  refine wpList_nil ?_
  refine then_n ?_
  refine x_seq ?_
  refine wp_region_lit ?_
  refine x_run tab hk (k := 2) (lv := [.int .u8 p0.Lead]) (ks := [1, 2, 9]) (e' := [(1, .int .u8 p1), (2, .pointer (some ⟨bx4, 0, none⟩)), (9, .int .u8 p0.Lead)]) rfl ⟨(load1 tab rfl ((Bx.cell f5.now 0).trans rfl)), trivial⟩ fun a hk => ?_
  refine x_op hk rfl ?_
  obtain ⟨t9, hc10, H⟩ := bindS H
  refine op_call hk ent_21 (vs := [.int .u8 p0.Lead]) rfl (glyph_find_calls K p0.Lead _ o2 0 fg0   _ hc10) ?_
  rintro _ w11 ⟨o12, rfl, st13⟩
  replace f5 := f5.st st13 (by decide)
  replace fg0 := fg0.st st13 (by decide)
  replace hs := hs.loc0 st13 (by decide)
  have hk := hk.put 10 (.tuple #[.agg #[.int .u8 t9.1.first, .int .u8 t9.1.last, .int .i64 t9.1.need, .int .u8 t9.1.low, .int .u8 t9.1.high], .bool t9.2]) rfl
  refine x_run tab hk (k := 3) (lv := []) (ks := [1, 2, 11, 12]) (e' := [(1, .int .u8 p1), (2, .pointer (some ⟨bx4, 0, none⟩)), (11, .agg #[.int .u8 t9.1.first, .int .u8 t9.1.last, .int .i64 t9.1.need, .int .u8 t9.1.low, .int .u8 t9.1.high]), (12, .bool t9.2)]) rfl trivial fun a hk => ?_
  refine x_op hk rfl ?_
  refine op_alloc (o := o12) tab (t := 48) (cs := [.int .u8 0, .int .u8 0, .int .i64 0, .int .u8 0, .int .u8 0]) rfl rfl 2 fun bx17 w14 o15 st16 f18 => ?_
  replace f5 := f5.st st16 (by decide)
  replace fg0 := fg0.st st16 (by decide)
  replace hs := hs.loc0 st16 (by decide)
  have hk := hk.put 5 (.pointer (some ⟨bx17, 0, none⟩)) rfl
  refine x_op hk rfl ?_
  refine op_store tab hk (t := 48) (v := .agg #[.int .u8 t9.1.first, .int .u8 t9.1.last, .int .i64 t9.1.need, .int .u8 t9.1.low, .int .u8 t9.1.high]) (b := bx17) (k := 0) (cs' := [.int .u8 t9.1.first, .int .u8 t9.1.last, .int .i64 t9.1.need, .int .u8 t9.1.low, .int .u8 t9.1.high]) rfl rfl rfl rfl rfl rfl f18 rfl rfl fun w19 o20 st21 f18_ => ?_
  replace f5 := f5.st st21 (by decide)
  replace fg0 := fg0.st st21 (by decide)
  replace hs := hs.loc0 st21 (by decide)
  replace f18 := f18_
  refine x_run tab hk (k := 1) (lv := []) (ks := [1, 2, 5]) (e' := [(1, .int .u8 p1), (2, .pointer (some ⟨bx4, 0, none⟩)), (5, .pointer (some ⟨bx17, 0, none⟩))]) rfl trivial fun a hk => ?_
  refine wpList_nil ?_
  refine then_n ?_
  refine x_seq ?_
  refine x_seq ?_
  refine wp_region_lit ?_
  refine x_run tab hk (k := 5) (lv := [.int .i64 p0.Need, .int .i64 t9.1.need]) (ks := [1, 5, 17]) (e' := [(1, .int .u8 p1), (5, .pointer (some ⟨bx17, 0, none⟩)), (17, .bool (decide (p0.Need < t9.1.need)))]) rfl ⟨(load1 tab rfl ((Bx.cell f5.now 2).trans rfl)), (load1 tab rfl ((Bx.cell f18.now 2).trans rfl)), trivial⟩ fun a hk => ?_
  refine wpList_nil ?_
  refine then_n ?_
  cases b22 : (decide (p0.Need < t9.1.need))
  · rw [b22] at hk H
    replace H := bifF H
    refine x_if hk (b := false) rfl ?_
    refine (show Code.wp _ _ _ _ _ from ?_)
    refine wp_skip ?_
    refine then_n ?_
    refine x_seq ?_
    refine wp_region_lit ?_
    refine x_run tab hk (k := 5) (lv := [.int .u8 t9.1.low]) (ks := [1, 5, 28]) (e' := [(1, .int .u8 p1), (5, .pointer (some ⟨bx17, 0, none⟩)), (28, .bool (decide (p1 ≥ t9.1.low)))]) rfl ⟨(load1 tab rfl ((Bx.cell f18.now 3).trans rfl)), trivial⟩ fun a hk => ?_
    cases b23 : (decide (p1 ≥ t9.1.low))
    · rw [b23] at hk H
      replace H := bifF H
      refine x_run tab hk (k := 6) (lv := []) (ks := [4]) (e' := [(4, .bool false)]) rfl trivial fun a hk => ?_
      refine wpList_nil ?_
      refine then_n ?_
      refine wp_ret ?_
      obtain rfl := Option.some.inj H
      exact x_retG hk (rs := [.tmp 4]) (vs := [.bool false]) rfl ⟨rfl, trivial⟩ ⟨fun b_ => if b_ < w.heap.size then o b_ else (fun _ => 0) (o20 b_), rfl, hs.close0 o (fun _ => 0)⟩
    · rw [b23] at hk H
      replace H := bifT H
      refine x_run tab hk (k := 6) (lv := [.int .u8 t9.1.high]) (ks := [4]) (e' := [(4, .bool (decide (p1 ≤ t9.1.high)))]) rfl ⟨(load1 tab rfl ((Bx.cell f18.now 4).trans rfl)), trivial⟩ fun a hk => ?_
      refine wpList_nil ?_
      refine then_n ?_
      refine wp_ret ?_
      obtain rfl := Option.some.inj H
      exact x_retG hk (rs := [.tmp 4]) (vs := [.bool (decide (p1 ≤ t9.1.high))]) rfl ⟨rfl, trivial⟩ ⟨fun b_ => if b_ < w.heap.size then o b_ else (fun _ => 0) (o20 b_), rfl, hs.close0 o (fun _ => 0)⟩
  · rw [b22] at hk H
    replace H := bifT H
    refine x_if hk (b := true) rfl ?_
    refine (show Code.wp _ _ _ _ _ from ?_)
    refine x_seq ?_
    refine wp_region_lit ?_
    refine x_run tab hk (k := 3) (lv := []) (ks := [1, 20]) (e' := [(1, .int .u8 p1), (20, .bool (decide (p1 ≥ (128 : Int))))]) rfl trivial fun a hk => ?_
    cases b24 : (decide (p1 ≥ (128 : Int)))
    · rw [b24] at hk H
      replace H := bifF H
      refine x_run tab hk (k := 4) (lv := []) (ks := [4]) (e' := [(4, .bool false)]) rfl trivial fun a hk => ?_
      refine wpList_nil ?_
      refine then_n ?_
      refine wp_ret ?_
      refine then_r ?_
      obtain rfl := Option.some.inj H
      exact x_retG hk (rs := [.tmp 4]) (vs := [.bool false]) rfl ⟨rfl, trivial⟩ ⟨fun b_ => if b_ < w.heap.size then o b_ else (fun _ => 0) (o20 b_), rfl, hs.close0 o (fun _ => 0)⟩
    · rw [b24] at hk H
      replace H := bifT H
      refine x_run tab hk (k := 4) (lv := []) (ks := [4]) (e' := [(4, .bool (decide (p1 ≤ (191 : Int))))]) rfl trivial fun a hk => ?_
      refine wpList_nil ?_
      refine then_n ?_
      refine wp_ret ?_
      refine then_r ?_
      obtain rfl := Option.some.inj H
      exact x_retG hk (rs := [.tmp 4]) (vs := [.bool (decide (p1 ≤ (191 : Int)))]) rfl ⟨rfl, trivial⟩ ⟨fun b_ => if b_ < w.heap.size then o b_ else (fun _ => 0) (o20 b_), rfl, hs.close0 o (fun _ => 0)⟩

/-! (tidewrack/glyph.Decoder).Next -/
theorem glyph_Decoder_Next_calls (K : Nat) (p0 : T24) (p1 : Int) (w : World) (o : Nat → Nat) (Lg0 : Nat) (hg0 : Ft (RdC ET47 (some ⟨0, 0, none⟩) glob0) w o Lg0)  (R0 : Nat) (r : T24 × (List Int)) (H : glyph_Decoder_Next K p0 p1 = some r) :
    Calls Tryd.prog 15 #[.agg #[.int .u8 p0.Lead, .int .i32 p0.Rune, .int .i64 p0.Need], .int .u8 p1] w (Ret fun v_ w' => ∃ o' : Nat → Nat, ∃ A0 : Option Addr, ∃ c0 : Nat, v_ = .tuple #[.agg #[.int .u8 r.1.Lead, .int .i32 r.1.Rune, .int .i64 r.1.Need], .slice A0 (r.2).length c0] ∧ St [] w o w' o' ∧ Ft (Own (encInt .i32) 21 (.slice A0 (r.2).length c0) (r.2)) w' o' R0 ∧ (r.2).length ≤ c0) := by
  refine x_enter (vs := [.agg #[.int .u8 p0.Lead, .int .i32 p0.Rune, .int .i64 p0.Need], .int .u8 p1]) Tryd.func15 rfl rfl rfl fun a hk => ?_
  obtain ⟨o0, hs, h0⟩ := St.start w o
  have fg0 := h0 _ _ hg0
  clear h0
  rw [glyph_Decoder_Next] at H
  refine x_seq ?_
  refine wp_region_lit ?_
  refine x_op hk rfl ?_
  refine op_box (o := o0) (t := 25) (v := .agg #[.int .u8 p0.Lead, .int .i32 p0.Rune, .int .i64 p0.Need]) (cs := [.int .u8 p0.Lead, .int .i32 p0.Rune, .int .i64 p0.Need]) hk rfl rfl 1 fun bx4 w1 o2 st3 f5 => ?_
  replace fg0 := fg0.st st3 (by decide)
  replace hs := hs.loc0 st3 (by decide)
  have hk := hk.put 2 (.pointer (some ⟨bx4, 0, none⟩)) rfl
  refine x_op hk rfl ?_
  refine op_alloc (o := o2) tab (t := 25) (cs := [.int .u8 0, .int .i32 0, .int .i64 0]) rfl rfl 2 fun bx9 w6 o7 st8 f10 => ?_
  replace f5 := f5.st st8 (by decide)
  replace fg0 := fg0.st st8 (by decide)
  replace hs := hs.loc0 st8 (by decide)
  have hk := hk.put 4 (.pointer (some ⟨bx9, 0, none⟩)) rfl
  refine x_run tab hk (k := 1) (lv := []) (ks := [1, 2, 4]) (e' := [(1, .int .u8 p1), (2, .pointer (some ⟨bx4, 0, none⟩)), (4, .pointer (some ⟨bx9, 0, none⟩))]) rfl trivial fun a hk => ?_
  refine wpList_nil ?_
  refine then_n ?_
  refine x_seq ?_
  refine x_seq ?_
  refine wp_region_lit ?_
  refine x_run tab hk (k := 3) (lv := [.int .i64 p0.Need]) (ks := [1, 2, 4, 10]) (e' := [(1, .int .u8 p1), (2, .pointer (some ⟨bx4, 0, none⟩)), (4, .pointer (some ⟨bx9, 0, none⟩)), (10, .bool (decide (p0.Need ≤ (0 : Int))))]) rfl ⟨(load1 tab rfl ((Bx.cell f5.now 2).trans rfl)), trivial⟩ fun a hk => ?_
  refine wpList_nil ?_
  refine then_n ?_
  cases b11 : (decide (p0.Need ≤ (0 : Int)))
  · rw [b11] at hk H
    replace H := bifF H
    refine x_if hk (b := false) rfl ?_
    refine (show Code.wp _ _ _ _ _ from ?_)
    refine wp_skip ?_
    refine then_n ?_
    refine x_seq ?_
    refine x_seq ?_
    refine wp_region_lit ?_
    refine x_run tab hk (k := 2) (lv := [.agg #[.int .u8 p0.Lead, .int .i32 p0.Rune, .int .i64 p0.Need]]) (ks := [1, 2, 4, 15, 16]) (e' := [(1, .int .u8 p1), (2, .pointer (some ⟨bx4, 0, none⟩)), (4, .pointer (some ⟨bx9, 0, none⟩)), (15, .agg #[.int .u8 p0.Lead, .int .i32 p0.Rune, .int .i64 p0.Need]), (16, .int .u8 p1)]) rfl ⟨(load_box tab rfl rfl f5.now (k := 0) rfl rfl), trivial⟩ fun a hk => ?_
    refine x_op hk rfl ?_
    obtain ⟨t15, hc16, H⟩ := bindS H
    refine op_call hk ent_20 (vs := [.agg #[.int .u8 p0.Lead, .int .i32 p0.Rune, .int .i64 p0.Need], .int .u8 p1]) rfl (glyph_Decoder_fits_calls K p0 p1 _ o7 0 fg0   _ hc16) ?_
    rintro _ w17 ⟨o18, rfl, st19⟩
    replace f10 := f10.st st19 (by decide)
    replace f5 := f5.st st19 (by decide)
    replace fg0 := fg0.st st19 (by decide)
    replace hs := hs.loc0 st19 (by decide)
    have hk := hk.put 17 (.bool t15) rfl
    refine x_run tab hk (k := 1) (lv := []) (ks := [1, 2, 4, 18]) (e' := [(1, .int .u8 p1), (2, .pointer (some ⟨bx4, 0, none⟩)), (4, .pointer (some ⟨bx9, 0, none⟩)), (18, .bool (!t15))]) rfl trivial fun a hk => ?_
    refine wpList_nil ?_
    refine then_n ?_
    cases b20 : (!t15)
    · rw [b20] at hk H
      replace H := bifF H
      refine x_if hk (b := false) rfl ?_
      refine (show Code.wp _ _ _ _ _ from ?_)
      refine wp_skip ?_
      refine then_n ?_
      refine x_seq ?_
      refine wp_region_lit ?_
      refine x_run tab hk (k := 10) (lv := [.int .i32 p0.Rune, .int .i64 p0.Need]) (ks := [2, 4, 34, 37]) (e' := [(2, .pointer (some ⟨bx4, 0, none⟩)), (4, .pointer (some ⟨bx9, 0, none⟩)), (34, .int .i32 (bits .or .i32 (IntKind.wrap .i32 (p0.Rune * 2 ^ min (Int.toNat 6) 32)) (bits .and .i32 (IntKind.wrap .i32 p1) 63))), (37, .int .i64 (IntKind.wrap .i64 (p0.Need - 1)))]) rfl ⟨(load1 tab rfl ((Bx.cell f5.now 1).trans rfl)), (show 0 ≤ (6 : Int) from by decide), (load1 tab rfl ((Bx.cell f5.now 2).trans rfl)), trivial⟩ fun a hk => ?_
      refine x_run tab hk (k := 1) (lv := []) (ks := [2, 4, 34, 37, 38]) (e' := [(2, .pointer (some ⟨bx4, 0, none⟩)), (4, .pointer (some ⟨bx9, 0, none⟩)), (34, .int .i32 (bits .or .i32 (IntKind.wrap .i32 (p0.Rune * 2 ^ min (Int.toNat 6) 32)) (bits .and .i32 (IntKind.wrap .i32 p1) 63))), (37, .int .i64 (IntKind.wrap .i64 (p0.Need - 1))), (38, .pointer (some ((⟨bx4, 0, none⟩ : Addr).add 1)))]) rfl trivial fun a hk => ?_
      refine x_op hk rfl ?_
      refine op_store tab hk (t := 21) (v := .int .i32 (bits .or .i32 (IntKind.wrap .i32 (p0.Rune * 2 ^ min (Int.toNat 6) 32)) (bits .and .i32 (IntKind.wrap .i32 p1) 63))) (b := bx4) (k := 1) (cs' := [.int .u8 p0.Lead, .int .i32 (bits .or .i32 (IntKind.wrap .i32 (p0.Rune * 2 ^ min (Int.toNat 6) 32)) (bits .and .i32 (IntKind.wrap .i32 p1) 63)), .int .i64 p0.Need]) rfl rfl rfl rfl rfl rfl f5 rfl rfl fun w21 o22 st23 f5_ => ?_
      replace f10 := f10.st st23 (by decide)
      replace fg0 := fg0.st st23 (by decide)
      replace hs := hs.loc0 st23 (by decide)
      replace f5 := f5_
      refine x_run tab hk (k := 1) (lv := []) (ks := [2, 4, 37, 39]) (e' := [(2, .pointer (some ⟨bx4, 0, none⟩)), (4, .pointer (some ⟨bx9, 0, none⟩)), (37, .int .i64 (IntKind.wrap .i64 (p0.Need - 1))), (39, .pointer (some ((⟨bx4, 0, none⟩ : Addr).add 2)))]) rfl trivial fun a hk => ?_
      refine x_op hk rfl ?_
      refine op_store tab hk (t := 3) (v := .int .i64 (IntKind.wrap .i64 (p0.Need - 1))) (b := bx4) (k := 2) (cs' := [.int .u8 p0.Lead, .int .i32 (bits .or .i32 (IntKind.wrap .i32 (p0.Rune * 2 ^ min (Int.toNat 6) 32)) (bits .and .i32 (IntKind.wrap .i32 p1) 63)), .int .i64 (IntKind.wrap .i64 (p0.Need - 1))]) rfl rfl rfl rfl rfl rfl f5 rfl rfl fun w24 o25 st26 f5_ => ?_
      replace f10 := f10.st st26 (by decide)
      replace fg0 := fg0.st st26 (by decide)
      replace hs := hs.loc0 st26 (by decide)
      replace f5 := f5_
      refine wpList_nil ?_
      refine then_n ?_
      refine x_seq ?_
      refine x_seq ?_
      refine wp_region_lit ?_
      refine x_run tab hk (k := 3) (lv := [.int .i64 (IntKind.wrap .i64 (p0.Need - 1))]) (ks := [2, 4, 42]) (e' := [(2, .pointer (some ⟨bx4, 0, none⟩)), (4, .pointer (some ⟨bx9, 0, none⟩)), (42, .bool ((IntKind.wrap .i64 (p0.Need - 1)) == (0 : Int)))]) rfl ⟨(load1 tab rfl ((Bx.cell f5.now 2).trans rfl)), trivial⟩ fun a hk => ?_
      refine wpList_nil ?_
      refine then_n ?_
      cases b27 : ((IntKind.wrap .i64 (p0.Need - 1)) == (0 : Int))
      · rw [b27] at hk H
        replace H := bifF H
        refine x_if hk (b := false) rfl ?_
        refine (show Code.wp _ _ _ _ _ from ?_)
        refine wp_skip ?_
        refine then_n ?_
        refine x_seq ?_
        refine wp_region_lit ?_
        refine x_run tab hk (k := 1) (lv := [.agg #[.int .u8 p0.Lead, .int .i32 (bits .or .i32 (IntKind.wrap .i32 (p0.Rune * 2 ^ min (Int.toNat 6) 32)) (bits .and .i32 (IntKind.wrap .i32 p1) 63)), .int .i64 (IntKind.wrap .i64 (p0.Need - 1))]]) (ks := [4, 47]) (e' := [(4, .pointer (some ⟨bx9, 0, none⟩)), (47, .agg #[.int .u8 p0.Lead, .int .i32 (bits .or .i32 (IntKind.wrap .i32 (p0.Rune * 2 ^ min (Int.toNat 6) 32)) (bits .and .i32 (IntKind.wrap .i32 p1) 63)), .int .i64 (IntKind.wrap .i64 (p0.Need - 1))])]) rfl ⟨(load_box tab rfl rfl f5.now (k := 0) rfl rfl), trivial⟩ fun a hk => ?_
        refine x_op hk rfl ?_
        refine op_store tab hk (t := 25) (v := .agg #[.int .u8 p0.Lead, .int .i32 (bits .or .i32 (IntKind.wrap .i32 (p0.Rune * 2 ^ min (Int.toNat 6) 32)) (bits .and .i32 (IntKind.wrap .i32 p1) 63)), .int .i64 (IntKind.wrap .i64 (p0.Need - 1))]) (b := bx9) (k := 0) (cs' := [.int .u8 p0.Lead, .int .i32 (bits .or .i32 (IntKind.wrap .i32 (p0.Rune * 2 ^ min (Int.toNat 6) 32)) (bits .and .i32 (IntKind.wrap .i32 p1) 63)), .int .i64 (IntKind.wrap .i64 (p0.Need - 1))]) rfl rfl rfl rfl rfl rfl f10 rfl rfl fun w28 o29 st30 f10_ => ?_
        replace fg0 := fg0.st st30 (by decide)
        replace hs := hs.loc0 st30 (by decide)
        replace f10 := f10_
        refine x_run tab hk (k := 1) (lv := []) (ks := [4, 5]) (e' := [(4, .pointer (some ⟨bx9, 0, none⟩)), (5, .slice none 0 0)]) rfl trivial fun a hk => ?_
        refine wpList_nil ?_
        refine then_n ?_
        refine wp_ret ?_
        obtain rfl := Option.some.inj H
        exact x_retG hk (rs := [.cell 4 25, .tmp 5]) (vs := [.agg #[.int .u8 p0.Lead, .int .i32 (bits .or .i32 (IntKind.wrap .i32 (p0.Rune * 2 ^ min (Int.toNat 6) 32)) (bits .and .i32 (IntKind.wrap .i32 p1) 63)), .int .i64 (IntKind.wrap .i64 (p0.Need - 1))], .slice none 0 0]) rfl ⟨⟨_, rfl, load_box tab rfl rfl f10.now (k := 0) rfl rfl⟩, rfl, trivial⟩ ⟨fun b_ => if b_ < w.heap.size then o b_ else (fun _ => R0) (o29 b_), none, 0, rfl, hs.close0 o (fun _ => R0), (Ft.of_all (fun _ => Own.nil _ _ _) _ _ _), (by simp)⟩
      · rw [b27] at hk H
        replace H := bifT H
        refine x_if hk (b := true) rfl ?_
        refine (show Code.wp _ _ _ _ _ from ?_)
        refine x_seq ?_
        refine x_cut (fun a_ w_ => ∃ o106 : Nat → Nat, ∃ A107 : Option Addr, ∃ c108 : Nat, ∃ l109 : List Int, Kn 48 a_ [(4, .pointer (some ⟨bx9, 0, none⟩)), (5, .slice A107 (l109).length c108)] ∧ St [] w (fun _ => 0) w_ o106 ∧ Ft (Bx bx9 25 [.int .u8 0, .int .i32 0, .int .i64 0]) w_ o106 10 ∧ Ft (Own (encInt .i32) 21 (.slice A107 (l109).length c108) l109) w_ o106 11 ∧ Ft (RdC ET47 (some ⟨0, 0, none⟩) glob0) w_ o106 0 ∧ (l109).length ≤ c108 ∧ glyph_Decoder_Next_j1 l109 = some r) ?_ ?_
        rotate_left
        · rintro a w112 ⟨o106, A107, c108, l109, hk, hs, f10, f110, fg0, hc111, H⟩
          rw [glyph_Decoder_Next_j1] at H
          refine then_n ?_
          refine wp_ret ?_
          refine then_r ?_
          obtain rfl := Option.some.inj H
          exact x_retG hk (rs := [.cell 4 25, .tmp 5]) (vs := [.agg #[.int .u8 0, .int .i32 0, .int .i64 0], .slice A107 (l109).length c108]) rfl ⟨⟨_, rfl, load_box tab rfl rfl f10.now (k := 0) rfl rfl⟩, rfl, trivial⟩ ⟨fun b_ => if b_ < w.heap.size then o b_ else (fun _ => R0) (o106 b_), A107, c108, rfl, hs.close0 o (fun _ => R0), hs.close_ft (o := o) (ρ := fun _ => R0) f110 (by decide) rfl, hc111⟩
        refine xd_begin (o := o25) (fun W_ => (Bx bx4 25 [.int .u8 p0.Lead, .int .i32 (bits .or .i32 (IntKind.wrap .i32 (p0.Rune * 2 ^ min (Int.toNat 6) 32)) (bits .and .i32 (IntKind.wrap .i32 p1) 63)), .int .i64 (IntKind.wrap .i64 (p0.Need - 1))]) W_ ∧ True) mixed rfl rfl fun w149 st150 => ?_
        replace f10 := f10.st st150 (by decide)
        replace f5 := f5.st st150 (by decide)
        replace fg0 := fg0.st st150 (by decide)
        replace hs := hs.loc0 st150 (by decide)
        refine xd_take tab hk (k := 3) (is := [0, 1, 2]) (ls' := #[true, true, true, false, false, false]) (lv := [.int .i32 (bits .or .i32 (IntKind.wrap .i32 (p0.Rune * 2 ^ min (Int.toNat 6) 32)) (bits .and .i32 (IntKind.wrap .i32 p1) 63))]) (ks := [4, 43, 45]) (e' := [(4, .pointer (some ⟨bx9, 0, none⟩)), (43, .agg #[.int .u8 0, .int .i32 0, .int .i64 0]), (45, .int .i32 (bits .or .i32 (IntKind.wrap .i32 (p0.Rune * 2 ^ min (Int.toNat 6) 32)) (bits .and .i32 (IntKind.wrap .i32 p1) 63)))]) (by kernel_rfl) rfl rfl (by kernel_rfl) (np_then (np_then (np_then np_body))) ⟨f5.now, trivial⟩ (fun W_ hS => ⟨(load1 tab rfl ((Bx.cell hS.1 1).trans rfl)), trivial⟩) fun a hk => ?_
        refine xd_each [3, 4] (by kernel_rfl) rfl ⟨?_, ?_, trivial⟩
        · refine xd_one hk rfl rfl ?_
          refine op_slice (o := o25) tab hk (vs := [.int .i32 (bits .or .i32 (IntKind.wrap .i32 (p0.Rune * 2 ^ min (Int.toNat 6) 32)) (bits .and .i32 (IntKind.wrap .i32 p1) 63))]) (cs := [.int .i32 (bits .or .i32 (IntKind.wrap .i32 (p0.Rune * 2 ^ min (Int.toNat 6) 32)) (bits .and .i32 (IntKind.wrap .i32 p1) 63))]) rfl rfl rfl rfl rfl rfl rfl rfl rfl 16 fun bx154 w151 o152 st153 f155 => ?_
          replace f10 := f10.st st153 (by decide)
          replace f5 := f5.st st153 (by decide)
          replace fg0 := fg0.st st153 (by decide)
          replace hs := hs.loc0 st153 (by decide)
          have f156 : Ft (Own (encInt .i32) 21 (.slice (some ⟨bx154, 0, none⟩) (([(bits .or .i32 (IntKind.wrap .i32 (p0.Rune * 2 ^ min (Int.toNat 6) 32)) (bits .and .i32 (IntKind.wrap .i32 p1) 63))] : List Int)).length 1) ([(bits .or .i32 (IntKind.wrap .i32 (p0.Rune * 2 ^ min (Int.toNat 6) 32)) (bits .and .i32 (IntKind.wrap .i32 p1) 63))] : List Int)) w151 o152 16 := f155.imp fun _ h_ => Own.of_box h_ rfl (by simp)
          have hk := hk.put 46 (.slice (some ⟨bx154, 0, none⟩) (([(bits .or .i32 (IntKind.wrap .i32 (p0.Rune * 2 ^ min (Int.toNat 6) 32)) (bits .and .i32 (IntKind.wrap .i32 p1) 63))] : List Int)).length 1) rfl
          refine ⟨.inr ⟨f5.now, trivial⟩, ?_⟩
          refine xd_op hk (i := 4) (by kernel_rfl) rfl rfl ?_
          refine op_store tab hk (t := 25) (v := .agg #[.int .u8 0, .int .i32 0, .int .i64 0]) (b := bx9) (k := 0) (cs' := [.int .u8 0, .int .i32 0, .int .i64 0]) rfl rfl rfl rfl rfl rfl f10 rfl rfl fun w157 o158 st159 f10_ => ?_
          replace f156 := f156.st st159 (by decide)
          replace f5 := f5.st st159 (by decide)
          replace fg0 := fg0.st st159 (by decide)
          replace hs := hs.loc0 st159 (by decide)
          replace f10 := f10_
          refine ⟨.inr ⟨f5.now, trivial⟩, ?_⟩
          refine xd_take tab hk (k := 0) (is := [5]) (ls' := #[true, true, true, true, true, true]) (lv := []) (ks := [4, 5]) (e' := [(4, .pointer (some ⟨bx9, 0, none⟩)), (5, .slice (some ⟨bx154, 0, none⟩) (([(bits .or .i32 (IntKind.wrap .i32 (p0.Rune * 2 ^ min (Int.toNat 6) 32)) (bits .and .i32 (IntKind.wrap .i32 p1) 63))] : List Int)).length 1)]) (by kernel_rfl) rfl rfl (by kernel_rfl) (np_then (np_then (np_then np_body))) ⟨f5.now, trivial⟩ (fun W_ hS => trivial) fun a hk => ?_
          refine xd_done (by kernel_rfl) ?_
          refine then_n ?_
          exact ⟨(fun b_ => (fun l_ => if l_ = 2 then 10 else if l_ = 16 then 11 else l_) (o158 b_)), (some ⟨bx154, 0, none⟩), 1, ([(bits .or .i32 (IntKind.wrap .i32 (p0.Rune * 2 ^ min (Int.toNat 6) 32)) (bits .and .i32 (IntKind.wrap .i32 p1) 63))] : List Int), (by exact Kn.pick (ks := [4, 5]) hk rfl), (hs.relab0 (fun l_ => if l_ = 2 then 10 else if l_ = 16 then 11 else l_) rfl), (f10.relab (fun l_ => if l_ = 2 then 10 else if l_ = 16 then 11 else l_) rfl), (f156.relab (fun l_ => if l_ = 2 then 10 else if l_ = 16 then 11 else l_) rfl), (fg0.relab (fun l_ => if l_ = 2 then 10 else if l_ = 16 then 11 else l_) rfl), (Nat.le_refl _), H⟩
        · refine xd_one hk rfl rfl ?_
          refine op_store tab hk (t := 25) (v := .agg #[.int .u8 0, .int .i32 0, .int .i64 0]) (b := bx9) (k := 0) (cs' := [.int .u8 0, .int .i32 0, .int .i64 0]) rfl rfl rfl rfl rfl rfl f10 rfl rfl fun w160 o161 st162 f10_ => ?_
          replace f5 := f5.st st162 (by decide)
          replace fg0 := fg0.st st162 (by decide)
          replace hs := hs.loc0 st162 (by decide)
          replace f10 := f10_
          refine ⟨.inr ⟨f5.now, trivial⟩, ?_⟩
          refine xd_op hk (i := 3) (by kernel_rfl) rfl rfl ?_
          refine op_slice (o := o161) tab hk (vs := [.int .i32 (bits .or .i32 (IntKind.wrap .i32 (p0.Rune * 2 ^ min (Int.toNat 6) 32)) (bits .and .i32 (IntKind.wrap .i32 p1) 63))]) (cs := [.int .i32 (bits .or .i32 (IntKind.wrap .i32 (p0.Rune * 2 ^ min (Int.toNat 6) 32)) (bits .and .i32 (IntKind.wrap .i32 p1) 63))]) rfl rfl rfl rfl rfl rfl rfl rfl rfl 17 fun bx166 w163 o164 st165 f167 => ?_
          replace f10 := f10.st st165 (by decide)
          replace f5 := f5.st st165 (by decide)
          replace fg0 := fg0.st st165 (by decide)
          replace hs := hs.loc0 st165 (by decide)
          have f168 : Ft (Own (encInt .i32) 21 (.slice (some ⟨bx166, 0, none⟩) (([(bits .or .i32 (IntKind.wrap .i32 (p0.Rune * 2 ^ min (Int.toNat 6) 32)) (bits .and .i32 (IntKind.wrap .i32 p1) 63))] : List Int)).length 1) ([(bits .or .i32 (IntKind.wrap .i32 (p0.Rune * 2 ^ min (Int.toNat 6) 32)) (bits .and .i32 (IntKind.wrap .i32 p1) 63))] : List Int)) w163 o164 17 := f167.imp fun _ h_ => Own.of_box h_ rfl (by simp)
          have hk := hk.put 46 (.slice (some ⟨bx166, 0, none⟩) (([(bits .or .i32 (IntKind.wrap .i32 (p0.Rune * 2 ^ min (Int.toNat 6) 32)) (bits .and .i32 (IntKind.wrap .i32 p1) 63))] : List Int)).length 1) rfl
          refine ⟨.inr ⟨f5.now, trivial⟩, ?_⟩
          refine xd_take tab hk (k := 0) (is := [5]) (ls' := #[true, true, true, true, true, true]) (lv := []) (ks := [4, 5]) (e' := [(4, .pointer (some ⟨bx9, 0, none⟩)), (5, .slice (some ⟨bx166, 0, none⟩) (([(bits .or .i32 (IntKind.wrap .i32 (p0.Rune * 2 ^ min (Int.toNat 6) 32)) (bits .and .i32 (IntKind.wrap .i32 p1) 63))] : List Int)).length 1)]) (by kernel_rfl) rfl rfl (by kernel_rfl) (np_then (np_then (np_then np_body))) ⟨f5.now, trivial⟩ (fun W_ hS => trivial) fun a hk => ?_
          refine xd_done (by kernel_rfl) ?_
          refine then_n ?_
          exact ⟨(fun b_ => (fun l_ => if l_ = 2 then 10 else if l_ = 17 then 11 else l_) (o164 b_)), (some ⟨bx166, 0, none⟩), 1, ([(bits .or .i32 (IntKind.wrap .i32 (p0.Rune * 2 ^ min (Int.toNat 6) 32)) (bits .and .i32 (IntKind.wrap .i32 p1) 63))] : List Int), (by exact Kn.pick (ks := [4, 5]) hk rfl), (hs.relab0 (fun l_ => if l_ = 2 then 10 else if l_ = 17 then 11 else l_) rfl), (f10.relab (fun l_ => if l_ = 2 then 10 else if l_ = 17 then 11 else l_) rfl), (f168.relab (fun l_ => if l_ = 2 then 10 else if l_ = 17 then 11 else l_) rfl), (fg0.relab (fun l_ => if l_ = 2 then 10 else if l_ = 17 then 11 else l_) rfl), (Nat.le_refl _), H⟩
    · rw [b20] at hk H
      replace H := bifT H
      refine x_if hk (b := true) rfl ?_
      refine (show Code.wp _ _ _ _ _ from ?_)
      refine x_seq ?_
      refine wp_region_lit ?_
      refine x_run tab hk (k := 1) (lv := []) (ks := [4, 20]) (e' := [(4, .pointer (some ⟨bx9, 0, none⟩)), (20, .int .u8 p1)]) rfl trivial fun a hk => ?_
      refine x_op hk rfl ?_
      obtain ⟨t172, hc173, H⟩ := bindS H
      refine op_call hk ent_19 (vs := [.int .u8 p1]) rfl (glyph_begin_calls K p1 _ o18 0 fg0 18  _ hc173) ?_
      rintro _ w174 ⟨o175, A177, c178, rfl, st176, f179, hc180⟩
      replace f10 := f10.st st176 (by decide)
      replace fg0 := fg0.st st176 (by decide)
      replace hs := hs.loc0 st176 (by decide)
      have hk := hk.put 21 (.tuple #[.agg #[.int .u8 t172.1.Lead, .int .i32 t172.1.Rune, .int .i64 t172.1.Need], .slice A177 (t172.2).length c178]) rfl
      refine x_run tab hk (k := 3) (lv := []) (ks := [4, 22, 23]) (e' := [(4, .pointer (some ⟨bx9, 0, none⟩)), (22, .agg #[.int .u8 t172.1.Lead, .int .i32 t172.1.Rune, .int .i64 t172.1.Need]), (23, .slice A177 (t172.2).length c178)]) rfl trivial fun a hk => ?_
      refine x_op hk rfl ?_
      refine op_alloc (o := o175) tab (t := 25) (cs := [.int .u8 0, .int .i32 0, .int .i64 0]) rfl rfl 19 fun bx184 w181 o182 st183 f185 => ?_
      replace f10 := f10.st st183 (by decide)
      replace f179 := f179.st st183 (by decide)
      replace fg0 := fg0.st st183 (by decide)
      replace hs := hs.loc0 st183 (by decide)
      have hk := hk.put 6 (.pointer (some ⟨bx184, 0, none⟩)) rfl
      refine x_op hk rfl ?_
      refine op_store tab hk (t := 25) (v := .agg #[.int .u8 t172.1.Lead, .int .i32 t172.1.Rune, .int .i64 t172.1.Need]) (b := bx184) (k := 0) (cs' := [.int .u8 t172.1.Lead, .int .i32 t172.1.Rune, .int .i64 t172.1.Need]) rfl rfl rfl rfl rfl rfl f185 rfl rfl fun w186 o187 st188 f185_ => ?_
      replace f10 := f10.st st188 (by decide)
      replace f179 := f179.st st188 (by decide)
      replace fg0 := fg0.st st188 (by decide)
      replace hs := hs.loc0 st188 (by decide)
      replace f185 := f185_
      refine x_run tab hk (k := 1) (lv := []) (ks := [4, 6, 7]) (e' := [(4, .pointer (some ⟨bx9, 0, none⟩)), (6, .pointer (some ⟨bx184, 0, none⟩)), (7, .slice A177 (t172.2).length c178)]) rfl trivial fun a hk => ?_
      refine wpList_nil ?_
      refine then_n ?_
      refine x_seq ?_
      refine xd_begin (o := o187) (fun W_ => (Bx bx184 25 [.int .u8 t172.1.Lead, .int .i32 t172.1.Rune, .int .i64 t172.1.Need]) W_ ∧ True) mixed rfl rfl fun w223 st224 => ?_
      replace f10 := f10.st st224 (by decide)
      replace f179 := f179.st st224 (by decide)
      replace f185 := f185.st st224 (by decide)
      replace fg0 := fg0.st st224 (by decide)
      replace hs := hs.loc0 st224 (by decide)
      refine xd_take tab hk (k := 4) (is := [0, 2]) (ls' := #[true, false, true, false, false, false]) (lv := [.agg #[.int .u8 t172.1.Lead, .int .i32 t172.1.Rune, .int .i64 t172.1.Need]]) (ks := [4, 24, 26]) (e' := [(4, .pointer (some ⟨bx9, 0, none⟩)), (24, .agg #[.int .u8 t172.1.Lead, .int .i32 t172.1.Rune, .int .i64 t172.1.Need]), (26, .slice A177 (t172.2).length c178)]) (by kernel_rfl) rfl rfl (by kernel_rfl) (np_then (np_then np_body)) ⟨f185.now, trivial⟩ (fun W_ hS => ⟨(load_box tab rfl rfl hS.1 (k := 0) rfl rfl), trivial⟩) fun a hk => ?_
      refine xd_op hk (i := 1) (by kernel_rfl) rfl rfl ?_
      refine op_slice (o := o187) tab hk (vs := [.int .i32 65533]) (cs := [.int .i32 65533]) rfl rfl rfl rfl rfl rfl rfl rfl rfl 22 fun bx228 w225 o226 st227 f229 => ?_
      replace f10 := f10.st st227 (by decide)
      replace f179 := f179.st st227 (by decide)
      replace f185 := f185.st st227 (by decide)
      replace fg0 := fg0.st st227 (by decide)
      replace hs := hs.loc0 st227 (by decide)
      have f230 : Ft (Own (encInt .i32) 21 (.slice (some ⟨bx228, 0, none⟩) (([65533] : List Int)).length 1) ([65533] : List Int)) w225 o226 22 := f229.imp fun _ h_ => Own.of_box h_ rfl (by simp)
      have hk := hk.put 25 (.slice (some ⟨bx228, 0, none⟩) (([65533] : List Int)).length 1) rfl
      refine ⟨.inr ⟨f185.now, trivial⟩, ?_⟩
      refine xd_op hk (i := 3) (by kernel_rfl) rfl rfl ?_
      obtain ⟨q234, H⟩ := ifS H
      refine op_append (o := o226) (E := (encInt .i32)) (xs := ([65533] : List Int)) (ys := t172.2) tab hk rfl rfl rfl rfl rfl rfl rfl f230 (Own.rd f179.now) q234 fun A235 c236 w231 o232 st233 f237 hc238 => ?_
      replace f10 := f10.st st233 (by decide)
      replace f179 := f179.st st233 (by decide)
      replace f185 := f185.st st233 (by decide)
      replace fg0 := fg0.st st233 (by decide)
      replace hs := hs.loc0 st233 (by decide)
      have hk := hk.put 27 (.slice A235 ((([65533] : List Int) ++ t172.2)).length c236) rfl
      refine ⟨.inr ⟨f185.now, trivial⟩, ?_⟩
      refine xd_op hk (i := 4) (by kernel_rfl) rfl rfl ?_
      refine op_store tab hk (t := 25) (v := .agg #[.int .u8 t172.1.Lead, .int .i32 t172.1.Rune, .int .i64 t172.1.Need]) (b := bx9) (k := 0) (cs' := [.int .u8 t172.1.Lead, .int .i32 t172.1.Rune, .int .i64 t172.1.Need]) rfl rfl rfl rfl rfl rfl f10 rfl rfl fun w239 o240 st241 f10_ => ?_
      replace f179 := f179.st st241 (by decide)
      replace f185 := f185.st st241 (by decide)
      replace f237 := f237.st st241 (by decide)
      replace fg0 := fg0.st st241 (by decide)
      replace hs := hs.loc0 st241 (by decide)
      replace f10 := f10_
      refine ⟨.inr ⟨f185.now, trivial⟩, ?_⟩
      refine xd_take tab hk (k := 0) (is := [5]) (ls' := #[true, true, true, true, true, true]) (lv := []) (ks := [4, 5]) (e' := [(4, .pointer (some ⟨bx9, 0, none⟩)), (5, .slice A235 ((([65533] : List Int) ++ t172.2)).length c236)]) (by kernel_rfl) rfl rfl (by kernel_rfl) (np_then (np_then np_body)) ⟨f185.now, trivial⟩ (fun W_ hS => trivial) fun a hk => ?_
      refine xd_done (by kernel_rfl) ?_
      refine then_n ?_
      refine wp_ret ?_
      refine then_r ?_
      obtain rfl := Option.some.inj H
      exact x_retG hk (rs := [.cell 4 25, .tmp 5]) (vs := [.agg #[.int .u8 t172.1.Lead, .int .i32 t172.1.Rune, .int .i64 t172.1.Need], .slice A235 ((([65533] : List Int) ++ t172.2)).length c236]) rfl ⟨⟨_, rfl, load_box tab rfl rfl f10.now (k := 0) rfl rfl⟩, rfl, trivial⟩ ⟨fun b_ => if b_ < w.heap.size then o b_ else (fun _ => R0) (o240 b_), A235, c236, rfl, hs.close0 o (fun _ => R0), hs.close_ft (o := o) (ρ := fun _ => R0) f237 (by decide) rfl, hc238⟩
  · rw [b11] at hk H
    replace H := bifT H
    refine x_if hk (b := true) rfl ?_
    refine (show Code.wp _ _ _ _ _ from ?_)
    refine x_seq ?_
    refine wp_region_lit ?_
    refine x_run tab hk (k := 1) (lv := []) (ks := [4, 11]) (e' := [(4, .pointer (some ⟨bx9, 0, none⟩)), (11, .int .u8 p1)]) rfl trivial fun a hk => ?_
    refine x_op hk rfl ?_
    obtain ⟨t245, hc246, H⟩ := bindS H
    refine op_call hk ent_19 (vs := [.int .u8 p1]) rfl (glyph_begin_calls K p1 _ o7 0 fg0 23  _ hc246) ?_
    rintro _ w247 ⟨o248, A250, c251, rfl, st249, f252, hc253⟩
    replace f10 := f10.st st249 (by decide)
    replace fg0 := fg0.st st249 (by decide)
    replace hs := hs.loc0 st249 (by decide)
    have hk := hk.put 12 (.tuple #[.agg #[.int .u8 t245.1.Lead, .int .i32 t245.1.Rune, .int .i64 t245.1.Need], .slice A250 (t245.2).length c251]) rfl
    refine x_run tab hk (k := 2) (lv := []) (ks := [4, 13, 14]) (e' := [(4, .pointer (some ⟨bx9, 0, none⟩)), (13, .agg #[.int .u8 t245.1.Lead, .int .i32 t245.1.Rune, .int .i64 t245.1.Need]), (14, .slice A250 (t245.2).length c251)]) rfl trivial fun a hk => ?_
    refine x_op hk rfl ?_
    refine op_store tab hk (t := 25) (v := .agg #[.int .u8 t245.1.Lead, .int .i32 t245.1.Rune, .int .i64 t245.1.Need]) (b := bx9) (k := 0) (cs' := [.int .u8 t245.1.Lead, .int .i32 t245.1.Rune, .int .i64 t245.1.Need]) rfl rfl rfl rfl rfl rfl f10 rfl rfl fun w254 o255 st256 f10_ => ?_
    replace f252 := f252.st st256 (by decide)
    replace fg0 := fg0.st st256 (by decide)
    replace hs := hs.loc0 st256 (by decide)
    replace f10 := f10_
    refine x_run tab hk (k := 1) (lv := []) (ks := [4, 5]) (e' := [(4, .pointer (some ⟨bx9, 0, none⟩)), (5, .slice A250 (t245.2).length c251)]) rfl trivial fun a hk => ?_
    refine wpList_nil ?_
    refine then_n ?_
    refine wp_ret ?_
    refine then_r ?_
    obtain rfl := Option.some.inj H
    exact x_retG hk (rs := [.cell 4 25, .tmp 5]) (vs := [.agg #[.int .u8 t245.1.Lead, .int .i32 t245.1.Rune, .int .i64 t245.1.Need], .slice A250 (t245.2).length c251]) rfl ⟨⟨_, rfl, load_box tab rfl rfl f10.now (k := 0) rfl rfl⟩, rfl, trivial⟩ ⟨fun b_ => if b_ < w.heap.size then o b_ else (fun _ => R0) (o255 b_), A250, c251, rfl, hs.close0 o (fun _ => R0), hs.close_ft (o := o) (ρ := fun _ => R0) f252 (by decide) rfl, hc253⟩

/-! (tidewrack/glyph.Decoder).Run -/
theorem glyph_Decoder_Run_calls (K : Nat) (p0 : T24) (p1 : ByteArray) (w : World) (o : Nat → Nat) (Lg0 : Nat) (hg0 : Ft (RdC ET47 (some ⟨0, 0, none⟩) glob0) w o Lg0)  (R0 : Nat) (r : T24 × (List Int)) (H : glyph_Decoder_Run K p0 p1 = some r) :
    Calls Tryd.prog 10 #[.agg #[.int .u8 p0.Lead, .int .i32 p0.Rune, .int .i64 p0.Need], .string p1] w (Ret fun v_ w' => ∃ o' : Nat → Nat, ∃ A0 : Option Addr, ∃ c0 : Nat, v_ = .tuple #[.agg #[.int .u8 r.1.Lead, .int .i32 r.1.Rune, .int .i64 r.1.Need], .slice A0 (r.2).length c0] ∧ St [] w o w' o' ∧ Ft (Own (encInt .i32) 21 (.slice A0 (r.2).length c0) (r.2)) w' o' R0 ∧ (r.2).length ≤ c0) := by
  refine x_enter (vs := [.agg #[.int .u8 p0.Lead, .int .i32 p0.Rune, .int .i64 p0.Need], .string p1]) Tryd.func10 rfl rfl rfl fun a hk => ?_
  obtain ⟨o0, hs, h0⟩ := St.start w o
  have fg0 := h0 _ _ hg0
  clear h0
  rw [glyph_Decoder_Run] at H
  refine x_seq ?_
  refine wp_region_lit ?_
  refine x_op hk rfl ?_
  refine op_box (o := o0) (t := 25) (v := .agg #[.int .u8 p0.Lead, .int .i32 p0.Rune, .int .i64 p0.Need]) (cs := [.int .u8 p0.Lead, .int .i32 p0.Rune, .int .i64 p0.Need]) hk rfl rfl 1 fun bx4 w1 o2 st3 f5 => ?_
  replace fg0 := fg0.st st3 (by decide)
  replace hs := hs.loc0 st3 (by decide)
  have hk := hk.put 2 (.pointer (some ⟨bx4, 0, none⟩)) rfl
  refine x_op hk rfl ?_
  refine op_alloc (o := o2) tab (t := 25) (cs := [.int .u8 0, .int .i32 0, .int .i64 0]) rfl rfl 2 fun bx9 w6 o7 st8 f10 => ?_
  replace f5 := f5.st st8 (by decide)
  replace fg0 := fg0.st st8 (by decide)
  replace hs := hs.loc0 st8 (by decide)
  have hk := hk.put 4 (.pointer (some ⟨bx9, 0, none⟩)) rfl
  refine x_run tab hk (k := 1) (lv := []) (ks := [1, 2, 4]) (e' := [(1, .string p1), (2, .pointer (some ⟨bx4, 0, none⟩)), (4, .pointer (some ⟨bx9, 0, none⟩))]) rfl trivial fun a hk => ?_
  refine wpList_nil ?_
  refine then_n ?_
  refine x_seq ?_
  refine wp_region_lit ?_
  refine x_run tab hk (k := 1) (lv := []) (ks := [1, 2, 4, 6]) (e' := [(1, .string p1), (2, .pointer (some ⟨bx4, 0, none⟩)), (4, .pointer (some ⟨bx9, 0, none⟩)), (6, .slice none 0 0)]) rfl trivial fun a hk => ?_
  refine wpList_nil ?_
  refine then_n ?_
  refine x_mid (fun a_ w_ => ∃ o214 : Nat → Nat, ∃ x215 : T24, ∃ A216 : Option Addr, ∃ c217 : Nat, ∃ l218 : List Int, Kn 28 a_ [(2, .pointer (some ⟨bx4, 0, none⟩)), (4, .pointer (some ⟨bx9, 0, none⟩)), (6, .slice A216 (l218).length c217)] ∧ St [] w (fun _ => 0) w_ o214 ∧ Ft (Bx bx9 25 [.int .u8 0, .int .i32 0, .int .i64 0]) w_ o214 20 ∧ Ft (Own (encInt .i32) 21 (.slice A216 (l218).length c217) l218) w_ o214 21 ∧ Ft (Bx bx4 25 [.int .u8 x215.Lead, .int .i32 x215.Rune, .int .i64 x215.Need]) w_ o214 19 ∧ Ft (RdC ET47 (some ⟨0, 0, none⟩) glob0) w_ o214 0 ∧ (l218).length ≤ c217 ∧ glyph_Decoder_Run_j1 x215 l218 = some r) ?_ ?_
  rotate_left
  · rintro a w221 ⟨o214, x215, A216, c217, l218, hk, hs, f10, f219, f5, fg0, hc220, H⟩
    rw [glyph_Decoder_Run_j1] at H
    refine x_seq ?_
    refine wp_region_lit ?_
    refine x_run tab hk (k := 2) (lv := [.agg #[.int .u8 x215.Lead, .int .i32 x215.Rune, .int .i64 x215.Need]]) (ks := [4, 26, 27]) (e' := [(4, .pointer (some ⟨bx9, 0, none⟩)), (26, .agg #[.int .u8 x215.Lead, .int .i32 x215.Rune, .int .i64 x215.Need]), (27, .slice A216 (l218).length c217)]) rfl ⟨(load_box tab rfl rfl f5.now (k := 0) rfl rfl), trivial⟩ fun a hk => ?_
    refine x_op hk rfl ?_
    refine op_store tab hk (t := 25) (v := .agg #[.int .u8 x215.Lead, .int .i32 x215.Rune, .int .i64 x215.Need]) (b := bx9) (k := 0) (cs' := [.int .u8 x215.Lead, .int .i32 x215.Rune, .int .i64 x215.Need]) rfl rfl rfl rfl rfl rfl f10 rfl rfl fun w222 o223 st224 f10_ => ?_
    replace f219 := f219.st st224 (by decide)
    replace fg0 := fg0.st st224 (by decide)
    replace hs := hs.loc0 st224 (by decide)
    replace f10 := f10_
    refine x_run tab hk (k := 1) (lv := []) (ks := [4, 5]) (e' := [(4, .pointer (some ⟨bx9, 0, none⟩)), (5, .slice A216 (l218).length c217)]) rfl trivial fun a hk => ?_
    refine wpList_nil ?_
    refine then_n ?_
    refine wp_ret ?_
    obtain rfl := Option.some.inj H
    exact x_retG hk (rs := [.cell 4 25, .tmp 5]) (vs := [.agg #[.int .u8 x215.Lead, .int .i32 x215.Rune, .int .i64 x215.Need], .slice A216 (l218).length c217]) rfl ⟨⟨_, rfl, load_box tab rfl rfl f10.now (k := 0) rfl rfl⟩, rfl, trivial⟩ ⟨fun b_ => if b_ < w.heap.size then o b_ else (fun _ => R0) (o223 b_), A216, c217, rfl, hs.close0 o (fun _ => R0), hs.close_ft (o := o) (ρ := fun _ => R0) f219 (by decide) rfl, hc220⟩
  refine x_seq ?_
  refine wp_region_lit ?_
  refine x_run tab hk (k := 3) (lv := []) (ks := [1, 2, 4, 6, 10, 11]) (e' := [(1, .string p1), (2, .pointer (some ⟨bx4, 0, none⟩)), (4, .pointer (some ⟨bx9, 0, none⟩)), (6, .slice none 0 0), (10, .int .i64 ((p1).size : Int)), (11, .int .i64 0)]) rfl trivial fun a hk => ?_
  refine wpList_nil ?_
  refine then_n ?_
  refine wp_block ?_
  refine x_loop (fun j_ a_ w_ => ∃ o287 : Nat → Nat, ∃ x288 : T24, ∃ A289 : Option Addr, ∃ c290 : Nat, ∃ l291 : List Int, ∃ x294 : Int, Kn 28 a_ [(1, .string p1), (2, .pointer (some ⟨bx4, 0, none⟩)), (4, .pointer (some ⟨bx9, 0, none⟩)), (6, .slice A289 (l291).length c290), (10, .int .i64 ((p1).size : Int)), (11, .int .i64 x294)] ∧ St [] w (fun _ => 0) w_ o287 ∧ Ft (Bx bx9 25 [.int .u8 0, .int .i32 0, .int .i64 0]) w_ o287 29 ∧ Ft (Own (encInt .i32) 21 (.slice A289 (l291).length c290) l291) w_ o287 30 ∧ Ft (Bx bx4 25 [.int .u8 x288.Lead, .int .i32 x288.Rune, .int .i64 x288.Need]) w_ o287 28 ∧ Ft (RdC ET47 (some ⟨0, 0, none⟩) glob0) w_ o287 0 ∧ (l291).length ≤ c290 ∧ glyph_Decoder_Run_l2 K p1 j_ x288 l291 x294 = some r) (k := K) ⟨(fun b_ => (fun l_ => if l_ = 1 then 28 else if l_ = 2 then 29 else l_) (o7 b_)), p0, none, 0, ([] : List Int), 0, (by exact Kn.pick (ks := [1, 2, 4, 6, 10, 11]) hk rfl), (hs.relab0 (fun l_ => if l_ = 1 then 28 else if l_ = 2 then 29 else l_) rfl), (f10.relab (fun l_ => if l_ = 1 then 28 else if l_ = 2 then 29 else l_) rfl), (Ft.of_all (fun _ => Own.nil _ _ _) _ _ _), (f5.relab (fun l_ => if l_ = 1 then 28 else if l_ = 2 then 29 else l_) rfl), (fg0.relab (fun l_ => if l_ = 1 then 28 else if l_ = 2 then 29 else l_) rfl), (by simp), H⟩ (by rintro _ _ ⟨_, _, _, _, _, _, _, _, _, _, _, _, _, H_⟩; exact absurd (show (none : Option (T24 × (List Int))) = some r from H_) (by simp)) ?_
  rintro k355 a w354 ⟨o287, x288, A289, c290, l291, x294, hk, hs, f10, f292, f5, fg0, hc293, H⟩
  rw [glyph_Decoder_Run_l2] at H
  obtain ⟨lp356, hlp357⟩ : ∃ lp_, lp_ = glyph_Decoder_Run_l2 K p1 k355 := ⟨_, rfl⟩
  rw [← hlp357] at H
  refine x_seq ?_
  refine wp_region_lit ?_
  refine x_run tab hk (k := 1) (lv := []) (ks := [1, 2, 4, 6, 10, 11, 12]) (e' := [(1, .string p1), (2, .pointer (some ⟨bx4, 0, none⟩)), (4, .pointer (some ⟨bx9, 0, none⟩)), (6, .slice A289 (l291).length c290), (10, .int .i64 ((p1).size : Int)), (11, .int .i64 x294), (12, .bool (decide (x294 < ((p1).size : Int))))]) rfl trivial fun a hk => ?_
  refine wpList_nil ?_
  refine then_n ?_
  refine x_seq ?_
  cases b358 : (decide (x294 < ((p1).size : Int)))
  · rw [b358] at hk H
    replace H := bifF H
    refine x_if hk (b := false) rfl ?_
    refine (show Code.wp _ _ _ _ _ from ?_)
    refine wp_exit ?_
    refine then_x ?_
    refine then_x ?_
    refine blk_x ?_
    refine then_n ?_
    exact ⟨(fun b_ => (fun l_ => if l_ = 28 then 19 else if l_ = 29 then 20 else if l_ = 30 then 21 else l_) (o287 b_)), x288, A289, c290, l291, (by exact Kn.pick (ks := [2, 4, 6]) hk rfl), (hs.relab0 (fun l_ => if l_ = 28 then 19 else if l_ = 29 then 20 else if l_ = 30 then 21 else l_) rfl), (f10.relab (fun l_ => if l_ = 28 then 19 else if l_ = 29 then 20 else if l_ = 30 then 21 else l_) rfl), (f292.relab (fun l_ => if l_ = 28 then 19 else if l_ = 29 then 20 else if l_ = 30 then 21 else l_) rfl), (f5.relab (fun l_ => if l_ = 28 then 19 else if l_ = 29 then 20 else if l_ = 30 then 21 else l_) rfl), (fg0.relab (fun l_ => if l_ = 28 then 19 else if l_ = 29 then 20 else if l_ = 30 then 21 else l_) rfl), hc293, H⟩
  · rw [b358] at hk H
    replace H := bifT H
    refine x_if hk (b := true) rfl ?_
    refine (show Code.wp _ _ _ _ _ from ?_)
    refine wp_skip ?_
    refine then_n ?_
    refine x_seq ?_
    refine wp_block ?_
    refine x_seq ?_
    refine wp_region_lit ?_
    refine x_run tab hk (k := 2) (lv := []) (ks := [1, 2, 4, 6, 7, 10, 11]) (e' := [(1, .string p1), (2, .pointer (some ⟨bx4, 0, none⟩)), (4, .pointer (some ⟨bx9, 0, none⟩)), (6, .slice A289 (l291).length c290), (7, .int .i64 x294), (10, .int .i64 ((p1).size : Int)), (11, .int .i64 x294)]) rfl trivial fun a hk => ?_
    refine wpList_nil ?_
    refine then_n ?_
    refine x_seq ?_
    refine wp_region_lit ?_
    refine x_run tab hk (k := 1) (lv := []) (ks := [1, 2, 4, 6, 7, 10, 11]) (e' := [(1, .string p1), (2, .pointer (some ⟨bx4, 0, none⟩)), (4, .pointer (some ⟨bx9, 0, none⟩)), (6, .slice A289 (l291).length c290), (7, .int .i64 x294), (10, .int .i64 ((p1).size : Int)), (11, .int .i64 x294)]) rfl trivial fun a hk => ?_
    refine wpList_nil ?_
    refine then_n ?_
    refine x_seq ?_
    refine xd_begin (o := o287) (fun W_ => True) mixed rfl rfl fun w391 st392 => ?_
    replace f10 := f10.st st392 (by decide)
    replace f292 := f292.st st392 (by decide)
    replace f5 := f5.st st392 (by decide)
    replace fg0 := fg0.st st392 (by decide)
    replace hs := hs.loc0 st392 (by decide)
    obtain ⟨q393, H⟩ := ifS H
    refine xd_take tab hk (k := 7) (is := [1, 2, 3]) (ls' := #[false, true, true, true, false, false, false, false, false, false]) (lv := []) (ks := [1, 2, 4, 6, 10, 11, 18]) (e' := [(1, .string p1), (2, .pointer (some ⟨bx4, 0, none⟩)), (4, .pointer (some ⟨bx9, 0, none⟩)), (6, .slice A289 (l291).length c290), (10, .int .i64 ((p1).size : Int)), (11, .int .i64 x294), (18, .int .u8 (bt p1 x294))]) (by kernel_rfl) rfl rfl (by kernel_rfl) (np_then (np_blk (np_then (np_then (np_blk (np_then np_body)))))) trivial (fun W_ hS => ⟨q393, trivial⟩) fun a hk => ?_
    refine xd_op hk (i := 0) (by kernel_rfl) rfl rfl ?_
    refine op_quiet tab hk (lv := [.agg #[.int .u8 x288.Lead, .int .i32 x288.Rune, .int .i64 x288.Need]]) (v := .agg #[.int .u8 x288.Lead, .int .i32 x288.Rune, .int .i64 x288.Need]) rfl ⟨(load_box tab rfl rfl f5.now (k := 0) rfl rfl), trivial⟩ ?_
    have hk := hk.put 15 (.agg #[.int .u8 x288.Lead, .int .i32 x288.Rune, .int .i64 x288.Need]) rfl
    refine ⟨.inr trivial, ?_⟩
    refine xd_op hk (i := 4) (by kernel_rfl) rfl rfl ?_
    obtain ⟨t397, hc398, H⟩ := bindS H
    refine op_call hk ent_15 (vs := [.agg #[.int .u8 x288.Lead, .int .i32 x288.Rune, .int .i64 x288.Need], .int .u8 (bt p1 x294)]) rfl (glyph_Decoder_Next_calls K x288 (bt p1 x294) _ o287 0 fg0 36  _ hc398) ?_
    rintro _ w399 ⟨o400, A402, c403, rfl, st401, f404, hc405⟩
    replace f10 := f10.st st401 (by decide)
    replace f292 := f292.st st401 (by decide)
    replace f5 := f5.st st401 (by decide)
    replace fg0 := fg0.st st401 (by decide)
    replace hs := hs.loc0 st401 (by decide)
    have hk := hk.put 19 (.tuple #[.agg #[.int .u8 t397.1.Lead, .int .i32 t397.1.Rune, .int .i64 t397.1.Need], .slice A402 (t397.2).length c403]) rfl
    refine ⟨.inr trivial, ?_⟩
    refine xd_take tab hk (k := 2) (is := [5, 6, 7]) (ls' := #[true, true, true, true, true, true, true, true, false, false]) (lv := []) (ks := [1, 2, 4, 6, 10, 11, 20, 21]) (e' := [(1, .string p1), (2, .pointer (some ⟨bx4, 0, none⟩)), (4, .pointer (some ⟨bx9, 0, none⟩)), (6, .slice A289 (l291).length c290), (10, .int .i64 ((p1).size : Int)), (11, .int .i64 x294), (20, .agg #[.int .u8 t397.1.Lead, .int .i32 t397.1.Rune, .int .i64 t397.1.Need]), (21, .slice A402 (t397.2).length c403)]) (by kernel_rfl) rfl rfl (by kernel_rfl) (np_then (np_blk (np_then (np_then (np_blk (np_then np_body)))))) trivial (fun W_ hS => trivial) fun a hk => ?_
    refine xd_op hk (i := 8) (by kernel_rfl) rfl rfl ?_
    refine op_store tab hk (t := 25) (v := .agg #[.int .u8 t397.1.Lead, .int .i32 t397.1.Rune, .int .i64 t397.1.Need]) (b := bx4) (k := 0) (cs' := [.int .u8 t397.1.Lead, .int .i32 t397.1.Rune, .int .i64 t397.1.Need]) rfl rfl rfl rfl rfl rfl f5 rfl rfl fun w406 o407 st408 f5_ => ?_
    replace f10 := f10.st st408 (by decide)
    replace f292 := f292.st st408 (by decide)
    replace f404 := f404.st st408 (by decide)
    replace fg0 := fg0.st st408 (by decide)
    replace hs := hs.loc0 st408 (by decide)
    replace f5 := f5_
    refine ⟨.inr trivial, ?_⟩
    refine xd_take tab hk (k := 0) (is := [9]) (ls' := #[true, true, true, true, true, true, true, true, true, true]) (lv := []) (ks := [1, 2, 4, 6, 8, 10, 11]) (e' := [(1, .string p1), (2, .pointer (some ⟨bx4, 0, none⟩)), (4, .pointer (some ⟨bx9, 0, none⟩)), (6, .slice A289 (l291).length c290), (8, .slice A402 (t397.2).length c403), (10, .int .i64 ((p1).size : Int)), (11, .int .i64 x294)]) (by kernel_rfl) rfl rfl (by kernel_rfl) (np_then (np_blk (np_then (np_then (np_blk (np_then np_body)))))) trivial (fun W_ hS => trivial) fun a hk => ?_
    refine xd_done (by kernel_rfl) ?_
    refine then_n ?_
    refine wp_region_lit ?_
    refine x_run tab hk (k := 2) (lv := []) (ks := [1, 2, 4, 10, 11, 22, 23]) (e' := [(1, .string p1), (2, .pointer (some ⟨bx4, 0, none⟩)), (4, .pointer (some ⟨bx9, 0, none⟩)), (10, .int .i64 ((p1).size : Int)), (11, .int .i64 x294), (22, .slice A289 (l291).length c290), (23, .slice A402 (t397.2).length c403)]) rfl trivial fun a hk => ?_
    refine x_op hk rfl ?_
    obtain ⟨q412, H⟩ := ifS H
    refine op_append (o := o407) (E := (encInt .i32)) (xs := l291) (ys := t397.2) tab hk rfl rfl rfl rfl rfl rfl rfl f292 (Own.rd f404.now) q412 fun A413 c414 w409 o410 st411 f415 hc416 => ?_
    replace f10 := f10.st st411 (by decide)
    replace f404 := f404.st st411 (by decide)
    replace f5 := f5.st st411 (by decide)
    replace fg0 := fg0.st st411 (by decide)
    replace hs := hs.loc0 st411 (by decide)
    have hk := hk.put 24 (.slice A413 ((l291 ++ t397.2)).length c414) rfl
    refine x_run tab hk (k := 1) (lv := []) (ks := [1, 2, 4, 6, 10, 11]) (e' := [(1, .string p1), (2, .pointer (some ⟨bx4, 0, none⟩)), (4, .pointer (some ⟨bx9, 0, none⟩)), (6, .slice A413 ((l291 ++ t397.2)).length c414), (10, .int .i64 ((p1).size : Int)), (11, .int .i64 x294)]) rfl trivial fun a hk => ?_
    refine wpList_nil ?_
    refine blk_n ?_
    refine then_n ?_
    refine wp_region_lit ?_
    refine x_run tab hk (k := 2) (lv := []) (ks := [1, 2, 4, 6, 10, 11]) (e' := [(1, .string p1), (2, .pointer (some ⟨bx4, 0, none⟩)), (4, .pointer (some ⟨bx9, 0, none⟩)), (6, .slice A413 ((l291 ++ t397.2)).length c414), (10, .int .i64 ((p1).size : Int)), (11, .int .i64 (IntKind.wrap .i64 (x294 + 1)))]) rfl trivial fun a hk => ?_
    refine wpList_nil ?_
    refine then_n ?_
    exact ⟨k355, Nat.le_refl _, o410, t397.1, A413, c414, (l291 ++ t397.2), (IntKind.wrap .i64 (x294 + 1)), (by exact Kn.pick (ks := [1, 2, 4, 6, 10, 11]) hk rfl), hs, f10, f415, f5, fg0, hc416, (hlp357 ▸ H)⟩

/-! (tidewrack/glyph.Decoder).End -/
theorem glyph_Decoder_End_calls (p0 : T24) (w : World) (o : Nat → Nat)  (R0 : Nat) (r : List Int) (H : glyph_Decoder_End p0 = some r) :
    Calls Tryd.prog 14 #[.agg #[.int .u8 p0.Lead, .int .i32 p0.Rune, .int .i64 p0.Need]] w (Ret fun v_ w' => ∃ o' : Nat → Nat, ∃ A0 : Option Addr, ∃ c0 : Nat, v_ = .slice A0 (r).length c0 ∧ St [] w o w' o' ∧ Ft (Own (encInt .i32) 21 (.slice A0 (r).length c0) (r)) w' o' R0 ∧ (r).length ≤ c0) := by
  refine x_enter (vs := [.agg #[.int .u8 p0.Lead, .int .i32 p0.Rune, .int .i64 p0.Need]]) Tryd.func14 rfl rfl rfl fun a hk => ?_
  obtain ⟨o0, hs, h0⟩ := St.start w o
  clear h0
  rw [glyph_Decoder_End] at H
  refine x_seq ?_
  refine wp_region_lit ?_
  refine x_op hk rfl ?_
  refine op_box (o := o0) (t := 25) (v := .agg #[.int .u8 p0.Lead, .int .i32 p0.Rune, .int .i64 p0.Need]) (cs := [.int .u8 p0.Lead, .int .i32 p0.Rune, .int .i64 p0.Need]) hk rfl rfl 1 fun bx4 w1 o2 st3 f5 => ?_
  replace hs := hs.loc0 st3 (by decide)
  have hk := hk.put 1 (.pointer (some ⟨bx4, 0, none⟩)) rfl
  refine x_run tab hk (k := 1) (lv := []) (ks := [1]) (e' := [(1, .pointer (some ⟨bx4, 0, none⟩))]) rfl trivial fun a hk => ?_
  refine wpList_nil ?_
  refine then_n ?_
  refine x_seq ?_
  refine x_seq ?_
  refine wp_region_lit ?_
  refine x_run tab hk (k := 3) (lv := [.int .i64 p0.Need]) (ks := [5]) (e' := [(5, .bool (decide (p0.Need ≤ (0 : Int))))]) rfl ⟨(load1 tab rfl ((Bx.cell f5.now 2).trans rfl)), trivial⟩ fun a hk => ?_
  refine wpList_nil ?_
  refine then_n ?_
  cases b6 : (decide (p0.Need ≤ (0 : Int)))
  · rw [b6] at hk H
    replace H := bifF H
    refine x_if hk (b := false) rfl ?_
    refine (show Code.wp _ _ _ _ _ from ?_)
    refine wp_skip ?_
    refine then_n ?_
    refine x_seq ?_
    refine wp_region_lit ?_
    refine x_op hk rfl ?_
    refine op_slice (o := o2) tab hk (vs := [.int .i32 65533]) (cs := [.int .i32 65533]) rfl rfl rfl rfl rfl rfl rfl rfl rfl 2 fun bx10 w7 o8 st9 f11 => ?_
    replace hs := hs.loc0 st9 (by decide)
    have f12 : Ft (Own (encInt .i32) 21 (.slice (some ⟨bx10, 0, none⟩) (([65533] : List Int)).length 1) ([65533] : List Int)) w7 o8 2 := f11.imp fun _ h_ => Own.of_box h_ rfl (by simp)
    have hk := hk.put 6 (.slice (some ⟨bx10, 0, none⟩) (([65533] : List Int)).length 1) rfl
    refine x_run tab hk (k := 1) (lv := []) (ks := [2]) (e' := [(2, .slice (some ⟨bx10, 0, none⟩) (([65533] : List Int)).length 1)]) rfl trivial fun a hk => ?_
    refine wpList_nil ?_
    refine then_n ?_
    refine wp_ret ?_
    obtain rfl := Option.some.inj H
    exact x_retG hk (rs := [.tmp 2]) (vs := [.slice (some ⟨bx10, 0, none⟩) (([65533] : List Int)).length 1]) rfl ⟨rfl, trivial⟩ ⟨fun b_ => if b_ < w.heap.size then o b_ else (fun _ => R0) (o8 b_), (some ⟨bx10, 0, none⟩), 1, rfl, hs.close0 o (fun _ => R0), hs.close_ft (o := o) (ρ := fun _ => R0) f12 (by decide) rfl, (Nat.le_refl _)⟩
  · rw [b6] at hk H
    replace H := bifT H
    refine x_if hk (b := true) rfl ?_
    refine (show Code.wp _ _ _ _ _ from ?_)
    refine x_seq ?_
    refine wp_region_lit ?_
    refine x_run tab hk (k := 1) (lv := []) (ks := [2]) (e' := [(2, .slice none 0 0)]) rfl trivial fun a hk => ?_
    refine wpList_nil ?_
    refine then_n ?_
    refine wp_ret ?_
    refine then_r ?_
    obtain rfl := Option.some.inj H
    exact x_retG hk (rs := [.tmp 2]) (vs := [.slice none 0 0]) rfl ⟨rfl, trivial⟩ ⟨fun b_ => if b_ < w.heap.size then o b_ else (fun _ => R0) (o2 b_), none, 0, rfl, hs.close0 o (fun _ => R0), (Ft.of_all (fun _ => Own.nil _ _ _) _ _ _), (by simp)⟩

/-! tidewrack/glyph.Decode -/
theorem glyph_Decode_calls (K : Nat) (p0 : ByteArray) (w : World) (o : Nat → Nat) (Lg0 : Nat) (hg0 : Ft (RdC ET47 (some ⟨0, 0, none⟩) glob0) w o Lg0)  (R0 : Nat) (r : List Int) (H : glyph_Decode K p0 = some r) :
    Calls Tryd.prog 13 #[.string p0] w (Ret fun v_ w' => ∃ o' : Nat → Nat, ∃ A0 : Option Addr, ∃ c0 : Nat, v_ = .slice A0 (r).length c0 ∧ St [] w o w' o' ∧ Ft (Own (encInt .i32) 21 (.slice A0 (r).length c0) (r)) w' o' R0 ∧ (r).length ≤ c0) := by
  refine x_enter (vs := [.string p0]) Tryd.func13 rfl rfl rfl fun a hk => ?_
  obtain ⟨o0, hs, h0⟩ := St.start w o
  have fg0 := h0 _ _ hg0
  clear h0
  rw [glyph_Decode] at H
  refine x_seq ?_
  refine wp_region_lit ?_
  refine x_run tab hk (k := 1) (lv := []) (ks := [0]) (e' := [(0, .string p0)]) rfl trivial fun a hk => ?_
  refine wpList_nil ?_
  refine then_n ?_
  refine x_seq ?_
  refine wp_region_lit ?_
  refine x_run tab hk (k := 2) (lv := []) (ks := [6, 7]) (e' := [(6, .agg #[.int .u8 0, .int .i32 0, .int .i64 0]), (7, .string p0)]) rfl trivial fun a hk => ?_
  refine x_op hk rfl ?_
  obtain ⟨t4, hc5, H⟩ := bindS H
  refine op_call hk ent_10 (vs := [.agg #[.int .u8 0, .int .i32 0, .int .i64 0], .string p0]) rfl (glyph_Decoder_Run_calls K (⟨0, 0, 0⟩ : T24) p0 _ o0 0 fg0 1  _ hc5) ?_
  rintro _ w6 ⟨o7, A9, c10, rfl, st8, f11, hc12⟩
  replace fg0 := fg0.st st8 (by decide)
  replace hs := hs.loc0 st8 (by decide)
  have hk := hk.put 8 (.tuple #[.agg #[.int .u8 t4.1.Lead, .int .i32 t4.1.Rune, .int .i64 t4.1.Need], .slice A9 (t4.2).length c10]) rfl
  refine x_run tab hk (k := 3) (lv := []) (ks := [9, 10]) (e' := [(9, .agg #[.int .u8 t4.1.Lead, .int .i32 t4.1.Rune, .int .i64 t4.1.Need]), (10, .slice A9 (t4.2).length c10)]) rfl trivial fun a hk => ?_
  refine x_op hk rfl ?_
  refine op_alloc (o := o7) tab (t := 25) (cs := [.int .u8 0, .int .i32 0, .int .i64 0]) rfl rfl 2 fun bx16 w13 o14 st15 f17 => ?_
  replace f11 := f11.st st15 (by decide)
  replace fg0 := fg0.st st15 (by decide)
  replace hs := hs.loc0 st15 (by decide)
  have hk := hk.put 3 (.pointer (some ⟨bx16, 0, none⟩)) rfl
  refine x_op hk rfl ?_
  refine op_store tab hk (t := 25) (v := .agg #[.int .u8 t4.1.Lead, .int .i32 t4.1.Rune, .int .i64 t4.1.Need]) (b := bx16) (k := 0) (cs' := [.int .u8 t4.1.Lead, .int .i32 t4.1.Rune, .int .i64 t4.1.Need]) rfl rfl rfl rfl rfl rfl f17 rfl rfl fun w18 o19 st20 f17_ => ?_
  replace f11 := f11.st st20 (by decide)
  replace fg0 := fg0.st st20 (by decide)
  replace hs := hs.loc0 st20 (by decide)
  replace f17 := f17_
  refine x_run tab hk (k := 1) (lv := []) (ks := [3, 4]) (e' := [(3, .pointer (some ⟨bx16, 0, none⟩)), (4, .slice A9 (t4.2).length c10)]) rfl trivial fun a hk => ?_
  refine wpList_nil ?_
  refine then_n ?_
  refine x_seq ?_
  refine wp_region_lit ?_
  refine x_run tab hk (k := 2) (lv := [.agg #[.int .u8 t4.1.Lead, .int .i32 t4.1.Rune, .int .i64 t4.1.Need]]) (ks := [11, 12]) (e' := [(11, .slice A9 (t4.2).length c10), (12, .agg #[.int .u8 t4.1.Lead, .int .i32 t4.1.Rune, .int .i64 t4.1.Need])]) rfl ⟨(load_box tab rfl rfl f17.now (k := 0) rfl rfl), trivial⟩ fun a hk => ?_
  refine x_op hk rfl ?_
  obtain ⟨t24, hc25, H⟩ := bindS H
  refine op_call hk ent_14 (vs := [.agg #[.int .u8 t4.1.Lead, .int .i32 t4.1.Rune, .int .i64 t4.1.Need]]) rfl (glyph_Decoder_End_calls t4.1 _ o19  3  _ hc25) ?_
  rintro _ w26 ⟨o27, A29, c30, rfl, st28, f31, hc32⟩
  replace f11 := f11.st st28 (by decide)
  replace fg0 := fg0.st st28 (by decide)
  replace hs := hs.loc0 st28 (by decide)
  have hk := hk.put 13 (.slice A29 (t24).length c30) rfl
  refine x_op hk rfl ?_
  obtain ⟨q36, H⟩ := ifS H
  refine op_append (o := o27) (E := (encInt .i32)) (xs := t4.2) (ys := t24) tab hk rfl rfl rfl rfl rfl rfl rfl f11 (Own.rd f31.now) q36 fun A37 c38 w33 o34 st35 f39 hc40 => ?_
  replace f31 := f31.st st35 (by decide)
  replace fg0 := fg0.st st35 (by decide)
  replace hs := hs.loc0 st35 (by decide)
  have hk := hk.put 14 (.slice A37 ((t4.2 ++ t24)).length c38) rfl
  refine x_run tab hk (k := 1) (lv := []) (ks := [2]) (e' := [(2, .slice A37 ((t4.2 ++ t24)).length c38)]) rfl trivial fun a hk => ?_
  refine wpList_nil ?_
  refine then_n ?_
  refine wp_ret ?_
  obtain rfl := Option.some.inj H
  exact x_retG hk (rs := [.tmp 2]) (vs := [.slice A37 ((t4.2 ++ t24)).length c38]) rfl ⟨rfl, trivial⟩ ⟨fun b_ => if b_ < w.heap.size then o b_ else (fun _ => R0) (o34 b_), A37, c38, rfl, hs.close0 o (fun _ => R0), hs.close_ft (o := o) (ρ := fun _ => R0) f39 (by decide) rfl, hc40⟩

/-! tidewrack/tidewracklaw05.Same -/
theorem tidewracklaw05_Same_calls (K : Nat) (Ap0 : Option Addr) (cp0 : Nat) (p0 : List Int) (Ap1 : Option Addr) (cp1 : Nat) (p1 : List Int) (w : World) (o : Nat → Nat) (Lp0 : Nat) (hp0 : Ft (RdC (encInt .i32) Ap0 p0) w o Lp0) (hcp0 : p0.length ≤ cp0) (Lp1 : Nat) (hp1 : Ft (RdC (encInt .i64) Ap1 p1) w o Lp1) (hcp1 : p1.length ≤ cp1) (r : Bool) (H : tidewracklaw05_Same K p0 p1 = some r) :
    Calls Tryd.prog 12 #[.slice Ap0 (p0).length cp0, .slice Ap1 (p1).length cp1] w (Ret fun v_ w' => ∃ o' : Nat → Nat, v_ = .bool r ∧ St [] w o w' o') := by
  refine x_enter (vs := [.slice Ap0 (p0).length cp0, .slice Ap1 (p1).length cp1]) Tryd.func12 rfl rfl rfl fun a hk => ?_
  obtain ⟨o0, hs, h0⟩ := St.start w o
  have f900 := h0 _ _ hp0
  have f901 := h0 _ _ hp1
  clear h0
  rw [tidewracklaw05_Same] at H
  refine x_seq ?_
  refine wp_region_lit ?_
  refine x_run tab hk (k := 1) (lv := []) (ks := [0, 1]) (e' := [(0, .slice Ap0 (p0).length cp0), (1, .slice Ap1 (p1).length cp1)]) rfl trivial fun a hk => ?_
  refine wpList_nil ?_
  refine then_n ?_
  refine x_seq ?_
  refine x_seq ?_
  refine wp_region_lit ?_
  refine x_run tab hk (k := 5) (lv := []) (ks := [0, 1, 10]) (e' := [(0, .slice Ap0 (p0).length cp0), (1, .slice Ap1 (p1).length cp1), (10, .bool (((p0).length : Int) != ((p1).length : Int)))]) rfl trivial fun a hk => ?_
  refine wpList_nil ?_
  refine then_n ?_
  cases b1 : (((p0).length : Int) != ((p1).length : Int))
  · rw [b1] at hk H
    replace H := bifF H
    refine x_if hk (b := false) rfl ?_
    refine (show Code.wp _ _ _ _ _ from ?_)
    refine wp_skip ?_
    refine then_n ?_
    refine x_mid (fun a_ w_ => ∃ o62 : Nat → Nat, Kn 27 a_ [] ∧ St [] w (fun _ => 0) w_ o62 ∧ tidewracklaw05_Same_j1 = some r) ?_ ?_
    rotate_left
    · rintro a w63 ⟨o62, hk, hs, H⟩
      rw [tidewracklaw05_Same_j1] at H
      refine x_seq ?_
      refine wp_region_lit ?_
      refine x_run tab hk (k := 1) (lv := []) (ks := [4]) (e' := [(4, .bool true)]) rfl trivial fun a hk => ?_
      refine wpList_nil ?_
      refine then_n ?_
      refine wp_ret ?_
      obtain rfl := Option.some.inj H
      exact x_retG hk (rs := [.tmp 4]) (vs := [.bool true]) rfl ⟨rfl, trivial⟩ ⟨fun b_ => if b_ < w.heap.size then o b_ else (fun _ => 0) (o62 b_), rfl, hs.close0 o (fun _ => 0)⟩
    refine x_seq ?_
    refine wp_region_lit ?_
    refine x_run tab hk (k := 3) (lv := []) (ks := [0, 1, 12, 13]) (e' := [(0, .slice Ap0 (p0).length cp0), (1, .slice Ap1 (p1).length cp1), (12, .int .i64 ((p1).length : Int)), (13, .int .i64 0)]) rfl trivial fun a hk => ?_
    refine wpList_nil ?_
    refine then_n ?_
    refine wp_block ?_
    refine x_loop (fun j_ a_ w_ => ∃ o83 : Nat → Nat, ∃ x84 : Int, Kn 27 a_ [(0, .slice Ap0 (p0).length cp0), (1, .slice Ap1 (p1).length cp1), (12, .int .i64 ((p1).length : Int)), (13, .int .i64 x84)] ∧ St [] w (fun _ => 0) w_ o83 ∧ Ft (RdC (encInt .i32) Ap0 p0) w_ o83 0 ∧ Ft (RdC (encInt .i64) Ap1 p1) w_ o83 0 ∧ tidewracklaw05_Same_l2 p0 p1 j_ x84 = some r) (k := K) ⟨o0, 0, (by exact Kn.pick (ks := [0, 1, 12, 13]) hk rfl), hs, f900, f901, H⟩ (by rintro _ _ ⟨_, _, _, _, _, _, H_⟩; exact absurd (show (none : Option Bool) = some r from H_) (by simp)) ?_
    rintro k102 a w101 ⟨o83, x84, hk, hs, f900, f901, H⟩
    rw [tidewracklaw05_Same_l2] at H
    obtain ⟨lp103, hlp104⟩ : ∃ lp_, lp_ = tidewracklaw05_Same_l2 p0 p1 k102 := ⟨_, rfl⟩
    rw [← hlp104] at H
    refine x_seq ?_
    refine wp_region_lit ?_
    refine x_run tab hk (k := 1) (lv := []) (ks := [0, 1, 12, 13, 14]) (e' := [(0, .slice Ap0 (p0).length cp0), (1, .slice Ap1 (p1).length cp1), (12, .int .i64 ((p1).length : Int)), (13, .int .i64 x84), (14, .bool (decide (x84 < ((p1).length : Int))))]) rfl trivial fun a hk => ?_
    refine wpList_nil ?_
    refine then_n ?_
    refine x_seq ?_
    cases b105 : (decide (x84 < ((p1).length : Int)))
    · rw [b105] at hk H
      replace H := bifF H
      refine x_if hk (b := false) rfl ?_
      refine (show Code.wp _ _ _ _ _ from ?_)
      refine wp_exit ?_
      refine then_x ?_
      refine then_x ?_
      refine blk_x ?_
      refine then_n ?_
      exact ⟨o83, (by exact Kn.pick (ks := []) hk rfl), hs, H⟩
    · rw [b105] at hk H
      replace H := bifT H
      refine x_if hk (b := true) rfl ?_
      refine (show Code.wp _ _ _ _ _ from ?_)
      refine wp_skip ?_
      refine then_n ?_
      refine x_seq ?_
      refine wp_block ?_
      refine x_seq ?_
      refine wp_region_lit ?_
      refine x_run tab hk (k := 2) (lv := []) (ks := [0, 1, 5, 12, 13]) (e' := [(0, .slice Ap0 (p0).length cp0), (1, .slice Ap1 (p1).length cp1), (5, .int .i64 x84), (12, .int .i64 ((p1).length : Int)), (13, .int .i64 x84)]) rfl trivial fun a hk => ?_
      refine wpList_nil ?_
      refine then_n ?_
      refine x_seq ?_
      refine xd_begin (o := o83) (fun W_ => (RdC (encInt .i32) Ap0 p0) W_ ∧ (RdC (encInt .i64) Ap1 p1) W_ ∧ True) mixed rfl rfl fun w114 st115 => ?_
      replace f900 := f900.st st115 (by decide)
      replace f901 := f901.st st115 (by decide)
      replace hs := hs.loc0 st115 (by decide)
      obtain ⟨q116, H⟩ := ifS H
      obtain ⟨ad117, hAad117⟩ := RdC.addr f900.now q116
      subst hAad117
      obtain ⟨q118, H⟩ := ifS H
      obtain ⟨ad119, hAad119⟩ := RdC.addr f901.now q118
      subst hAad119
      refine xd_take tab hk (k := 0) (is := [0, 1, 2, 3, 4, 5, 6, 7, 8, 9]) (ls' := #[true, true, true, true, true, true, true, true, true, true]) (lv := [.int .i32 (rdD 0 p0 x84), .int .i64 (rdD 0 p1 x84)]) (ks := [0, 1, 12, 13, 25]) (e' := [(0, .slice (some ad117) (p0).length cp0), (1, .slice (some ad119) (p1).length cp1), (12, .int .i64 ((p1).length : Int)), (13, .int .i64 x84), (25, .bool ((IntKind.wrap .i64 (rdD 0 p0 x84)) != (rdD 0 p1 x84)))]) (by kernel_rfl) rfl rfl (by kernel_rfl) (np_then (np_blk (np_then (np_then (np_blk (np_then np_body)))))) ⟨f900.now, f901.now, trivial⟩ (fun W_ hS => ⟨q116, (load1 tab rfl (RdC.at0 (E := (encInt .i32)) (d := 0) (i := x84) hS.1 q116 rfl)), q118, (load1 tab rfl (RdC.at0 (E := (encInt .i64)) (d := 0) (i := x84) hS.2.1 q118 rfl)), trivial⟩) fun a hk => ?_
      refine xd_done (by kernel_rfl) ?_
      refine then_n ?_
      cases b120 : ((IntKind.wrap .i64 (rdD 0 p0 x84)) != (rdD 0 p1 x84))
      · rw [b120] at hk H
        replace H := bifF H
        refine x_if hk (b := false) rfl ?_
        refine (show Code.wp _ _ _ _ _ from ?_)
        refine wp_skip ?_
        refine blk_n ?_
        refine then_n ?_
        refine wp_region_lit ?_
        refine x_run tab hk (k := 2) (lv := []) (ks := [0, 1, 12, 13]) (e' := [(0, .slice (some ad117) (p0).length cp0), (1, .slice (some ad119) (p1).length cp1), (12, .int .i64 ((p1).length : Int)), (13, .int .i64 (IntKind.wrap .i64 (x84 + 1)))]) rfl trivial fun a hk => ?_
        refine wpList_nil ?_
        refine then_n ?_
        exact ⟨k102, Nat.le_refl _, o83, (IntKind.wrap .i64 (x84 + 1)), (by exact Kn.pick (ks := [0, 1, 12, 13]) hk rfl), hs, f900, f901, (hlp104 ▸ H)⟩
      · rw [b120] at hk H
        replace H := bifT H
        refine x_if hk (b := true) rfl ?_
        refine (show Code.wp _ _ _ _ _ from ?_)
        refine x_seq ?_
        refine wp_region_lit ?_
        refine x_run tab hk (k := 1) (lv := []) (ks := [4]) (e' := [(4, .bool false)]) rfl trivial fun a hk => ?_
        refine wpList_nil ?_
        refine then_n ?_
        refine wp_ret ?_
        refine blk_r ?_
        refine then_r ?_
        refine then_r ?_
        refine blk_r ?_
        refine then_r ?_
        obtain rfl := Option.some.inj H
        exact x_retG hk (rs := [.tmp 4]) (vs := [.bool false]) rfl ⟨rfl, trivial⟩ ⟨fun b_ => if b_ < w.heap.size then o b_ else (fun _ => 0) (o83 b_), rfl, hs.close0 o (fun _ => 0)⟩
  · rw [b1] at hk H
    replace H := bifT H
    refine x_if hk (b := true) rfl ?_
    refine (show Code.wp _ _ _ _ _ from ?_)
    refine x_seq ?_
    refine wp_region_lit ?_
    refine x_run tab hk (k := 1) (lv := []) (ks := [4]) (e' := [(4, .bool false)]) rfl trivial fun a hk => ?_
    refine wpList_nil ?_
    refine then_n ?_
    refine wp_ret ?_
    refine then_r ?_
    obtain rfl := Option.some.inj H
    exact x_retG hk (rs := [.tmp 4]) (vs := [.bool false]) rfl ⟨rfl, trivial⟩ ⟨fun b_ => if b_ < w.heap.size then o b_ else (fun _ => 0) (o0 b_), rfl, hs.close0 o (fun _ => 0)⟩

/-! tidewrack/glyph.Encode -/
theorem glyph_Encode_calls (K : Nat) (Ap0 : Option Addr) (cp0 : Nat) (p0 : List Int) (w : World) (o : Nat → Nat) (Lp0 : Nat) (hp0 : Ft (RdC (encInt .i32) Ap0 p0) w o Lp0) (hcp0 : p0.length ≤ cp0) (r : ByteArray) (H : glyph_Encode K p0 = some r) :
    Calls Tryd.prog 17 #[.slice Ap0 (p0).length cp0] w (Ret fun v_ w' => ∃ o' : Nat → Nat, v_ = .string r ∧ St [] w o w' o') := by
  refine x_enter (vs := [.slice Ap0 (p0).length cp0]) Tryd.func17 rfl rfl rfl fun a hk => ?_
  obtain ⟨o0, hs, h0⟩ := St.start w o
  have f900 := h0 _ _ hp0
  clear h0
  rw [glyph_Encode] at H
  refine x_seq ?_
  refine wp_region_lit ?_
  refine x_run tab hk (k := 1) (lv := []) (ks := [0]) (e' := [(0, .slice Ap0 (p0).length cp0)]) rfl trivial fun a hk => ?_
  refine wpList_nil ?_
  refine then_n ?_
  refine x_seq ?_
  refine wp_region_lit ?_
  refine x_run tab hk (k := 1) (lv := []) (ks := [0, 3]) (e' := [(0, .slice Ap0 (p0).length cp0), (3, .slice none 0 0)]) rfl trivial fun a hk => ?_
  refine wpList_nil ?_
  refine then_n ?_
  refine x_mid (fun a_ w_ => ∃ o262 : Nat → Nat, ∃ A263 : Option Addr, ∃ c264 : Nat, ∃ l265 : List Int, Kn 91 a_ [(3, .slice A263 (l265).length c264)] ∧ St [] w (fun _ => 0) w_ o262 ∧ Ft (Own (encInt .u8) 5 (.slice A263 (l265).length c264) l265) w_ o262 23 ∧ (l265).length ≤ c264 ∧ glyph_Encode_j1 l265 = some r) ?_ ?_
  rotate_left
  · rintro a w268 ⟨o262, A263, c264, l265, hk, hs, f266, hc267, H⟩
    rw [glyph_Encode_j1] at H
    refine x_seq ?_
    refine wp_region_lit ?_
    refine x_run tab hk (k := 3) (lv := [.string (strOfNums l265)]) (ks := [2]) (e' := [(2, .string (strOfNums l265))]) rfl ⟨(ask_str tab rfl rfl rfl rfl (Own.rd f266.now) (Own.plain f266.now _ _ _ rfl)), trivial⟩ fun a hk => ?_
    refine wpList_nil ?_
    refine then_n ?_
    refine wp_ret ?_
    obtain rfl := Option.some.inj H
    exact x_retG hk (rs := [.tmp 2]) (vs := [.string (strOfNums l265)]) rfl ⟨rfl, trivial⟩ ⟨fun b_ => if b_ < w.heap.size then o b_ else (fun _ => 0) (o262 b_), rfl, hs.close0 o (fun _ => 0)⟩
  refine x_seq ?_
  refine wp_region_lit ?_
  refine x_run tab hk (k := 3) (lv := []) (ks := [3, 6, 7, 8]) (e' := [(3, .slice none 0 0), (6, .slice Ap0 (p0).length cp0), (7, .int .i64 ((p0).length : Int)), (8, .int .i64 0)]) rfl trivial fun a hk => ?_
  refine wpList_nil ?_
  refine then_n ?_
  refine wp_block ?_
  refine x_loop (fun j_ a_ w_ => ∃ o351 : Nat → Nat, ∃ A352 : Option Addr, ∃ c353 : Nat, ∃ l354 : List Int, ∃ x357 : Int, Kn 91 a_ [(3, .slice A352 (l354).length c353), (6, .slice Ap0 (p0).length cp0), (7, .int .i64 ((p0).length : Int)), (8, .int .i64 x357)] ∧ St [] w (fun _ => 0) w_ o351 ∧ Ft (Own (encInt .u8) 5 (.slice A352 (l354).length c353) l354) w_ o351 34 ∧ Ft (RdC (encInt .i32) Ap0 p0) w_ o351 0 ∧ (l354).length ≤ c353 ∧ glyph_Encode_l2 p0 j_ l354 x357 = some r) (k := K) ⟨o0, none, 0, ([] : List Int), 0, (by exact Kn.pick (ks := [3, 6, 7, 8]) hk rfl), hs, (Ft.of_all (fun _ => Own.nil _ _ _) _ _ _), f900, (by simp), H⟩ (by rintro _ _ ⟨_, _, _, _, _, _, _, _, _, _, H_⟩; exact absurd (show (none : Option ByteArray) = some r from H_) (by simp)) ?_
  rintro k438 a w437 ⟨o351, A352, c353, l354, x357, hk, hs, f355, f900, hc356, H⟩
  rw [glyph_Encode_l2] at H
  obtain ⟨lp439, hlp440⟩ : ∃ lp_, lp_ = glyph_Encode_l2 p0 k438 := ⟨_, rfl⟩
  rw [← hlp440] at H
  refine x_seq ?_
  refine wp_region_lit ?_
  refine x_run tab hk (k := 1) (lv := []) (ks := [3, 6, 7, 8, 9]) (e' := [(3, .slice A352 (l354).length c353), (6, .slice Ap0 (p0).length cp0), (7, .int .i64 ((p0).length : Int)), (8, .int .i64 x357), (9, .bool (decide (x357 < ((p0).length : Int))))]) rfl trivial fun a hk => ?_
  refine wpList_nil ?_
  refine then_n ?_
  refine x_seq ?_
  cases b441 : (decide (x357 < ((p0).length : Int)))
  · rw [b441] at hk H
    replace H := bifF H
    refine x_if hk (b := false) rfl ?_
    refine (show Code.wp _ _ _ _ _ from ?_)
    refine wp_exit ?_
    refine then_x ?_
    refine then_x ?_
    refine blk_x ?_
    refine then_n ?_
    exact ⟨(fun b_ => (fun l_ => if l_ = 34 then 23 else l_) (o351 b_)), A352, c353, l354, (by exact Kn.pick (ks := [3]) hk rfl), (hs.relab0 (fun l_ => if l_ = 34 then 23 else l_) rfl), (f355.relab (fun l_ => if l_ = 34 then 23 else l_) rfl), hc356, H⟩
  · rw [b441] at hk H
    replace H := bifT H
    refine x_if hk (b := true) rfl ?_
    refine (show Code.wp _ _ _ _ _ from ?_)
    refine wp_skip ?_
    refine then_n ?_
    refine x_seq ?_
    refine wp_block ?_
    refine x_seq ?_
    refine wp_region_lit ?_
    obtain ⟨q442, H⟩ := ifS H
    obtain ⟨ad443, hAad443⟩ := RdC.addr f900.now q442
    subst hAad443
    refine x_run tab hk (k := 3) (lv := [.int .i32 (rdD 0 p0 x357)]) (ks := [3, 5, 6, 7, 8]) (e' := [(3, .slice A352 (l354).length c353), (5, .int .i32 (rdD 0 p0 x357)), (6, .slice (some ad443) (p0).length cp0), (7, .int .i64 ((p0).length : Int)), (8, .int .i64 x357)]) rfl ⟨q442, (load1 tab rfl (RdC.at0 (E := (encInt .i32)) (d := 0) (i := x357) f900.now q442 rfl)), trivial⟩ fun a hk => ?_
    refine wpList_nil ?_
    refine then_n ?_
    refine x_mid (fun a_ w_ => ∃ o454 : Nat → Nat, ∃ x455 : Int, Kn 91 a_ [(3, .slice A352 (l354).length c353), (5, .int .i32 x455), (6, .slice (some ad443) (p0).length cp0), (7, .int .i64 ((p0).length : Int)), (8, .int .i64 x357)] ∧ St [] w (fun _ => 0) w_ o454 ∧ Ft (Own (encInt .u8) 5 (.slice A352 (l354).length c353) l354) w_ o454 40 ∧ Ft (RdC (encInt .i32) (some ad443) p0) w_ o454 0 ∧ glyph_Encode_j3 l354 x357 lp439 x455 = some r) ?_ ?_
    rotate_left
    · rintro a w456 ⟨o454, x455, hk, hs, f355, f900, H⟩
      rw [glyph_Encode_j3] at H
      refine wp_block ?_
      refine x_seq ?_
      refine wp_region_lit ?_
      refine x_run tab hk (k := 3) (lv := []) (ks := [3, 5, 6, 7, 8, 47]) (e' := [(3, .slice A352 (l354).length c353), (5, .int .i32 x455), (6, .slice (some ad443) (p0).length cp0), (7, .int .i64 ((p0).length : Int)), (8, .int .i64 x357), (47, .bool (decide (x455 < (128 : Int))))]) rfl trivial fun a hk => ?_
      refine wpList_nil ?_
      refine then_n ?_
      cases b457 : (decide (x455 < (128 : Int)))
      · rw [b457] at hk H
        replace H := bifF H
        refine x_if hk (b := false) rfl ?_
        refine (show Code.wp _ _ _ _ _ from ?_)
        refine x_seq ?_
        refine wp_region_lit ?_
        refine x_run tab hk (k := 3) (lv := []) (ks := [3, 5, 6, 7, 8, 55]) (e' := [(3, .slice A352 (l354).length c353), (5, .int .i32 x455), (6, .slice (some ad443) (p0).length cp0), (7, .int .i64 ((p0).length : Int)), (8, .int .i64 x357), (55, .bool (decide (x455 < (2048 : Int))))]) rfl trivial fun a hk => ?_
        refine wpList_nil ?_
        refine then_n ?_
        cases b458 : (decide (x455 < (2048 : Int)))
        · rw [b458] at hk H
          replace H := bifF H
          refine x_if hk (b := false) rfl ?_
          refine (show Code.wp _ _ _ _ _ from ?_)
          refine x_seq ?_
          refine wp_region_lit ?_
          refine x_run tab hk (k := 3) (lv := []) (ks := [3, 5, 6, 7, 8, 69]) (e' := [(3, .slice A352 (l354).length c353), (5, .int .i32 x455), (6, .slice (some ad443) (p0).length cp0), (7, .int .i64 ((p0).length : Int)), (8, .int .i64 x357), (69, .bool (decide (x455 < (65536 : Int))))]) rfl trivial fun a hk => ?_
          refine wpList_nil ?_
          refine then_n ?_
          cases b459 : (decide (x455 < (65536 : Int)))
          · rw [b459] at hk H
            replace H := bifF H
            refine x_if hk (b := false) rfl ?_
            refine (show Code.wp _ _ _ _ _ from ?_)
            refine wp_region_lit ?_
            refine x_run tab hk (k := 10) (lv := []) (ks := [5, 6, 7, 8, 26, 30, 35]) (e' := [(5, .int .i32 x455), (6, .slice (some ad443) (p0).length cp0), (7, .int .i64 ((p0).length : Int)), (8, .int .i64 x357), (26, .slice A352 (l354).length c353), (30, .int .u8 (IntKind.wrap .u8 (bits .or .i32 240 (Int.fdiv x455 (2 ^ min (Int.toNat 18) 32))))), (35, .int .u8 (IntKind.wrap .u8 (bits .or .i32 128 (bits .and .i32 (Int.fdiv x455 (2 ^ min (Int.toNat 12) 32)) 63))))]) rfl ⟨(show 0 ≤ (18 : Int) from by decide), (show 0 ≤ (12 : Int) from by decide), trivial⟩ fun a hk => ?_
            refine x_run tab hk (k := 9) (lv := []) (ks := [6, 7, 8, 26, 30, 35, 40, 44]) (e' := [(6, .slice (some ad443) (p0).length cp0), (7, .int .i64 ((p0).length : Int)), (8, .int .i64 x357), (26, .slice A352 (l354).length c353), (30, .int .u8 (IntKind.wrap .u8 (bits .or .i32 240 (Int.fdiv x455 (2 ^ min (Int.toNat 18) 32))))), (35, .int .u8 (IntKind.wrap .u8 (bits .or .i32 128 (bits .and .i32 (Int.fdiv x455 (2 ^ min (Int.toNat 12) 32)) 63)))), (40, .int .u8 (IntKind.wrap .u8 (bits .or .i32 128 (bits .and .i32 (Int.fdiv x455 (2 ^ min (Int.toNat 6) 32)) 63)))), (44, .int .u8 (IntKind.wrap .u8 (bits .or .i32 128 (bits .and .i32 x455 63))))]) rfl ⟨(show 0 ≤ (6 : Int) from by decide), trivial⟩ fun a hk => ?_
            refine x_op hk rfl ?_
            refine op_slice (o := o454) tab hk (vs := [.int .u8 (IntKind.wrap .u8 (bits .or .i32 240 (Int.fdiv x455 (2 ^ min (Int.toNat 18) 32)))), .int .u8 (IntKind.wrap .u8 (bits .or .i32 128 (bits .and .i32 (Int.fdiv x455 (2 ^ min (Int.toNat 12) 32)) 63))), .int .u8 (IntKind.wrap .u8 (bits .or .i32 128 (bits .and .i32 (Int.fdiv x455 (2 ^ min (Int.toNat 6) 32)) 63))), .int .u8 (IntKind.wrap .u8 (bits .or .i32 128 (bits .and .i32 x455 63)))]) (cs := [.int .u8 (IntKind.wrap .u8 (bits .or .i32 240 (Int.fdiv x455 (2 ^ min (Int.toNat 18) 32)))), .int .u8 (IntKind.wrap .u8 (bits .or .i32 128 (bits .and .i32 (Int.fdiv x455 (2 ^ min (Int.toNat 12) 32)) 63))), .int .u8 (IntKind.wrap .u8 (bits .or .i32 128 (bits .and .i32 (Int.fdiv x455 (2 ^ min (Int.toNat 6) 32)) 63))), .int .u8 (IntKind.wrap .u8 (bits .or .i32 128 (bits .and .i32 x455 63)))]) rfl rfl rfl rfl rfl rfl rfl rfl rfl 41 fun bx463 w460 o461 st462 f464 => ?_
            replace f355 := f355.st st462 (by decide)
            replace f900 := f900.st st462 (by decide)
            replace hs := hs.loc0 st462 (by decide)
            have f465 : Ft (Own (encInt .u8) 5 (.slice (some ⟨bx463, 0, none⟩) (([(IntKind.wrap .u8 (bits .or .i32 240 (Int.fdiv x455 (2 ^ min (Int.toNat 18) 32)))), (IntKind.wrap .u8 (bits .or .i32 128 (bits .and .i32 (Int.fdiv x455 (2 ^ min (Int.toNat 12) 32)) 63))), (IntKind.wrap .u8 (bits .or .i32 128 (bits .and .i32 (Int.fdiv x455 (2 ^ min (Int.toNat 6) 32)) 63))), (IntKind.wrap .u8 (bits .or .i32 128 (bits .and .i32 x455 63)))] : List Int)).length 4) ([(IntKind.wrap .u8 (bits .or .i32 240 (Int.fdiv x455 (2 ^ min (Int.toNat 18) 32)))), (IntKind.wrap .u8 (bits .or .i32 128 (bits .and .i32 (Int.fdiv x455 (2 ^ min (Int.toNat 12) 32)) 63))), (IntKind.wrap .u8 (bits .or .i32 128 (bits .and .i32 (Int.fdiv x455 (2 ^ min (Int.toNat 6) 32)) 63))), (IntKind.wrap .u8 (bits .or .i32 128 (bits .and .i32 x455 63)))] : List Int)) w460 o461 41 := f464.imp fun _ h_ => Own.of_box h_ rfl (by simp)
            have hk := hk.put 45 (.slice (some ⟨bx463, 0, none⟩) (([(IntKind.wrap .u8 (bits .or .i32 240 (Int.fdiv x455 (2 ^ min (Int.toNat 18) 32)))), (IntKind.wrap .u8 (bits .or .i32 128 (bits .and .i32 (Int.fdiv x455 (2 ^ min (Int.toNat 12) 32)) 63))), (IntKind.wrap .u8 (bits .or .i32 128 (bits .and .i32 (Int.fdiv x455 (2 ^ min (Int.toNat 6) 32)) 63))), (IntKind.wrap .u8 (bits .or .i32 128 (bits .and .i32 x455 63)))] : List Int)).length 4) rfl
            refine x_op hk rfl ?_
            obtain ⟨q469, H⟩ := ifS H
            refine op_append (o := o461) (E := (encInt .u8)) (xs := l354) (ys := ([(IntKind.wrap .u8 (bits .or .i32 240 (Int.fdiv x455 (2 ^ min (Int.toNat 18) 32)))), (IntKind.wrap .u8 (bits .or .i32 128 (bits .and .i32 (Int.fdiv x455 (2 ^ min (Int.toNat 12) 32)) 63))), (IntKind.wrap .u8 (bits .or .i32 128 (bits .and .i32 (Int.fdiv x455 (2 ^ min (Int.toNat 6) 32)) 63))), (IntKind.wrap .u8 (bits .or .i32 128 (bits .and .i32 x455 63)))] : List Int)) tab hk rfl rfl rfl rfl rfl rfl rfl f355 (Own.rd f465.now) q469 fun A470 c471 w466 o467 st468 f472 hc473 => ?_
            replace f465 := f465.st st468 (by decide)
            replace f900 := f900.st st468 (by decide)
            replace hs := hs.loc0 st468 (by decide)
            have hk := hk.put 46 (.slice A470 ((l354 ++ ([(IntKind.wrap .u8 (bits .or .i32 240 (Int.fdiv x455 (2 ^ min (Int.toNat 18) 32)))), (IntKind.wrap .u8 (bits .or .i32 128 (bits .and .i32 (Int.fdiv x455 (2 ^ min (Int.toNat 12) 32)) 63))), (IntKind.wrap .u8 (bits .or .i32 128 (bits .and .i32 (Int.fdiv x455 (2 ^ min (Int.toNat 6) 32)) 63))), (IntKind.wrap .u8 (bits .or .i32 128 (bits .and .i32 x455 63)))] : List Int))).length c471) rfl
            refine x_run tab hk (k := 1) (lv := []) (ks := [3, 6, 7, 8]) (e' := [(3, .slice A470 ((l354 ++ ([(IntKind.wrap .u8 (bits .or .i32 240 (Int.fdiv x455 (2 ^ min (Int.toNat 18) 32)))), (IntKind.wrap .u8 (bits .or .i32 128 (bits .and .i32 (Int.fdiv x455 (2 ^ min (Int.toNat 12) 32)) 63))), (IntKind.wrap .u8 (bits .or .i32 128 (bits .and .i32 (Int.fdiv x455 (2 ^ min (Int.toNat 6) 32)) 63))), (IntKind.wrap .u8 (bits .or .i32 128 (bits .and .i32 x455 63)))] : List Int))).length c471), (6, .slice (some ad443) (p0).length cp0), (7, .int .i64 ((p0).length : Int)), (8, .int .i64 x357)]) rfl trivial fun a hk => ?_
            refine wpList_nil ?_
            refine blk_n ?_
            refine blk_n ?_
            refine then_n ?_
            refine wp_region_lit ?_
            refine x_run tab hk (k := 2) (lv := []) (ks := [3, 6, 7, 8]) (e' := [(3, .slice A470 ((l354 ++ ([(IntKind.wrap .u8 (bits .or .i32 240 (Int.fdiv x455 (2 ^ min (Int.toNat 18) 32)))), (IntKind.wrap .u8 (bits .or .i32 128 (bits .and .i32 (Int.fdiv x455 (2 ^ min (Int.toNat 12) 32)) 63))), (IntKind.wrap .u8 (bits .or .i32 128 (bits .and .i32 (Int.fdiv x455 (2 ^ min (Int.toNat 6) 32)) 63))), (IntKind.wrap .u8 (bits .or .i32 128 (bits .and .i32 x455 63)))] : List Int))).length c471), (6, .slice (some ad443) (p0).length cp0), (7, .int .i64 ((p0).length : Int)), (8, .int .i64 (IntKind.wrap .i64 (x357 + 1)))]) rfl trivial fun a hk => ?_
            refine wpList_nil ?_
            refine then_n ?_
            exact ⟨k438, Nat.le_refl _, (fun b_ => (fun l_ => if l_ = 40 then 34 else l_) (o467 b_)), A470, c471, (l354 ++ ([(IntKind.wrap .u8 (bits .or .i32 240 (Int.fdiv x455 (2 ^ min (Int.toNat 18) 32)))), (IntKind.wrap .u8 (bits .or .i32 128 (bits .and .i32 (Int.fdiv x455 (2 ^ min (Int.toNat 12) 32)) 63))), (IntKind.wrap .u8 (bits .or .i32 128 (bits .and .i32 (Int.fdiv x455 (2 ^ min (Int.toNat 6) 32)) 63))), (IntKind.wrap .u8 (bits .or .i32 128 (bits .and .i32 x455 63)))] : List Int)), (IntKind.wrap .i64 (x357 + 1)), (by exact Kn.pick (ks := [3, 6, 7, 8]) hk rfl), (hs.relab0 (fun l_ => if l_ = 40 then 34 else l_) rfl), (f472.relab (fun l_ => if l_ = 40 then 34 else l_) rfl), (f900.relab (fun l_ => if l_ = 40 then 34 else l_) rfl), hc473, (hlp440 ▸ H)⟩
          · rw [b459] at hk H
            replace H := bifT H
            refine x_if hk (b := true) rfl ?_
            refine (show Code.wp _ _ _ _ _ from ?_)
            refine wp_region_lit ?_
            refine x_run tab hk (k := 10) (lv := []) (ks := [5, 6, 7, 8, 72, 76, 81]) (e' := [(5, .int .i32 x455), (6, .slice (some ad443) (p0).length cp0), (7, .int .i64 ((p0).length : Int)), (8, .int .i64 x357), (72, .slice A352 (l354).length c353), (76, .int .u8 (IntKind.wrap .u8 (bits .or .i32 224 (Int.fdiv x455 (2 ^ min (Int.toNat 12) 32))))), (81, .int .u8 (IntKind.wrap .u8 (bits .or .i32 128 (bits .and .i32 (Int.fdiv x455 (2 ^ min (Int.toNat 6) 32)) 63))))]) rfl ⟨(show 0 ≤ (12 : Int) from by decide), (show 0 ≤ (6 : Int) from by decide), trivial⟩ fun a hk => ?_
            refine x_run tab hk (k := 4) (lv := []) (ks := [6, 7, 8, 72, 76, 81, 85]) (e' := [(6, .slice (some ad443) (p0).length cp0), (7, .int .i64 ((p0).length : Int)), (8, .int .i64 x357), (72, .slice A352 (l354).length c353), (76, .int .u8 (IntKind.wrap .u8 (bits .or .i32 224 (Int.fdiv x455 (2 ^ min (Int.toNat 12) 32))))), (81, .int .u8 (IntKind.wrap .u8 (bits .or .i32 128 (bits .and .i32 (Int.fdiv x455 (2 ^ min (Int.toNat 6) 32)) 63)))), (85, .int .u8 (IntKind.wrap .u8 (bits .or .i32 128 (bits .and .i32 x455 63))))]) rfl trivial fun a hk => ?_
            refine x_op hk rfl ?_
            refine op_slice (o := o454) tab hk (vs := [.int .u8 (IntKind.wrap .u8 (bits .or .i32 224 (Int.fdiv x455 (2 ^ min (Int.toNat 12) 32)))), .int .u8 (IntKind.wrap .u8 (bits .or .i32 128 (bits .and .i32 (Int.fdiv x455 (2 ^ min (Int.toNat 6) 32)) 63))), .int .u8 (IntKind.wrap .u8 (bits .or .i32 128 (bits .and .i32 x455 63)))]) (cs := [.int .u8 (IntKind.wrap .u8 (bits .or .i32 224 (Int.fdiv x455 (2 ^ min (Int.toNat 12) 32)))), .int .u8 (IntKind.wrap .u8 (bits .or .i32 128 (bits .and .i32 (Int.fdiv x455 (2 ^ min (Int.toNat 6) 32)) 63))), .int .u8 (IntKind.wrap .u8 (bits .or .i32 128 (bits .and .i32 x455 63)))]) rfl rfl rfl rfl rfl rfl rfl rfl rfl 42 fun bx477 w474 o475 st476 f478 => ?_
            replace f355 := f355.st st476 (by decide)
            replace f900 := f900.st st476 (by decide)
            replace hs := hs.loc0 st476 (by decide)
            have f479 : Ft (Own (encInt .u8) 5 (.slice (some ⟨bx477, 0, none⟩) (([(IntKind.wrap .u8 (bits .or .i32 224 (Int.fdiv x455 (2 ^ min (Int.toNat 12) 32)))), (IntKind.wrap .u8 (bits .or .i32 128 (bits .and .i32 (Int.fdiv x455 (2 ^ min (Int.toNat 6) 32)) 63))), (IntKind.wrap .u8 (bits .or .i32 128 (bits .and .i32 x455 63)))] : List Int)).length 3) ([(IntKind.wrap .u8 (bits .or .i32 224 (Int.fdiv x455 (2 ^ min (Int.toNat 12) 32)))), (IntKind.wrap .u8 (bits .or .i32 128 (bits .and .i32 (Int.fdiv x455 (2 ^ min (Int.toNat 6) 32)) 63))), (IntKind.wrap .u8 (bits .or .i32 128 (bits .and .i32 x455 63)))] : List Int)) w474 o475 42 := f478.imp fun _ h_ => Own.of_box h_ rfl (by simp)
            have hk := hk.put 86 (.slice (some ⟨bx477, 0, none⟩) (([(IntKind.wrap .u8 (bits .or .i32 224 (Int.fdiv x455 (2 ^ min (Int.toNat 12) 32)))), (IntKind.wrap .u8 (bits .or .i32 128 (bits .and .i32 (Int.fdiv x455 (2 ^ min (Int.toNat 6) 32)) 63))), (IntKind.wrap .u8 (bits .or .i32 128 (bits .and .i32 x455 63)))] : List Int)).length 3) rfl
            refine x_op hk rfl ?_
            obtain ⟨q483, H⟩ := ifS H
            refine op_append (o := o475) (E := (encInt .u8)) (xs := l354) (ys := ([(IntKind.wrap .u8 (bits .or .i32 224 (Int.fdiv x455 (2 ^ min (Int.toNat 12) 32)))), (IntKind.wrap .u8 (bits .or .i32 128 (bits .and .i32 (Int.fdiv x455 (2 ^ min (Int.toNat 6) 32)) 63))), (IntKind.wrap .u8 (bits .or .i32 128 (bits .and .i32 x455 63)))] : List Int)) tab hk rfl rfl rfl rfl rfl rfl rfl f355 (Own.rd f479.now) q483 fun A484 c485 w480 o481 st482 f486 hc487 => ?_
            replace f479 := f479.st st482 (by decide)
            replace f900 := f900.st st482 (by decide)
            replace hs := hs.loc0 st482 (by decide)
            have hk := hk.put 87 (.slice A484 ((l354 ++ ([(IntKind.wrap .u8 (bits .or .i32 224 (Int.fdiv x455 (2 ^ min (Int.toNat 12) 32)))), (IntKind.wrap .u8 (bits .or .i32 128 (bits .and .i32 (Int.fdiv x455 (2 ^ min (Int.toNat 6) 32)) 63))), (IntKind.wrap .u8 (bits .or .i32 128 (bits .and .i32 x455 63)))] : List Int))).length c485) rfl
            refine x_run tab hk (k := 1) (lv := []) (ks := [3, 6, 7, 8]) (e' := [(3, .slice A484 ((l354 ++ ([(IntKind.wrap .u8 (bits .or .i32 224 (Int.fdiv x455 (2 ^ min (Int.toNat 12) 32)))), (IntKind.wrap .u8 (bits .or .i32 128 (bits .and .i32 (Int.fdiv x455 (2 ^ min (Int.toNat 6) 32)) 63))), (IntKind.wrap .u8 (bits .or .i32 128 (bits .and .i32 x455 63)))] : List Int))).length c485), (6, .slice (some ad443) (p0).length cp0), (7, .int .i64 ((p0).length : Int)), (8, .int .i64 x357)]) rfl trivial fun a hk => ?_
            refine wpList_nil ?_
            refine blk_n ?_
            refine blk_n ?_
            refine then_n ?_
            refine wp_region_lit ?_
            refine x_run tab hk (k := 2) (lv := []) (ks := [3, 6, 7, 8]) (e' := [(3, .slice A484 ((l354 ++ ([(IntKind.wrap .u8 (bits .or .i32 224 (Int.fdiv x455 (2 ^ min (Int.toNat 12) 32)))), (IntKind.wrap .u8 (bits .or .i32 128 (bits .and .i32 (Int.fdiv x455 (2 ^ min (Int.toNat 6) 32)) 63))), (IntKind.wrap .u8 (bits .or .i32 128 (bits .and .i32 x455 63)))] : List Int))).length c485), (6, .slice (some ad443) (p0).length cp0), (7, .int .i64 ((p0).length : Int)), (8, .int .i64 (IntKind.wrap .i64 (x357 + 1)))]) rfl trivial fun a hk => ?_
            refine wpList_nil ?_
            refine then_n ?_
            exact ⟨k438, Nat.le_refl _, (fun b_ => (fun l_ => if l_ = 40 then 34 else l_) (o481 b_)), A484, c485, (l354 ++ ([(IntKind.wrap .u8 (bits .or .i32 224 (Int.fdiv x455 (2 ^ min (Int.toNat 12) 32)))), (IntKind.wrap .u8 (bits .or .i32 128 (bits .and .i32 (Int.fdiv x455 (2 ^ min (Int.toNat 6) 32)) 63))), (IntKind.wrap .u8 (bits .or .i32 128 (bits .and .i32 x455 63)))] : List Int)), (IntKind.wrap .i64 (x357 + 1)), (by exact Kn.pick (ks := [3, 6, 7, 8]) hk rfl), (hs.relab0 (fun l_ => if l_ = 40 then 34 else l_) rfl), (f486.relab (fun l_ => if l_ = 40 then 34 else l_) rfl), (f900.relab (fun l_ => if l_ = 40 then 34 else l_) rfl), hc487, (hlp440 ▸ H)⟩
        · rw [b458] at hk H
          replace H := bifT H
          refine x_if hk (b := true) rfl ?_
          refine (show Code.wp _ _ _ _ _ from ?_)
          refine wp_region_lit ?_
          refine x_run tab hk (k := 9) (lv := []) (ks := [6, 7, 8, 58, 62, 66]) (e' := [(6, .slice (some ad443) (p0).length cp0), (7, .int .i64 ((p0).length : Int)), (8, .int .i64 x357), (58, .slice A352 (l354).length c353), (62, .int .u8 (IntKind.wrap .u8 (bits .or .i32 192 (Int.fdiv x455 (2 ^ min (Int.toNat 6) 32))))), (66, .int .u8 (IntKind.wrap .u8 (bits .or .i32 128 (bits .and .i32 x455 63))))]) rfl ⟨(show 0 ≤ (6 : Int) from by decide), trivial⟩ fun a hk => ?_
          refine x_op hk rfl ?_
          refine op_slice (o := o454) tab hk (vs := [.int .u8 (IntKind.wrap .u8 (bits .or .i32 192 (Int.fdiv x455 (2 ^ min (Int.toNat 6) 32)))), .int .u8 (IntKind.wrap .u8 (bits .or .i32 128 (bits .and .i32 x455 63)))]) (cs := [.int .u8 (IntKind.wrap .u8 (bits .or .i32 192 (Int.fdiv x455 (2 ^ min (Int.toNat 6) 32)))), .int .u8 (IntKind.wrap .u8 (bits .or .i32 128 (bits .and .i32 x455 63)))]) rfl rfl rfl rfl rfl rfl rfl rfl rfl 43 fun bx491 w488 o489 st490 f492 => ?_
          replace f355 := f355.st st490 (by decide)
          replace f900 := f900.st st490 (by decide)
          replace hs := hs.loc0 st490 (by decide)
          have f493 : Ft (Own (encInt .u8) 5 (.slice (some ⟨bx491, 0, none⟩) (([(IntKind.wrap .u8 (bits .or .i32 192 (Int.fdiv x455 (2 ^ min (Int.toNat 6) 32)))), (IntKind.wrap .u8 (bits .or .i32 128 (bits .and .i32 x455 63)))] : List Int)).length 2) ([(IntKind.wrap .u8 (bits .or .i32 192 (Int.fdiv x455 (2 ^ min (Int.toNat 6) 32)))), (IntKind.wrap .u8 (bits .or .i32 128 (bits .and .i32 x455 63)))] : List Int)) w488 o489 43 := f492.imp fun _ h_ => Own.of_box h_ rfl (by simp)
          have hk := hk.put 67 (.slice (some ⟨bx491, 0, none⟩) (([(IntKind.wrap .u8 (bits .or .i32 192 (Int.fdiv x455 (2 ^ min (Int.toNat 6) 32)))), (IntKind.wrap .u8 (bits .or .i32 128 (bits .and .i32 x455 63)))] : List Int)).length 2) rfl
          refine x_op hk rfl ?_
          obtain ⟨q497, H⟩ := ifS H
          refine op_append (o := o489) (E := (encInt .u8)) (xs := l354) (ys := ([(IntKind.wrap .u8 (bits .or .i32 192 (Int.fdiv x455 (2 ^ min (Int.toNat 6) 32)))), (IntKind.wrap .u8 (bits .or .i32 128 (bits .and .i32 x455 63)))] : List Int)) tab hk rfl rfl rfl rfl rfl rfl rfl f355 (Own.rd f493.now) q497 fun A498 c499 w494 o495 st496 f500 hc501 => ?_
          replace f493 := f493.st st496 (by decide)
          replace f900 := f900.st st496 (by decide)
          replace hs := hs.loc0 st496 (by decide)
          have hk := hk.put 68 (.slice A498 ((l354 ++ ([(IntKind.wrap .u8 (bits .or .i32 192 (Int.fdiv x455 (2 ^ min (Int.toNat 6) 32)))), (IntKind.wrap .u8 (bits .or .i32 128 (bits .and .i32 x455 63)))] : List Int))).length c499) rfl
          refine x_run tab hk (k := 1) (lv := []) (ks := [3, 6, 7, 8]) (e' := [(3, .slice A498 ((l354 ++ ([(IntKind.wrap .u8 (bits .or .i32 192 (Int.fdiv x455 (2 ^ min (Int.toNat 6) 32)))), (IntKind.wrap .u8 (bits .or .i32 128 (bits .and .i32 x455 63)))] : List Int))).length c499), (6, .slice (some ad443) (p0).length cp0), (7, .int .i64 ((p0).length : Int)), (8, .int .i64 x357)]) rfl trivial fun a hk => ?_
          refine wpList_nil ?_
          refine blk_n ?_
          refine blk_n ?_
          refine then_n ?_
          refine wp_region_lit ?_
          refine x_run tab hk (k := 2) (lv := []) (ks := [3, 6, 7, 8]) (e' := [(3, .slice A498 ((l354 ++ ([(IntKind.wrap .u8 (bits .or .i32 192 (Int.fdiv x455 (2 ^ min (Int.toNat 6) 32)))), (IntKind.wrap .u8 (bits .or .i32 128 (bits .and .i32 x455 63)))] : List Int))).length c499), (6, .slice (some ad443) (p0).length cp0), (7, .int .i64 ((p0).length : Int)), (8, .int .i64 (IntKind.wrap .i64 (x357 + 1)))]) rfl trivial fun a hk => ?_
          refine wpList_nil ?_
          refine then_n ?_
          exact ⟨k438, Nat.le_refl _, (fun b_ => (fun l_ => if l_ = 40 then 34 else l_) (o495 b_)), A498, c499, (l354 ++ ([(IntKind.wrap .u8 (bits .or .i32 192 (Int.fdiv x455 (2 ^ min (Int.toNat 6) 32)))), (IntKind.wrap .u8 (bits .or .i32 128 (bits .and .i32 x455 63)))] : List Int)), (IntKind.wrap .i64 (x357 + 1)), (by exact Kn.pick (ks := [3, 6, 7, 8]) hk rfl), (hs.relab0 (fun l_ => if l_ = 40 then 34 else l_) rfl), (f500.relab (fun l_ => if l_ = 40 then 34 else l_) rfl), (f900.relab (fun l_ => if l_ = 40 then 34 else l_) rfl), hc501, (hlp440 ▸ H)⟩
      · rw [b457] at hk H
        replace H := bifT H
        refine x_if hk (b := true) rfl ?_
        refine (show Code.wp _ _ _ _ _ from ?_)
        refine wp_region_lit ?_
        refine x_run tab hk (k := 3) (lv := []) (ks := [6, 7, 8, 50, 52]) (e' := [(6, .slice (some ad443) (p0).length cp0), (7, .int .i64 ((p0).length : Int)), (8, .int .i64 x357), (50, .slice A352 (l354).length c353), (52, .int .u8 (IntKind.wrap .u8 x455))]) rfl trivial fun a hk => ?_
        refine x_op hk rfl ?_
        refine op_slice (o := o454) tab hk (vs := [.int .u8 (IntKind.wrap .u8 x455)]) (cs := [.int .u8 (IntKind.wrap .u8 x455)]) rfl rfl rfl rfl rfl rfl rfl rfl rfl 44 fun bx505 w502 o503 st504 f506 => ?_
        replace f355 := f355.st st504 (by decide)
        replace f900 := f900.st st504 (by decide)
        replace hs := hs.loc0 st504 (by decide)
        have f507 : Ft (Own (encInt .u8) 5 (.slice (some ⟨bx505, 0, none⟩) (([(IntKind.wrap .u8 x455)] : List Int)).length 1) ([(IntKind.wrap .u8 x455)] : List Int)) w502 o503 44 := f506.imp fun _ h_ => Own.of_box h_ rfl (by simp)
        have hk := hk.put 53 (.slice (some ⟨bx505, 0, none⟩) (([(IntKind.wrap .u8 x455)] : List Int)).length 1) rfl
        refine x_op hk rfl ?_
        obtain ⟨q511, H⟩ := ifS H
        refine op_append (o := o503) (E := (encInt .u8)) (xs := l354) (ys := ([(IntKind.wrap .u8 x455)] : List Int)) tab hk rfl rfl rfl rfl rfl rfl rfl f355 (Own.rd f507.now) q511 fun A512 c513 w508 o509 st510 f514 hc515 => ?_
        replace f507 := f507.st st510 (by decide)
        replace f900 := f900.st st510 (by decide)
        replace hs := hs.loc0 st510 (by decide)
        have hk := hk.put 54 (.slice A512 ((l354 ++ ([(IntKind.wrap .u8 x455)] : List Int))).length c513) rfl
        refine x_run tab hk (k := 1) (lv := []) (ks := [3, 6, 7, 8]) (e' := [(3, .slice A512 ((l354 ++ ([(IntKind.wrap .u8 x455)] : List Int))).length c513), (6, .slice (some ad443) (p0).length cp0), (7, .int .i64 ((p0).length : Int)), (8, .int .i64 x357)]) rfl trivial fun a hk => ?_
        refine wpList_nil ?_
        refine blk_n ?_
        refine blk_n ?_
        refine then_n ?_
        refine wp_region_lit ?_
        refine x_run tab hk (k := 2) (lv := []) (ks := [3, 6, 7, 8]) (e' := [(3, .slice A512 ((l354 ++ ([(IntKind.wrap .u8 x455)] : List Int))).length c513), (6, .slice (some ad443) (p0).length cp0), (7, .int .i64 ((p0).length : Int)), (8, .int .i64 (IntKind.wrap .i64 (x357 + 1)))]) rfl trivial fun a hk => ?_
        refine wpList_nil ?_
        refine then_n ?_
        exact ⟨k438, Nat.le_refl _, (fun b_ => (fun l_ => if l_ = 40 then 34 else l_) (o509 b_)), A512, c513, (l354 ++ ([(IntKind.wrap .u8 x455)] : List Int)), (IntKind.wrap .i64 (x357 + 1)), (by exact Kn.pick (ks := [3, 6, 7, 8]) hk rfl), (hs.relab0 (fun l_ => if l_ = 40 then 34 else l_) rfl), (f514.relab (fun l_ => if l_ = 40 then 34 else l_) rfl), (f900.relab (fun l_ => if l_ = 40 then 34 else l_) rfl), hc515, (hlp440 ▸ H)⟩
    refine x_seq ?_
    refine wp_region_lit ?_
    refine x_run tab hk (k := 3) (lv := []) (ks := [3, 5, 6, 7, 8, 14]) (e' := [(3, .slice A352 (l354).length c353), (5, .int .i32 (rdD 0 p0 x357)), (6, .slice (some ad443) (p0).length cp0), (7, .int .i64 ((p0).length : Int)), (8, .int .i64 x357), (14, .bool (decide ((rdD 0 p0 x357) < (0 : Int))))]) rfl trivial fun a hk => ?_
    cases b516 : (decide ((rdD 0 p0 x357) < (0 : Int)))
    · rw [b516] at hk H
      replace H := bifF H
      refine x_run tab hk (k := 4) (lv := []) (ks := [3, 5, 6, 7, 8, 18]) (e' := [(3, .slice A352 (l354).length c353), (5, .int .i32 (rdD 0 p0 x357)), (6, .slice (some ad443) (p0).length cp0), (7, .int .i64 ((p0).length : Int)), (8, .int .i64 x357), (18, .bool (decide ((rdD 0 p0 x357) > (1114111 : Int))))]) rfl trivial fun a hk => ?_
      cases b517 : (decide ((rdD 0 p0 x357) > (1114111 : Int)))
      · rw [b517] at hk H
        replace H := bifF H
        refine x_run tab hk (k := 3) (lv := []) (ks := [3, 5, 6, 7, 8, 18, 21]) (e' := [(3, .slice A352 (l354).length c353), (5, .int .i32 (rdD 0 p0 x357)), (6, .slice (some ad443) (p0).length cp0), (7, .int .i64 ((p0).length : Int)), (8, .int .i64 x357), (18, .bool false), (21, .bool (decide ((rdD 0 p0 x357) ≥ (55296 : Int))))]) rfl trivial fun a hk => ?_
        cases b518 : (decide ((rdD 0 p0 x357) ≥ (55296 : Int)))
        · rw [b518] at hk H
          replace H := bifF H
          refine x_run tab hk (k := 4) (lv := []) (ks := [3, 5, 6, 7, 8, 25]) (e' := [(3, .slice A352 (l354).length c353), (5, .int .i32 (rdD 0 p0 x357)), (6, .slice (some ad443) (p0).length cp0), (7, .int .i64 ((p0).length : Int)), (8, .int .i64 x357), (25, .bool false)]) rfl trivial fun a hk => ?_
          refine wpList_nil ?_
          refine then_n ?_
          refine x_if hk (b := false) rfl ?_
          refine (show Code.wp _ _ _ _ _ from ?_)
          refine wp_skip ?_
          refine then_n ?_
          exact ⟨(fun b_ => (fun l_ => if l_ = 34 then 40 else l_) (o351 b_)), (rdD 0 p0 x357), (by exact Kn.pick (ks := [3, 5, 6, 7, 8]) hk rfl), (hs.relab0 (fun l_ => if l_ = 34 then 40 else l_) rfl), (f355.relab (fun l_ => if l_ = 34 then 40 else l_) rfl), (f900.relab (fun l_ => if l_ = 34 then 40 else l_) rfl), H⟩
        · rw [b518] at hk H
          replace H := bifT H
          refine x_run tab hk (k := 4) (lv := []) (ks := [3, 5, 6, 7, 8, 25]) (e' := [(3, .slice A352 (l354).length c353), (5, .int .i32 (rdD 0 p0 x357)), (6, .slice (some ad443) (p0).length cp0), (7, .int .i64 ((p0).length : Int)), (8, .int .i64 x357), (25, .bool (decide ((rdD 0 p0 x357) ≤ (57343 : Int))))]) rfl trivial fun a hk => ?_
          refine wpList_nil ?_
          refine then_n ?_
          cases b519 : (decide ((rdD 0 p0 x357) ≤ (57343 : Int)))
          · rw [b519] at hk H
            replace H := bifF H
            refine x_if hk (b := false) rfl ?_
            refine (show Code.wp _ _ _ _ _ from ?_)
            refine wp_skip ?_
            refine then_n ?_
            exact ⟨(fun b_ => (fun l_ => if l_ = 34 then 40 else l_) (o351 b_)), (rdD 0 p0 x357), (by exact Kn.pick (ks := [3, 5, 6, 7, 8]) hk rfl), (hs.relab0 (fun l_ => if l_ = 34 then 40 else l_) rfl), (f355.relab (fun l_ => if l_ = 34 then 40 else l_) rfl), (f900.relab (fun l_ => if l_ = 34 then 40 else l_) rfl), H⟩
          · rw [b519] at hk H
            replace H := bifT H
            refine x_if hk (b := true) rfl ?_
            refine (show Code.wp _ _ _ _ _ from ?_)
            refine wp_region_lit ?_
            refine x_run tab hk (k := 1) (lv := []) (ks := [3, 5, 6, 7, 8]) (e' := [(3, .slice A352 (l354).length c353), (5, .int .i32 65533), (6, .slice (some ad443) (p0).length cp0), (7, .int .i64 ((p0).length : Int)), (8, .int .i64 x357)]) rfl trivial fun a hk => ?_
            refine wpList_nil ?_
            refine then_n ?_
            exact ⟨(fun b_ => (fun l_ => if l_ = 34 then 40 else l_) (o351 b_)), 65533, (by exact Kn.pick (ks := [3, 5, 6, 7, 8]) hk rfl), (hs.relab0 (fun l_ => if l_ = 34 then 40 else l_) rfl), (f355.relab (fun l_ => if l_ = 34 then 40 else l_) rfl), (f900.relab (fun l_ => if l_ = 34 then 40 else l_) rfl), H⟩
      · rw [b517] at hk H
        replace H := bifT H
        refine x_run tab hk (k := 7) (lv := []) (ks := [3, 5, 6, 7, 8, 25]) (e' := [(3, .slice A352 (l354).length c353), (5, .int .i32 (rdD 0 p0 x357)), (6, .slice (some ad443) (p0).length cp0), (7, .int .i64 ((p0).length : Int)), (8, .int .i64 x357), (25, .bool true)]) rfl trivial fun a hk => ?_
        refine wpList_nil ?_
        refine then_n ?_
        refine x_if hk (b := true) rfl ?_
        refine (show Code.wp _ _ _ _ _ from ?_)
        refine wp_region_lit ?_
        refine x_run tab hk (k := 1) (lv := []) (ks := [3, 5, 6, 7, 8]) (e' := [(3, .slice A352 (l354).length c353), (5, .int .i32 65533), (6, .slice (some ad443) (p0).length cp0), (7, .int .i64 ((p0).length : Int)), (8, .int .i64 x357)]) rfl trivial fun a hk => ?_
        refine wpList_nil ?_
        refine then_n ?_
        exact ⟨(fun b_ => (fun l_ => if l_ = 34 then 40 else l_) (o351 b_)), 65533, (by exact Kn.pick (ks := [3, 5, 6, 7, 8]) hk rfl), (hs.relab0 (fun l_ => if l_ = 34 then 40 else l_) rfl), (f355.relab (fun l_ => if l_ = 34 then 40 else l_) rfl), (f900.relab (fun l_ => if l_ = 34 then 40 else l_) rfl), H⟩
    · rw [b516] at hk H
      replace H := bifT H
      refine x_run tab hk (k := 10) (lv := []) (ks := [3, 5, 6, 7, 8, 18, 24]) (e' := [(3, .slice A352 (l354).length c353), (5, .int .i32 (rdD 0 p0 x357)), (6, .slice (some ad443) (p0).length cp0), (7, .int .i64 ((p0).length : Int)), (8, .int .i64 x357), (18, .bool true), (24, undef)]) rfl trivial fun a hk => ?_
      refine x_run tab hk (k := 1) (lv := []) (ks := [3, 5, 6, 7, 8, 25]) (e' := [(3, .slice A352 (l354).length c353), (5, .int .i32 (rdD 0 p0 x357)), (6, .slice (some ad443) (p0).length cp0), (7, .int .i64 ((p0).length : Int)), (8, .int .i64 x357), (25, .bool true)]) rfl trivial fun a hk => ?_
      refine wpList_nil ?_
      refine then_n ?_
      refine x_if hk (b := true) rfl ?_
      refine (show Code.wp _ _ _ _ _ from ?_)
      refine wp_region_lit ?_
      refine x_run tab hk (k := 1) (lv := []) (ks := [3, 5, 6, 7, 8]) (e' := [(3, .slice A352 (l354).length c353), (5, .int .i32 65533), (6, .slice (some ad443) (p0).length cp0), (7, .int .i64 ((p0).length : Int)), (8, .int .i64 x357)]) rfl trivial fun a hk => ?_
      refine wpList_nil ?_
      refine then_n ?_
      exact ⟨(fun b_ => (fun l_ => if l_ = 34 then 40 else l_) (o351 b_)), 65533, (by exact Kn.pick (ks := [3, 5, 6, 7, 8]) hk rfl), (hs.relab0 (fun l_ => if l_ = 34 then 40 else l_) rfl), (f355.relab (fun l_ => if l_ = 34 then 40 else l_) rfl), (f900.relab (fun l_ => if l_ = 34 then 40 else l_) rfl), H⟩

/-! tidewrack/tidewracklaw05.awake -/
theorem tidewracklaw05_awake_calls (K : Nat)  (w : World) (o : Nat → Nat) (Lg0 : Nat) (hg0 : Ft (RdC ET47 (some ⟨0, 0, none⟩) glob0) w o Lg0)  (r : Bool) (H : tidewracklaw05_awake K = some r) :
    Calls Tryd.prog 8 #[] w (Ret fun v_ w' => ∃ o' : Nat → Nat, v_ = .bool r ∧ St [] w o w' o') := by
  refine x_enter (vs := []) Tryd.func8 rfl rfl rfl fun a hk => ?_
  obtain ⟨o0, hs, h0⟩ := St.start w o
  have fg0 := h0 _ _ hg0
  clear h0
  rw [tidewracklaw05_awake] at H
  refine x_seq ?_
  refine wp_region_lit ?_
  refine x_run tab hk (k := 1) (lv := []) (ks := []) (e' := []) rfl trivial fun a hk => ?_
  refine wpList_nil ?_
  refine then_n ?_
  refine x_seq ?_
  refine wp_region_lit ?_
  refine x_op hk rfl ?_
  obtain ⟨t4, hc5, H⟩ := bindS H
  refine op_call hk ent_13 (vs := [.string (⟨#[65, 195, 40]⟩ : ByteArray)]) rfl (glyph_Decode_calls K (⟨#[65, 195, 40]⟩ : ByteArray) _ o0 0 fg0 1  _ hc5) ?_
  rintro _ w6 ⟨o7, A9, c10, rfl, st8, f11, hc12⟩
  replace fg0 := fg0.st st8 (by decide)
  replace hs := hs.loc0 st8 (by decide)
  have hk := hk.put 2 (.slice A9 (t4).length c10) rfl
  refine x_run tab hk (k := 1) (lv := []) (ks := [1]) (e' := [(1, .slice A9 (t4).length c10)]) rfl trivial fun a hk => ?_
  refine wpList_nil ?_
  refine then_n ?_
  refine x_seq ?_
  refine wp_region_lit ?_
  refine x_run tab hk (k := 1) (lv := []) (ks := [3]) (e' := [(3, .slice A9 (t4).length c10)]) rfl trivial fun a hk => ?_
  refine x_op hk rfl ?_
  refine op_slice (o := o7) tab hk (vs := [.int .i64 65, .int .i64 65533, .int .i64 40]) (cs := [.int .i64 65, .int .i64 65533, .int .i64 40]) rfl rfl rfl rfl rfl rfl rfl rfl rfl 2 fun bx16 w13 o14 st15 f17 => ?_
  replace f11 := f11.st st15 (by decide)
  replace fg0 := fg0.st st15 (by decide)
  replace hs := hs.loc0 st15 (by decide)
  have f18 : Ft (Own (encInt .i64) 3 (.slice (some ⟨bx16, 0, none⟩) (([65, 65533, 40] : List Int)).length 3) ([65, 65533, 40] : List Int)) w13 o14 2 := f17.imp fun _ h_ => Own.of_box h_ rfl (by simp)
  have hk := hk.put 4 (.slice (some ⟨bx16, 0, none⟩) (([65, 65533, 40] : List Int)).length 3) rfl
  refine x_op hk rfl ?_
  obtain ⟨t22, hc23, H⟩ := bindS H
  refine op_call hk ent_12 (vs := [.slice A9 (t4).length c10, .slice (some ⟨bx16, 0, none⟩) (([65, 65533, 40] : List Int)).length 3]) rfl (tidewracklaw05_Same_calls K A9 c10 t4 (some ⟨bx16, 0, none⟩) 3 ([65, 65533, 40] : List Int) _ o14 _ (f11.imp fun _ h_ => Own.rd h_) hc12 _ (f18.imp fun _ h_ => Own.rd h_) (Nat.le_refl _)   _ hc23) ?_
  rintro _ w24 ⟨o25, rfl, st26⟩
  replace f11 := f11.st st26 (by decide)
  replace f18 := f18.st st26 (by decide)
  replace fg0 := fg0.st st26 (by decide)
  replace hs := hs.loc0 st26 (by decide)
  have hk := hk.put 5 (.bool t22) rfl
  refine x_run tab hk (k := 1) (lv := []) (ks := [6]) (e' := [(6, .bool t22)]) rfl trivial fun a hk => ?_
  cases b27 : t22
  · rw [b27] at hk H
    replace H := bifF H
    refine x_run tab hk (k := 5) (lv := []) (ks := [0]) (e' := [(0, .bool false)]) rfl trivial fun a hk => ?_
    refine wpList_nil ?_
    refine then_n ?_
    refine wp_ret ?_
    obtain rfl := Option.some.inj H
    exact x_retG hk (rs := [.tmp 0]) (vs := [.bool false]) rfl ⟨rfl, trivial⟩ ⟨fun b_ => if b_ < w.heap.size then o b_ else (fun _ => 0) (o25 b_), rfl, hs.close0 o (fun _ => 0)⟩
  · rw [b27] at hk H
    replace H := bifT H
    refine x_op hk rfl ?_
    refine op_slice (o := o25) tab hk (vs := [.int .i32 233]) (cs := [.int .i32 233]) rfl rfl rfl rfl rfl rfl rfl rfl rfl 3 fun bx31 w28 o29 st30 f32 => ?_
    replace fg0 := fg0.st st30 (by decide)
    replace hs := hs.loc0 st30 (by decide)
    have f33 : Ft (Own (encInt .i32) 21 (.slice (some ⟨bx31, 0, none⟩) (([233] : List Int)).length 1) ([233] : List Int)) w28 o29 3 := f32.imp fun _ h_ => Own.of_box h_ rfl (by simp)
    have hk := hk.put 7 (.slice (some ⟨bx31, 0, none⟩) (([233] : List Int)).length 1) rfl
    refine x_op hk rfl ?_
    obtain ⟨t37, hc38, H⟩ := bindS H
    refine op_call hk ent_17 (vs := [.slice (some ⟨bx31, 0, none⟩) (([233] : List Int)).length 1]) rfl (glyph_Encode_calls K (some ⟨bx31, 0, none⟩) 1 ([233] : List Int) _ o29 _ (f33.imp fun _ h_ => Own.rd h_) (Nat.le_refl _)   _ hc38) ?_
    rintro _ w39 ⟨o40, rfl, st41⟩
    replace f33 := f33.st st41 (by decide)
    replace fg0 := fg0.st st41 (by decide)
    replace hs := hs.loc0 st41 (by decide)
    have hk := hk.put 8 (.string t37) rfl
    refine x_run tab hk (k := 3) (lv := []) (ks := [0]) (e' := [(0, .bool (ByteArray.toList t37 == ByteArray.toList (⟨#[195, 169]⟩ : ByteArray)))]) rfl trivial fun a hk => ?_
    refine wpList_nil ?_
    refine then_n ?_
    refine wp_ret ?_
    obtain rfl := Option.some.inj H
    exact x_retG hk (rs := [.tmp 0]) (vs := [.bool (ByteArray.toList t37 == ByteArray.toList (⟨#[195, 169]⟩ : ByteArray))]) rfl ⟨rfl, trivial⟩ ⟨fun b_ => if b_ < w.heap.size then o b_ else (fun _ => 0) (o40 b_), rfl, hs.close0 o (fun _ => 0)⟩

/-! tidewrack/tidewracklaw01.Cut -/
theorem tidewracklaw01_Cut_calls (p0 : ByteArray) (p1 : Int) (w : World) (o : Nat → Nat)  (r : ByteArray) (H : tidewracklaw01_Cut p0 p1 = some r) :
    Calls Tryd.prog 9 #[.string p0, .int .i64 p1] w (Ret fun v_ w' => ∃ o' : Nat → Nat, v_ = .string r ∧ St [] w o w' o') := by
  refine x_enter (vs := [.string p0, .int .i64 p1]) Tryd.func9 rfl rfl rfl fun a hk => ?_
  obtain ⟨o0, hs, h0⟩ := St.start w o
  clear h0
  rw [tidewracklaw01_Cut] at H
  refine x_seq ?_
  refine wp_region_lit ?_
  refine x_run tab hk (k := 1) (lv := []) (ks := [0, 1]) (e' := [(0, .string p0), (1, .int .i64 p1)]) rfl trivial fun a hk => ?_
  refine wpList_nil ?_
  refine then_n ?_
  refine x_seq ?_
  refine x_seq ?_
  refine wp_region_lit ?_
  refine x_run tab hk (k := 4) (lv := []) (ks := [0, 1, 8]) (e' := [(0, .string p0), (1, .int .i64 p1), (8, .bool (decide (((p0).size : Int) > p1)))]) rfl trivial fun a hk => ?_
  refine wpList_nil ?_
  refine then_n ?_
  cases b1 : (decide (((p0).size : Int) > p1))
  · rw [b1] at hk H
    replace H := bifF H
    refine x_if hk (b := false) rfl ?_
    refine (show Code.wp _ _ _ _ _ from ?_)
    refine wp_skip ?_
    refine then_n ?_
    refine x_seq ?_
    refine wp_region_lit ?_
    refine x_run tab hk (k := 2) (lv := []) (ks := [4]) (e' := [(4, .string p0)]) rfl trivial fun a hk => ?_
    refine wpList_nil ?_
    refine then_n ?_
    refine wp_ret ?_
    obtain rfl := Option.some.inj H
    exact x_retG hk (rs := [.tmp 4]) (vs := [.string p0]) rfl ⟨rfl, trivial⟩ ⟨fun b_ => if b_ < w.heap.size then o b_ else (fun _ => 0) (o0 b_), rfl, hs.close0 o (fun _ => 0)⟩
  · rw [b1] at hk H
    replace H := bifT H
    refine x_if hk (b := true) rfl ?_
    refine (show Code.wp _ _ _ _ _ from ?_)
    refine x_seq ?_
    refine wp_region_lit ?_
    obtain ⟨q2, H⟩ := ifS H
    obtain ⟨q3, H⟩ := ifS H
    refine x_run tab hk (k := 4) (lv := []) (ks := [4]) (e' := [(4, .string (ByteArray.extract p0 0 (Int.toNat p1)))]) rfl ⟨q2, q3, trivial⟩ fun a hk => ?_
    refine wpList_nil ?_
    refine then_n ?_
    refine wp_ret ?_
    refine then_r ?_
    obtain rfl := Option.some.inj H
    exact x_retG hk (rs := [.tmp 4]) (vs := [.string (ByteArray.extract p0 0 (Int.toNat p1))]) rfl ⟨rfl, trivial⟩ ⟨fun b_ => if b_ < w.heap.size then o b_ else (fun _ => 0) (o0 b_), rfl, hs.close0 o (fun _ => 0)⟩

/-! tidewrack/tidewrackref05.need -/
theorem tidewrackref05_need_calls (p0 : Int) (w : World) (o : Nat → Nat)  (r : Int × Int × Int) (H : tidewrackref05_need p0 = some r) :
    Calls Tryd.prog 18 #[.int .i64 p0] w (Ret fun v_ w' => ∃ o' : Nat → Nat, v_ = .tuple #[.int .i64 r.1, .int .i64 r.2.1, .int .i64 r.2.2] ∧ St [] w o w' o') := by
  refine x_enter (vs := [.int .i64 p0]) Tryd.func18 rfl rfl rfl fun a hk => ?_
  obtain ⟨o0, hs, h0⟩ := St.start w o
  clear h0
  rw [tidewrackref05_need] at H
  refine x_seq ?_
  refine wp_region_lit ?_
  refine x_run tab hk (k := 3) (lv := []) (ks := [0]) (e' := [(0, .int .i64 p0)]) rfl trivial fun a hk => ?_
  refine wpList_nil ?_
  refine then_n ?_
  refine x_mid (fun a_ w_ => ∃ o16 : Nat → Nat, Kn 31 a_ [(0, .int .i64 p0)] ∧ St [] w (fun _ => 0) w_ o16 ∧ tidewrackref05_need_j1 p0 = some r) ?_ ?_
  rotate_left
  · rintro a w17 ⟨o16, hk, hs, H⟩
    rw [tidewrackref05_need_j1] at H
    refine x_seq ?_
    refine x_seq ?_
    refine wp_region_lit ?_
    refine x_run tab hk (k := 2) (lv := []) (ks := [0, 12]) (e' := [(0, .int .i64 p0), (12, .bool (p0 == (224 : Int)))]) rfl trivial fun a hk => ?_
    refine wpList_nil ?_
    refine then_n ?_
    cases b18 : (p0 == (224 : Int))
    · rw [b18] at hk H
      replace H := bifF H
      refine x_if hk (b := false) rfl ?_
      refine (show Code.wp _ _ _ _ _ from ?_)
      refine wp_skip ?_
      refine then_n ?_
      refine x_seq ?_
      refine x_seq ?_
      refine wp_region_lit ?_
      refine x_run tab hk (k := 2) (lv := []) (ks := [0, 14]) (e' := [(0, .int .i64 p0), (14, .bool (p0 == (237 : Int)))]) rfl trivial fun a hk => ?_
      refine wpList_nil ?_
      refine then_n ?_
      cases b19 : (p0 == (237 : Int))
      · rw [b19] at hk H
        replace H := bifF H
        refine x_if hk (b := false) rfl ?_
        refine (show Code.wp _ _ _ _ _ from ?_)
        refine wp_skip ?_
        refine then_n ?_
        refine x_mid (fun a_ w_ => ∃ o35 : Nat → Nat, Kn 31 a_ [(0, .int .i64 p0)] ∧ St [] w (fun _ => 0) w_ o35 ∧ tidewrackref05_need_j2 p0 = some r) ?_ ?_
        rotate_left
        · rintro a w36 ⟨o35, hk, hs, H⟩
          rw [tidewrackref05_need_j2] at H
          refine x_seq ?_
          refine x_seq ?_
          refine wp_region_lit ?_
          refine x_run tab hk (k := 2) (lv := []) (ks := [0, 22]) (e' := [(0, .int .i64 p0), (22, .bool (p0 == (240 : Int)))]) rfl trivial fun a hk => ?_
          refine wpList_nil ?_
          refine then_n ?_
          cases b37 : (p0 == (240 : Int))
          · rw [b37] at hk H
            replace H := bifF H
            refine x_if hk (b := false) rfl ?_
            refine (show Code.wp _ _ _ _ _ from ?_)
            refine wp_skip ?_
            refine then_n ?_
            refine x_seq ?_
            refine x_seq ?_
            refine wp_region_lit ?_
            refine x_run tab hk (k := 2) (lv := []) (ks := [0, 24]) (e' := [(0, .int .i64 p0), (24, .bool (p0 == (244 : Int)))]) rfl trivial fun a hk => ?_
            refine wpList_nil ?_
            refine then_n ?_
            cases b38 : (p0 == (244 : Int))
            · rw [b38] at hk H
              replace H := bifF H
              refine x_if hk (b := false) rfl ?_
              refine (show Code.wp _ _ _ _ _ from ?_)
              refine wp_skip ?_
              refine then_n ?_
              refine x_seq ?_
              refine x_mid (fun a_ w_ => ∃ o46 : Nat → Nat, ∃ x47 : Bool, Kn 31 a_ [(30, .bool x47)] ∧ St [] w (fun _ => 0) w_ o46 ∧ tidewrackref05_need_j3 x47 = some r) ?_ ?_
              rotate_left
              · rintro a w48 ⟨o46, x47, hk, hs, H⟩
                rw [tidewrackref05_need_j3] at H
                cases b49 : x47
                · rw [b49] at hk H
                  replace H := bifF H
                  refine x_if hk (b := false) rfl ?_
                  refine (show Code.wp _ _ _ _ _ from ?_)
                  refine wp_skip ?_
                  refine then_n ?_
                  refine x_seq ?_
                  refine wp_region_lit ?_
                  refine x_run tab hk (k := 3) (lv := []) (ks := [2, 3, 4]) (e' := [(2, .int .i64 0), (3, .int .i64 0), (4, .int .i64 0)]) rfl trivial fun a hk => ?_
                  refine wpList_nil ?_
                  refine then_n ?_
                  refine wp_ret ?_
                  obtain rfl := Option.some.inj H
                  exact x_retG hk (rs := [.tmp 2, .tmp 3, .tmp 4]) (vs := [.int .i64 0, .int .i64 0, .int .i64 0]) rfl ⟨rfl, rfl, rfl, trivial⟩ ⟨fun b_ => if b_ < w.heap.size then o b_ else (fun _ => 0) (o46 b_), rfl, hs.close0 o (fun _ => 0)⟩
                · rw [b49] at hk H
                  replace H := bifT H
                  refine x_if hk (b := true) rfl ?_
                  refine (show Code.wp _ _ _ _ _ from ?_)
                  refine x_seq ?_
                  refine wp_region_lit ?_
                  refine x_run tab hk (k := 3) (lv := []) (ks := [2, 3, 4]) (e' := [(2, .int .i64 3), (3, .int .i64 128), (4, .int .i64 191)]) rfl trivial fun a hk => ?_
                  refine wpList_nil ?_
                  refine then_n ?_
                  refine wp_ret ?_
                  refine then_r ?_
                  obtain rfl := Option.some.inj H
                  exact x_retG hk (rs := [.tmp 2, .tmp 3, .tmp 4]) (vs := [.int .i64 3, .int .i64 128, .int .i64 191]) rfl ⟨rfl, rfl, rfl, trivial⟩ ⟨fun b_ => if b_ < w.heap.size then o b_ else (fun _ => 0) (o46 b_), rfl, hs.close0 o (fun _ => 0)⟩
              refine wp_region_lit ?_
              refine x_run tab hk (k := 3) (lv := []) (ks := [0, 27]) (e' := [(0, .int .i64 p0), (27, .bool (decide (p0 ≥ (241 : Int))))]) rfl trivial fun a hk => ?_
              cases b50 : (decide (p0 ≥ (241 : Int)))
              · rw [b50] at hk H
                replace H := bifF H
                refine x_run tab hk (k := 3) (lv := []) (ks := [30]) (e' := [(30, .bool false)]) rfl trivial fun a hk => ?_
                refine wpList_nil ?_
                refine then_n ?_
                exact ⟨o35, false, (by exact Kn.pick (ks := [30]) hk rfl), hs, H⟩
              · rw [b50] at hk H
                replace H := bifT H
                refine x_run tab hk (k := 3) (lv := []) (ks := [30]) (e' := [(30, .bool (decide (p0 ≤ (243 : Int))))]) rfl trivial fun a hk => ?_
                refine wpList_nil ?_
                refine then_n ?_
                exact ⟨o35, (decide (p0 ≤ (243 : Int))), (by exact Kn.pick (ks := [30]) hk rfl), hs, H⟩
            · rw [b38] at hk H
              replace H := bifT H
              refine x_if hk (b := true) rfl ?_
              refine (show Code.wp _ _ _ _ _ from ?_)
              refine x_seq ?_
              refine wp_region_lit ?_
              refine x_run tab hk (k := 3) (lv := []) (ks := [2, 3, 4]) (e' := [(2, .int .i64 3), (3, .int .i64 128), (4, .int .i64 143)]) rfl trivial fun a hk => ?_
              refine wpList_nil ?_
              refine then_n ?_
              refine wp_ret ?_
              refine then_r ?_
              obtain rfl := Option.some.inj H
              exact x_retG hk (rs := [.tmp 2, .tmp 3, .tmp 4]) (vs := [.int .i64 3, .int .i64 128, .int .i64 143]) rfl ⟨rfl, rfl, rfl, trivial⟩ ⟨fun b_ => if b_ < w.heap.size then o b_ else (fun _ => 0) (o35 b_), rfl, hs.close0 o (fun _ => 0)⟩
          · rw [b37] at hk H
            replace H := bifT H
            refine x_if hk (b := true) rfl ?_
            refine (show Code.wp _ _ _ _ _ from ?_)
            refine x_seq ?_
            refine wp_region_lit ?_
            refine x_run tab hk (k := 3) (lv := []) (ks := [2, 3, 4]) (e' := [(2, .int .i64 3), (3, .int .i64 144), (4, .int .i64 191)]) rfl trivial fun a hk => ?_
            refine wpList_nil ?_
            refine then_n ?_
            refine wp_ret ?_
            refine then_r ?_
            obtain rfl := Option.some.inj H
            exact x_retG hk (rs := [.tmp 2, .tmp 3, .tmp 4]) (vs := [.int .i64 3, .int .i64 144, .int .i64 191]) rfl ⟨rfl, rfl, rfl, trivial⟩ ⟨fun b_ => if b_ < w.heap.size then o b_ else (fun _ => 0) (o35 b_), rfl, hs.close0 o (fun _ => 0)⟩
        refine x_mid (fun a_ w_ => ∃ o58 : Nat → Nat, ∃ x59 : Bool, Kn 31 a_ [(0, .int .i64 p0), (20, .bool x59)] ∧ St [] w (fun _ => 0) w_ o58 ∧ tidewrackref05_need_j4 p0 x59 = some r) ?_ ?_
        rotate_left
        · rintro a w60 ⟨o58, x59, hk, hs, H⟩
          rw [tidewrackref05_need_j4] at H
          cases b61 : x59
          · rw [b61] at hk H
            replace H := bifF H
            refine x_if hk (b := false) rfl ?_
            refine (show Code.wp _ _ _ _ _ from ?_)
            refine wp_skip ?_
            refine then_n ?_
            exact ⟨o58, (by exact Kn.pick (ks := [0]) hk rfl), hs, H⟩
          · rw [b61] at hk H
            replace H := bifT H
            refine x_if hk (b := true) rfl ?_
            refine (show Code.wp _ _ _ _ _ from ?_)
            refine x_seq ?_
            refine wp_region_lit ?_
            refine x_run tab hk (k := 3) (lv := []) (ks := [2, 3, 4]) (e' := [(2, .int .i64 2), (3, .int .i64 128), (4, .int .i64 191)]) rfl trivial fun a hk => ?_
            refine wpList_nil ?_
            refine then_n ?_
            refine wp_ret ?_
            refine then_r ?_
            obtain rfl := Option.some.inj H
            exact x_retG hk (rs := [.tmp 2, .tmp 3, .tmp 4]) (vs := [.int .i64 2, .int .i64 128, .int .i64 191]) rfl ⟨rfl, rfl, rfl, trivial⟩ ⟨fun b_ => if b_ < w.heap.size then o b_ else (fun _ => 0) (o58 b_), rfl, hs.close0 o (fun _ => 0)⟩
        refine wp_region_lit ?_
        refine x_run tab hk (k := 3) (lv := []) (ks := [0, 17]) (e' := [(0, .int .i64 p0), (17, .bool (decide (p0 ≥ (225 : Int))))]) rfl trivial fun a hk => ?_
        cases b62 : (decide (p0 ≥ (225 : Int)))
        · rw [b62] at hk H
          replace H := bifF H
          refine x_run tab hk (k := 3) (lv := []) (ks := [0, 20]) (e' := [(0, .int .i64 p0), (20, .bool false)]) rfl trivial fun a hk => ?_
          refine wpList_nil ?_
          refine then_n ?_
          exact ⟨o16, false, (by exact Kn.pick (ks := [0, 20]) hk rfl), hs, H⟩
        · rw [b62] at hk H
          replace H := bifT H
          refine x_run tab hk (k := 3) (lv := []) (ks := [0, 20]) (e' := [(0, .int .i64 p0), (20, .bool (decide (p0 ≤ (239 : Int))))]) rfl trivial fun a hk => ?_
          refine wpList_nil ?_
          refine then_n ?_
          exact ⟨o16, (decide (p0 ≤ (239 : Int))), (by exact Kn.pick (ks := [0, 20]) hk rfl), hs, H⟩
      · rw [b19] at hk H
        replace H := bifT H
        refine x_if hk (b := true) rfl ?_
        refine (show Code.wp _ _ _ _ _ from ?_)
        refine x_seq ?_
        refine wp_region_lit ?_
        refine x_run tab hk (k := 3) (lv := []) (ks := [2, 3, 4]) (e' := [(2, .int .i64 2), (3, .int .i64 128), (4, .int .i64 159)]) rfl trivial fun a hk => ?_
        refine wpList_nil ?_
        refine then_n ?_
        refine wp_ret ?_
        refine then_r ?_
        obtain rfl := Option.some.inj H
        exact x_retG hk (rs := [.tmp 2, .tmp 3, .tmp 4]) (vs := [.int .i64 2, .int .i64 128, .int .i64 159]) rfl ⟨rfl, rfl, rfl, trivial⟩ ⟨fun b_ => if b_ < w.heap.size then o b_ else (fun _ => 0) (o16 b_), rfl, hs.close0 o (fun _ => 0)⟩
    · rw [b18] at hk H
      replace H := bifT H
      refine x_if hk (b := true) rfl ?_
      refine (show Code.wp _ _ _ _ _ from ?_)
      refine x_seq ?_
      refine wp_region_lit ?_
      refine x_run tab hk (k := 3) (lv := []) (ks := [2, 3, 4]) (e' := [(2, .int .i64 2), (3, .int .i64 160), (4, .int .i64 191)]) rfl trivial fun a hk => ?_
      refine wpList_nil ?_
      refine then_n ?_
      refine wp_ret ?_
      refine then_r ?_
      obtain rfl := Option.some.inj H
      exact x_retG hk (rs := [.tmp 2, .tmp 3, .tmp 4]) (vs := [.int .i64 2, .int .i64 160, .int .i64 191]) rfl ⟨rfl, rfl, rfl, trivial⟩ ⟨fun b_ => if b_ < w.heap.size then o b_ else (fun _ => 0) (o16 b_), rfl, hs.close0 o (fun _ => 0)⟩
  refine x_mid (fun a_ w_ => ∃ o70 : Nat → Nat, ∃ x71 : Bool, Kn 31 a_ [(0, .int .i64 p0), (10, .bool x71)] ∧ St [] w (fun _ => 0) w_ o70 ∧ tidewrackref05_need_j5 p0 x71 = some r) ?_ ?_
  rotate_left
  · rintro a w72 ⟨o70, x71, hk, hs, H⟩
    rw [tidewrackref05_need_j5] at H
    cases b73 : x71
    · rw [b73] at hk H
      replace H := bifF H
      refine x_if hk (b := false) rfl ?_
      refine (show Code.wp _ _ _ _ _ from ?_)
      refine wp_skip ?_
      refine then_n ?_
      exact ⟨o70, (by exact Kn.pick (ks := [0]) hk rfl), hs, H⟩
    · rw [b73] at hk H
      replace H := bifT H
      refine x_if hk (b := true) rfl ?_
      refine (show Code.wp _ _ _ _ _ from ?_)
      refine x_seq ?_
      refine wp_region_lit ?_
      refine x_run tab hk (k := 3) (lv := []) (ks := [2, 3, 4]) (e' := [(2, .int .i64 1), (3, .int .i64 128), (4, .int .i64 191)]) rfl trivial fun a hk => ?_
      refine wpList_nil ?_
      refine then_n ?_
      refine wp_ret ?_
      refine then_r ?_
      obtain rfl := Option.some.inj H
      exact x_retG hk (rs := [.tmp 2, .tmp 3, .tmp 4]) (vs := [.int .i64 1, .int .i64 128, .int .i64 191]) rfl ⟨rfl, rfl, rfl, trivial⟩ ⟨fun b_ => if b_ < w.heap.size then o b_ else (fun _ => 0) (o70 b_), rfl, hs.close0 o (fun _ => 0)⟩
  refine wp_region_lit ?_
  refine x_run tab hk (k := 3) (lv := []) (ks := [0, 7]) (e' := [(0, .int .i64 p0), (7, .bool (decide (p0 ≥ (194 : Int))))]) rfl trivial fun a hk => ?_
  cases b74 : (decide (p0 ≥ (194 : Int)))
  · rw [b74] at hk H
    replace H := bifF H
    refine x_run tab hk (k := 3) (lv := []) (ks := [0, 10]) (e' := [(0, .int .i64 p0), (10, .bool false)]) rfl trivial fun a hk => ?_
    refine wpList_nil ?_
    refine then_n ?_
    exact ⟨o0, false, (by exact Kn.pick (ks := [0, 10]) hk rfl), hs, H⟩
  · rw [b74] at hk H
    replace H := bifT H
    refine x_run tab hk (k := 3) (lv := []) (ks := [0, 10]) (e' := [(0, .int .i64 p0), (10, .bool (decide (p0 ≤ (223 : Int))))]) rfl trivial fun a hk => ?_
    refine wpList_nil ?_
    refine then_n ?_
    exact ⟨o0, (decide (p0 ≤ (223 : Int))), (by exact Kn.pick (ks := [0, 10]) hk rfl), hs, H⟩

/-! tidewrack/tidewrackref05.Runes -/
theorem tidewrackref05_Runes_calls (K : Nat) (p0 : ByteArray) (w : World) (o : Nat → Nat)  (R0 : Nat) (r : (List Int) × Int) (H : tidewrackref05_Runes K p0 = some r) :
    Calls Tryd.prog 11 #[.string p0] w (Ret fun v_ w' => ∃ o' : Nat → Nat, ∃ A0 : Option Addr, ∃ c0 : Nat, v_ = .tuple #[.slice A0 (r.1).length c0, .int .i64 r.2] ∧ St [] w o w' o' ∧ Ft (Own (encInt .i64) 3 (.slice A0 (r.1).length c0) (r.1)) w' o' R0 ∧ (r.1).length ≤ c0) := by
  refine x_enter (vs := [.string p0]) Tryd.func11 rfl rfl rfl fun a hk => ?_
  obtain ⟨o0, hs, h0⟩ := St.start w o
  clear h0
  rw [tidewrackref05_Runes] at H
  refine x_seq ?_
  refine wp_region_lit ?_
  refine x_run tab hk (k := 2) (lv := []) (ks := [0]) (e' := [(0, .string p0)]) rfl trivial fun a hk => ?_
  refine wpList_nil ?_
  refine then_n ?_
  refine x_seq ?_
  refine wp_region_lit ?_
  refine x_op hk rfl ?_
  refine op_slice (o := o0) tab hk (vs := []) (cs := []) rfl rfl rfl rfl rfl rfl rfl rfl rfl 1 fun bx4 w1 o2 st3 f5 => ?_
  replace hs := hs.loc0 st3 (by decide)
  have f6 : Ft (Own (encInt .i64) 3 (.slice (some ⟨bx4, 0, none⟩) (([] : List Int)).length 0) ([] : List Int)) w1 o2 1 := f5.imp fun _ h_ => Own.of_box h_ rfl (by simp)
  have hk := hk.put 13 (.slice (some ⟨bx4, 0, none⟩) (([] : List Int)).length 0) rfl
  refine x_run tab hk (k := 1) (lv := []) (ks := [0, 4]) (e' := [(0, .string p0), (4, .slice (some ⟨bx4, 0, none⟩) (([] : List Int)).length 0)]) rfl trivial fun a hk => ?_
  refine wpList_nil ?_
  refine then_n ?_
  refine x_seq ?_
  refine wp_region_lit ?_
  refine x_run tab hk (k := 1) (lv := []) (ks := [0, 4, 5]) (e' := [(0, .string p0), (4, .slice (some ⟨bx4, 0, none⟩) (([] : List Int)).length 0), (5, .int .i64 0)]) rfl trivial fun a hk => ?_
  refine wpList_nil ?_
  refine then_n ?_
  refine x_mid (fun a_ w_ => ∃ o712 : Nat → Nat, ∃ A713 : Option Addr, ∃ c714 : Nat, ∃ l715 : List Int, Kn 103 a_ [(4, .slice A713 (l715).length c714)] ∧ St [] w (fun _ => 0) w_ o712 ∧ Ft (Own (encInt .i64) 3 (.slice A713 (l715).length c714) l715) w_ o712 70 ∧ (l715).length ≤ c714 ∧ tidewrackref05_Runes_j1 l715 = some r) ?_ ?_
  rotate_left
  · rintro a w718 ⟨o712, A713, c714, l715, hk, hs, f716, hc717, H⟩
    rw [tidewrackref05_Runes_j1] at H
    refine x_seq ?_
    refine wp_region_lit ?_
    refine x_run tab hk (k := 3) (lv := []) (ks := [2, 3]) (e' := [(2, .slice A713 (l715).length c714), (3, .int .i64 0)]) rfl trivial fun a hk => ?_
    refine wpList_nil ?_
    refine then_n ?_
    refine wp_ret ?_
    obtain rfl := Option.some.inj H
    exact x_retG hk (rs := [.tmp 2, .tmp 3]) (vs := [.slice A713 (l715).length c714, .int .i64 0]) rfl ⟨rfl, rfl, trivial⟩ ⟨fun b_ => if b_ < w.heap.size then o b_ else (fun _ => R0) (o712 b_), A713, c714, rfl, hs.close0 o (fun _ => R0), hs.close_ft (o := o) (ρ := fun _ => R0) f716 (by decide) rfl, hc717⟩
  refine wp_block ?_
  refine x_loop (fun j_ a_ w_ => ∃ o949 : Nat → Nat, ∃ A950 : Option Addr, ∃ c951 : Nat, ∃ l952 : List Int, ∃ x955 : Int, Kn 103 a_ [(0, .string p0), (4, .slice A950 (l952).length c951), (5, .int .i64 x955)] ∧ St [] w (fun _ => 0) w_ o949 ∧ Ft (Own (encInt .i64) 3 (.slice A950 (l952).length c951) l952) w_ o949 94 ∧ (l952).length ≤ c951 ∧ tidewrackref05_Runes_l2 K p0 j_ l952 x955 = some r) (k := K) ⟨(fun b_ => (fun l_ => if l_ = 1 then 94 else l_) (o2 b_)), (some ⟨bx4, 0, none⟩), 0, ([] : List Int), 0, (by exact Kn.pick (ks := [0, 4, 5]) hk rfl), (hs.relab0 (fun l_ => if l_ = 1 then 94 else l_) rfl), (f6.relab (fun l_ => if l_ = 1 then 94 else l_) rfl), (Nat.le_refl _), H⟩ (by rintro _ _ ⟨_, _, _, _, _, _, _, _, _, H_⟩; exact absurd (show (none : Option ((List Int) × Int)) = some r from H_) (by simp)) ?_
  rintro k1184 a w1183 ⟨o949, A950, c951, l952, x955, hk, hs, f953, hc954, H⟩
  rw [tidewrackref05_Runes_l2] at H
  obtain ⟨lp1185, hlp1186⟩ : ∃ lp_, lp_ = tidewrackref05_Runes_l2 K p0 k1184 := ⟨_, rfl⟩
  rw [← hlp1186] at H
  refine x_seq ?_
  refine x_seq ?_
  refine wp_region_lit ?_
  refine x_run tab hk (k := 4) (lv := []) (ks := [0, 4, 5, 17]) (e' := [(0, .string p0), (4, .slice A950 (l952).length c951), (5, .int .i64 x955), (17, .bool (decide (x955 < ((p0).size : Int))))]) rfl trivial fun a hk => ?_
  refine wpList_nil ?_
  refine then_n ?_
  cases b1187 : (decide (x955 < ((p0).size : Int)))
  · rw [b1187] at hk H
    replace H := bifF H
    refine x_if hk (b := false) rfl ?_
    refine (show Code.wp _ _ _ _ _ from ?_)
    refine wp_exit ?_
    refine then_x ?_
    refine then_x ?_
    refine blk_x ?_
    refine then_n ?_
    exact ⟨(fun b_ => (fun l_ => if l_ = 94 then 70 else l_) (o949 b_)), A950, c951, l952, (by exact Kn.pick (ks := [4]) hk rfl), (hs.relab0 (fun l_ => if l_ = 94 then 70 else l_) rfl), (f953.relab (fun l_ => if l_ = 94 then 70 else l_) rfl), hc954, H⟩
  · rw [b1187] at hk H
    replace H := bifT H
    refine x_if hk (b := true) rfl ?_
    refine (show Code.wp _ _ _ _ _ from ?_)
    refine wp_skip ?_
    refine then_n ?_
    refine wp_block ?_
    refine x_seq ?_
    refine wp_region_lit ?_
    obtain ⟨q1188, H⟩ := ifS H
    refine x_run tab hk (k := 5) (lv := []) (ks := [0, 4, 5, 6]) (e' := [(0, .string p0), (4, .slice A950 (l952).length c951), (5, .int .i64 x955), (6, .int .i64 (IntKind.wrap .i64 (bt p0 x955)))]) rfl ⟨q1188, trivial⟩ fun a hk => ?_
    refine wpList_nil ?_
    refine then_n ?_
    refine x_seq ?_
    refine x_seq ?_
    refine wp_region_lit ?_
    refine x_run tab hk (k := 2) (lv := []) (ks := [0, 4, 5, 6, 23]) (e' := [(0, .string p0), (4, .slice A950 (l952).length c951), (5, .int .i64 x955), (6, .int .i64 (IntKind.wrap .i64 (bt p0 x955))), (23, .bool (decide ((IntKind.wrap .i64 (bt p0 x955)) < (128 : Int))))]) rfl trivial fun a hk => ?_
    refine wpList_nil ?_
    refine then_n ?_
    cases b1189 : (decide ((IntKind.wrap .i64 (bt p0 x955)) < (128 : Int)))
    · rw [b1189] at hk H
      replace H := bifF H
      refine x_if hk (b := false) rfl ?_
      refine (show Code.wp _ _ _ _ _ from ?_)
      refine wp_skip ?_
      refine then_n ?_
      refine x_seq ?_
      refine wp_region_lit ?_
      refine x_run tab hk (k := 1) (lv := []) (ks := [0, 4, 5, 6, 31]) (e' := [(0, .string p0), (4, .slice A950 (l952).length c951), (5, .int .i64 x955), (6, .int .i64 (IntKind.wrap .i64 (bt p0 x955))), (31, .int .i64 (IntKind.wrap .i64 (bt p0 x955)))]) rfl trivial fun a hk => ?_
      refine x_op hk rfl ?_
      obtain ⟨t1193, hc1194, H⟩ := bindS H
      refine op_call hk ent_18 (vs := [.int .i64 (IntKind.wrap .i64 (bt p0 x955))]) rfl (tidewrackref05_need_calls (IntKind.wrap .i64 (bt p0 x955)) _ o949    _ hc1194) ?_
      rintro _ w1195 ⟨o1196, rfl, st1197⟩
      replace f953 := f953.st st1197 (by decide)
      replace hs := hs.loc0 st1197 (by decide)
      have hk := hk.put 32 (.tuple #[.int .i64 t1193.1, .int .i64 t1193.2.1, .int .i64 t1193.2.2]) rfl
      refine x_run tab hk (k := 7) (lv := []) (ks := [0, 4, 5, 6, 7, 8, 9]) (e' := [(0, .string p0), (4, .slice A950 (l952).length c951), (5, .int .i64 x955), (6, .int .i64 (IntKind.wrap .i64 (bt p0 x955))), (7, .int .i64 t1193.1), (8, .int .i64 t1193.2.1), (9, .int .i64 t1193.2.2)]) rfl trivial fun a hk => ?_
      refine wpList_nil ?_
      refine then_n ?_
      refine x_seq ?_
      refine x_seq ?_
      refine wp_region_lit ?_
      refine x_run tab hk (k := 2) (lv := []) (ks := [0, 4, 5, 6, 7, 8, 9, 37]) (e' := [(0, .string p0), (4, .slice A950 (l952).length c951), (5, .int .i64 x955), (6, .int .i64 (IntKind.wrap .i64 (bt p0 x955))), (7, .int .i64 t1193.1), (8, .int .i64 t1193.2.1), (9, .int .i64 t1193.2.2), (37, .bool (t1193.1 == (0 : Int)))]) rfl trivial fun a hk => ?_
      refine wpList_nil ?_
      refine then_n ?_
      cases b1198 : (t1193.1 == (0 : Int))
      · rw [b1198] at hk H
        replace H := bifF H
        refine x_if hk (b := false) rfl ?_
        refine (show Code.wp _ _ _ _ _ from ?_)
        refine wp_skip ?_
        refine then_n ?_
        refine x_seq ?_
        refine wp_region_lit ?_
        refine x_run tab hk (k := 1) (lv := []) (ks := [0, 4, 5, 7, 8, 9, 43]) (e' := [(0, .string p0), (4, .slice A950 (l952).length c951), (5, .int .i64 x955), (7, .int .i64 t1193.1), (8, .int .i64 t1193.2.1), (9, .int .i64 t1193.2.2), (43, .int .i64 (IntKind.wrap .i64 (bt p0 x955)))]) rfl trivial fun a hk => ?_
        refine x_op hk rfl ?_
        refine op_slice (o := o1196) tab hk (vs := [.int .i64 0, .int .i64 32, .int .i64 16, .int .i64 8]) (cs := [.int .i64 0, .int .i64 32, .int .i64 16, .int .i64 8]) rfl rfl rfl rfl rfl rfl rfl rfl rfl 117 fun bx1202 w1199 o1200 st1201 f1203 => ?_
        replace f953 := f953.st st1201 (by decide)
        replace hs := hs.loc0 st1201 (by decide)
        have f1204 : Ft (Own (encInt .i64) 3 (.slice (some ⟨bx1202, 0, none⟩) (([0, 32, 16, 8] : List Int)).length 4) ([0, 32, 16, 8] : List Int)) w1199 o1200 117 := f1203.imp fun _ h_ => Own.of_box h_ rfl (by simp)
        have hk := hk.put 44 (.slice (some ⟨bx1202, 0, none⟩) (([0, 32, 16, 8] : List Int)).length 4) rfl
        obtain ⟨q1205, H⟩ := ifS H
        obtain ⟨q1206, H⟩ := ifS H
        refine x_run tab hk (k := 5) (lv := [.int .i64 (rdD 0 ([0, 32, 16, 8] : List Int) t1193.1)]) (ks := [0, 4, 5, 7, 8, 9, 10]) (e' := [(0, .string p0), (4, .slice A950 (l952).length c951), (5, .int .i64 x955), (7, .int .i64 t1193.1), (8, .int .i64 t1193.2.1), (9, .int .i64 t1193.2.2), (10, .int .i64 (Int.tmod (IntKind.wrap .i64 (bt p0 x955)) (rdD 0 ([0, 32, 16, 8] : List Int) t1193.1)))]) rfl ⟨q1205, (load1 tab rfl (RdC.at0 (E := (encInt .i64)) (d := 0) (i := t1193.1) (Own.rd f1204.now) q1205 rfl)), q1206, trivial⟩ fun a hk => ?_
        refine wpList_nil ?_
        refine then_n ?_
        refine x_seq ?_
        refine wp_region_lit ?_
        refine x_run tab hk (k := 1) (lv := []) (ks := [0, 4, 5, 7, 8, 9, 10, 11]) (e' := [(0, .string p0), (4, .slice A950 (l952).length c951), (5, .int .i64 x955), (7, .int .i64 t1193.1), (8, .int .i64 t1193.2.1), (9, .int .i64 t1193.2.2), (10, .int .i64 (Int.tmod (IntKind.wrap .i64 (bt p0 x955)) (rdD 0 ([0, 32, 16, 8] : List Int) t1193.1))), (11, .int .i64 1)]) rfl trivial fun a hk => ?_
        refine wpList_nil ?_
        refine then_n ?_
        refine x_mid (fun a_ w_ => ∃ o1283 : Nat → Nat, ∃ x1284 : Int, ∃ x1285 : Int, Kn 103 a_ [(0, .string p0), (4, .slice A950 (l952).length c951), (5, .int .i64 x955), (7, .int .i64 t1193.1), (10, .int .i64 x1284), (11, .int .i64 x1285)] ∧ St [] w (fun _ => 0) w_ o1283 ∧ Ft (Own (encInt .i64) 3 (.slice A950 (l952).length c951) l952) w_ o1283 126 ∧ tidewrackref05_Runes_j3 p0 l952 x955 lp1185 t1193 x1284 x1285 = some r) ?_ ?_
        rotate_left
        · rintro a w1286 ⟨o1283, x1284, x1285, hk, hs, f953, H⟩
          rw [tidewrackref05_Runes_j3] at H
          refine x_seq ?_
          refine x_seq ?_
          refine wp_region_lit ?_
          refine x_run tab hk (k := 3) (lv := []) (ks := [0, 4, 5, 10, 11, 83]) (e' := [(0, .string p0), (4, .slice A950 (l952).length c951), (5, .int .i64 x955), (10, .int .i64 x1284), (11, .int .i64 x1285), (83, .bool (decide (x1285 > t1193.1)))]) rfl trivial fun a hk => ?_
          refine wpList_nil ?_
          refine then_n ?_
          cases b1287 : (decide (x1285 > t1193.1))
          · rw [b1287] at hk H
            replace H := bifF H
            refine x_if hk (b := false) rfl ?_
            refine (show Code.wp _ _ _ _ _ from ?_)
            refine x_seq ?_
            refine wp_region_lit ?_
            refine x_run tab hk (k := 6) (lv := []) (ks := [0, 4, 5, 11, 93]) (e' := [(0, .string p0), (4, .slice A950 (l952).length c951), (5, .int .i64 x955), (11, .int .i64 x1285), (93, .bool ((IntKind.wrap .i64 (x955 + x1285)) == ((p0).size : Int)))]) rfl trivial fun a hk => ?_
            refine wpList_nil ?_
            refine then_n ?_
            cases b1288 : ((IntKind.wrap .i64 (x955 + x1285)) == ((p0).size : Int))
            · rw [b1288] at hk H
              replace H := bifF H
              refine x_if hk (b := false) rfl ?_
              refine (show Code.wp _ _ _ _ _ from ?_)
              refine wp_region_lit ?_
              refine x_run tab hk (k := 1) (lv := []) (ks := [0, 5, 11, 96]) (e' := [(0, .string p0), (5, .int .i64 x955), (11, .int .i64 x1285), (96, .slice A950 (l952).length c951)]) rfl trivial fun a hk => ?_
              refine x_op hk rfl ?_
              refine op_slice (o := o1283) tab hk (vs := [.int .i64 65533]) (cs := [.int .i64 65533]) rfl rfl rfl rfl rfl rfl rfl rfl rfl 127 fun bx1292 w1289 o1290 st1291 f1293 => ?_
              replace f953 := f953.st st1291 (by decide)
              replace hs := hs.loc0 st1291 (by decide)
              have f1294 : Ft (Own (encInt .i64) 3 (.slice (some ⟨bx1292, 0, none⟩) (([65533] : List Int)).length 1) ([65533] : List Int)) w1289 o1290 127 := f1293.imp fun _ h_ => Own.of_box h_ rfl (by simp)
              have hk := hk.put 97 (.slice (some ⟨bx1292, 0, none⟩) (([65533] : List Int)).length 1) rfl
              refine x_op hk rfl ?_
              obtain ⟨q1298, H⟩ := ifS H
              refine op_append (o := o1290) (E := (encInt .i64)) (xs := l952) (ys := ([65533] : List Int)) tab hk rfl rfl rfl rfl rfl rfl rfl f953 (Own.rd f1294.now) q1298 fun A1299 c1300 w1295 o1296 st1297 f1301 hc1302 => ?_
              replace f1294 := f1294.st st1297 (by decide)
              replace hs := hs.loc0 st1297 (by decide)
              have hk := hk.put 98 (.slice A1299 ((l952 ++ ([65533] : List Int))).length c1300) rfl
              refine x_run tab hk (k := 1) (lv := []) (ks := [0, 4, 5, 11]) (e' := [(0, .string p0), (4, .slice A1299 ((l952 ++ ([65533] : List Int))).length c1300), (5, .int .i64 x955), (11, .int .i64 x1285)]) rfl trivial fun a hk => ?_
              refine wpList_nil ?_
              refine then_n ?_
              refine wp_region_lit ?_
              refine x_run tab hk (k := 4) (lv := []) (ks := [0, 4, 5]) (e' := [(0, .string p0), (4, .slice A1299 ((l952 ++ ([65533] : List Int))).length c1300), (5, .int .i64 (IntKind.wrap .i64 (x955 + x1285)))]) rfl trivial fun a hk => ?_
              refine wpList_nil ?_
              refine blk_n ?_
              refine then_n ?_
              exact ⟨k1184, Nat.le_refl _, (fun b_ => (fun l_ => if l_ = 126 then 94 else l_) (o1296 b_)), A1299, c1300, (l952 ++ ([65533] : List Int)), (IntKind.wrap .i64 (x955 + x1285)), (by exact Kn.pick (ks := [0, 4, 5]) hk rfl), (hs.relab0 (fun l_ => if l_ = 126 then 94 else l_) rfl), (f1301.relab (fun l_ => if l_ = 126 then 94 else l_) rfl), hc1302, (hlp1186 ▸ H)⟩
            · rw [b1288] at hk H
              replace H := bifT H
              refine x_if hk (b := true) rfl ?_
              refine (show Code.wp _ _ _ _ _ from ?_)
              refine x_seq ?_
              refine wp_region_lit ?_
              refine x_run tab hk (k := 4) (lv := []) (ks := [2, 3]) (e' := [(2, .slice A950 (l952).length c951), (3, .int .i64 x1285)]) rfl trivial fun a hk => ?_
              refine wpList_nil ?_
              refine then_n ?_
              refine wp_ret ?_
              refine then_r ?_
              refine blk_r ?_
              refine then_r ?_
              refine blk_r ?_
              refine then_r ?_
              obtain rfl := Option.some.inj H
              exact x_retG hk (rs := [.tmp 2, .tmp 3]) (vs := [.slice A950 (l952).length c951, .int .i64 x1285]) rfl ⟨rfl, rfl, trivial⟩ ⟨fun b_ => if b_ < w.heap.size then o b_ else (fun _ => R0) (o1283 b_), A950, c951, rfl, hs.close0 o (fun _ => R0), hs.close_ft (o := o) (ρ := fun _ => R0) f953 (by decide) rfl, hc954⟩
          · rw [b1287] at hk H
            replace H := bifT H
            refine x_if hk (b := true) rfl ?_
            refine (show Code.wp _ _ _ _ _ from ?_)
            refine wp_region_lit ?_
            refine x_run tab hk (k := 2) (lv := []) (ks := [0, 5, 11, 84, 85]) (e' := [(0, .string p0), (5, .int .i64 x955), (11, .int .i64 x1285), (84, .slice A950 (l952).length c951), (85, .int .i64 x1284)]) rfl trivial fun a hk => ?_
            refine x_op hk rfl ?_
            refine op_slice (o := o1283) tab hk (vs := [.int .i64 x1284]) (cs := [.int .i64 x1284]) rfl rfl rfl rfl rfl rfl rfl rfl rfl 128 fun bx1306 w1303 o1304 st1305 f1307 => ?_
            replace f953 := f953.st st1305 (by decide)
            replace hs := hs.loc0 st1305 (by decide)
            have f1308 : Ft (Own (encInt .i64) 3 (.slice (some ⟨bx1306, 0, none⟩) (([x1284] : List Int)).length 1) ([x1284] : List Int)) w1303 o1304 128 := f1307.imp fun _ h_ => Own.of_box h_ rfl (by simp)
            have hk := hk.put 86 (.slice (some ⟨bx1306, 0, none⟩) (([x1284] : List Int)).length 1) rfl
            refine x_op hk rfl ?_
            obtain ⟨q1312, H⟩ := ifS H
            refine op_append (o := o1304) (E := (encInt .i64)) (xs := l952) (ys := ([x1284] : List Int)) tab hk rfl rfl rfl rfl rfl rfl rfl f953 (Own.rd f1308.now) q1312 fun A1313 c1314 w1309 o1310 st1311 f1315 hc1316 => ?_
            replace f1308 := f1308.st st1311 (by decide)
            replace hs := hs.loc0 st1311 (by decide)
            have hk := hk.put 87 (.slice A1313 ((l952 ++ ([x1284] : List Int))).length c1314) rfl
            refine x_run tab hk (k := 1) (lv := []) (ks := [0, 4, 5, 11]) (e' := [(0, .string p0), (4, .slice A1313 ((l952 ++ ([x1284] : List Int))).length c1314), (5, .int .i64 x955), (11, .int .i64 x1285)]) rfl trivial fun a hk => ?_
            refine wpList_nil ?_
            refine then_n ?_
            refine wp_region_lit ?_
            refine x_run tab hk (k := 4) (lv := []) (ks := [0, 4, 5]) (e' := [(0, .string p0), (4, .slice A1313 ((l952 ++ ([x1284] : List Int))).length c1314), (5, .int .i64 (IntKind.wrap .i64 (x955 + x1285)))]) rfl trivial fun a hk => ?_
            refine wpList_nil ?_
            refine blk_n ?_
            refine then_n ?_
            exact ⟨k1184, Nat.le_refl _, (fun b_ => (fun l_ => if l_ = 126 then 94 else l_) (o1310 b_)), A1313, c1314, (l952 ++ ([x1284] : List Int)), (IntKind.wrap .i64 (x955 + x1285)), (by exact Kn.pick (ks := [0, 4, 5]) hk rfl), (hs.relab0 (fun l_ => if l_ = 126 then 94 else l_) rfl), (f1315.relab (fun l_ => if l_ = 126 then 94 else l_) rfl), hc1316, (hlp1186 ▸ H)⟩
        refine wp_block ?_
        refine x_loop (fun j_ a_ w_ => ∃ o1339 : Nat → Nat, ∃ x1340 : Int, ∃ x1341 : Int, ∃ x1342 : Int, ∃ x1343 : Int, Kn 103 a_ [(0, .string p0), (4, .slice A950 (l952).length c951), (5, .int .i64 x955), (7, .int .i64 t1193.1), (8, .int .i64 x1340), (9, .int .i64 x1341), (10, .int .i64 x1342), (11, .int .i64 x1343)] ∧ St [] w (fun _ => 0) w_ o1339 ∧ Ft (Own (encInt .i64) 3 (.slice A950 (l952).length c951) l952) w_ o1339 132 ∧ tidewrackref05_Runes_l4 p0 l952 x955 lp1185 t1193 j_ x1340 x1341 x1342 x1343 = some r) (k := K) ⟨(fun b_ => (fun l_ => if l_ = 94 then 132 else l_) (o1200 b_)), t1193.2.1, t1193.2.2, (Int.tmod (IntKind.wrap .i64 (bt p0 x955)) (rdD 0 ([0, 32, 16, 8] : List Int) t1193.1)), 1, (by exact Kn.pick (ks := [0, 4, 5, 7, 8, 9, 10, 11]) hk rfl), (hs.relab0 (fun l_ => if l_ = 94 then 132 else l_) rfl), (f953.relab (fun l_ => if l_ = 94 then 132 else l_) rfl), H⟩ (by rintro _ _ ⟨_, _, _, _, _, _, _, _, H_⟩; exact absurd (show (none : Option ((List Int) × Int)) = some r from H_) (by simp)) ?_
        rintro k1364 a w1363 ⟨o1339, x1340, x1341, x1342, x1343, hk, hs, f953, H⟩
        rw [tidewrackref05_Runes_l4] at H
        obtain ⟨lp1365, hlp1366⟩ : ∃ lp_, lp_ = tidewrackref05_Runes_l4 p0 l952 x955 lp1185 t1193 k1364 := ⟨_, rfl⟩
        rw [← hlp1366] at H
        refine x_mid (fun a_ w_ => ∃ o1372 : Nat → Nat, Kn 103 a_ [(0, .string p0), (4, .slice A950 (l952).length c951), (5, .int .i64 x955), (7, .int .i64 t1193.1), (8, .int .i64 x1340), (9, .int .i64 x1341), (10, .int .i64 x1342), (11, .int .i64 x1343)] ∧ St [] w (fun _ => 0) w_ o1372 ∧ Ft (Own (encInt .i64) 3 (.slice A950 (l952).length c951) l952) w_ o1372 135 ∧ tidewrackref05_Runes_j5 p0 l952 x955 lp1185 t1193 x1340 x1341 x1342 x1343 lp1365 = some r) ?_ ?_
        rotate_left
        · rintro a w1373 ⟨o1372, hk, hs, f953, H⟩
          rw [tidewrackref05_Runes_j5] at H
          refine wp_block ?_
          refine x_seq ?_
          refine wp_region_lit ?_
          obtain ⟨q1374, H⟩ := ifS H
          refine x_run tab hk (k := 7) (lv := []) (ks := [0, 4, 5, 7, 8, 9, 10, 11, 12]) (e' := [(0, .string p0), (4, .slice A950 (l952).length c951), (5, .int .i64 x955), (7, .int .i64 t1193.1), (8, .int .i64 x1340), (9, .int .i64 x1341), (10, .int .i64 x1342), (11, .int .i64 x1343), (12, .int .i64 (IntKind.wrap .i64 (bt p0 (IntKind.wrap .i64 (x955 + x1343)))))]) rfl ⟨q1374, trivial⟩ fun a hk => ?_
          refine wpList_nil ?_
          refine then_n ?_
          refine x_mid (fun a_ w_ => ∃ o1380 : Nat → Nat, Kn 103 a_ [(0, .string p0), (4, .slice A950 (l952).length c951), (5, .int .i64 x955), (7, .int .i64 t1193.1), (10, .int .i64 x1342), (11, .int .i64 x1343), (12, .int .i64 (IntKind.wrap .i64 (bt p0 (IntKind.wrap .i64 (x955 + x1343)))))] ∧ St [] w (fun _ => 0) w_ o1380 ∧ Ft (Own (encInt .i64) 3 (.slice A950 (l952).length c951) l952) w_ o1380 136 ∧ tidewrackref05_Runes_j6 p0 x955 x1342 x1343 lp1365 = some r) ?_ ?_
          rotate_left
          · rintro a w1381 ⟨o1380, hk, hs, f953, H⟩
            rw [tidewrackref05_Runes_j6] at H
            refine x_seq ?_
            refine wp_region_lit ?_
            refine x_run tab hk (k := 6) (lv := []) (ks := [0, 4, 5, 7, 10, 11]) (e' := [(0, .string p0), (4, .slice A950 (l952).length c951), (5, .int .i64 x955), (7, .int .i64 t1193.1), (10, .int .i64 (IntKind.wrap .i64 ((IntKind.wrap .i64 (x1342 * 64)) + (Int.tmod (IntKind.wrap .i64 (bt p0 (IntKind.wrap .i64 (x955 + x1343)))) 64)))), (11, .int .i64 x1343)]) rfl ⟨(show (64 : Int) ≠ 0 from by decide), trivial⟩ fun a hk => ?_
            refine wpList_nil ?_
            refine then_n ?_
            refine x_seq ?_
            refine wp_region_lit ?_
            refine x_run tab hk (k := 1) (lv := []) (ks := [0, 4, 5, 7, 8, 10, 11]) (e' := [(0, .string p0), (4, .slice A950 (l952).length c951), (5, .int .i64 x955), (7, .int .i64 t1193.1), (8, .int .i64 128), (10, .int .i64 (IntKind.wrap .i64 ((IntKind.wrap .i64 (x1342 * 64)) + (Int.tmod (IntKind.wrap .i64 (bt p0 (IntKind.wrap .i64 (x955 + x1343)))) 64)))), (11, .int .i64 x1343)]) rfl trivial fun a hk => ?_
            refine wpList_nil ?_
            refine then_n ?_
            refine x_seq ?_
            refine wp_region_lit ?_
            refine x_run tab hk (k := 1) (lv := []) (ks := [0, 4, 5, 7, 8, 9, 10, 11]) (e' := [(0, .string p0), (4, .slice A950 (l952).length c951), (5, .int .i64 x955), (7, .int .i64 t1193.1), (8, .int .i64 128), (9, .int .i64 191), (10, .int .i64 (IntKind.wrap .i64 ((IntKind.wrap .i64 (x1342 * 64)) + (Int.tmod (IntKind.wrap .i64 (bt p0 (IntKind.wrap .i64 (x955 + x1343)))) 64)))), (11, .int .i64 x1343)]) rfl trivial fun a hk => ?_
            refine wpList_nil ?_
            refine then_n ?_
            refine wp_region_lit ?_
            refine x_run tab hk (k := 3) (lv := []) (ks := [0, 4, 5, 7, 8, 9, 10, 11]) (e' := [(0, .string p0), (4, .slice A950 (l952).length c951), (5, .int .i64 x955), (7, .int .i64 t1193.1), (8, .int .i64 128), (9, .int .i64 191), (10, .int .i64 (IntKind.wrap .i64 ((IntKind.wrap .i64 (x1342 * 64)) + (Int.tmod (IntKind.wrap .i64 (bt p0 (IntKind.wrap .i64 (x955 + x1343)))) 64)))), (11, .int .i64 (IntKind.wrap .i64 (x1343 + 1)))]) rfl trivial fun a hk => ?_
            refine wpList_nil ?_
            refine blk_n ?_
            refine then_n ?_
            exact ⟨k1364, Nat.le_refl _, (fun b_ => (fun l_ => if l_ = 136 then 132 else l_) (o1380 b_)), 128, 191, (IntKind.wrap .i64 ((IntKind.wrap .i64 (x1342 * 64)) + (Int.tmod (IntKind.wrap .i64 (bt p0 (IntKind.wrap .i64 (x955 + x1343)))) 64))), (IntKind.wrap .i64 (x1343 + 1)), (by exact Kn.pick (ks := [0, 4, 5, 7, 8, 9, 10, 11]) hk rfl), (hs.relab0 (fun l_ => if l_ = 136 then 132 else l_) rfl), (f953.relab (fun l_ => if l_ = 136 then 132 else l_) rfl), (hlp1366 ▸ H)⟩
          refine x_seq ?_
          refine wp_region_lit ?_
          refine x_run tab hk (k := 4) (lv := []) (ks := [0, 4, 5, 7, 9, 10, 11, 12, 69]) (e' := [(0, .string p0), (4, .slice A950 (l952).length c951), (5, .int .i64 x955), (7, .int .i64 t1193.1), (9, .int .i64 x1341), (10, .int .i64 x1342), (11, .int .i64 x1343), (12, .int .i64 (IntKind.wrap .i64 (bt p0 (IntKind.wrap .i64 (x955 + x1343))))), (69, .bool (decide ((IntKind.wrap .i64 (bt p0 (IntKind.wrap .i64 (x955 + x1343)))) < x1340)))]) rfl trivial fun a hk => ?_
          cases b1382 : (decide ((IntKind.wrap .i64 (bt p0 (IntKind.wrap .i64 (x955 + x1343)))) < x1340))
          · rw [b1382] at hk H
            replace H := bifF H
            refine x_run tab hk (k := 4) (lv := []) (ks := [0, 4, 5, 7, 10, 11, 12, 73]) (e' := [(0, .string p0), (4, .slice A950 (l952).length c951), (5, .int .i64 x955), (7, .int .i64 t1193.1), (10, .int .i64 x1342), (11, .int .i64 x1343), (12, .int .i64 (IntKind.wrap .i64 (bt p0 (IntKind.wrap .i64 (x955 + x1343))))), (73, .bool (decide ((IntKind.wrap .i64 (bt p0 (IntKind.wrap .i64 (x955 + x1343)))) > x1341)))]) rfl trivial fun a hk => ?_
            refine wpList_nil ?_
            refine then_n ?_
            cases b1383 : (decide ((IntKind.wrap .i64 (bt p0 (IntKind.wrap .i64 (x955 + x1343)))) > x1341))
            · rw [b1383] at hk H
              replace H := bifF H
              refine x_if hk (b := false) rfl ?_
              refine (show Code.wp _ _ _ _ _ from ?_)
              refine wp_skip ?_
              refine then_n ?_
              exact ⟨(fun b_ => (fun l_ => if l_ = 135 then 136 else l_) (o1372 b_)), (by exact Kn.pick (ks := [0, 4, 5, 7, 10, 11, 12]) hk rfl), (hs.relab0 (fun l_ => if l_ = 135 then 136 else l_) rfl), (f953.relab (fun l_ => if l_ = 135 then 136 else l_) rfl), H⟩
            · rw [b1383] at hk H
              replace H := bifT H
              refine x_if hk (b := true) rfl ?_
              refine (show Code.wp _ _ _ _ _ from ?_)
              refine wp_exit ?_
              refine then_x ?_
              refine blk_y rfl ?_
              refine then_x ?_
              refine blk_x ?_
              refine then_n ?_
              exact ⟨(fun b_ => (fun l_ => if l_ = 135 then 126 else l_) (o1372 b_)), x1342, x1343, (by exact Kn.pick (ks := [0, 4, 5, 7, 10, 11]) hk rfl), (hs.relab0 (fun l_ => if l_ = 135 then 126 else l_) rfl), (f953.relab (fun l_ => if l_ = 135 then 126 else l_) rfl), H⟩
          · rw [b1382] at hk H
            replace H := bifT H
            refine x_run tab hk (k := 4) (lv := []) (ks := [0, 4, 5, 7, 10, 11, 12, 73]) (e' := [(0, .string p0), (4, .slice A950 (l952).length c951), (5, .int .i64 x955), (7, .int .i64 t1193.1), (10, .int .i64 x1342), (11, .int .i64 x1343), (12, .int .i64 (IntKind.wrap .i64 (bt p0 (IntKind.wrap .i64 (x955 + x1343))))), (73, .bool true)]) rfl trivial fun a hk => ?_
            refine wpList_nil ?_
            refine then_n ?_
            refine x_if hk (b := true) rfl ?_
            refine (show Code.wp _ _ _ _ _ from ?_)
            refine wp_exit ?_
            refine then_x ?_
            refine blk_y rfl ?_
            refine then_x ?_
            refine blk_x ?_
            refine then_n ?_
            exact ⟨(fun b_ => (fun l_ => if l_ = 135 then 126 else l_) (o1372 b_)), x1342, x1343, (by exact Kn.pick (ks := [0, 4, 5, 7, 10, 11]) hk rfl), (hs.relab0 (fun l_ => if l_ = 135 then 126 else l_) rfl), (f953.relab (fun l_ => if l_ = 135 then 126 else l_) rfl), H⟩
        refine x_seq ?_
        refine wp_region_lit ?_
        refine x_run tab hk (k := 4) (lv := []) (ks := [0, 4, 5, 7, 8, 9, 10, 11, 52]) (e' := [(0, .string p0), (4, .slice A950 (l952).length c951), (5, .int .i64 x955), (7, .int .i64 t1193.1), (8, .int .i64 x1340), (9, .int .i64 x1341), (10, .int .i64 x1342), (11, .int .i64 x1343), (52, .bool (decide (x1343 ≤ t1193.1)))]) rfl trivial fun a hk => ?_
        cases b1384 : (decide (x1343 ≤ t1193.1))
        · rw [b1384] at hk H
          replace H := bifF H
          refine x_run tab hk (k := 7) (lv := []) (ks := [0, 4, 5, 7, 8, 9, 10, 11, 59]) (e' := [(0, .string p0), (4, .slice A950 (l952).length c951), (5, .int .i64 x955), (7, .int .i64 t1193.1), (8, .int .i64 x1340), (9, .int .i64 x1341), (10, .int .i64 x1342), (11, .int .i64 x1343), (59, .bool false)]) rfl trivial fun a hk => ?_
          refine wpList_nil ?_
          refine then_n ?_
          refine x_if hk (b := false) rfl ?_
          refine (show Code.wp _ _ _ _ _ from ?_)
          refine wp_exit ?_
          refine then_x ?_
          refine then_x ?_
          refine blk_x ?_
          refine then_n ?_
          exact ⟨(fun b_ => (fun l_ => if l_ = 132 then 126 else l_) (o1339 b_)), x1342, x1343, (by exact Kn.pick (ks := [0, 4, 5, 7, 10, 11]) hk rfl), (hs.relab0 (fun l_ => if l_ = 132 then 126 else l_) rfl), (f953.relab (fun l_ => if l_ = 132 then 126 else l_) rfl), H⟩
        · rw [b1384] at hk H
          replace H := bifT H
          refine x_run tab hk (k := 7) (lv := []) (ks := [0, 4, 5, 7, 8, 9, 10, 11, 59]) (e' := [(0, .string p0), (4, .slice A950 (l952).length c951), (5, .int .i64 x955), (7, .int .i64 t1193.1), (8, .int .i64 x1340), (9, .int .i64 x1341), (10, .int .i64 x1342), (11, .int .i64 x1343), (59, .bool (decide ((IntKind.wrap .i64 (x955 + x1343)) < ((p0).size : Int))))]) rfl trivial fun a hk => ?_
          refine wpList_nil ?_
          refine then_n ?_
          cases b1385 : (decide ((IntKind.wrap .i64 (x955 + x1343)) < ((p0).size : Int)))
          · rw [b1385] at hk H
            replace H := bifF H
            refine x_if hk (b := false) rfl ?_
            refine (show Code.wp _ _ _ _ _ from ?_)
            refine wp_exit ?_
            refine then_x ?_
            refine then_x ?_
            refine blk_x ?_
            refine then_n ?_
            exact ⟨(fun b_ => (fun l_ => if l_ = 132 then 126 else l_) (o1339 b_)), x1342, x1343, (by exact Kn.pick (ks := [0, 4, 5, 7, 10, 11]) hk rfl), (hs.relab0 (fun l_ => if l_ = 132 then 126 else l_) rfl), (f953.relab (fun l_ => if l_ = 132 then 126 else l_) rfl), H⟩
          · rw [b1385] at hk H
            replace H := bifT H
            refine x_if hk (b := true) rfl ?_
            refine (show Code.wp _ _ _ _ _ from ?_)
            refine wp_skip ?_
            refine then_n ?_
            exact ⟨(fun b_ => (fun l_ => if l_ = 132 then 135 else l_) (o1339 b_)), (by exact Kn.pick (ks := [0, 4, 5, 7, 8, 9, 10, 11]) hk rfl), (hs.relab0 (fun l_ => if l_ = 132 then 135 else l_) rfl), (f953.relab (fun l_ => if l_ = 132 then 135 else l_) rfl), H⟩
      · rw [b1198] at hk H
        replace H := bifT H
        refine x_if hk (b := true) rfl ?_
        refine (show Code.wp _ _ _ _ _ from ?_)
        refine x_seq ?_
        refine wp_region_lit ?_
        refine x_run tab hk (k := 1) (lv := []) (ks := [0, 5, 38]) (e' := [(0, .string p0), (5, .int .i64 x955), (38, .slice A950 (l952).length c951)]) rfl trivial fun a hk => ?_
        refine x_op hk rfl ?_
        refine op_slice (o := o1196) tab hk (vs := [.int .i64 65533]) (cs := [.int .i64 65533]) rfl rfl rfl rfl rfl rfl rfl rfl rfl 137 fun bx1389 w1386 o1387 st1388 f1390 => ?_
        replace f953 := f953.st st1388 (by decide)
        replace hs := hs.loc0 st1388 (by decide)
        have f1391 : Ft (Own (encInt .i64) 3 (.slice (some ⟨bx1389, 0, none⟩) (([65533] : List Int)).length 1) ([65533] : List Int)) w1386 o1387 137 := f1390.imp fun _ h_ => Own.of_box h_ rfl (by simp)
        have hk := hk.put 39 (.slice (some ⟨bx1389, 0, none⟩) (([65533] : List Int)).length 1) rfl
        refine x_op hk rfl ?_
        obtain ⟨q1395, H⟩ := ifS H
        refine op_append (o := o1387) (E := (encInt .i64)) (xs := l952) (ys := ([65533] : List Int)) tab hk rfl rfl rfl rfl rfl rfl rfl f953 (Own.rd f1391.now) q1395 fun A1396 c1397 w1392 o1393 st1394 f1398 hc1399 => ?_
        replace f1391 := f1391.st st1394 (by decide)
        replace hs := hs.loc0 st1394 (by decide)
        have hk := hk.put 40 (.slice A1396 ((l952 ++ ([65533] : List Int))).length c1397) rfl
        refine x_run tab hk (k := 1) (lv := []) (ks := [0, 4, 5]) (e' := [(0, .string p0), (4, .slice A1396 ((l952 ++ ([65533] : List Int))).length c1397), (5, .int .i64 x955)]) rfl trivial fun a hk => ?_
        refine wpList_nil ?_
        refine then_n ?_
        refine x_seq ?_
        refine wp_region_lit ?_
        refine x_run tab hk (k := 3) (lv := []) (ks := [0, 4, 5]) (e' := [(0, .string p0), (4, .slice A1396 ((l952 ++ ([65533] : List Int))).length c1397), (5, .int .i64 (IntKind.wrap .i64 (x955 + 1)))]) rfl trivial fun a hk => ?_
        refine wpList_nil ?_
        refine then_n ?_
        refine wp_exit ?_
        refine then_x ?_
        refine blk_x ?_
        refine then_n ?_
        exact ⟨k1184, Nat.le_refl _, o1393, A1396, c1397, (l952 ++ ([65533] : List Int)), (IntKind.wrap .i64 (x955 + 1)), (by exact Kn.pick (ks := [0, 4, 5]) hk rfl), hs, f1398, hc1399, (hlp1186 ▸ H)⟩
    · rw [b1189] at hk H
      replace H := bifT H
      refine x_if hk (b := true) rfl ?_
      refine (show Code.wp _ _ _ _ _ from ?_)
      refine x_seq ?_
      refine wp_region_lit ?_
      refine x_run tab hk (k := 2) (lv := []) (ks := [0, 5, 24, 25]) (e' := [(0, .string p0), (5, .int .i64 x955), (24, .slice A950 (l952).length c951), (25, .int .i64 (IntKind.wrap .i64 (bt p0 x955)))]) rfl trivial fun a hk => ?_
      refine x_op hk rfl ?_
      refine op_slice (o := o949) tab hk (vs := [.int .i64 (IntKind.wrap .i64 (bt p0 x955))]) (cs := [.int .i64 (IntKind.wrap .i64 (bt p0 x955))]) rfl rfl rfl rfl rfl rfl rfl rfl rfl 138 fun bx1403 w1400 o1401 st1402 f1404 => ?_
      replace f953 := f953.st st1402 (by decide)
      replace hs := hs.loc0 st1402 (by decide)
      have f1405 : Ft (Own (encInt .i64) 3 (.slice (some ⟨bx1403, 0, none⟩) (([(IntKind.wrap .i64 (bt p0 x955))] : List Int)).length 1) ([(IntKind.wrap .i64 (bt p0 x955))] : List Int)) w1400 o1401 138 := f1404.imp fun _ h_ => Own.of_box h_ rfl (by simp)
      have hk := hk.put 26 (.slice (some ⟨bx1403, 0, none⟩) (([(IntKind.wrap .i64 (bt p0 x955))] : List Int)).length 1) rfl
      refine x_op hk rfl ?_
      obtain ⟨q1409, H⟩ := ifS H
      refine op_append (o := o1401) (E := (encInt .i64)) (xs := l952) (ys := ([(IntKind.wrap .i64 (bt p0 x955))] : List Int)) tab hk rfl rfl rfl rfl rfl rfl rfl f953 (Own.rd f1405.now) q1409 fun A1410 c1411 w1406 o1407 st1408 f1412 hc1413 => ?_
      replace f1405 := f1405.st st1408 (by decide)
      replace hs := hs.loc0 st1408 (by decide)
      have hk := hk.put 27 (.slice A1410 ((l952 ++ ([(IntKind.wrap .i64 (bt p0 x955))] : List Int))).length c1411) rfl
      refine x_run tab hk (k := 1) (lv := []) (ks := [0, 4, 5]) (e' := [(0, .string p0), (4, .slice A1410 ((l952 ++ ([(IntKind.wrap .i64 (bt p0 x955))] : List Int))).length c1411), (5, .int .i64 x955)]) rfl trivial fun a hk => ?_
      refine wpList_nil ?_
      refine then_n ?_
      refine x_seq ?_
      refine wp_region_lit ?_
      refine x_run tab hk (k := 3) (lv := []) (ks := [0, 4, 5]) (e' := [(0, .string p0), (4, .slice A1410 ((l952 ++ ([(IntKind.wrap .i64 (bt p0 x955))] : List Int))).length c1411), (5, .int .i64 (IntKind.wrap .i64 (x955 + 1)))]) rfl trivial fun a hk => ?_
      refine wpList_nil ?_
      refine then_n ?_
      refine wp_exit ?_
      refine then_x ?_
      refine blk_x ?_
      refine then_n ?_
      exact ⟨k1184, Nat.le_refl _, o1407, A1410, c1411, (l952 ++ ([(IntKind.wrap .i64 (bt p0 x955))] : List Int)), (IntKind.wrap .i64 (x955 + 1)), (by exact Kn.pick (ks := [0, 4, 5]) hk rfl), hs, f1412, hc1413, (hlp1186 ▸ H)⟩

/-! tidewrack/tidewracklaw05.GlyphDecodes -/
theorem tidewracklaw05_GlyphDecodes_calls (K : Nat) (p0 : ByteArray) (w : World) (o : Nat → Nat) (Lg0 : Nat) (hg0 : Ft (RdC ET47 (some ⟨0, 0, none⟩) glob0) w o Lg0)  (r : Bool) (H : tidewracklaw05_GlyphDecodes K p0 = some r) :
    Calls Tryd.prog 3 #[.string p0] w (Ret fun v_ w' => ∃ o' : Nat → Nat, v_ = .bool r ∧ St [] w o w' o') := by
  refine x_enter (vs := [.string p0]) Tryd.func3 rfl rfl rfl fun a hk => ?_
  obtain ⟨o0, hs, h0⟩ := St.start w o
  have fg0 := h0 _ _ hg0
  clear h0
  rw [tidewracklaw05_GlyphDecodes] at H
  refine x_seq ?_
  refine wp_region_lit ?_
  refine x_run tab hk (k := 1) (lv := []) (ks := [0]) (e' := [(0, .string p0)]) rfl trivial fun a hk => ?_
  refine wpList_nil ?_
  refine then_n ?_
  refine x_seq ?_
  refine x_seq ?_
  refine wp_region_lit ?_
  refine x_op hk rfl ?_
  obtain ⟨t4, hc5, H⟩ := bindS H
  refine op_call hk ent_8 (vs := []) rfl (tidewracklaw05_awake_calls K  _ o0 0 fg0   _ hc5) ?_
  rintro _ w6 ⟨o7, rfl, st8⟩
  replace fg0 := fg0.st st8 (by decide)
  replace hs := hs.loc0 st8 (by decide)
  have hk := hk.put 8 (.bool t4) rfl
  refine x_run tab hk (k := 1) (lv := []) (ks := [0, 9]) (e' := [(0, .string p0), (9, .bool (!t4))]) rfl trivial fun a hk => ?_
  refine wpList_nil ?_
  refine then_n ?_
  cases b9 : (!t4)
  · rw [b9] at hk H
    replace H := bifF H
    refine x_if hk (b := false) rfl ?_
    refine (show Code.wp _ _ _ _ _ from ?_)
    refine wp_skip ?_
    refine then_n ?_
    refine x_seq ?_
    refine wp_region_lit ?_
    refine x_run tab hk (k := 1) (lv := []) (ks := [10]) (e' := [(10, .string p0)]) rfl trivial fun a hk => ?_
    refine x_op hk rfl ?_
    obtain ⟨t13, hc14, H⟩ := bindS H
    refine op_call hk ent_9 (vs := [.string p0, .int .i64 80]) rfl (tidewracklaw01_Cut_calls p0 80 _ o7    _ hc14) ?_
    rintro _ w15 ⟨o16, rfl, st17⟩
    replace fg0 := fg0.st st17 (by decide)
    replace hs := hs.loc0 st17 (by decide)
    have hk := hk.put 11 (.string t13) rfl
    refine x_run tab hk (k := 1) (lv := []) (ks := [0]) (e' := [(0, .string t13)]) rfl trivial fun a hk => ?_
    refine wpList_nil ?_
    refine then_n ?_
    refine x_seq ?_
    refine wp_region_lit ?_
    refine x_run tab hk (k := 2) (lv := []) (ks := [0, 13, 14]) (e' := [(0, .string t13), (13, .agg #[.int .u8 0, .int .i32 0, .int .i64 0]), (14, .string t13)]) rfl trivial fun a hk => ?_
    refine x_op hk rfl ?_
    obtain ⟨t21, hc22, H⟩ := bindS H
    refine op_call hk ent_10 (vs := [.agg #[.int .u8 0, .int .i32 0, .int .i64 0], .string t13]) rfl (glyph_Decoder_Run_calls K (⟨0, 0, 0⟩ : T24) t13 _ o16 0 fg0 1  _ hc22) ?_
    rintro _ w23 ⟨o24, A26, c27, rfl, st25, f28, hc29⟩
    replace fg0 := fg0.st st25 (by decide)
    replace hs := hs.loc0 st25 (by decide)
    have hk := hk.put 15 (.tuple #[.agg #[.int .u8 t21.1.Lead, .int .i32 t21.1.Rune, .int .i64 t21.1.Need], .slice A26 (t21.2).length c27]) rfl
    refine x_run tab hk (k := 3) (lv := []) (ks := [0, 16, 17]) (e' := [(0, .string t13), (16, .agg #[.int .u8 t21.1.Lead, .int .i32 t21.1.Rune, .int .i64 t21.1.Need]), (17, .slice A26 (t21.2).length c27)]) rfl trivial fun a hk => ?_
    refine x_op hk rfl ?_
    refine op_alloc (o := o24) tab (t := 25) (cs := [.int .u8 0, .int .i32 0, .int .i64 0]) rfl rfl 2 fun bx33 w30 o31 st32 f34 => ?_
    replace f28 := f28.st st32 (by decide)
    replace fg0 := fg0.st st32 (by decide)
    replace hs := hs.loc0 st32 (by decide)
    have hk := hk.put 3 (.pointer (some ⟨bx33, 0, none⟩)) rfl
    refine x_op hk rfl ?_
    refine op_store tab hk (t := 25) (v := .agg #[.int .u8 t21.1.Lead, .int .i32 t21.1.Rune, .int .i64 t21.1.Need]) (b := bx33) (k := 0) (cs' := [.int .u8 t21.1.Lead, .int .i32 t21.1.Rune, .int .i64 t21.1.Need]) rfl rfl rfl rfl rfl rfl f34 rfl rfl fun w35 o36 st37 f34_ => ?_
    replace f28 := f28.st st37 (by decide)
    replace fg0 := fg0.st st37 (by decide)
    replace hs := hs.loc0 st37 (by decide)
    replace f34 := f34_
    refine x_run tab hk (k := 1) (lv := []) (ks := [0, 3, 4]) (e' := [(0, .string t13), (3, .pointer (some ⟨bx33, 0, none⟩)), (4, .slice A26 (t21.2).length c27)]) rfl trivial fun a hk => ?_
    refine wpList_nil ?_
    refine then_n ?_
    refine x_seq ?_
    refine wp_region_lit ?_
    refine x_run tab hk (k := 1) (lv := []) (ks := [0, 3, 4, 19]) (e' := [(0, .string t13), (3, .pointer (some ⟨bx33, 0, none⟩)), (4, .slice A26 (t21.2).length c27), (19, .string t13)]) rfl trivial fun a hk => ?_
    refine x_op hk rfl ?_
    obtain ⟨t41, hc42, H⟩ := bindS H
    refine op_call hk ent_11 (vs := [.string t13]) rfl (tidewrackref05_Runes_calls K t13 _ o36  3  _ hc42) ?_
    rintro _ w43 ⟨o44, A46, c47, rfl, st45, f48, hc49⟩
    replace f28 := f28.st st45 (by decide)
    replace f34 := f34.st st45 (by decide)
    replace fg0 := fg0.st st45 (by decide)
    replace hs := hs.loc0 st45 (by decide)
    have hk := hk.put 20 (.tuple #[.slice A46 (t41.1).length c47, .int .i64 t41.2]) rfl
    refine x_run tab hk (k := 5) (lv := []) (ks := [0, 3, 4, 5, 6]) (e' := [(0, .string t13), (3, .pointer (some ⟨bx33, 0, none⟩)), (4, .slice A26 (t21.2).length c27), (5, .slice A46 (t41.1).length c47), (6, .int .i64 t41.2)]) rfl trivial fun a hk => ?_
    refine wpList_nil ?_
    refine then_n ?_
    refine x_seq ?_
    refine wp_region_lit ?_
    refine x_op hk rfl ?_
    refine op_slice (o := o44) tab hk (vs := []) (cs := []) rfl rfl rfl rfl rfl rfl rfl rfl rfl 4 fun bx53 w50 o51 st52 f54 => ?_
    replace f28 := f28.st st52 (by decide)
    replace f34 := f34.st st52 (by decide)
    replace f48 := f48.st st52 (by decide)
    replace fg0 := fg0.st st52 (by decide)
    replace hs := hs.loc0 st52 (by decide)
    have f55 : Ft (Own (encInt .i64) 3 (.slice (some ⟨bx53, 0, none⟩) (([] : List Int)).length 0) ([] : List Int)) w50 o51 4 := f54.imp fun _ h_ => Own.of_box h_ rfl (by simp)
    have hk := hk.put 23 (.slice (some ⟨bx53, 0, none⟩) (([] : List Int)).length 0) rfl
    refine x_run tab hk (k := 1) (lv := []) (ks := [0, 3, 4, 5, 6, 23, 24]) (e' := [(0, .string t13), (3, .pointer (some ⟨bx33, 0, none⟩)), (4, .slice A26 (t21.2).length c27), (5, .slice A46 (t41.1).length c47), (6, .int .i64 t41.2), (23, .slice (some ⟨bx53, 0, none⟩) (([] : List Int)).length 0), (24, .slice A46 (t41.1).length c47)]) rfl trivial fun a hk => ?_
    refine x_op hk rfl ?_
    obtain ⟨q59, H⟩ := ifS H
    refine op_append (o := o51) (E := (encInt .i64)) (xs := ([] : List Int)) (ys := t41.1) tab hk rfl rfl rfl rfl rfl rfl rfl f55 (Own.rd f48.now) q59 fun A60 c61 w56 o57 st58 f62 hc63 => ?_
    replace f28 := f28.st st58 (by decide)
    replace f34 := f34.st st58 (by decide)
    replace f48 := f48.st st58 (by decide)
    replace fg0 := fg0.st st58 (by decide)
    replace hs := hs.loc0 st58 (by decide)
    have hk := hk.put 25 (.slice A60 ((([] : List Int) ++ t41.1)).length c61) rfl
    refine x_run tab hk (k := 1) (lv := []) (ks := [0, 3, 4, 5, 6, 7]) (e' := [(0, .string t13), (3, .pointer (some ⟨bx33, 0, none⟩)), (4, .slice A26 (t21.2).length c27), (5, .slice A46 (t41.1).length c47), (6, .int .i64 t41.2), (7, .slice A60 ((([] : List Int) ++ t41.1)).length c61)]) rfl trivial fun a hk => ?_
    refine wpList_nil ?_
    refine then_n ?_
    refine x_mid (fun a_ w_ => ∃ o89 : Nat → Nat, ∃ A90 : Option Addr, ∃ c91 : Nat, ∃ l92 : List Int, Kn 68 a_ [(0, .string t13), (3, .pointer (some ⟨bx33, 0, none⟩)), (4, .slice A26 (t21.2).length c27), (5, .slice A46 (t41.1).length c47), (6, .int .i64 t41.2), (7, .slice A90 (l92).length c91)] ∧ St [] w (fun _ => 0) w_ o89 ∧ Ft (Own (encInt .i32) 21 (.slice A26 (t21.2).length c27) t21.2) w_ o89 7 ∧ Ft (Bx bx33 25 [.int .u8 t21.1.Lead, .int .i32 t21.1.Rune, .int .i64 t21.1.Need]) w_ o89 6 ∧ Ft (Own (encInt .i64) 3 (.slice A46 (t41.1).length c47) t41.1) w_ o89 8 ∧ Ft (Own (encInt .i64) 3 (.slice A90 (l92).length c91) l92) w_ o89 9 ∧ Ft (RdC ET47 (some ⟨0, 0, none⟩) glob0) w_ o89 0 ∧ (l92).length ≤ c91 ∧ tidewracklaw05_GlyphDecodes_j1 K t13 t21 t41 l92 = some r) ?_ ?_
    rotate_left
    · rintro a w95 ⟨o89, A90, c91, l92, hk, hs, f28, f34, f48, f93, fg0, hc94, H⟩
      rw [tidewracklaw05_GlyphDecodes_j1] at H
      refine x_seq ?_
      refine wp_region_lit ?_
      refine x_run tab hk (k := 2) (lv := []) (ks := [0, 3, 5, 6, 7, 31, 32]) (e' := [(0, .string t13), (3, .pointer (some ⟨bx33, 0, none⟩)), (5, .slice A46 (t41.1).length c47), (6, .int .i64 t41.2), (7, .slice A90 (l92).length c91), (31, .slice A26 (t21.2).length c27), (32, .slice A46 (t41.1).length c47)]) rfl trivial fun a hk => ?_
      refine x_op hk rfl ?_
      obtain ⟨t99, hc100, H⟩ := bindS H
      refine op_call hk ent_12 (vs := [.slice A26 (t21.2).length c27, .slice A46 (t41.1).length c47]) rfl (tidewracklaw05_Same_calls K A26 c27 t21.2 A46 c47 t41.1 _ o89 _ (f28.imp fun _ h_ => Own.rd h_) hc29 _ (f48.imp fun _ h_ => Own.rd h_) hc49   _ hc100) ?_
      rintro _ w101 ⟨o102, rfl, st103⟩
      replace f28 := f28.st st103 (by decide)
      replace f34 := f34.st st103 (by decide)
      replace f48 := f48.st st103 (by decide)
      replace f93 := f93.st st103 (by decide)
      replace fg0 := fg0.st st103 (by decide)
      replace hs := hs.loc0 st103 (by decide)
      have hk := hk.put 33 (.bool t99) rfl
      refine x_run tab hk (k := 1) (lv := []) (ks := [0, 3, 5, 6, 7, 34]) (e' := [(0, .string t13), (3, .pointer (some ⟨bx33, 0, none⟩)), (5, .slice A46 (t41.1).length c47), (6, .int .i64 t41.2), (7, .slice A90 (l92).length c91), (34, .bool t99)]) rfl trivial fun a hk => ?_
      cases b104 : t99
      · rw [b104] at hk H
        replace H := bifF H
        refine x_run tab hk (k := 15) (lv := []) (ks := [0, 3, 5, 7, 42, 49]) (e' := [(0, .string t13), (3, .pointer (some ⟨bx33, 0, none⟩)), (5, .slice A46 (t41.1).length c47), (7, .slice A90 (l92).length c91), (42, .bool false), (49, undef)]) rfl trivial fun a hk => ?_
        refine x_run tab hk (k := 17) (lv := []) (ks := [57, 66]) (e' := [(57, .bool false), (66, undef)]) rfl trivial fun a hk => ?_
        refine x_run tab hk (k := 2) (lv := []) (ks := [2]) (e' := [(2, .bool false)]) rfl trivial fun a hk => ?_
        refine wpList_nil ?_
        refine then_n ?_
        refine wp_ret ?_
        obtain rfl := Option.some.inj H
        exact x_retG hk (rs := [.tmp 2]) (vs := [.bool false]) rfl ⟨rfl, trivial⟩ ⟨fun b_ => if b_ < w.heap.size then o b_ else (fun _ => 0) (o102 b_), rfl, hs.close0 o (fun _ => 0)⟩
      · rw [b104] at hk H
        replace H := bifT H
        refine x_run tab hk (k := 8) (lv := [.int .i64 t21.1.Need]) (ks := [0, 3, 5, 6, 7, 42]) (e' := [(0, .string t13), (3, .pointer (some ⟨bx33, 0, none⟩)), (5, .slice A46 (t41.1).length c47), (6, .int .i64 t41.2), (7, .slice A90 (l92).length c91), (42, .bool ((decide (t21.1.Need > (0 : Int))) == (decide (t41.2 > (0 : Int)))))]) rfl ⟨(load1 tab rfl ((Bx.cell f34.now 2).trans rfl)), trivial⟩ fun a hk => ?_
        cases b105 : ((decide (t21.1.Need > (0 : Int))) == (decide (t41.2 > (0 : Int))))
        · rw [b105] at hk H
          replace H := bifF H
          refine x_run tab hk (k := 13) (lv := []) (ks := [3, 5, 7, 51, 55]) (e' := [(3, .pointer (some ⟨bx33, 0, none⟩)), (5, .slice A46 (t41.1).length c47), (7, .slice A90 (l92).length c91), (51, .bool false), (55, undef)]) rfl trivial fun a hk => ?_
          refine x_run tab hk (k := 11) (lv := []) (ks := [57, 66]) (e' := [(57, .bool false), (66, undef)]) rfl trivial fun a hk => ?_
          refine x_run tab hk (k := 2) (lv := []) (ks := [2]) (e' := [(2, .bool false)]) rfl trivial fun a hk => ?_
          refine wpList_nil ?_
          refine then_n ?_
          refine wp_ret ?_
          obtain rfl := Option.some.inj H
          exact x_retG hk (rs := [.tmp 2]) (vs := [.bool false]) rfl ⟨rfl, trivial⟩ ⟨fun b_ => if b_ < w.heap.size then o b_ else (fun _ => 0) (o102 b_), rfl, hs.close0 o (fun _ => 0)⟩
        · rw [b105] at hk H
          replace H := bifT H
          refine x_run tab hk (k := 3) (lv := []) (ks := [0, 3, 5, 7, 42, 45]) (e' := [(0, .string t13), (3, .pointer (some ⟨bx33, 0, none⟩)), (5, .slice A46 (t41.1).length c47), (7, .slice A90 (l92).length c91), (42, .bool true), (45, .bool (decide (t41.2 > (0 : Int))))]) rfl trivial fun a hk => ?_
          cases b106 : (decide (t41.2 > (0 : Int)))
          · rw [b106] at hk H
            replace H := bifF H
            refine x_run tab hk (k := 6) (lv := [.agg #[.int .u8 t21.1.Lead, .int .i32 t21.1.Rune, .int .i64 t21.1.Need], .bool (eqT24 t21.1 (⟨0, 0, 0⟩ : T24))]) (ks := [0, 3, 5, 7, 51]) (e' := [(0, .string t13), (3, .pointer (some ⟨bx33, 0, none⟩)), (5, .slice A46 (t41.1).length c47), (7, .slice A90 (l92).length c91), (51, .bool (eqT24 t21.1 (⟨0, 0, 0⟩ : T24)))]) rfl ⟨(load_box tab rfl rfl f34.now (k := 0) rfl rfl), (ask_eq tab stood rfl rfl rfl rfl), trivial⟩ fun a hk => ?_
            cases b107 : (eqT24 t21.1 (⟨0, 0, 0⟩ : T24))
            · rw [b107] at hk H
              replace H := bifF H
              refine x_run tab hk (k := 15) (lv := []) (ks := [57, 66]) (e' := [(57, .bool false), (66, undef)]) rfl trivial fun a hk => ?_
              refine x_run tab hk (k := 2) (lv := []) (ks := [2]) (e' := [(2, .bool false)]) rfl trivial fun a hk => ?_
              refine wpList_nil ?_
              refine then_n ?_
              refine wp_ret ?_
              obtain rfl := Option.some.inj H
              exact x_retG hk (rs := [.tmp 2]) (vs := [.bool false]) rfl ⟨rfl, trivial⟩ ⟨fun b_ => if b_ < w.heap.size then o b_ else (fun _ => 0) (o102 b_), rfl, hs.close0 o (fun _ => 0)⟩
            · rw [b107] at hk H
              replace H := bifT H
              refine x_run tab hk (k := 1) (lv := []) (ks := [3, 5, 7, 51, 52]) (e' := [(3, .pointer (some ⟨bx33, 0, none⟩)), (5, .slice A46 (t41.1).length c47), (7, .slice A90 (l92).length c91), (51, .bool true), (52, .string t13)]) rfl trivial fun a hk => ?_
              refine x_op hk rfl ?_
              obtain ⟨t111, hc112, H⟩ := bindS H
              refine op_call hk ent_13 (vs := [.string t13]) rfl (glyph_Decode_calls K t13 _ o102 0 fg0 10  _ hc112) ?_
              rintro _ w113 ⟨o114, A116, c117, rfl, st115, f118, hc119⟩
              replace f34 := f34.st st115 (by decide)
              replace f48 := f48.st st115 (by decide)
              replace f93 := f93.st st115 (by decide)
              replace fg0 := fg0.st st115 (by decide)
              replace hs := hs.loc0 st115 (by decide)
              have hk := hk.put 53 (.slice A116 (t111).length c117) rfl
              refine x_run tab hk (k := 1) (lv := []) (ks := [3, 5, 7, 51, 53, 54]) (e' := [(3, .pointer (some ⟨bx33, 0, none⟩)), (5, .slice A46 (t41.1).length c47), (7, .slice A90 (l92).length c91), (51, .bool true), (53, .slice A116 (t111).length c117), (54, .slice A90 (l92).length c91)]) rfl trivial fun a hk => ?_
              refine x_op hk rfl ?_
              obtain ⟨t123, hc124, H⟩ := bindS H
              refine op_call hk ent_12 (vs := [.slice A116 (t111).length c117, .slice A90 (l92).length c91]) rfl (tidewracklaw05_Same_calls K A116 c117 t111 A90 c91 l92 _ o114 _ (f118.imp fun _ h_ => Own.rd h_) hc119 _ (f93.imp fun _ h_ => Own.rd h_) hc94   _ hc124) ?_
              rintro _ w125 ⟨o126, rfl, st127⟩
              replace f118 := f118.st st127 (by decide)
              replace f34 := f34.st st127 (by decide)
              replace f48 := f48.st st127 (by decide)
              replace f93 := f93.st st127 (by decide)
              replace fg0 := fg0.st st127 (by decide)
              replace hs := hs.loc0 st127 (by decide)
              have hk := hk.put 55 (.bool t123) rfl
              refine x_run tab hk (k := 2) (lv := []) (ks := [3, 5, 7, 57]) (e' := [(3, .pointer (some ⟨bx33, 0, none⟩)), (5, .slice A46 (t41.1).length c47), (7, .slice A90 (l92).length c91), (57, .bool t123)]) rfl trivial fun a hk => ?_
              cases b128 : t123
              · rw [b128] at hk H
                replace H := bifF H
                refine x_run tab hk (k := 10) (lv := []) (ks := [67]) (e' := [(67, .bool false)]) rfl trivial fun a hk => ?_
                refine x_run tab hk (k := 1) (lv := []) (ks := [2]) (e' := [(2, .bool false)]) rfl trivial fun a hk => ?_
                refine wpList_nil ?_
                refine then_n ?_
                refine wp_ret ?_
                obtain rfl := Option.some.inj H
                exact x_retG hk (rs := [.tmp 2]) (vs := [.bool false]) rfl ⟨rfl, trivial⟩ ⟨fun b_ => if b_ < w.heap.size then o b_ else (fun _ => 0) (o126 b_), rfl, hs.close0 o (fun _ => 0)⟩
              · rw [b128] at hk H
                replace H := bifT H
                refine x_run tab hk (k := 1) (lv := [.agg #[.int .u8 t21.1.Lead, .int .i32 t21.1.Rune, .int .i64 t21.1.Need]]) (ks := [5, 7, 57, 58]) (e' := [(5, .slice A46 (t41.1).length c47), (7, .slice A90 (l92).length c91), (57, .bool true), (58, .agg #[.int .u8 t21.1.Lead, .int .i32 t21.1.Rune, .int .i64 t21.1.Need])]) rfl ⟨(load_box tab rfl rfl f34.now (k := 0) rfl rfl), trivial⟩ fun a hk => ?_
                refine x_op hk rfl ?_
                obtain ⟨t132, hc133, H⟩ := bindS H
                refine op_call hk ent_14 (vs := [.agg #[.int .u8 t21.1.Lead, .int .i32 t21.1.Rune, .int .i64 t21.1.Need]]) rfl (glyph_Decoder_End_calls t21.1 _ o126  11  _ hc133) ?_
                rintro _ w134 ⟨o135, A137, c138, rfl, st136, f139, hc140⟩
                replace f48 := f48.st st136 (by decide)
                replace f93 := f93.st st136 (by decide)
                replace fg0 := fg0.st st136 (by decide)
                replace hs := hs.loc0 st136 (by decide)
                have hk := hk.put 59 (.slice A137 (t132).length c138) rfl
                refine x_run tab hk (k := 9) (lv := []) (ks := [2]) (e' := [(2, .bool (((t132).length : Int) == (IntKind.wrap .i64 (((l92).length : Int) - ((t41.1).length : Int)))))]) rfl trivial fun a hk => ?_
                refine wpList_nil ?_
                refine then_n ?_
                refine wp_ret ?_
                obtain rfl := Option.some.inj H
                exact x_retG hk (rs := [.tmp 2]) (vs := [.bool (((t132).length : Int) == (IntKind.wrap .i64 (((l92).length : Int) - ((t41.1).length : Int))))]) rfl ⟨rfl, trivial⟩ ⟨fun b_ => if b_ < w.heap.size then o b_ else (fun _ => 0) (o135 b_), rfl, hs.close0 o (fun _ => 0)⟩
          · rw [b106] at hk H
            replace H := bifT H
            refine x_run tab hk (k := 7) (lv := []) (ks := [3, 5, 7, 51, 52]) (e' := [(3, .pointer (some ⟨bx33, 0, none⟩)), (5, .slice A46 (t41.1).length c47), (7, .slice A90 (l92).length c91), (51, .bool true), (52, .string t13)]) rfl trivial fun a hk => ?_
            refine x_op hk rfl ?_
            obtain ⟨t144, hc145, H⟩ := bindS H
            refine op_call hk ent_13 (vs := [.string t13]) rfl (glyph_Decode_calls K t13 _ o102 0 fg0 12  _ hc145) ?_
            rintro _ w146 ⟨o147, A149, c150, rfl, st148, f151, hc152⟩
            replace f34 := f34.st st148 (by decide)
            replace f48 := f48.st st148 (by decide)
            replace f93 := f93.st st148 (by decide)
            replace fg0 := fg0.st st148 (by decide)
            replace hs := hs.loc0 st148 (by decide)
            have hk := hk.put 53 (.slice A149 (t144).length c150) rfl
            refine x_run tab hk (k := 1) (lv := []) (ks := [3, 5, 7, 51, 53, 54]) (e' := [(3, .pointer (some ⟨bx33, 0, none⟩)), (5, .slice A46 (t41.1).length c47), (7, .slice A90 (l92).length c91), (51, .bool true), (53, .slice A149 (t144).length c150), (54, .slice A90 (l92).length c91)]) rfl trivial fun a hk => ?_
            refine x_op hk rfl ?_
            obtain ⟨t156, hc157, H⟩ := bindS H
            refine op_call hk ent_12 (vs := [.slice A149 (t144).length c150, .slice A90 (l92).length c91]) rfl (tidewracklaw05_Same_calls K A149 c150 t144 A90 c91 l92 _ o147 _ (f151.imp fun _ h_ => Own.rd h_) hc152 _ (f93.imp fun _ h_ => Own.rd h_) hc94   _ hc157) ?_
            rintro _ w158 ⟨o159, rfl, st160⟩
            replace f151 := f151.st st160 (by decide)
            replace f34 := f34.st st160 (by decide)
            replace f48 := f48.st st160 (by decide)
            replace f93 := f93.st st160 (by decide)
            replace fg0 := fg0.st st160 (by decide)
            replace hs := hs.loc0 st160 (by decide)
            have hk := hk.put 55 (.bool t156) rfl
            refine x_run tab hk (k := 2) (lv := []) (ks := [3, 5, 7, 57]) (e' := [(3, .pointer (some ⟨bx33, 0, none⟩)), (5, .slice A46 (t41.1).length c47), (7, .slice A90 (l92).length c91), (57, .bool t156)]) rfl trivial fun a hk => ?_
            cases b161 : t156
            · rw [b161] at hk H
              replace H := bifF H
              refine x_run tab hk (k := 10) (lv := []) (ks := [67]) (e' := [(67, .bool false)]) rfl trivial fun a hk => ?_
              refine x_run tab hk (k := 1) (lv := []) (ks := [2]) (e' := [(2, .bool false)]) rfl trivial fun a hk => ?_
              refine wpList_nil ?_
              refine then_n ?_
              refine wp_ret ?_
              obtain rfl := Option.some.inj H
              exact x_retG hk (rs := [.tmp 2]) (vs := [.bool false]) rfl ⟨rfl, trivial⟩ ⟨fun b_ => if b_ < w.heap.size then o b_ else (fun _ => 0) (o159 b_), rfl, hs.close0 o (fun _ => 0)⟩
            · rw [b161] at hk H
              replace H := bifT H
              refine x_run tab hk (k := 1) (lv := [.agg #[.int .u8 t21.1.Lead, .int .i32 t21.1.Rune, .int .i64 t21.1.Need]]) (ks := [5, 7, 57, 58]) (e' := [(5, .slice A46 (t41.1).length c47), (7, .slice A90 (l92).length c91), (57, .bool true), (58, .agg #[.int .u8 t21.1.Lead, .int .i32 t21.1.Rune, .int .i64 t21.1.Need])]) rfl ⟨(load_box tab rfl rfl f34.now (k := 0) rfl rfl), trivial⟩ fun a hk => ?_
              refine x_op hk rfl ?_
              obtain ⟨t165, hc166, H⟩ := bindS H
              refine op_call hk ent_14 (vs := [.agg #[.int .u8 t21.1.Lead, .int .i32 t21.1.Rune, .int .i64 t21.1.Need]]) rfl (glyph_Decoder_End_calls t21.1 _ o159  13  _ hc166) ?_
              rintro _ w167 ⟨o168, A170, c171, rfl, st169, f172, hc173⟩
              replace f48 := f48.st st169 (by decide)
              replace f93 := f93.st st169 (by decide)
              replace fg0 := fg0.st st169 (by decide)
              replace hs := hs.loc0 st169 (by decide)
              have hk := hk.put 59 (.slice A170 (t165).length c171) rfl
              refine x_run tab hk (k := 9) (lv := []) (ks := [2]) (e' := [(2, .bool (((t165).length : Int) == (IntKind.wrap .i64 (((l92).length : Int) - ((t41.1).length : Int)))))]) rfl trivial fun a hk => ?_
              refine wpList_nil ?_
              refine then_n ?_
              refine wp_ret ?_
              obtain rfl := Option.some.inj H
              exact x_retG hk (rs := [.tmp 2]) (vs := [.bool (((t165).length : Int) == (IntKind.wrap .i64 (((l92).length : Int) - ((t41.1).length : Int))))]) rfl ⟨rfl, trivial⟩ ⟨fun b_ => if b_ < w.heap.size then o b_ else (fun _ => 0) (o168 b_), rfl, hs.close0 o (fun _ => 0)⟩
    refine x_seq ?_
    refine wp_region_lit ?_
    refine x_run tab hk (k := 2) (lv := []) (ks := [0, 3, 4, 5, 6, 7, 27]) (e' := [(0, .string t13), (3, .pointer (some ⟨bx33, 0, none⟩)), (4, .slice A26 (t21.2).length c27), (5, .slice A46 (t41.1).length c47), (6, .int .i64 t41.2), (7, .slice A60 ((([] : List Int) ++ t41.1)).length c61), (27, .bool (decide (t41.2 > (0 : Int))))]) rfl trivial fun a hk => ?_
    refine wpList_nil ?_
    refine then_n ?_
    cases b174 : (decide (t41.2 > (0 : Int)))
    · rw [b174] at hk H
      replace H := bifF H
      refine x_if hk (b := false) rfl ?_
      refine (show Code.wp _ _ _ _ _ from ?_)
      refine wp_skip ?_
      refine then_n ?_
      exact ⟨(fun b_ => (fun l_ => if l_ = 1 then 7 else if l_ = 2 then 6 else if l_ = 3 then 8 else if l_ = 4 then 9 else l_) (o57 b_)), A60, c61, (([] : List Int) ++ t41.1), (by exact Kn.pick (ks := [0, 3, 4, 5, 6, 7]) hk rfl), (hs.relab0 (fun l_ => if l_ = 1 then 7 else if l_ = 2 then 6 else if l_ = 3 then 8 else if l_ = 4 then 9 else l_) rfl), (f28.relab (fun l_ => if l_ = 1 then 7 else if l_ = 2 then 6 else if l_ = 3 then 8 else if l_ = 4 then 9 else l_) rfl), (f34.relab (fun l_ => if l_ = 1 then 7 else if l_ = 2 then 6 else if l_ = 3 then 8 else if l_ = 4 then 9 else l_) rfl), (f48.relab (fun l_ => if l_ = 1 then 7 else if l_ = 2 then 6 else if l_ = 3 then 8 else if l_ = 4 then 9 else l_) rfl), (f62.relab (fun l_ => if l_ = 1 then 7 else if l_ = 2 then 6 else if l_ = 3 then 8 else if l_ = 4 then 9 else l_) rfl), (fg0.relab (fun l_ => if l_ = 1 then 7 else if l_ = 2 then 6 else if l_ = 3 then 8 else if l_ = 4 then 9 else l_) rfl), hc63, H⟩
    · rw [b174] at hk H
      replace H := bifT H
      refine x_if hk (b := true) rfl ?_
      refine (show Code.wp _ _ _ _ _ from ?_)
      refine wp_region_lit ?_
      refine x_run tab hk (k := 1) (lv := []) (ks := [0, 3, 4, 5, 6, 28]) (e' := [(0, .string t13), (3, .pointer (some ⟨bx33, 0, none⟩)), (4, .slice A26 (t21.2).length c27), (5, .slice A46 (t41.1).length c47), (6, .int .i64 t41.2), (28, .slice A60 ((([] : List Int) ++ t41.1)).length c61)]) rfl trivial fun a hk => ?_
      refine x_op hk rfl ?_
      refine op_slice (o := o57) tab hk (vs := [.int .i64 65533]) (cs := [.int .i64 65533]) rfl rfl rfl rfl rfl rfl rfl rfl rfl 14 fun bx178 w175 o176 st177 f179 => ?_
      replace f28 := f28.st st177 (by decide)
      replace f34 := f34.st st177 (by decide)
      replace f48 := f48.st st177 (by decide)
      replace f62 := f62.st st177 (by decide)
      replace fg0 := fg0.st st177 (by decide)
      replace hs := hs.loc0 st177 (by decide)
      have f180 : Ft (Own (encInt .i64) 3 (.slice (some ⟨bx178, 0, none⟩) (([65533] : List Int)).length 1) ([65533] : List Int)) w175 o176 14 := f179.imp fun _ h_ => Own.of_box h_ rfl (by simp)
      have hk := hk.put 29 (.slice (some ⟨bx178, 0, none⟩) (([65533] : List Int)).length 1) rfl
      refine x_op hk rfl ?_
      obtain ⟨q184, H⟩ := ifS H
      refine op_append (o := o176) (E := (encInt .i64)) (xs := (([] : List Int) ++ t41.1)) (ys := ([65533] : List Int)) tab hk rfl rfl rfl rfl rfl rfl rfl f62 (Own.rd f180.now) q184 fun A185 c186 w181 o182 st183 f187 hc188 => ?_
      replace f180 := f180.st st183 (by decide)
      replace f28 := f28.st st183 (by decide)
      replace f34 := f34.st st183 (by decide)
      replace f48 := f48.st st183 (by decide)
      replace fg0 := fg0.st st183 (by decide)
      replace hs := hs.loc0 st183 (by decide)
      have hk := hk.put 30 (.slice A185 (((([] : List Int) ++ t41.1) ++ ([65533] : List Int))).length c186) rfl
      refine x_run tab hk (k := 1) (lv := []) (ks := [0, 3, 4, 5, 6, 7]) (e' := [(0, .string t13), (3, .pointer (some ⟨bx33, 0, none⟩)), (4, .slice A26 (t21.2).length c27), (5, .slice A46 (t41.1).length c47), (6, .int .i64 t41.2), (7, .slice A185 (((([] : List Int) ++ t41.1) ++ ([65533] : List Int))).length c186)]) rfl trivial fun a hk => ?_
      refine wpList_nil ?_
      refine then_n ?_
      exact ⟨(fun b_ => (fun l_ => if l_ = 1 then 7 else if l_ = 2 then 6 else if l_ = 3 then 8 else if l_ = 4 then 9 else l_) (o182 b_)), A185, c186, ((([] : List Int) ++ t41.1) ++ ([65533] : List Int)), (by exact Kn.pick (ks := [0, 3, 4, 5, 6, 7]) hk rfl), (hs.relab0 (fun l_ => if l_ = 1 then 7 else if l_ = 2 then 6 else if l_ = 3 then 8 else if l_ = 4 then 9 else l_) rfl), (f28.relab (fun l_ => if l_ = 1 then 7 else if l_ = 2 then 6 else if l_ = 3 then 8 else if l_ = 4 then 9 else l_) rfl), (f34.relab (fun l_ => if l_ = 1 then 7 else if l_ = 2 then 6 else if l_ = 3 then 8 else if l_ = 4 then 9 else l_) rfl), (f48.relab (fun l_ => if l_ = 1 then 7 else if l_ = 2 then 6 else if l_ = 3 then 8 else if l_ = 4 then 9 else l_) rfl), (f187.relab (fun l_ => if l_ = 1 then 7 else if l_ = 2 then 6 else if l_ = 3 then 8 else if l_ = 4 then 9 else l_) rfl), (fg0.relab (fun l_ => if l_ = 1 then 7 else if l_ = 2 then 6 else if l_ = 3 then 8 else if l_ = 4 then 9 else l_) rfl), hc188, H⟩
  · rw [b9] at hk H
    replace H := bifT H
    refine x_if hk (b := true) rfl ?_
    refine (show Code.wp _ _ _ _ _ from ?_)
    refine x_seq ?_
    refine wp_region_lit ?_
    refine x_run tab hk (k := 1) (lv := []) (ks := [2]) (e' := [(2, .bool false)]) rfl trivial fun a hk => ?_
    refine wpList_nil ?_
    refine then_n ?_
    refine wp_ret ?_
    refine then_r ?_
    obtain rfl := Option.some.inj H
    exact x_retG hk (rs := [.tmp 2]) (vs := [.bool false]) rfl ⟨rfl, trivial⟩ ⟨fun b_ => if b_ < w.heap.size then o b_ else (fun _ => 0) (o7 b_), rfl, hs.close0 o (fun _ => 0)⟩

end Go.Proofs.YtaojnfjidbppjaaDoor
