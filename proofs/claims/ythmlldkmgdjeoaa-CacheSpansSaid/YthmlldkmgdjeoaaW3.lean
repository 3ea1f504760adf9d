/- Walks, printed by an own program: the machine's calls compute the plain functions. -/
import Derived.Test.YthmlldkmgdjeoaaW2
set_option linter.unusedVariables false
set_option linter.unusedSimpArgs false
namespace Go.Proofs.Ythmlldkmgdjeoaa
open Go Go.Proofs.XC
/-! tidewrack/tidewrackref13.keep -/
theorem tidewrackref13_keep_calls (p0 : Int) (p1 : Bool) (p2 : Bool) (w : World) (o : Nat → Nat)   (r : Bool) (H : tidewrackref13_keep p0 p1 p2 = some r) :
    Calls Try.prog 67 #[.int .i64 p0, .bool p1, .bool p2] w (Ret fun v_ w' => ∃ o' : Nat → Nat, v_ = .bool r ∧ St [] w o w' o') := by
  refine x_enter (vs := [.int .i64 p0, .bool p1, .bool p2]) Try.func67 rfl rfl rfl fun a hk => ?_
  obtain ⟨o0, hs, h0⟩ := St.start w o
  clear h0
  rw [tidewrackref13_keep] at H
  refine x_seq ?_
  refine wpIn_region_lit ?_
  refine x_run tab hk (k := 1) (lv := []) (ks := [0, 1, 2]) (e' := [(0, .int .i64 p0), (1, .bool p1), (2, .bool p2)]) rfl trivial fun a hk => ?_
  refine wpListIn_nil ?_
  refine then_n ?_
  refine x_seq ?_
  refine x_seq ?_
  refine wpIn_region_lit ?_
  refine x_run tab hk (k := 1) (lv := []) (ks := [1, 2, 7]) (e' := [(1, .bool p1), (2, .bool p2), (7, .int .i64 p0)]) rfl trivial fun a hk => ?_
  refine wpListIn_nil ?_
  refine then_n ?_
  refine wpIn_block ?_
  refine x_seq ?_
  refine wpIn_region_lit ?_
  refine x_run tab hk (k := 2) (lv := []) (ks := [1, 2, 7, 8]) (e' := [(1, .bool p1), (2, .bool p2), (7, .int .i64 p0), (8, .bool (p0 == (0 : Int)))]) rfl trivial fun a hk => ?_
  refine wpListIn_nil ?_
  refine then_n ?_
  cases b1 : (p0 == (0 : Int))
  · rw [b1] at hk H
    replace H := bifF H
    refine x_if hk (b := false) rfl ?_
    refine (show Code.wpIn _ _ _ _ _ _ _ from ?_)
    refine x_seq ?_
    refine wpIn_region_lit ?_
    refine x_run tab hk (k := 2) (lv := []) (ks := [1, 2, 7, 14]) (e' := [(1, .bool p1), (2, .bool p2), (7, .int .i64 p0), (14, .bool (p0 == (1 : Int)))]) rfl trivial fun a hk => ?_
    refine wpListIn_nil ?_
    refine then_n ?_
    cases b2 : (p0 == (1 : Int))
    · rw [b2] at hk H
      replace H := bifF H
      refine x_if hk (b := false) rfl ?_
      refine (show Code.wpIn _ _ _ _ _ _ _ from ?_)
      refine x_seq ?_
      refine wpIn_region_lit ?_
      refine x_run tab hk (k := 2) (lv := []) (ks := [1, 2, 21]) (e' := [(1, .bool p1), (2, .bool p2), (21, .bool (p0 == (2 : Int)))]) rfl trivial fun a hk => ?_
      refine wpListIn_nil ?_
      refine then_n ?_
      cases b3 : (p0 == (2 : Int))
      · rw [b3] at hk H
        replace H := bifF H
        refine x_if hk (b := false) rfl ?_
        refine (show Code.wpIn _ _ _ _ _ _ _ from ?_)
        refine wpIn_skip ?_
        refine blk_n ?_
        refine then_n ?_
        refine x_seq ?_
        refine wpIn_region_lit ?_
        refine x_run tab hk (k := 3) (lv := []) (ks := [2, 29]) (e' := [(2, .bool p2), (29, .bool (!p1))]) rfl trivial fun a hk => ?_
        cases b4 : (!p1)
        · rw [b4] at hk H
          replace H := bifF H
          refine x_run tab hk (k := 3) (lv := []) (ks := [6]) (e' := [(6, .bool false)]) rfl trivial fun a hk => ?_
          refine wpListIn_nil ?_
          refine then_n ?_
          refine wpIn_ret ?_
          obtain rfl := Option.some.inj H
          exact x_retG hk (rs := [.tmp 6]) (vs := [.bool false]) rfl ⟨rfl, trivial⟩ ⟨fun b_ => if b_ < w.heap.size then o b_ else (fun _ => 0) (o0 b_), rfl, hs.close0 o (fun _ => 0)⟩
        · rw [b4] at hk H
          replace H := bifT H
          refine x_run tab hk (k := 3) (lv := []) (ks := [6]) (e' := [(6, .bool p2)]) rfl trivial fun a hk => ?_
          refine wpListIn_nil ?_
          refine then_n ?_
          refine wpIn_ret ?_
          obtain rfl := Option.some.inj H
          exact x_retG hk (rs := [.tmp 6]) (vs := [.bool p2]) rfl ⟨rfl, trivial⟩ ⟨fun b_ => if b_ < w.heap.size then o b_ else (fun _ => 0) (o0 b_), rfl, hs.close0 o (fun _ => 0)⟩
      · rw [b3] at hk H
        replace H := bifT H
        refine x_if hk (b := true) rfl ?_
        refine (show Code.wpIn _ _ _ _ _ _ _ from ?_)
        refine x_seq ?_
        refine wpIn_region_lit ?_
        refine x_run tab hk (k := 2) (lv := []) (ks := [2, 24]) (e' := [(2, .bool p2), (24, .bool p1)]) rfl trivial fun a hk => ?_
        cases b5 : p1
        · rw [b5] at hk H
          replace H := bifF H
          refine x_run tab hk (k := 3) (lv := []) (ks := [6]) (e' := [(6, .bool false)]) rfl trivial fun a hk => ?_
          refine wpListIn_nil ?_
          refine then_n ?_
          refine wpIn_ret ?_
          refine blk_r ?_
          refine then_r ?_
          obtain rfl := Option.some.inj H
          exact x_retG hk (rs := [.tmp 6]) (vs := [.bool false]) rfl ⟨rfl, trivial⟩ ⟨fun b_ => if b_ < w.heap.size then o b_ else (fun _ => 0) (o0 b_), rfl, hs.close0 o (fun _ => 0)⟩
        · rw [b5] at hk H
          replace H := bifT H
          refine x_run tab hk (k := 3) (lv := []) (ks := [6]) (e' := [(6, .bool p2)]) rfl trivial fun a hk => ?_
          refine wpListIn_nil ?_
          refine then_n ?_
          refine wpIn_ret ?_
          refine blk_r ?_
          refine then_r ?_
          obtain rfl := Option.some.inj H
          exact x_retG hk (rs := [.tmp 6]) (vs := [.bool p2]) rfl ⟨rfl, trivial⟩ ⟨fun b_ => if b_ < w.heap.size then o b_ else (fun _ => 0) (o0 b_), rfl, hs.close0 o (fun _ => 0)⟩
    · rw [b2] at hk H
      replace H := bifT H
      refine x_if hk (b := true) rfl ?_
      refine (show Code.wpIn _ _ _ _ _ _ _ from ?_)
      refine x_seq ?_
      refine wpIn_region_lit ?_
      refine x_run tab hk (k := 2) (lv := []) (ks := [2, 17]) (e' := [(2, .bool p2), (17, .bool p1)]) rfl trivial fun a hk => ?_
      cases b6 : p1
      · rw [b6] at hk H
        replace H := bifF H
        refine x_run tab hk (k := 4) (lv := []) (ks := [6]) (e' := [(6, .bool false)]) rfl trivial fun a hk => ?_
        refine wpListIn_nil ?_
        refine then_n ?_
        refine wpIn_ret ?_
        refine blk_r ?_
        refine then_r ?_
        obtain rfl := Option.some.inj H
        exact x_retG hk (rs := [.tmp 6]) (vs := [.bool false]) rfl ⟨rfl, trivial⟩ ⟨fun b_ => if b_ < w.heap.size then o b_ else (fun _ => 0) (o0 b_), rfl, hs.close0 o (fun _ => 0)⟩
      · rw [b6] at hk H
        replace H := bifT H
        refine x_run tab hk (k := 4) (lv := []) (ks := [6]) (e' := [(6, .bool (!p2))]) rfl trivial fun a hk => ?_
        refine wpListIn_nil ?_
        refine then_n ?_
        refine wpIn_ret ?_
        refine blk_r ?_
        refine then_r ?_
        obtain rfl := Option.some.inj H
        exact x_retG hk (rs := [.tmp 6]) (vs := [.bool (!p2)]) rfl ⟨rfl, trivial⟩ ⟨fun b_ => if b_ < w.heap.size then o b_ else (fun _ => 0) (o0 b_), rfl, hs.close0 o (fun _ => 0)⟩
  · rw [b1] at hk H
    replace H := bifT H
    refine x_if hk (b := true) rfl ?_
    refine (show Code.wpIn _ _ _ _ _ _ _ from ?_)
    refine x_seq ?_
    refine wpIn_region_lit ?_
    refine x_run tab hk (k := 2) (lv := []) (ks := [2, 11]) (e' := [(2, .bool p2), (11, .bool p1)]) rfl trivial fun a hk => ?_
    cases b7 : p1
    · rw [b7] at hk H
      replace H := bifF H
      refine x_run tab hk (k := 3) (lv := []) (ks := [6]) (e' := [(6, .bool p2)]) rfl trivial fun a hk => ?_
      refine wpListIn_nil ?_
      refine then_n ?_
      refine wpIn_ret ?_
      refine blk_r ?_
      refine then_r ?_
      obtain rfl := Option.some.inj H
      exact x_retG hk (rs := [.tmp 6]) (vs := [.bool p2]) rfl ⟨rfl, trivial⟩ ⟨fun b_ => if b_ < w.heap.size then o b_ else (fun _ => 0) (o0 b_), rfl, hs.close0 o (fun _ => 0)⟩
    · rw [b7] at hk H
      replace H := bifT H
      refine x_run tab hk (k := 3) (lv := []) (ks := [6]) (e' := [(6, .bool true)]) rfl trivial fun a hk => ?_
      refine wpListIn_nil ?_
      refine then_n ?_
      refine wpIn_ret ?_
      refine blk_r ?_
      refine then_r ?_
      obtain rfl := Option.some.inj H
      exact x_retG hk (rs := [.tmp 6]) (vs := [.bool true]) rfl ⟨rfl, trivial⟩ ⟨fun b_ => if b_ < w.heap.size then o b_ else (fun _ => 0) (o0 b_), rfl, hs.close0 o (fun _ => 0)⟩

/-! tidewrack/tidewrackref13.build -/
set_option maxHeartbeats 4000000 in
set_option maxRecDepth 20000 in
theorem tidewrackref13_build_calls (K : Nat) (Ap0 : Option Addr) (cp0 : Nat) (p0 : List T44) (Ap1 : Option Addr) (cp1 : Nat) (p1 : List T44) (p2 : Int) (w : World) (o : Nat → Nat) (Lp0 : Nat) (hp0 : Ft (RdC ET44 Ap0 p0) w o Lp0) (hcp0 : (p0).length ≤ cp0) (Lp1 : Nat) (hp1 : Ft (RdC ET44 Ap1 p1) w o Lp1) (hcp1 : (p1).length ≤ cp1)  (R0 : Nat) (r : List T44) (H : tidewrackref13_build K p0 p1 p2 = some r) :
    Calls Try.prog 55 #[.slice Ap0 (p0).length cp0, .slice Ap1 (p1).length cp1, .int .i64 p2] w (Ret fun v_ w' => ∃ o' : Nat → Nat, ∃ A0 : Option Addr, ∃ c0 : Nat, v_ = .slice A0 (r).length c0 ∧ St [] w o w' o' ∧ Ft (Own ET44 102 (.slice A0 (r).length c0) r) w' o' R0 ∧ (r).length ≤ c0) := by
  refine x_enter (vs := [.slice Ap0 (p0).length cp0, .slice Ap1 (p1).length cp1, .int .i64 p2]) Try.func55 rfl rfl rfl fun a hk => ?_
  obtain ⟨o0, hs, h0⟩ := St.start w o
  have f900000 := h0 _ _ hp0
  have f900020 := h0 _ _ hp1
  clear h0
  rw [tidewrackref13_build] at H
  refine x_seq ?_
  refine wpIn_region_lit ?_
  refine x_run tab hk (k := 1) (lv := []) (ks := [0, 1, 2]) (e' := [(0, .slice Ap0 (p0).length cp0), (1, .slice Ap1 (p1).length cp1), (2, .int .i64 p2)]) rfl trivial fun a hk => ?_
  refine wpListIn_nil ?_
  refine then_n ?_
  refine x_seq ?_
  refine wpIn_region_lit ?_
  refine x_op hk rfl ?_
  refine op_slice (o := o0) tab hk (vs := []) (cs := []) rfl rfl rfl rfl rfl rfl rfl rfl rfl 1 fun bx4 w1 o2 st3 f5 => ?_
  replace f900000 := f900000.st st3 (by decide)
  replace f900020 := f900020.st st3 (by decide)
  replace hs := hs.loc0 st3 (by decide)
  have f6 : Ft (Own (encInt .i64) 3 (.slice (some ⟨bx4, 0, none⟩) (([] : List Int)).length 0) ([] : List Int)) w1 o2 1 := f5.imp fun _ h_ => Own.of_box h_ rfl (by simp)
  have hk := hk.put 17 (.slice (some ⟨bx4, 0, none⟩) (([] : List Int)).length 0) rfl
  refine x_run tab hk (k := 1) (lv := []) (ks := [0, 1, 2, 7]) (e' := [(0, .slice Ap0 (p0).length cp0), (1, .slice Ap1 (p1).length cp1), (2, .int .i64 p2), (7, .slice (some ⟨bx4, 0, none⟩) (([] : List Int)).length 0)]) rfl trivial fun a hk => ?_
  refine wpListIn_nil ?_
  refine then_n ?_
  refine x_mid (fun a_ w_ => ∃ o7055 : Nat → Nat, ∃ A7056 : Option Addr, ∃ c7057 : Nat, ∃ l7058 : List Int, Kn 132 a_ [(0, .slice Ap0 (p0).length cp0), (1, .slice Ap1 (p1).length cp1), (2, .int .i64 p2), (7, .slice A7056 (l7058).length c7057)] ∧ St [] w (fun _ => 0) w_ o7055 ∧ Ft (Own (encInt .i64) 3 (.slice A7056 (l7058).length c7057) l7058) w_ o7055 871 ∧ Ft (RdC ET44 Ap0 p0) w_ o7055 0 ∧ Ft (RdC ET44 Ap1 p1) w_ o7055 0 ∧ (l7058).length ≤ c7057 ∧ tidewrackref13_build_j1 K p0 p1 p2 l7058 = some r) ?_ ?_
  rotate_left
  · rintro a w7061 ⟨o7055, A7056, c7057, l7058, hk, hs, f7059, f900000, f900020, hc7060, H⟩
    rw [tidewrackref13_build_j1] at H
    refine x_seq ?_
    refine wpIn_region_lit ?_
    refine x_op hk rfl ?_
    refine op_slice (o := o7055) tab hk (vs := []) (cs := []) rfl rfl rfl rfl rfl rfl rfl rfl rfl 872 fun bx7065 w7062 o7063 st7064 f7066 => ?_
    replace f7059 := f7059.st st7064 (by decide)
    replace f900000 := f900000.st st7064 (by decide)
    replace f900020 := f900020.st st7064 (by decide)
    replace hs := hs.loc0 st7064 (by decide)
    have f7067 : Ft (Own ET44 102 (.slice (some ⟨bx7065, 0, none⟩) (([] : List T44)).length 0) ([] : List T44)) w7062 o7063 872 := f7066.imp fun _ h_ => Own.of_box h_ rfl (by simp)
    have hk := hk.put 76 (.slice (some ⟨bx7065, 0, none⟩) (([] : List T44)).length 0) rfl
    refine x_run tab hk (k := 1) (lv := []) (ks := [0, 1, 2, 7, 13]) (e' := [(0, .slice Ap0 (p0).length cp0), (1, .slice Ap1 (p1).length cp1), (2, .int .i64 p2), (7, .slice A7056 (l7058).length c7057), (13, .slice (some ⟨bx7065, 0, none⟩) (([] : List T44)).length 0)]) rfl trivial fun a hk => ?_
    refine wpListIn_nil ?_
    refine then_n ?_
    refine x_mid (fun a_ w_ => ∃ o7287 : Nat → Nat, ∃ A7288 : Option Addr, ∃ c7289 : Nat, ∃ l7290 : List T44, Kn 132 a_ [(13, .slice A7288 (l7290).length c7289)] ∧ St [] w (fun _ => 0) w_ o7287 ∧ Ft (Own ET44 102 (.slice A7288 (l7290).length c7289) l7290) w_ o7287 886 ∧ (l7290).length ≤ c7289 ∧ tidewrackref13_build_j2 l7290 = some r) ?_ ?_
    rotate_left
    · rintro a w7293 ⟨o7287, A7288, c7289, l7290, hk, hs, f7291, hc7292, H⟩
      rw [tidewrackref13_build_j2] at H
      refine x_seq ?_
      refine wpIn_region_lit ?_
      refine x_run tab hk (k := 2) (lv := []) (ks := [6]) (e' := [(6, .slice A7288 (l7290).length c7289)]) rfl trivial fun a hk => ?_
      refine wpListIn_nil ?_
      refine then_n ?_
      refine wpIn_ret ?_
      obtain rfl := Option.some.inj H
      exact x_retG hk (rs := [.tmp 6]) (vs := [.slice A7288 (l7290).length c7289]) rfl ⟨rfl, trivial⟩ ⟨fun b_ => if b_ < w.heap.size then o b_ else (fun _ => R0) (o7287 b_), A7288, c7289, rfl, hs.close0 o (fun _ => R0), hs.close_ft (o := o) (ρ := fun _ => R0) f7291 (by decide) rfl, hc7292⟩
    refine x_seq ?_
    refine wpIn_region_lit ?_
    refine x_run tab hk (k := 1) (lv := []) (ks := [0, 1, 2, 7, 13, 14]) (e' := [(0, .slice Ap0 (p0).length cp0), (1, .slice Ap1 (p1).length cp1), (2, .int .i64 p2), (7, .slice A7056 (l7058).length c7057), (13, .slice (some ⟨bx7065, 0, none⟩) (([] : List T44)).length 0), (14, .int .i64 0)]) rfl trivial fun a hk => ?_
    refine wpListIn_nil ?_
    refine then_n ?_
    refine wpIn_block ?_
    refine x_loop (fun j_ a_ w_ => ∃ o7360 : Nat → Nat, ∃ A7361 : Option Addr, ∃ c7362 : Nat, ∃ l7363 : List T44, ∃ x7366 : Int, Kn 132 a_ [(0, .slice Ap0 (p0).length cp0), (1, .slice Ap1 (p1).length cp1), (2, .int .i64 p2), (7, .slice A7056 (l7058).length c7057), (13, .slice A7361 (l7363).length c7362), (14, .int .i64 x7366)] ∧ St [] w (fun _ => 0) w_ o7360 ∧ Ft (Own (encInt .i64) 3 (.slice A7056 (l7058).length c7057) l7058) w_ o7360 892 ∧ Ft (Own ET44 102 (.slice A7361 (l7363).length c7362) l7363) w_ o7360 893 ∧ Ft (RdC ET44 Ap0 p0) w_ o7360 0 ∧ Ft (RdC ET44 Ap1 p1) w_ o7360 0 ∧ (l7363).length ≤ c7362 ∧ tidewrackref13_build_l3 K p0 p1 p2 l7058 j_ l7363 x7366 = some r) (k := K) ⟨(fun b_ => (fun l_ => if l_ = 871 then 892 else if l_ = 872 then 893 else l_) (o7063 b_)), (some ⟨bx7065, 0, none⟩), 0, ([] : List T44), 0, (by exact Kn.pick (ks := [0, 1, 2, 7, 13, 14]) hk rfl), (hs.relab0 (fun l_ => if l_ = 871 then 892 else if l_ = 872 then 893 else l_) rfl), (f7059.relab (fun l_ => if l_ = 871 then 892 else if l_ = 872 then 893 else l_) rfl), (f7067.relab (fun l_ => if l_ = 871 then 892 else if l_ = 872 then 893 else l_) rfl), (f900000.relab (fun l_ => if l_ = 871 then 892 else if l_ = 872 then 893 else l_) rfl), (f900020.relab (fun l_ => if l_ = 871 then 892 else if l_ = 872 then 893 else l_) rfl), (Nat.le_refl _), H⟩ (by rintro _ _ ⟨_, _, _, _, _, _, _, _, _, _, _, _, H_⟩; exact absurd (show (none : Option (List T44)) = some r from H_) (by simp)) ?_
    rintro k7434 a w7433 ⟨o7360, A7361, c7362, l7363, x7366, hk, hs, f7059, f7364, f900000, f900020, hc7365, H⟩
    rw [tidewrackref13_build_l3] at H
    obtain ⟨lp7435, hlp7436⟩ : ∃ lp_, lp_ = tidewrackref13_build_l3 K p0 p1 p2 l7058 k7434 := ⟨_, rfl⟩
    rw [← hlp7436] at H
    refine x_seq ?_
    refine x_seq ?_
    refine wpIn_region_lit ?_
    refine x_run tab hk (k := 5) (lv := []) (ks := [0, 1, 2, 7, 13, 14, 81]) (e' := [(0, .slice Ap0 (p0).length cp0), (1, .slice Ap1 (p1).length cp1), (2, .int .i64 p2), (7, .slice A7056 (l7058).length c7057), (13, .slice A7361 (l7363).length c7362), (14, .int .i64 x7366), (81, .bool (decide ((IntKind.wrap .i64 (x7366 + 1)) < ((l7058).length : Int))))]) rfl trivial fun a hk => ?_
    refine wpListIn_nil ?_
    refine then_n ?_
    cases b7437 : (decide ((IntKind.wrap .i64 (x7366 + 1)) < ((l7058).length : Int)))
    · rw [b7437] at hk H
      replace H := bifF H
      refine x_if hk (b := false) rfl ?_
      refine (show Code.wpIn _ _ _ _ _ _ _ from ?_)
      refine wpIn_exit ?_
      refine then_x ?_
      refine then_x ?_
      refine blk_x ?_
      refine then_n ?_
      exact ⟨(fun b_ => (fun l_ => if l_ = 893 then 886 else l_) (o7360 b_)), A7361, c7362, l7363, (by exact Kn.pick (ks := [13]) hk rfl), (hs.relab0 (fun l_ => if l_ = 893 then 886 else l_) rfl), (f7364.relab (fun l_ => if l_ = 893 then 886 else l_) rfl), hc7365, H⟩
    · rw [b7437] at hk H
      replace H := bifT H
      refine x_if hk (b := true) rfl ?_
      refine (show Code.wpIn _ _ _ _ _ _ _ from ?_)
      refine wpIn_skip ?_
      refine then_n ?_
      refine x_seq ?_
      refine wpIn_block ?_
      refine x_seq ?_
      refine wpIn_region_lit ?_
      obtain ⟨q7438, H⟩ := ifS H
      obtain ⟨ad7439, hAad7439⟩ := RdC.addr (Own.rd f7059.now) q7438
      have hk_C := hk
      have f7059_C := f7059
      have f7364_C := f7364
      have f900000_C := f900000
      have f900020_C := f900020
      subst hAad7439
      have hk := hk_C
      clear hk_C
      have f7059 := f7059_C
      clear f7059_C
      have f7364 := f7364_C
      clear f7364_C
      have f900000 := f900000_C
      clear f900000_C
      have f900020 := f900020_C
      clear f900020_C
      refine x_run tab hk (k := 5) (lv := [.int .i64 (rdD 0 l7058 x7366)]) (ks := [0, 1, 2, 7, 13, 14, 15]) (e' := [(0, .slice Ap0 (p0).length cp0), (1, .slice Ap1 (p1).length cp1), (2, .int .i64 p2), (7, .slice (some ad7439) (l7058).length c7057), (13, .slice A7361 (l7363).length c7362), (14, .int .i64 x7366), (15, .int .i64 (rdD 0 l7058 x7366))]) rfl ⟨q7438, (load1 tab rfl (RdC.at0 (E := (encInt .i64)) (d := 0) (i := x7366) (Own.rd f7059.now) q7438 rfl)), trivial⟩ fun a hk => ?_
      refine wpListIn_nil ?_
      refine then_n ?_
      refine x_seq ?_
      refine x_seq ?_
      refine wpIn_region_lit ?_
      refine x_run tab hk (k := 3) (lv := []) (ks := [0, 1, 2, 7, 13, 14, 15, 88, 89, 90]) (e' := [(0, .slice Ap0 (p0).length cp0), (1, .slice Ap1 (p1).length cp1), (2, .int .i64 p2), (7, .slice (some ad7439) (l7058).length c7057), (13, .slice A7361 (l7363).length c7362), (14, .int .i64 x7366), (15, .int .i64 (rdD 0 l7058 x7366)), (88, .int .i64 p2), (89, .slice Ap0 (p0).length cp0), (90, .int .i64 (rdD 0 l7058 x7366))]) rfl trivial fun a hk => ?_
      refine x_op hk rfl ?_
      obtain ⟨t7443, hc7444, H⟩ := bindS H
      refine op_call hk ent_68 (vs := [.slice Ap0 (p0).length cp0, .int .i64 (rdD 0 l7058 x7366)]) rfl (tidewrackref13_Has_calls K Ap0 cp0 p0 (rdD 0 l7058 x7366) _ o7360 _ f900000 hcp0   _ hc7444) ?_
      rintro _ w7445 ⟨o7446, rfl, st7447⟩
      replace f7059 := f7059.st st7447 (by decide)
      replace f7364 := f7364.st st7447 (by decide)
      replace f900000 := f900000.st st7447 (by decide)
      replace f900020 := f900020.st st7447 (by decide)
      replace hs := hs.loc0 st7447 (by decide)
      have hk := hk.put 91 (.bool t7443) rfl
      refine x_run tab hk (k := 2) (lv := []) (ks := [0, 1, 2, 7, 13, 14, 15, 88, 91, 92, 93]) (e' := [(0, .slice Ap0 (p0).length cp0), (1, .slice Ap1 (p1).length cp1), (2, .int .i64 p2), (7, .slice (some ad7439) (l7058).length c7057), (13, .slice A7361 (l7363).length c7362), (14, .int .i64 x7366), (15, .int .i64 (rdD 0 l7058 x7366)), (88, .int .i64 p2), (91, .bool t7443), (92, .slice Ap1 (p1).length cp1), (93, .int .i64 (rdD 0 l7058 x7366))]) rfl trivial fun a hk => ?_
      refine x_op hk rfl ?_
      obtain ⟨t7451, hc7452, H⟩ := bindS H
      refine op_call hk ent_68 (vs := [.slice Ap1 (p1).length cp1, .int .i64 (rdD 0 l7058 x7366)]) rfl (tidewrackref13_Has_calls K Ap1 cp1 p1 (rdD 0 l7058 x7366) _ o7446 _ f900020 hcp1   _ hc7452) ?_
      rintro _ w7453 ⟨o7454, rfl, st7455⟩
      replace f7059 := f7059.st st7455 (by decide)
      replace f7364 := f7364.st st7455 (by decide)
      replace f900000 := f900000.st st7455 (by decide)
      replace f900020 := f900020.st st7455 (by decide)
      replace hs := hs.loc0 st7455 (by decide)
      have hk := hk.put 94 (.bool t7451) rfl
      refine x_op hk rfl ?_
      obtain ⟨t7459, hc7460, H⟩ := bindS H
      refine op_call hk ent_67 (vs := [.int .i64 p2, .bool t7443, .bool t7451]) rfl (tidewrackref13_keep_calls p2 t7443 t7451 _ o7454    _ hc7460) ?_
      rintro _ w7461 ⟨o7462, rfl, st7463⟩
      replace f7059 := f7059.st st7463 (by decide)
      replace f7364 := f7364.st st7463 (by decide)
      replace f900000 := f900000.st st7463 (by decide)
      replace f900020 := f900020.st st7463 (by decide)
      replace hs := hs.loc0 st7463 (by decide)
      have hk := hk.put 95 (.bool t7459) rfl
      refine x_run tab hk (k := 1) (lv := []) (ks := [0, 1, 2, 7, 13, 14, 15, 96]) (e' := [(0, .slice Ap0 (p0).length cp0), (1, .slice Ap1 (p1).length cp1), (2, .int .i64 p2), (7, .slice (some ad7439) (l7058).length c7057), (13, .slice A7361 (l7363).length c7362), (14, .int .i64 x7366), (15, .int .i64 (rdD 0 l7058 x7366)), (96, .bool (!t7459))]) rfl trivial fun a hk => ?_
      refine wpListIn_nil ?_
      refine then_n ?_
      cases b7464 : (!t7459)
      · rw [b7464] at hk H
        replace H := bifF H
        refine x_if hk (b := false) rfl ?_
        refine (show Code.wpIn _ _ _ _ _ _ _ from ?_)
        refine wpIn_skip ?_
        refine then_n ?_
        refine x_seq ?_
        refine wpIn_region_lit ?_
        refine x_run tab hk (k := 3) (lv := []) (ks := [0, 1, 2, 7, 13, 14, 15, 16]) (e' := [(0, .slice Ap0 (p0).length cp0), (1, .slice Ap1 (p1).length cp1), (2, .int .i64 p2), (7, .slice (some ad7439) (l7058).length c7057), (13, .slice A7361 (l7363).length c7362), (14, .int .i64 x7366), (15, .int .i64 (rdD 0 l7058 x7366)), (16, .int .i64 ((l7363).length : Int))]) rfl trivial fun a hk => ?_
        refine wpListIn_nil ?_
        refine then_n ?_
        refine x_mid (fun a_ w_ => ∃ o7474 : Nat → Nat, ∃ x7475 : Bool, Kn 132 a_ [(0, .slice Ap0 (p0).length cp0), (1, .slice Ap1 (p1).length cp1), (2, .int .i64 p2), (7, .slice (some ad7439) (l7058).length c7057), (13, .slice A7361 (l7363).length c7362), (14, .int .i64 x7366), (15, .int .i64 (rdD 0 l7058 x7366)), (16, .int .i64 ((l7363).length : Int)), (110, .bool x7475)] ∧ St [] w (fun _ => 0) w_ o7474 ∧ Ft (Own (encInt .i64) 3 (.slice (some ad7439) (l7058).length c7057) l7058) w_ o7474 897 ∧ Ft (Own ET44 102 (.slice A7361 (l7363).length c7362) l7363) w_ o7474 898 ∧ Ft (RdC ET44 Ap0 p0) w_ o7474 0 ∧ Ft (RdC ET44 Ap1 p1) w_ o7474 0 ∧ tidewrackref13_build_j4 l7058 l7363 x7366 lp7435 x7475 = some r) ?_ ?_
        rotate_left
        · rintro a w7476 ⟨o7474, x7475, hk, hs, f7059, f7364, f900000, f900020, H⟩
          rw [tidewrackref13_build_j4] at H
          cases b7477 : x7475
          · rw [b7477] at hk H
            replace H := bifF H
            refine x_if hk (b := false) rfl ?_
            refine (show Code.wpIn _ _ _ _ _ _ _ from ?_)
            refine wpIn_region_lit ?_
            obtain ⟨q7478, H⟩ := ifS H
            refine x_run tab hk (k := 8) (lv := [.int .i64 (rdD 0 l7058 (IntKind.wrap .i64 (x7366 + 1)))]) (ks := [0, 1, 2, 7, 14, 121, 128]) (e' := [(0, .slice Ap0 (p0).length cp0), (1, .slice Ap1 (p1).length cp1), (2, .int .i64 p2), (7, .slice (some ad7439) (l7058).length c7057), (14, .int .i64 x7366), (121, .slice A7361 (l7363).length c7362), (128, .agg #[.int .i64 (rdD 0 l7058 x7366), .int .i64 (rdD 0 l7058 (IntKind.wrap .i64 (x7366 + 1)))])]) rfl ⟨q7478, (load1 tab rfl (RdC.at0 (E := (encInt .i64)) (d := 0) (i := (IntKind.wrap .i64 (x7366 + 1))) (Own.rd f7059.now) q7478 rfl)), trivial⟩ fun a hk => ?_
            refine x_op hk rfl ?_
            refine op_slice (o := o7474) tab hk (vs := [.agg #[.int .i64 (rdD 0 l7058 x7366), .int .i64 (rdD 0 l7058 (IntKind.wrap .i64 (x7366 + 1)))]]) (cs := [.int .i64 (rdD 0 l7058 x7366), .int .i64 (rdD 0 l7058 (IntKind.wrap .i64 (x7366 + 1)))]) rfl rfl rfl rfl rfl rfl rfl rfl rfl 899 fun bx7482 w7479 o7480 st7481 f7483 => ?_
            replace f7059 := f7059.st st7481 (by decide)
            replace f7364 := f7364.st st7481 (by decide)
            replace f900000 := f900000.st st7481 (by decide)
            replace f900020 := f900020.st st7481 (by decide)
            replace hs := hs.loc0 st7481 (by decide)
            have f7484 : Ft (Own ET44 102 (.slice (some ⟨bx7482, 0, none⟩) (([(⟨(rdD 0 l7058 x7366), (rdD 0 l7058 (IntKind.wrap .i64 (x7366 + 1)))⟩ : T44)] : List T44)).length 1) ([(⟨(rdD 0 l7058 x7366), (rdD 0 l7058 (IntKind.wrap .i64 (x7366 + 1)))⟩ : T44)] : List T44)) w7479 o7480 899 := f7483.imp fun _ h_ => Own.of_box h_ rfl (by simp)
            have hk := hk.put 129 (.slice (some ⟨bx7482, 0, none⟩) (([(⟨(rdD 0 l7058 x7366), (rdD 0 l7058 (IntKind.wrap .i64 (x7366 + 1)))⟩ : T44)] : List T44)).length 1) rfl
            refine x_op hk rfl ?_
            obtain ⟨q7488, H⟩ := ifS H
            refine op_append (o := o7480) (E := ET44) (xs := l7363) (ys := ([(⟨(rdD 0 l7058 x7366), (rdD 0 l7058 (IntKind.wrap .i64 (x7366 + 1)))⟩ : T44)] : List T44)) tab hk rfl rfl rfl rfl rfl rfl rfl f7364 (Own.rd f7484.now) q7488 fun A7489 c7490 w7485 o7486 st7487 f7491 hc7492 => ?_
            replace f7059 := f7059.st st7487 (by decide)
            replace f7484 := f7484.st st7487 (by decide)
            replace f900000 := f900000.st st7487 (by decide)
            replace f900020 := f900020.st st7487 (by decide)
            replace hs := hs.loc0 st7487 (by decide)
            have hk := hk.put 130 (.slice A7489 ((l7363 ++ ([(⟨(rdD 0 l7058 x7366), (rdD 0 l7058 (IntKind.wrap .i64 (x7366 + 1)))⟩ : T44)] : List T44))).length c7490) rfl
            refine x_run tab hk (k := 1) (lv := []) (ks := [0, 1, 2, 7, 13, 14]) (e' := [(0, .slice Ap0 (p0).length cp0), (1, .slice Ap1 (p1).length cp1), (2, .int .i64 p2), (7, .slice (some ad7439) (l7058).length c7057), (13, .slice A7489 ((l7363 ++ ([(⟨(rdD 0 l7058 x7366), (rdD 0 l7058 (IntKind.wrap .i64 (x7366 + 1)))⟩ : T44)] : List T44))).length c7490), (14, .int .i64 x7366)]) rfl trivial fun a hk => ?_
            refine wpListIn_nil ?_
            refine blk_n ?_
            refine then_n ?_
            refine wpIn_region_lit ?_
            refine x_run tab hk (k := 3) (lv := []) (ks := [0, 1, 2, 7, 13, 14]) (e' := [(0, .slice Ap0 (p0).length cp0), (1, .slice Ap1 (p1).length cp1), (2, .int .i64 p2), (7, .slice (some ad7439) (l7058).length c7057), (13, .slice A7489 ((l7363 ++ ([(⟨(rdD 0 l7058 x7366), (rdD 0 l7058 (IntKind.wrap .i64 (x7366 + 1)))⟩ : T44)] : List T44))).length c7490), (14, .int .i64 (IntKind.wrap .i64 (x7366 + 1)))]) rfl trivial fun a hk => ?_
            refine wpListIn_nil ?_
            refine then_n ?_
            exact ⟨k7434, Nat.le_refl _, (fun b_ => (fun l_ => if l_ = 897 then 892 else if l_ = 898 then 893 else l_) (o7486 b_)), A7489, c7490, (l7363 ++ ([(⟨(rdD 0 l7058 x7366), (rdD 0 l7058 (IntKind.wrap .i64 (x7366 + 1)))⟩ : T44)] : List T44)), (IntKind.wrap .i64 (x7366 + 1)), (by exact Kn.pick (ks := [0, 1, 2, 7, 13, 14]) hk rfl), (hs.relab0 (fun l_ => if l_ = 897 then 892 else if l_ = 898 then 893 else l_) rfl), (f7059.relab (fun l_ => if l_ = 897 then 892 else if l_ = 898 then 893 else l_) rfl), (f7491.relab (fun l_ => if l_ = 897 then 892 else if l_ = 898 then 893 else l_) rfl), (f900000.relab (fun l_ => if l_ = 897 then 892 else if l_ = 898 then 893 else l_) rfl), (f900020.relab (fun l_ => if l_ = 897 then 892 else if l_ = 898 then 893 else l_) rfl), hc7492, (hlp7436 ▸ H)⟩
          · rw [b7477] at hk H
            replace H := bifT H
            refine x_if hk (b := true) rfl ?_
            refine (show Code.wpIn _ _ _ _ _ _ _ from ?_)
            refine wpIn_region_lit ?_
            obtain ⟨q7493, H⟩ := ifS H
            obtain ⟨q7494, H⟩ := ifS H
            obtain ⟨ad7495, hAad7495⟩ := RdC.addr (Own.rd f7364.now) q7494
            have hk_C := hk
            have f7059_C := f7059
            have f7364_C := f7364
            have f900000_C := f900000
            have f900020_C := f900020
            subst hAad7495
            have hk := hk_C
            clear hk_C
            have f7059 := f7059_C
            clear f7059_C
            have f7364 := f7364_C
            clear f7364_C
            have f900000 := f900000_C
            clear f900000_C
            have f900020 := f900020_C
            clear f900020_C
            refine x_run tab hk (k := 10) (lv := [.int .i64 (rdD 0 l7058 (IntKind.wrap .i64 (x7366 + 1)))]) (ks := [0, 1, 2, 7, 13, 14, 118, 120]) (e' := [(0, .slice Ap0 (p0).length cp0), (1, .slice Ap1 (p1).length cp1), (2, .int .i64 p2), (7, .slice (some ad7439) (l7058).length c7057), (13, .slice (some ad7495) (l7363).length c7362), (14, .int .i64 x7366), (118, .int .i64 (rdD 0 l7058 (IntKind.wrap .i64 (x7366 + 1)))), (120, .pointer (some ((ad7495.add (Int.toNat (IntKind.wrap .i64 (((l7363).length : Int) - 1)) * 2)).add 1)))]) rfl ⟨q7493, (load1 tab rfl (RdC.at0 (E := (encInt .i64)) (d := 0) (i := (IntKind.wrap .i64 (x7366 + 1))) (Own.rd f7059.now) q7493 rfl)), q7494, trivial⟩ fun a hk => ?_
            refine x_op hk rfl ?_
            refine op_storeO tab hk (E := ET44) (i := (IntKind.wrap .i64 (((l7363).length : Int) - 1))) (j := 1) (dx := zT44) (y' := (⟨(rdD zT44 l7363 (IntKind.wrap .i64 (((l7363).length : Int) - 1))).From, (rdD 0 l7058 (IntKind.wrap .i64 (x7366 + 1)))⟩ : T44)) rfl rfl rfl f7364 rfl q7494 rfl rfl rfl rfl fun w7496 o7497 st7498 f7364_ => ?_
            replace f7059 := f7059.st st7498 (by decide)
            replace f900000 := f900000.st st7498 (by decide)
            replace f900020 := f900020.st st7498 (by decide)
            replace hs := hs.loc0 st7498 (by decide)
            replace f7364 := f7364_
            have hl7499 : (List.set l7363 (Int.toNat (IntKind.wrap .i64 (((l7363).length : Int) - 1))) (⟨(rdD zT44 l7363 (IntKind.wrap .i64 (((l7363).length : Int) - 1))).From, (rdD 0 l7058 (IntKind.wrap .i64 (x7366 + 1)))⟩ : T44)).length = (l7363).length := List.length_set
            replace hk := Kn.re hk [0, 1, 2, 7, 13, 14, 118] (e2 := [(0, .slice Ap0 (p0).length cp0), (1, .slice Ap1 (p1).length cp1), (2, .int .i64 p2), (7, .slice (some ad7439) (l7058).length c7057), (13, .slice (some ad7495) ((List.set l7363 (Int.toNat (IntKind.wrap .i64 (((l7363).length : Int) - 1))) (⟨(rdD zT44 l7363 (IntKind.wrap .i64 (((l7363).length : Int) - 1))).From, (rdD 0 l7058 (IntKind.wrap .i64 (x7366 + 1)))⟩ : T44))).length c7362), (14, .int .i64 x7366), (118, .int .i64 (rdD 0 l7058 (IntKind.wrap .i64 (x7366 + 1))))]) rfl (by rw [hl7499])
            refine wpListIn_nil ?_
            refine blk_n ?_
            refine then_n ?_
            refine wpIn_region_lit ?_
            refine x_run tab hk (k := 3) (lv := []) (ks := [0, 1, 2, 7, 13, 14]) (e' := [(0, .slice Ap0 (p0).length cp0), (1, .slice Ap1 (p1).length cp1), (2, .int .i64 p2), (7, .slice (some ad7439) (l7058).length c7057), (13, .slice (some ad7495) ((List.set l7363 (Int.toNat (IntKind.wrap .i64 (((l7363).length : Int) - 1))) (⟨(rdD zT44 l7363 (IntKind.wrap .i64 (((l7363).length : Int) - 1))).From, (rdD 0 l7058 (IntKind.wrap .i64 (x7366 + 1)))⟩ : T44))).length c7362), (14, .int .i64 (IntKind.wrap .i64 (x7366 + 1)))]) rfl trivial fun a hk => ?_
            refine wpListIn_nil ?_
            refine then_n ?_
            exact ⟨k7434, Nat.le_refl _, (fun b_ => (fun l_ => if l_ = 897 then 892 else if l_ = 898 then 893 else l_) (o7497 b_)), (some ad7495), c7362, (List.set l7363 (Int.toNat (IntKind.wrap .i64 (((l7363).length : Int) - 1))) (⟨(rdD zT44 l7363 (IntKind.wrap .i64 (((l7363).length : Int) - 1))).From, (rdD 0 l7058 (IntKind.wrap .i64 (x7366 + 1)))⟩ : T44)), (IntKind.wrap .i64 (x7366 + 1)), (by exact Kn.pick (ks := [0, 1, 2, 7, 13, 14]) hk rfl), (hs.relab0 (fun l_ => if l_ = 897 then 892 else if l_ = 898 then 893 else l_) rfl), (f7059.relab (fun l_ => if l_ = 897 then 892 else if l_ = 898 then 893 else l_) rfl), (f7364.relab (fun l_ => if l_ = 897 then 892 else if l_ = 898 then 893 else l_) rfl), (f900000.relab (fun l_ => if l_ = 897 then 892 else if l_ = 898 then 893 else l_) rfl), (f900020.relab (fun l_ => if l_ = 897 then 892 else if l_ = 898 then 893 else l_) rfl), (by rw [List.length_set]; exact hc7365), (hlp7436 ▸ H)⟩
        refine wpIn_region_lit ?_
        refine x_run tab hk (k := 3) (lv := []) (ks := [0, 1, 2, 7, 13, 14, 15, 16, 101]) (e' := [(0, .slice Ap0 (p0).length cp0), (1, .slice Ap1 (p1).length cp1), (2, .int .i64 p2), (7, .slice (some ad7439) (l7058).length c7057), (13, .slice A7361 (l7363).length c7362), (14, .int .i64 x7366), (15, .int .i64 (rdD 0 l7058 x7366)), (16, .int .i64 ((l7363).length : Int)), (101, .bool (decide (((l7363).length : Int) > (0 : Int))))]) rfl trivial fun a hk => ?_
        cases b7500 : (decide (((l7363).length : Int) > (0 : Int)))
        · rw [b7500] at hk H
          replace H := bifF H
          refine x_run tab hk (k := 9) (lv := []) (ks := [0, 1, 2, 7, 13, 14, 15, 16, 110]) (e' := [(0, .slice Ap0 (p0).length cp0), (1, .slice Ap1 (p1).length cp1), (2, .int .i64 p2), (7, .slice (some ad7439) (l7058).length c7057), (13, .slice A7361 (l7363).length c7362), (14, .int .i64 x7366), (15, .int .i64 (rdD 0 l7058 x7366)), (16, .int .i64 ((l7363).length : Int)), (110, .bool false)]) rfl trivial fun a hk => ?_
          refine wpListIn_nil ?_
          refine then_n ?_
          exact ⟨(fun b_ => (fun l_ => if l_ = 892 then 897 else if l_ = 893 then 898 else l_) (o7462 b_)), false, (by exact Kn.pick (ks := [0, 1, 2, 7, 13, 14, 15, 16, 110]) hk rfl), (hs.relab0 (fun l_ => if l_ = 892 then 897 else if l_ = 893 then 898 else l_) rfl), (f7059.relab (fun l_ => if l_ = 892 then 897 else if l_ = 893 then 898 else l_) rfl), (f7364.relab (fun l_ => if l_ = 892 then 897 else if l_ = 893 then 898 else l_) rfl), (f900000.relab (fun l_ => if l_ = 892 then 897 else if l_ = 893 then 898 else l_) rfl), (f900020.relab (fun l_ => if l_ = 892 then 897 else if l_ = 893 then 898 else l_) rfl), H⟩
        · rw [b7500] at hk H
          replace H := bifT H
          obtain ⟨q7501, H⟩ := ifS H
          obtain ⟨ad7502, hAad7502⟩ := RdC.addr (Own.rd f7364.now) q7501
          have hk_C := hk
          have f7059_C := f7059
          have f7364_C := f7364
          have f900000_C := f900000
          have f900020_C := f900020
          subst hAad7502
          have hk := hk_C
          clear hk_C
          have f7059 := f7059_C
          clear f7059_C
          have f7364 := f7364_C
          clear f7364_C
          have f900000 := f900000_C
          clear f900000_C
          have f900020 := f900020_C
          clear f900020_C
          refine x_run tab hk (k := 9) (lv := [.int .i64 ((rdD zT44 l7363 (IntKind.wrap .i64 (((l7363).length : Int) - 1))).To)]) (ks := [0, 1, 2, 7, 13, 14, 15, 16, 110]) (e' := [(0, .slice Ap0 (p0).length cp0), (1, .slice Ap1 (p1).length cp1), (2, .int .i64 p2), (7, .slice (some ad7439) (l7058).length c7057), (13, .slice (some ad7502) (l7363).length c7362), (14, .int .i64 x7366), (15, .int .i64 (rdD 0 l7058 x7366)), (16, .int .i64 ((l7363).length : Int)), (110, .bool (((rdD zT44 l7363 (IntKind.wrap .i64 (((l7363).length : Int) - 1))).To) == (rdD 0 l7058 x7366)))]) rfl ⟨q7501, (load1 tab rfl (RdC.at (E := ET44) (d := zT44) (i := (IntKind.wrap .i64 (((l7363).length : Int) - 1))) (j := 1) (Own.rd f7364.now) q7501 rfl)), trivial⟩ fun a hk => ?_
          refine wpListIn_nil ?_
          refine then_n ?_
          exact ⟨(fun b_ => (fun l_ => if l_ = 892 then 897 else if l_ = 893 then 898 else l_) (o7462 b_)), (((rdD zT44 l7363 (IntKind.wrap .i64 (((l7363).length : Int) - 1))).To) == (rdD 0 l7058 x7366)), (by exact Kn.pick (ks := [0, 1, 2, 7, 13, 14, 15, 16, 110]) hk rfl), (hs.relab0 (fun l_ => if l_ = 892 then 897 else if l_ = 893 then 898 else l_) rfl), (f7059.relab (fun l_ => if l_ = 892 then 897 else if l_ = 893 then 898 else l_) rfl), (f7364.relab (fun l_ => if l_ = 892 then 897 else if l_ = 893 then 898 else l_) rfl), (f900000.relab (fun l_ => if l_ = 892 then 897 else if l_ = 893 then 898 else l_) rfl), (f900020.relab (fun l_ => if l_ = 892 then 897 else if l_ = 893 then 898 else l_) rfl), H⟩
      · rw [b7464] at hk H
        replace H := bifT H
        refine x_if hk (b := true) rfl ?_
        refine (show Code.wpIn _ _ _ _ _ _ _ from ?_)
        refine wpIn_exit ?_
        refine then_x ?_
        refine blk_x ?_
        refine then_n ?_
        refine wpIn_region_lit ?_
        refine x_run tab hk (k := 3) (lv := []) (ks := [0, 1, 2, 7, 13, 14]) (e' := [(0, .slice Ap0 (p0).length cp0), (1, .slice Ap1 (p1).length cp1), (2, .int .i64 p2), (7, .slice (some ad7439) (l7058).length c7057), (13, .slice A7361 (l7363).length c7362), (14, .int .i64 (IntKind.wrap .i64 (x7366 + 1)))]) rfl trivial fun a hk => ?_
        refine wpListIn_nil ?_
        refine then_n ?_
        exact ⟨k7434, Nat.le_refl _, o7462, A7361, c7362, l7363, (IntKind.wrap .i64 (x7366 + 1)), (by exact Kn.pick (ks := [0, 1, 2, 7, 13, 14]) hk rfl), hs, f7059, f7364, f900000, f900020, hc7365, (hlp7436 ▸ H)⟩
  refine x_seq ?_
  refine wpIn_region_lit ?_
  refine x_op hk rfl ?_
  refine op_slice (o := o2) tab hk (vs := []) (cs := []) rfl rfl rfl rfl rfl rfl rfl rfl rfl 900 fun bx7506 w7503 o7504 st7505 f7507 => ?_
  replace f6 := f6.st st7505 (by decide)
  replace f900000 := f900000.st st7505 (by decide)
  replace f900020 := f900020.st st7505 (by decide)
  replace hs := hs.loc0 st7505 (by decide)
  have f7508 : Ft (Own ET44 102 (.slice (some ⟨bx7506, 0, none⟩) (([] : List T44)).length 0) ([] : List T44)) w7503 o7504 900 := f7507.imp fun _ h_ => Own.of_box h_ rfl (by simp)
  have hk := hk.put 18 (.slice (some ⟨bx7506, 0, none⟩) (([] : List T44)).length 0) rfl
  refine x_run tab hk (k := 1) (lv := []) (ks := [0, 1, 2, 7, 18, 19]) (e' := [(0, .slice Ap0 (p0).length cp0), (1, .slice Ap1 (p1).length cp1), (2, .int .i64 p2), (7, .slice (some ⟨bx4, 0, none⟩) (([] : List Int)).length 0), (18, .slice (some ⟨bx7506, 0, none⟩) (([] : List T44)).length 0), (19, .slice Ap0 (p0).length cp0)]) rfl trivial fun a hk => ?_
  refine x_op hk rfl ?_
  obtain ⟨q7512, H⟩ := ifS H
  refine op_append (o := o7504) (E := ET44) (xs := ([] : List T44)) (ys := p0) tab hk rfl rfl rfl rfl rfl rfl rfl f7508 f900000.now q7512 fun A7513 c7514 w7509 o7510 st7511 f7515 hc7516 => ?_
  replace f6 := f6.st st7511 (by decide)
  replace f900000 := f900000.st st7511 (by decide)
  replace f900020 := f900020.st st7511 (by decide)
  replace hs := hs.loc0 st7511 (by decide)
  have hk := hk.put 20 (.slice A7513 ((([] : List T44) ++ p0)).length c7514) rfl
  refine x_run tab hk (k := 1) (lv := []) (ks := [0, 1, 2, 7, 20, 21]) (e' := [(0, .slice Ap0 (p0).length cp0), (1, .slice Ap1 (p1).length cp1), (2, .int .i64 p2), (7, .slice (some ⟨bx4, 0, none⟩) (([] : List Int)).length 0), (20, .slice A7513 ((([] : List T44) ++ p0)).length c7514), (21, .slice Ap1 (p1).length cp1)]) rfl trivial fun a hk => ?_
  refine x_op hk rfl ?_
  obtain ⟨q7520, H⟩ := ifS H
  refine op_append (o := o7510) (E := ET44) (xs := (([] : List T44) ++ p0)) (ys := p1) tab hk rfl rfl rfl rfl rfl rfl rfl f7515 f900020.now q7520 fun A7521 c7522 w7517 o7518 st7519 f7523 hc7524 => ?_
  replace f6 := f6.st st7519 (by decide)
  replace f900000 := f900000.st st7519 (by decide)
  replace f900020 := f900020.st st7519 (by decide)
  replace hs := hs.loc0 st7519 (by decide)
  have hk := hk.put 22 (.slice A7521 (((([] : List T44) ++ p0) ++ p1)).length c7522) rfl
  refine x_run tab hk (k := 2) (lv := []) (ks := [0, 1, 2, 7, 22, 23, 24]) (e' := [(0, .slice Ap0 (p0).length cp0), (1, .slice Ap1 (p1).length cp1), (2, .int .i64 p2), (7, .slice (some ⟨bx4, 0, none⟩) (([] : List Int)).length 0), (22, .slice A7521 (((([] : List T44) ++ p0) ++ p1)).length c7522), (23, .int .i64 ((((([] : List T44) ++ p0) ++ p1)).length : Int)), (24, .int .i64 0)]) rfl trivial fun a hk => ?_
  refine wpListIn_nil ?_
  refine then_n ?_
  refine wpIn_block ?_
  refine x_loop (fun j_ a_ w_ => ∃ o9818 : Nat → Nat, ∃ A9819 : Option Addr, ∃ c9820 : Nat, ∃ l9821 : List Int, ∃ A9824 : Option Addr, ∃ c9825 : Nat, ∃ x9828 : Int, Kn 132 a_ [(0, .slice Ap0 (p0).length cp0), (1, .slice Ap1 (p1).length cp1), (2, .int .i64 p2), (7, .slice A9819 (l9821).length c9820), (22, .slice A9824 (((([] : List T44) ++ p0) ++ p1)).length c9825), (23, .int .i64 ((((([] : List T44) ++ p0) ++ p1)).length : Int)), (24, .int .i64 x9828)] ∧ St [] w (fun _ => 0) w_ o9818 ∧ Ft (RdC ET44 Ap0 p0) w_ o9818 0 ∧ Ft (RdC ET44 Ap1 p1) w_ o9818 0 ∧ Ft (Own (encInt .i64) 3 (.slice A9819 (l9821).length c9820) l9821) w_ o9818 1191 ∧ Ft (Own ET44 102 (.slice A9824 (((([] : List T44) ++ p0) ++ p1)).length c9825) ((([] : List T44) ++ p0) ++ p1)) w_ o9818 1192 ∧ (l9821).length ≤ c9820 ∧ (((([] : List T44) ++ p0) ++ p1)).length ≤ c9825 ∧ tidewrackref13_build_l5 K p0 p1 p2 j_ l9821 x9828 = some r) (k := K) ⟨(fun b_ => (fun l_ => if l_ = 1 then 1191 else if l_ = 900 then 1192 else l_) (o7518 b_)), (some ⟨bx4, 0, none⟩), 0, ([] : List Int), A7521, c7522, 0, (by exact Kn.pick (ks := [0, 1, 2, 7, 22, 23, 24]) hk rfl), (hs.relab0 (fun l_ => if l_ = 1 then 1191 else if l_ = 900 then 1192 else l_) rfl), (f900000.relab (fun l_ => if l_ = 1 then 1191 else if l_ = 900 then 1192 else l_) rfl), (f900020.relab (fun l_ => if l_ = 1 then 1191 else if l_ = 900 then 1192 else l_) rfl), (f6.relab (fun l_ => if l_ = 1 then 1191 else if l_ = 900 then 1192 else l_) rfl), (f7523.relab (fun l_ => if l_ = 1 then 1191 else if l_ = 900 then 1192 else l_) rfl), (Nat.le_refl _), hc7524, H⟩ (by rintro _ _ ⟨_, _, _, _, _, _, _, _, _, _, _, _, _, _, _, H_⟩; exact absurd (show (none : Option (List T44)) = some r from H_) (by simp)) ?_
  rintro k12184 a w12183 ⟨o9818, A9819, c9820, l9821, A9824, c9825, x9828, hk, hs, f900000, f900020, f9822, f9826, hc9823, hc9827, H⟩
  rw [tidewrackref13_build_l5] at H
  obtain ⟨lp12185, hlp12186⟩ : ∃ lp_, lp_ = tidewrackref13_build_l5 K p0 p1 p2 k12184 := ⟨_, rfl⟩
  rw [← hlp12186] at H
  refine x_seq ?_
  refine wpIn_region_lit ?_
  refine x_run tab hk (k := 1) (lv := []) (ks := [0, 1, 2, 7, 22, 23, 24, 25]) (e' := [(0, .slice Ap0 (p0).length cp0), (1, .slice Ap1 (p1).length cp1), (2, .int .i64 p2), (7, .slice A9819 (l9821).length c9820), (22, .slice A9824 (((([] : List T44) ++ p0) ++ p1)).length c9825), (23, .int .i64 ((((([] : List T44) ++ p0) ++ p1)).length : Int)), (24, .int .i64 x9828), (25, .bool (decide (x9828 < ((((([] : List T44) ++ p0) ++ p1)).length : Int))))]) rfl trivial fun a hk => ?_
  refine wpListIn_nil ?_
  refine then_n ?_
  refine x_seq ?_
  cases b12187 : (decide (x9828 < ((((([] : List T44) ++ p0) ++ p1)).length : Int)))
  · rw [b12187] at hk H
    replace H := bifF H
    refine x_if hk (b := false) rfl ?_
    refine (show Code.wpIn _ _ _ _ _ _ _ from ?_)
    refine wpIn_exit ?_
    refine then_x ?_
    refine then_x ?_
    refine blk_x ?_
    refine then_n ?_
    exact ⟨(fun b_ => (fun l_ => if l_ = 1191 then 871 else l_) (o9818 b_)), A9819, c9820, l9821, (by exact Kn.pick (ks := [0, 1, 2, 7]) hk rfl), (hs.relab0 (fun l_ => if l_ = 1191 then 871 else l_) rfl), (f9822.relab (fun l_ => if l_ = 1191 then 871 else l_) rfl), (f900000.relab (fun l_ => if l_ = 1191 then 871 else l_) rfl), (f900020.relab (fun l_ => if l_ = 1191 then 871 else l_) rfl), hc9823, H⟩
  · rw [b12187] at hk H
    replace H := bifT H
    refine x_if hk (b := true) rfl ?_
    refine (show Code.wpIn _ _ _ _ _ _ _ from ?_)
    refine wpIn_skip ?_
    refine then_n ?_
    refine x_mid (fun a_ w_ => ∃ o13366 : Nat → Nat, ∃ A13367 : Option Addr, ∃ c13368 : Nat, ∃ l13369 : List Int, ∃ A13372 : Option Addr, ∃ c13373 : Nat, Kn 132 a_ [(0, .slice Ap0 (p0).length cp0), (1, .slice Ap1 (p1).length cp1), (2, .int .i64 p2), (7, .slice A13367 (l13369).length c13368), (22, .slice A13372 (((([] : List T44) ++ p0) ++ p1)).length c13373), (23, .int .i64 ((((([] : List T44) ++ p0) ++ p1)).length : Int)), (24, .int .i64 x9828)] ∧ St [] w (fun _ => 0) w_ o13366 ∧ Ft (Own (encInt .i64) 3 (.slice A13367 (l13369).length c13368) l13369) w_ o13366 1624 ∧ Ft (Own ET44 102 (.slice A13372 (((([] : List T44) ++ p0) ++ p1)).length c13373) ((([] : List T44) ++ p0) ++ p1)) w_ o13366 1625 ∧ Ft (RdC ET44 Ap0 p0) w_ o13366 0 ∧ Ft (RdC ET44 Ap1 p1) w_ o13366 0 ∧ (l13369).length ≤ c13368 ∧ (((([] : List T44) ++ p0) ++ p1)).length ≤ c13373 ∧ tidewrackref13_build_j6 x9828 lp12185 l13369 = some r) ?_ ?_
    rotate_left
    · rintro a w13376 ⟨o13366, A13367, c13368, l13369, A13372, c13373, hk, hs, f13370, f13374, f900000, f900020, hc13371, hc13375, H⟩
      rw [tidewrackref13_build_j6] at H
      refine wpIn_region_lit ?_
      refine x_run tab hk (k := 2) (lv := []) (ks := [0, 1, 2, 7, 22, 23, 24]) (e' := [(0, .slice Ap0 (p0).length cp0), (1, .slice Ap1 (p1).length cp1), (2, .int .i64 p2), (7, .slice A13367 (l13369).length c13368), (22, .slice A13372 (((([] : List T44) ++ p0) ++ p1)).length c13373), (23, .int .i64 ((((([] : List T44) ++ p0) ++ p1)).length : Int)), (24, .int .i64 (IntKind.wrap .i64 (x9828 + 1)))]) rfl trivial fun a hk => ?_
      refine wpListIn_nil ?_
      refine then_n ?_
      exact ⟨k12184, Nat.le_refl _, (fun b_ => (fun l_ => if l_ = 1624 then 1191 else if l_ = 1625 then 1192 else l_) (o13366 b_)), A13367, c13368, l13369, A13372, c13373, (IntKind.wrap .i64 (x9828 + 1)), (by exact Kn.pick (ks := [0, 1, 2, 7, 22, 23, 24]) hk rfl), (hs.relab0 (fun l_ => if l_ = 1624 then 1191 else if l_ = 1625 then 1192 else l_) rfl), (f900000.relab (fun l_ => if l_ = 1624 then 1191 else if l_ = 1625 then 1192 else l_) rfl), (f900020.relab (fun l_ => if l_ = 1624 then 1191 else if l_ = 1625 then 1192 else l_) rfl), (f13370.relab (fun l_ => if l_ = 1624 then 1191 else if l_ = 1625 then 1192 else l_) rfl), (f13374.relab (fun l_ => if l_ = 1624 then 1191 else if l_ = 1625 then 1192 else l_) rfl), hc13371, hc13375, (hlp12186 ▸ H)⟩
    refine wpIn_block ?_
    refine x_seq ?_
    refine wpIn_region_lit ?_
    obtain ⟨q13377, H⟩ := ifS H
    obtain ⟨ad13378, hAad13378⟩ := RdC.addr (Own.rd f9826.now) q13377
    have hk_C := hk
    have f900000_C := f900000
    have f900020_C := f900020
    have f9822_C := f9822
    have f9826_C := f9826
    subst hAad13378
    have hk := hk_C
    clear hk_C
    have f900000 := f900000_C
    clear f900000_C
    have f900020 := f900020_C
    clear f900020_C
    have f9822 := f9822_C
    clear f9822_C
    have f9826 := f9826_C
    clear f9826_C
    refine x_run tab hk (k := 2) (lv := [.agg #[.int .i64 ((rdD zT44 ((([] : List T44) ++ p0) ++ p1) x9828).From), .int .i64 ((rdD zT44 ((([] : List T44) ++ p0) ++ p1) x9828).To)]]) (ks := [0, 1, 2, 7, 22, 23, 24, 27]) (e' := [(0, .slice Ap0 (p0).length cp0), (1, .slice Ap1 (p1).length cp1), (2, .int .i64 p2), (7, .slice A9819 (l9821).length c9820), (22, .slice (some ad13378) (((([] : List T44) ++ p0) ++ p1)).length c9825), (23, .int .i64 ((((([] : List T44) ++ p0) ++ p1)).length : Int)), (24, .int .i64 x9828), (27, .agg #[.int .i64 ((rdD zT44 ((([] : List T44) ++ p0) ++ p1) x9828).From), .int .i64 ((rdD zT44 ((([] : List T44) ++ p0) ++ p1) x9828).To)])]) rfl ⟨q13377, (load_elem (E := ET44) (i := x9828) (dx := zT44) tab rfl rfl (Own.rd f9826.now) q13377), trivial⟩ fun a hk => ?_
    refine x_op hk rfl ?_
    refine op_alloc (o := o9818) tab (t := 102) (cs := [.int .i64 0, .int .i64 0]) rfl rfl 1626 fun bx13382 w13379 o13380 st13381 f13383 => ?_
    replace f900000 := f900000.st st13381 (by decide)
    replace f900020 := f900020.st st13381 (by decide)
    replace f9822 := f9822.st st13381 (by decide)
    replace f9826 := f9826.st st13381 (by decide)
    replace hs := hs.loc0 st13381 (by decide)
    have hk := hk.put 9 (.pointer (some ⟨bx13382, 0, none⟩)) rfl
    refine x_op hk rfl ?_
    refine op_store tab hk (t := 102) (v := .agg #[.int .i64 ((rdD zT44 ((([] : List T44) ++ p0) ++ p1) x9828).From), .int .i64 ((rdD zT44 ((([] : List T44) ++ p0) ++ p1) x9828).To)]) (b := bx13382) (k := 0) (cs' := [.int .i64 ((rdD zT44 ((([] : List T44) ++ p0) ++ p1) x9828).From), .int .i64 ((rdD zT44 ((([] : List T44) ++ p0) ++ p1) x9828).To)]) rfl rfl rfl rfl rfl rfl f13383 rfl rfl fun w13384 o13385 st13386 f13383_ => ?_
    replace f900000 := f900000.st st13386 (by decide)
    replace f900020 := f900020.st st13386 (by decide)
    replace f9822 := f9822.st st13386 (by decide)
    replace f9826 := f9826.st st13386 (by decide)
    replace hs := hs.loc0 st13386 (by decide)
    replace f13383 := f13383_
    refine wpListIn_nil ?_
    refine then_n ?_
    refine x_seq ?_
    refine wpIn_region_lit ?_
    refine x_run tab hk (k := 4) (lv := [.int .i64 ((rdD zT44 ((([] : List T44) ++ p0) ++ p1) x9828).From), .int .i64 ((rdD zT44 ((([] : List T44) ++ p0) ++ p1) x9828).To)]) (ks := [0, 1, 2, 7, 22, 23, 24, 29, 31]) (e' := [(0, .slice Ap0 (p0).length cp0), (1, .slice Ap1 (p1).length cp1), (2, .int .i64 p2), (7, .slice A9819 (l9821).length c9820), (22, .slice (some ad13378) (((([] : List T44) ++ p0) ++ p1)).length c9825), (23, .int .i64 ((((([] : List T44) ++ p0) ++ p1)).length : Int)), (24, .int .i64 x9828), (29, .int .i64 ((rdD zT44 ((([] : List T44) ++ p0) ++ p1) x9828).From)), (31, .int .i64 ((rdD zT44 ((([] : List T44) ++ p0) ++ p1) x9828).To))]) rfl ⟨(load1 tab rfl ((Bx.cell f13383.now 0).trans rfl)), (load1 tab rfl ((Bx.cell f13383.now 1).trans rfl)), trivial⟩ fun a hk => ?_
    refine x_op hk rfl ?_
    refine op_slice (o := o13385) tab hk (vs := [.int .i64 ((rdD zT44 ((([] : List T44) ++ p0) ++ p1) x9828).From), .int .i64 ((rdD zT44 ((([] : List T44) ++ p0) ++ p1) x9828).To)]) (cs := [.int .i64 ((rdD zT44 ((([] : List T44) ++ p0) ++ p1) x9828).From), .int .i64 ((rdD zT44 ((([] : List T44) ++ p0) ++ p1) x9828).To)]) rfl rfl rfl rfl rfl rfl rfl rfl rfl 1627 fun bx13390 w13387 o13388 st13389 f13391 => ?_
    replace f900000 := f900000.st st13389 (by decide)
    replace f900020 := f900020.st st13389 (by decide)
    replace f9822 := f9822.st st13389 (by decide)
    replace f9826 := f9826.st st13389 (by decide)
    replace hs := hs.loc0 st13389 (by decide)
    have f13392 : Ft (Own (encInt .i64) 3 (.slice (some ⟨bx13390, 0, none⟩) (([(rdD zT44 ((([] : List T44) ++ p0) ++ p1) x9828).From, (rdD zT44 ((([] : List T44) ++ p0) ++ p1) x9828).To] : List Int)).length 2) ([(rdD zT44 ((([] : List T44) ++ p0) ++ p1) x9828).From, (rdD zT44 ((([] : List T44) ++ p0) ++ p1) x9828).To] : List Int)) w13387 o13388 1627 := f13391.imp fun _ h_ => Own.of_box h_ rfl (by simp)
    have hk := hk.put 32 (.slice (some ⟨bx13390, 0, none⟩) (([(rdD zT44 ((([] : List T44) ++ p0) ++ p1) x9828).From, (rdD zT44 ((([] : List T44) ++ p0) ++ p1) x9828).To] : List Int)).length 2) rfl
    refine x_run tab hk (k := 2) (lv := []) (ks := [0, 1, 2, 7, 22, 23, 24, 32, 33, 34]) (e' := [(0, .slice Ap0 (p0).length cp0), (1, .slice Ap1 (p1).length cp1), (2, .int .i64 p2), (7, .slice A9819 (l9821).length c9820), (22, .slice (some ad13378) (((([] : List T44) ++ p0) ++ p1)).length c9825), (23, .int .i64 ((((([] : List T44) ++ p0) ++ p1)).length : Int)), (24, .int .i64 x9828), (32, .slice (some ⟨bx13390, 0, none⟩) (([(rdD zT44 ((([] : List T44) ++ p0) ++ p1) x9828).From, (rdD zT44 ((([] : List T44) ++ p0) ++ p1) x9828).To] : List Int)).length 2), (33, .int .i64 ((([(rdD zT44 ((([] : List T44) ++ p0) ++ p1) x9828).From, (rdD zT44 ((([] : List T44) ++ p0) ++ p1) x9828).To] : List Int)).length : Int)), (34, .int .i64 0)]) rfl trivial fun a hk => ?_
    refine wpListIn_nil ?_
    refine then_n ?_
    refine wpIn_block ?_
    refine x_loop (fun j_ a_ w_ => ∃ o13774 : Nat → Nat, ∃ A13775 : Option Addr, ∃ c13776 : Nat, ∃ l13777 : List Int, ∃ x13780 : Int, Kn 132 a_ [(0, .slice Ap0 (p0).length cp0), (1, .slice Ap1 (p1).length cp1), (2, .int .i64 p2), (7, .slice A13775 (l13777).length c13776), (22, .slice (some ad13378) (((([] : List T44) ++ p0) ++ p1)).length c9825), (23, .int .i64 ((((([] : List T44) ++ p0) ++ p1)).length : Int)), (24, .int .i64 x9828), (32, .slice (some ⟨bx13390, 0, none⟩) (([(rdD zT44 ((([] : List T44) ++ p0) ++ p1) x9828).From, (rdD zT44 ((([] : List T44) ++ p0) ++ p1) x9828).To] : List Int)).length 2), (33, .int .i64 ((([(rdD zT44 ((([] : List T44) ++ p0) ++ p1) x9828).From, (rdD zT44 ((([] : List T44) ++ p0) ++ p1) x9828).To] : List Int)).length : Int)), (34, .int .i64 x13780)] ∧ St [] w (fun _ => 0) w_ o13774 ∧ Ft (Own (encInt .i64) 3 (.slice (some ⟨bx13390, 0, none⟩) (([(rdD zT44 ((([] : List T44) ++ p0) ++ p1) x9828).From, (rdD zT44 ((([] : List T44) ++ p0) ++ p1) x9828).To] : List Int)).length 2) ([(rdD zT44 ((([] : List T44) ++ p0) ++ p1) x9828).From, (rdD zT44 ((([] : List T44) ++ p0) ++ p1) x9828).To] : List Int)) w_ o13774 1678 ∧ Ft (Own (encInt .i64) 3 (.slice A13775 (l13777).length c13776) l13777) w_ o13774 1676 ∧ Ft (RdC ET44 Ap0 p0) w_ o13774 0 ∧ Ft (RdC ET44 Ap1 p1) w_ o13774 0 ∧ Ft (Own ET44 102 (.slice (some ad13378) (((([] : List T44) ++ p0) ++ p1)).length c9825) ((([] : List T44) ++ p0) ++ p1)) w_ o13774 1677 ∧ (l13777).length ≤ c13776 ∧ tidewrackref13_build_l7 K p0 p1 x9828 lp12185 j_ l13777 x13780 = some r) (k := K) ⟨(fun b_ => (fun l_ => if l_ = 1191 then 1676 else if l_ = 1192 then 1677 else if l_ = 1627 then 1678 else l_) (o13388 b_)), A9819, c9820, l9821, 0, (by exact Kn.pick (ks := [0, 1, 2, 7, 22, 23, 24, 32, 33, 34]) hk rfl), (hs.relab0 (fun l_ => if l_ = 1191 then 1676 else if l_ = 1192 then 1677 else if l_ = 1627 then 1678 else l_) rfl), (f13392.relab (fun l_ => if l_ = 1191 then 1676 else if l_ = 1192 then 1677 else if l_ = 1627 then 1678 else l_) rfl), (f9822.relab (fun l_ => if l_ = 1191 then 1676 else if l_ = 1192 then 1677 else if l_ = 1627 then 1678 else l_) rfl), (f900000.relab (fun l_ => if l_ = 1191 then 1676 else if l_ = 1192 then 1677 else if l_ = 1627 then 1678 else l_) rfl), (f900020.relab (fun l_ => if l_ = 1191 then 1676 else if l_ = 1192 then 1677 else if l_ = 1627 then 1678 else l_) rfl), (f9826.relab (fun l_ => if l_ = 1191 then 1676 else if l_ = 1192 then 1677 else if l_ = 1627 then 1678 else l_) rfl), hc9823, H⟩ (by rintro _ _ ⟨_, _, _, _, _, _, _, _, _, _, _, _, _, H_⟩; exact absurd (show (none : Option (List T44)) = some r from H_) (by simp)) ?_
    rintro k14160 a w14159 ⟨o13774, A13775, c13776, l13777, x13780, hk, hs, f13392, f13778, f900000, f900020, f9826, hc13779, H⟩
    rw [tidewrackref13_build_l7] at H
    obtain ⟨lp14161, hlp14162⟩ : ∃ lp_, lp_ = tidewrackref13_build_l7 K p0 p1 x9828 lp12185 k14160 := ⟨_, rfl⟩
    rw [← hlp14162] at H
    refine x_seq ?_
    refine wpIn_region_lit ?_
    refine x_run tab hk (k := 1) (lv := []) (ks := [0, 1, 2, 7, 22, 23, 24, 32, 33, 34, 35]) (e' := [(0, .slice Ap0 (p0).length cp0), (1, .slice Ap1 (p1).length cp1), (2, .int .i64 p2), (7, .slice A13775 (l13777).length c13776), (22, .slice (some ad13378) (((([] : List T44) ++ p0) ++ p1)).length c9825), (23, .int .i64 ((((([] : List T44) ++ p0) ++ p1)).length : Int)), (24, .int .i64 x9828), (32, .slice (some ⟨bx13390, 0, none⟩) (([(rdD zT44 ((([] : List T44) ++ p0) ++ p1) x9828).From, (rdD zT44 ((([] : List T44) ++ p0) ++ p1) x9828).To] : List Int)).length 2), (33, .int .i64 ((([(rdD zT44 ((([] : List T44) ++ p0) ++ p1) x9828).From, (rdD zT44 ((([] : List T44) ++ p0) ++ p1) x9828).To] : List Int)).length : Int)), (34, .int .i64 x13780), (35, .bool (decide (x13780 < ((([(rdD zT44 ((([] : List T44) ++ p0) ++ p1) x9828).From, (rdD zT44 ((([] : List T44) ++ p0) ++ p1) x9828).To] : List Int)).length : Int))))]) rfl trivial fun a hk => ?_
    refine wpListIn_nil ?_
    refine then_n ?_
    refine x_seq ?_
    cases b14163 : (decide (x13780 < ((([(rdD zT44 ((([] : List T44) ++ p0) ++ p1) x9828).From, (rdD zT44 ((([] : List T44) ++ p0) ++ p1) x9828).To] : List Int)).length : Int)))
    · rw [b14163] at hk H
      replace H := bifF H
      refine x_if hk (b := false) rfl ?_
      refine (show Code.wpIn _ _ _ _ _ _ _ from ?_)
      refine wpIn_exit ?_
      refine then_x ?_
      refine then_x ?_
      refine blk_x ?_
      refine blk_n ?_
      refine then_n ?_
      exact ⟨(fun b_ => (fun l_ => if l_ = 1676 then 1624 else if l_ = 1677 then 1625 else l_) (o13774 b_)), A13775, c13776, l13777, (some ad13378), c9825, (by exact Kn.pick (ks := [0, 1, 2, 7, 22, 23, 24]) hk rfl), (hs.relab0 (fun l_ => if l_ = 1676 then 1624 else if l_ = 1677 then 1625 else l_) rfl), (f13778.relab (fun l_ => if l_ = 1676 then 1624 else if l_ = 1677 then 1625 else l_) rfl), (f9826.relab (fun l_ => if l_ = 1676 then 1624 else if l_ = 1677 then 1625 else l_) rfl), (f900000.relab (fun l_ => if l_ = 1676 then 1624 else if l_ = 1677 then 1625 else l_) rfl), (f900020.relab (fun l_ => if l_ = 1676 then 1624 else if l_ = 1677 then 1625 else l_) rfl), hc13779, hc9827, H⟩
    · rw [b14163] at hk H
      replace H := bifT H
      refine x_if hk (b := true) rfl ?_
      refine (show Code.wpIn _ _ _ _ _ _ _ from ?_)
      refine wpIn_skip ?_
      refine then_n ?_
      refine x_mid (fun a_ w_ => ∃ o14354 : Nat → Nat, ∃ A14355 : Option Addr, ∃ c14356 : Nat, ∃ l14357 : List Int, Kn 132 a_ [(0, .slice Ap0 (p0).length cp0), (1, .slice Ap1 (p1).length cp1), (2, .int .i64 p2), (7, .slice A14355 (l14357).length c14356), (22, .slice (some ad13378) (((([] : List T44) ++ p0) ++ p1)).length c9825), (23, .int .i64 ((((([] : List T44) ++ p0) ++ p1)).length : Int)), (24, .int .i64 x9828), (32, .slice (some ⟨bx13390, 0, none⟩) (([(rdD zT44 ((([] : List T44) ++ p0) ++ p1) x9828).From, (rdD zT44 ((([] : List T44) ++ p0) ++ p1) x9828).To] : List Int)).length 2), (33, .int .i64 ((([(rdD zT44 ((([] : List T44) ++ p0) ++ p1) x9828).From, (rdD zT44 ((([] : List T44) ++ p0) ++ p1) x9828).To] : List Int)).length : Int)), (34, .int .i64 x13780)] ∧ St [] w (fun _ => 0) w_ o14354 ∧ Ft (Own (encInt .i64) 3 (.slice (some ⟨bx13390, 0, none⟩) (([(rdD zT44 ((([] : List T44) ++ p0) ++ p1) x9828).From, (rdD zT44 ((([] : List T44) ++ p0) ++ p1) x9828).To] : List Int)).length 2) ([(rdD zT44 ((([] : List T44) ++ p0) ++ p1) x9828).From, (rdD zT44 ((([] : List T44) ++ p0) ++ p1) x9828).To] : List Int)) w_ o14354 1747 ∧ Ft (Own (encInt .i64) 3 (.slice A14355 (l14357).length c14356) l14357) w_ o14354 1745 ∧ Ft (RdC ET44 Ap0 p0) w_ o14354 0 ∧ Ft (RdC ET44 Ap1 p1) w_ o14354 0 ∧ Ft (Own ET44 102 (.slice (some ad13378) (((([] : List T44) ++ p0) ++ p1)).length c9825) ((([] : List T44) ++ p0) ++ p1)) w_ o14354 1746 ∧ (l14357).length ≤ c14356 ∧ tidewrackref13_build_j8 x13780 lp14161 l14357 = some r) ?_ ?_
      rotate_left
      · rintro a w14360 ⟨o14354, A14355, c14356, l14357, hk, hs, f13392, f14358, f900000, f900020, f9826, hc14359, H⟩
        rw [tidewrackref13_build_j8] at H
        refine wpIn_region_lit ?_
        refine x_run tab hk (k := 2) (lv := []) (ks := [0, 1, 2, 7, 22, 23, 24, 32, 33, 34]) (e' := [(0, .slice Ap0 (p0).length cp0), (1, .slice Ap1 (p1).length cp1), (2, .int .i64 p2), (7, .slice A14355 (l14357).length c14356), (22, .slice (some ad13378) (((([] : List T44) ++ p0) ++ p1)).length c9825), (23, .int .i64 ((((([] : List T44) ++ p0) ++ p1)).length : Int)), (24, .int .i64 x9828), (32, .slice (some ⟨bx13390, 0, none⟩) (([(rdD zT44 ((([] : List T44) ++ p0) ++ p1) x9828).From, (rdD zT44 ((([] : List T44) ++ p0) ++ p1) x9828).To] : List Int)).length 2), (33, .int .i64 ((([(rdD zT44 ((([] : List T44) ++ p0) ++ p1) x9828).From, (rdD zT44 ((([] : List T44) ++ p0) ++ p1) x9828).To] : List Int)).length : Int)), (34, .int .i64 (IntKind.wrap .i64 (x13780 + 1)))]) rfl trivial fun a hk => ?_
        refine wpListIn_nil ?_
        refine then_n ?_
        exact ⟨k14160, Nat.le_refl _, (fun b_ => (fun l_ => if l_ = 1745 then 1676 else if l_ = 1746 then 1677 else if l_ = 1747 then 1678 else l_) (o14354 b_)), A14355, c14356, l14357, (IntKind.wrap .i64 (x13780 + 1)), (by exact Kn.pick (ks := [0, 1, 2, 7, 22, 23, 24, 32, 33, 34]) hk rfl), (hs.relab0 (fun l_ => if l_ = 1745 then 1676 else if l_ = 1746 then 1677 else if l_ = 1747 then 1678 else l_) rfl), (f13392.relab (fun l_ => if l_ = 1745 then 1676 else if l_ = 1746 then 1677 else if l_ = 1747 then 1678 else l_) rfl), (f14358.relab (fun l_ => if l_ = 1745 then 1676 else if l_ = 1746 then 1677 else if l_ = 1747 then 1678 else l_) rfl), (f900000.relab (fun l_ => if l_ = 1745 then 1676 else if l_ = 1746 then 1677 else if l_ = 1747 then 1678 else l_) rfl), (f900020.relab (fun l_ => if l_ = 1745 then 1676 else if l_ = 1746 then 1677 else if l_ = 1747 then 1678 else l_) rfl), (f9826.relab (fun l_ => if l_ = 1745 then 1676 else if l_ = 1746 then 1677 else if l_ = 1747 then 1678 else l_) rfl), hc14359, (hlp14162 ▸ H)⟩
      refine wpIn_block ?_
      refine x_seq ?_
      refine wpIn_region_lit ?_
      obtain ⟨q14361, H⟩ := ifS H
      refine x_run tab hk (k := 3) (lv := [.int .i64 (rdD 0 ([(rdD zT44 ((([] : List T44) ++ p0) ++ p1) x9828).From, (rdD zT44 ((([] : List T44) ++ p0) ++ p1) x9828).To] : List Int) x13780)]) (ks := [0, 1, 2, 7, 11, 22, 23, 24, 32, 33, 34]) (e' := [(0, .slice Ap0 (p0).length cp0), (1, .slice Ap1 (p1).length cp1), (2, .int .i64 p2), (7, .slice A13775 (l13777).length c13776), (11, .int .i64 (rdD 0 ([(rdD zT44 ((([] : List T44) ++ p0) ++ p1) x9828).From, (rdD zT44 ((([] : List T44) ++ p0) ++ p1) x9828).To] : List Int) x13780)), (22, .slice (some ad13378) (((([] : List T44) ++ p0) ++ p1)).length c9825), (23, .int .i64 ((((([] : List T44) ++ p0) ++ p1)).length : Int)), (24, .int .i64 x9828), (32, .slice (some ⟨bx13390, 0, none⟩) (([(rdD zT44 ((([] : List T44) ++ p0) ++ p1) x9828).From, (rdD zT44 ((([] : List T44) ++ p0) ++ p1) x9828).To] : List Int)).length 2), (33, .int .i64 ((([(rdD zT44 ((([] : List T44) ++ p0) ++ p1) x9828).From, (rdD zT44 ((([] : List T44) ++ p0) ++ p1) x9828).To] : List Int)).length : Int)), (34, .int .i64 x13780)]) rfl ⟨q14361, (load1 tab rfl (RdC.at0 (E := (encInt .i64)) (d := 0) (i := x13780) (Own.rd f13392.now) q14361 rfl)), trivial⟩ fun a hk => ?_
      refine wpListIn_nil ?_
      refine then_n ?_
      refine x_seq ?_
      refine wpIn_region_lit ?_
      refine x_run tab hk (k := 1) (lv := []) (ks := [0, 1, 2, 7, 11, 12, 22, 23, 24, 32, 33, 34]) (e' := [(0, .slice Ap0 (p0).length cp0), (1, .slice Ap1 (p1).length cp1), (2, .int .i64 p2), (7, .slice A13775 (l13777).length c13776), (11, .int .i64 (rdD 0 ([(rdD zT44 ((([] : List T44) ++ p0) ++ p1) x9828).From, (rdD zT44 ((([] : List T44) ++ p0) ++ p1) x9828).To] : List Int) x13780)), (12, .int .i64 0), (22, .slice (some ad13378) (((([] : List T44) ++ p0) ++ p1)).length c9825), (23, .int .i64 ((((([] : List T44) ++ p0) ++ p1)).length : Int)), (24, .int .i64 x9828), (32, .slice (some ⟨bx13390, 0, none⟩) (([(rdD zT44 ((([] : List T44) ++ p0) ++ p1) x9828).From, (rdD zT44 ((([] : List T44) ++ p0) ++ p1) x9828).To] : List Int)).length 2), (33, .int .i64 ((([(rdD zT44 ((([] : List T44) ++ p0) ++ p1) x9828).From, (rdD zT44 ((([] : List T44) ++ p0) ++ p1) x9828).To] : List Int)).length : Int)), (34, .int .i64 x13780)]) rfl trivial fun a hk => ?_
      refine wpListIn_nil ?_
      refine then_n ?_
      refine x_mid (fun a_ w_ => ∃ o14389 : Nat → Nat, ∃ x14390 : Int, Kn 132 a_ [(0, .slice Ap0 (p0).length cp0), (1, .slice Ap1 (p1).length cp1), (2, .int .i64 p2), (7, .slice A13775 (l13777).length c13776), (11, .int .i64 (rdD 0 ([(rdD zT44 ((([] : List T44) ++ p0) ++ p1) x9828).From, (rdD zT44 ((([] : List T44) ++ p0) ++ p1) x9828).To] : List Int) x13780)), (12, .int .i64 x14390), (22, .slice (some ad13378) (((([] : List T44) ++ p0) ++ p1)).length c9825), (23, .int .i64 ((((([] : List T44) ++ p0) ++ p1)).length : Int)), (24, .int .i64 x9828), (32, .slice (some ⟨bx13390, 0, none⟩) (([(rdD zT44 ((([] : List T44) ++ p0) ++ p1) x9828).From, (rdD zT44 ((([] : List T44) ++ p0) ++ p1) x9828).To] : List Int)).length 2), (33, .int .i64 ((([(rdD zT44 ((([] : List T44) ++ p0) ++ p1) x9828).From, (rdD zT44 ((([] : List T44) ++ p0) ++ p1) x9828).To] : List Int)).length : Int)), (34, .int .i64 x13780)] ∧ St [] w (fun _ => 0) w_ o14389 ∧ Ft (Own (encInt .i64) 3 (.slice (some ⟨bx13390, 0, none⟩) (([(rdD zT44 ((([] : List T44) ++ p0) ++ p1) x9828).From, (rdD zT44 ((([] : List T44) ++ p0) ++ p1) x9828).To] : List Int)).length 2) ([(rdD zT44 ((([] : List T44) ++ p0) ++ p1) x9828).From, (rdD zT44 ((([] : List T44) ++ p0) ++ p1) x9828).To] : List Int)) w_ o14389 1756 ∧ Ft (Own (encInt .i64) 3 (.slice A13775 (l13777).length c13776) l13777) w_ o14389 1754 ∧ Ft (RdC ET44 Ap0 p0) w_ o14389 0 ∧ Ft (RdC ET44 Ap1 p1) w_ o14389 0 ∧ Ft (Own ET44 102 (.slice (some ad13378) (((([] : List T44) ++ p0) ++ p1)).length c9825) ((([] : List T44) ++ p0) ++ p1)) w_ o14389 1755 ∧ tidewrackref13_build_j9 p0 p1 x9828 l13777 x13780 lp14161 x14390 = some r) ?_ ?_
      rotate_left
      · rintro a w14391 ⟨o14389, x14390, hk, hs, f13392, f13778, f900000, f900020, f9826, H⟩
        rw [tidewrackref13_build_j9] at H
        refine x_mid (fun a_ w_ => ∃ o14405 : Nat → Nat, ∃ A14406 : Option Addr, ∃ c14407 : Nat, ∃ x14410 : Bool, Kn 132 a_ [(0, .slice Ap0 (p0).length cp0), (1, .slice Ap1 (p1).length cp1), (2, .int .i64 p2), (7, .slice A14406 (l13777).length c14407), (11, .int .i64 (rdD 0 ([(rdD zT44 ((([] : List T44) ++ p0) ++ p1) x9828).From, (rdD zT44 ((([] : List T44) ++ p0) ++ p1) x9828).To] : List Int) x13780)), (12, .int .i64 x14390), (22, .slice (some ad13378) (((([] : List T44) ++ p0) ++ p1)).length c9825), (23, .int .i64 ((((([] : List T44) ++ p0) ++ p1)).length : Int)), (24, .int .i64 x9828), (32, .slice (some ⟨bx13390, 0, none⟩) (([(rdD zT44 ((([] : List T44) ++ p0) ++ p1) x9828).From, (rdD zT44 ((([] : List T44) ++ p0) ++ p1) x9828).To] : List Int)).length 2), (33, .int .i64 ((([(rdD zT44 ((([] : List T44) ++ p0) ++ p1) x9828).From, (rdD zT44 ((([] : List T44) ++ p0) ++ p1) x9828).To] : List Int)).length : Int)), (34, .int .i64 x13780), (63, .bool x14410)] ∧ St [] w (fun _ => 0) w_ o14405 ∧ Ft (Own (encInt .i64) 3 (.slice (some ⟨bx13390, 0, none⟩) (([(rdD zT44 ((([] : List T44) ++ p0) ++ p1) x9828).From, (rdD zT44 ((([] : List T44) ++ p0) ++ p1) x9828).To] : List Int)).length 2) ([(rdD zT44 ((([] : List T44) ++ p0) ++ p1) x9828).From, (rdD zT44 ((([] : List T44) ++ p0) ++ p1) x9828).To] : List Int)) w_ o14405 1759 ∧ Ft (Own (encInt .i64) 3 (.slice A14406 (l13777).length c14407) l13777) w_ o14405 1757 ∧ Ft (RdC ET44 Ap0 p0) w_ o14405 0 ∧ Ft (RdC ET44 Ap1 p1) w_ o14405 0 ∧ Ft (Own ET44 102 (.slice (some ad13378) (((([] : List T44) ++ p0) ++ p1)).length c9825) ((([] : List T44) ++ p0) ++ p1)) w_ o14405 1758 ∧ (l13777).length ≤ c14407 ∧ tidewrackref13_build_j10 p0 p1 x9828 l13777 x13780 lp14161 x14390 x14410 = some r) ?_ ?_
        rotate_left
        · rintro a w14411 ⟨o14405, A14406, c14407, x14410, hk, hs, f13392, f14408, f900000, f900020, f9826, hc14409, H⟩
          rw [tidewrackref13_build_j10] at H
          cases b14412 : x14410
          · rw [b14412] at hk H
            replace H := bifF H
            refine x_if hk (b := false) rfl ?_
            refine (show Code.wpIn _ _ _ _ _ _ _ from ?_)
            refine wpIn_skip ?_
            refine blk_n ?_
            refine then_n ?_
            exact ⟨(fun b_ => (fun l_ => if l_ = 1757 then 1745 else if l_ = 1758 then 1746 else if l_ = 1759 then 1747 else l_) (o14405 b_)), A14406, c14407, l13777, (by exact Kn.pick (ks := [0, 1, 2, 7, 22, 23, 24, 32, 33, 34]) hk rfl), (hs.relab0 (fun l_ => if l_ = 1757 then 1745 else if l_ = 1758 then 1746 else if l_ = 1759 then 1747 else l_) rfl), (f13392.relab (fun l_ => if l_ = 1757 then 1745 else if l_ = 1758 then 1746 else if l_ = 1759 then 1747 else l_) rfl), (f14408.relab (fun l_ => if l_ = 1757 then 1745 else if l_ = 1758 then 1746 else if l_ = 1759 then 1747 else l_) rfl), (f900000.relab (fun l_ => if l_ = 1757 then 1745 else if l_ = 1758 then 1746 else if l_ = 1759 then 1747 else l_) rfl), (f900020.relab (fun l_ => if l_ = 1757 then 1745 else if l_ = 1758 then 1746 else if l_ = 1759 then 1747 else l_) rfl), (f9826.relab (fun l_ => if l_ = 1757 then 1745 else if l_ = 1758 then 1746 else if l_ = 1759 then 1747 else l_) rfl), hc14409, H⟩
          · rw [b14412] at hk H
            replace H := bifT H
            refine x_if hk (b := true) rfl ?_
            refine (show Code.wpIn _ _ _ _ _ _ _ from ?_)
            refine xd_begin (o := o14405) (fun W_ => True) mixed rfl rfl fun w14481 st14482 => ?_
            replace f13392 := f13392.st st14482 (by decide)
            replace f14408 := f14408.st st14482 (by decide)
            replace f900000 := f900000.st st14482 (by decide)
            replace f900020 := f900020.st st14482 (by decide)
            replace f9826 := f9826.st st14482 (by decide)
            replace hs := hs.loc0 st14482 (by decide)
            obtain ⟨q14483, H⟩ := ifS H
            obtain ⟨q14484, H⟩ := ifS H
            obtain ⟨A14485, c14486, ak14488, f14487, hc14489⟩ := ask_take (P := Try.prog) tab (t := 27) rfl rfl f14408 hc14409 (k := .i64) x14390 q14483 q14484
            obtain ⟨A14490, c14491, ak14493, f14492, hc14494⟩ := ask_cut (P := Try.prog) tab (t := 27) rfl rfl (f14408.imp fun _ h_ => Own.rd h_) hc14409 (some (.int .i64 x14390)) none rfl ⟨q14483, (by have := q14484; omega), trivial⟩ (by have := q14483; have := q14484; omega) (Nat.le_refl _)
            refine xd_take tab hk (k := 4) (is := [0, 1, 2, 3, 5, 6, 7]) (ls' := #[true, true, true, true, false, true, true, true, false, false, false]) (lv := [.slice A14485 ((List.take (Int.toNat x14390) l13777)).length c14486, .slice A14490 ((List.drop (Int.toNat x14390) (List.take (l13777).length l13777))).length c14491]) (ks := [0, 1, 2, 7, 22, 23, 24, 32, 33, 34, 66, 67, 71]) (e' := [(0, .slice Ap0 (p0).length cp0), (1, .slice Ap1 (p1).length cp1), (2, .int .i64 p2), (7, .slice A14406 (l13777).length c14407), (22, .slice (some ad13378) (((([] : List T44) ++ p0) ++ p1)).length c9825), (23, .int .i64 ((((([] : List T44) ++ p0) ++ p1)).length : Int)), (24, .int .i64 x9828), (32, .slice (some ⟨bx13390, 0, none⟩) (([(rdD zT44 ((([] : List T44) ++ p0) ++ p1) x9828).From, (rdD zT44 ((([] : List T44) ++ p0) ++ p1) x9828).To] : List Int)).length 2), (33, .int .i64 ((([(rdD zT44 ((([] : List T44) ++ p0) ++ p1) x9828).From, (rdD zT44 ((([] : List T44) ++ p0) ++ p1) x9828).To] : List Int)).length : Int)), (34, .int .i64 x13780), (66, .slice A14485 ((List.take (Int.toNat x14390) l13777)).length c14486), (67, .int .i64 (rdD 0 ([(rdD zT44 ((([] : List T44) ++ p0) ++ p1) x9828).From, (rdD zT44 ((([] : List T44) ++ p0) ++ p1) x9828).To] : List Int) x13780)), (71, .slice A14490 ((List.drop (Int.toNat x14390) (List.take (l13777).length l13777))).length c14491)]) (by kernel_rfl) rfl rfl (by kernel_rfl) (np_blk (np_then (np_then (np_blk (np_blk (np_then (np_then (np_blk (np_then np_body))))))))) trivial (fun W_ hS => ⟨(ak14488 rfl rfl _), (ak14493 rfl rfl rfl _), trivial⟩) fun a hk => ?_
            refine xd_op hk (i := 4) (by kernel_rfl) rfl rfl ?_
            refine op_slice (o := o14405) tab hk (vs := [.int .i64 (rdD 0 ([(rdD zT44 ((([] : List T44) ++ p0) ++ p1) x9828).From, (rdD zT44 ((([] : List T44) ++ p0) ++ p1) x9828).To] : List Int) x13780)]) (cs := [.int .i64 (rdD 0 ([(rdD zT44 ((([] : List T44) ++ p0) ++ p1) x9828).From, (rdD zT44 ((([] : List T44) ++ p0) ++ p1) x9828).To] : List Int) x13780)]) rfl rfl rfl rfl rfl rfl rfl rfl rfl 1762 fun bx14498 w14495 o14496 st14497 f14499 => ?_
            replace f13392 := f13392.st st14497 (by decide)
            replace f14408 := f14408.st st14497 (by decide)
            replace f14487 := f14487.st st14497 (by decide)
            replace f14492 := f14492.st st14497 (by decide)
            replace f900000 := f900000.st st14497 (by decide)
            replace f900020 := f900020.st st14497 (by decide)
            replace f9826 := f9826.st st14497 (by decide)
            replace hs := hs.loc0 st14497 (by decide)
            have f14500 : Ft (Own (encInt .i64) 3 (.slice (some ⟨bx14498, 0, none⟩) (([(rdD 0 ([(rdD zT44 ((([] : List T44) ++ p0) ++ p1) x9828).From, (rdD zT44 ((([] : List T44) ++ p0) ++ p1) x9828).To] : List Int) x13780)] : List Int)).length 1) ([(rdD 0 ([(rdD zT44 ((([] : List T44) ++ p0) ++ p1) x9828).From, (rdD zT44 ((([] : List T44) ++ p0) ++ p1) x9828).To] : List Int) x13780)] : List Int)) w14495 o14496 1762 := f14499.imp fun _ h_ => Own.of_box h_ rfl (by simp)
            have hk := hk.put 68 (.slice (some ⟨bx14498, 0, none⟩) (([(rdD 0 ([(rdD zT44 ((([] : List T44) ++ p0) ++ p1) x9828).From, (rdD zT44 ((([] : List T44) ++ p0) ++ p1) x9828).To] : List Int) x13780)] : List Int)).length 1) rfl
            refine ⟨.inr trivial, ?_⟩
            refine xd_op hk (i := 8) (by kernel_rfl) rfl rfl ?_
            obtain ⟨q14504, H⟩ := ifS H
            refine op_append (o := o14496) (E := (encInt .i64)) (xs := ([(rdD 0 ([(rdD zT44 ((([] : List T44) ++ p0) ++ p1) x9828).From, (rdD zT44 ((([] : List T44) ++ p0) ++ p1) x9828).To] : List Int) x13780)] : List Int)) (ys := (List.drop (Int.toNat x14390) (List.take (l13777).length l13777))) tab hk rfl rfl rfl rfl rfl rfl rfl f14500 f14492.now q14504 fun A14505 c14506 w14501 o14502 st14503 f14507 hc14508 => ?_
            replace f13392 := f13392.st st14503 (by decide)
            replace f14408 := f14408.st st14503 (by decide)
            replace f14487 := f14487.st st14503 (by decide)
            replace f14492 := f14492.st st14503 (by decide)
            replace f900000 := f900000.st st14503 (by decide)
            replace f900020 := f900020.st st14503 (by decide)
            replace f9826 := f9826.st st14503 (by decide)
            replace hs := hs.loc0 st14503 (by decide)
            have hk := hk.put 72 (.slice A14505 ((([(rdD 0 ([(rdD zT44 ((([] : List T44) ++ p0) ++ p1) x9828).From, (rdD zT44 ((([] : List T44) ++ p0) ++ p1) x9828).To] : List Int) x13780)] : List Int) ++ (List.drop (Int.toNat x14390) (List.take (l13777).length l13777)))).length c14506) rfl
            refine ⟨.inr trivial, ?_⟩
            refine xd_op hk (i := 9) (by kernel_rfl) rfl rfl ?_
            obtain ⟨q14512, H⟩ := ifS H
            refine op_append (o := o14502) (E := (encInt .i64)) (xs := (List.take (Int.toNat x14390) l13777)) (ys := (([(rdD 0 ([(rdD zT44 ((([] : List T44) ++ p0) ++ p1) x9828).From, (rdD zT44 ((([] : List T44) ++ p0) ++ p1) x9828).To] : List Int) x13780)] : List Int) ++ (List.drop (Int.toNat x14390) (List.take (l13777).length l13777)))) tab hk rfl rfl rfl rfl rfl rfl rfl f14487 (Own.rd f14507.now) q14512 fun A14513 c14514 w14509 o14510 st14511 f14515 hc14516 => ?_
            replace f13392 := f13392.st st14511 (by decide)
            replace f14507 := f14507.st st14511 (by decide)
            replace f900000 := f900000.st st14511 (by decide)
            replace f900020 := f900020.st st14511 (by decide)
            replace f9826 := f9826.st st14511 (by decide)
            replace hs := hs.loc0 st14511 (by decide)
            have hk := hk.put 73 (.slice A14513 (((List.take (Int.toNat x14390) l13777) ++ (([(rdD 0 ([(rdD zT44 ((([] : List T44) ++ p0) ++ p1) x9828).From, (rdD zT44 ((([] : List T44) ++ p0) ++ p1) x9828).To] : List Int) x13780)] : List Int) ++ (List.drop (Int.toNat x14390) (List.take (l13777).length l13777))))).length c14514) rfl
            refine ⟨.inr trivial, ?_⟩
            refine xd_take tab hk (k := 0) (is := [10]) (ls' := #[true, true, true, true, true, true, true, true, true, true, true]) (lv := []) (ks := [0, 1, 2, 7, 22, 23, 24, 32, 33, 34]) (e' := [(0, .slice Ap0 (p0).length cp0), (1, .slice Ap1 (p1).length cp1), (2, .int .i64 p2), (7, .slice A14513 (((List.take (Int.toNat x14390) l13777) ++ (([(rdD 0 ([(rdD zT44 ((([] : List T44) ++ p0) ++ p1) x9828).From, (rdD zT44 ((([] : List T44) ++ p0) ++ p1) x9828).To] : List Int) x13780)] : List Int) ++ (List.drop (Int.toNat x14390) (List.take (l13777).length l13777))))).length c14514), (22, .slice (some ad13378) (((([] : List T44) ++ p0) ++ p1)).length c9825), (23, .int .i64 ((((([] : List T44) ++ p0) ++ p1)).length : Int)), (24, .int .i64 x9828), (32, .slice (some ⟨bx13390, 0, none⟩) (([(rdD zT44 ((([] : List T44) ++ p0) ++ p1) x9828).From, (rdD zT44 ((([] : List T44) ++ p0) ++ p1) x9828).To] : List Int)).length 2), (33, .int .i64 ((([(rdD zT44 ((([] : List T44) ++ p0) ++ p1) x9828).From, (rdD zT44 ((([] : List T44) ++ p0) ++ p1) x9828).To] : List Int)).length : Int)), (34, .int .i64 x13780)]) (by kernel_rfl) rfl rfl (by kernel_rfl) (np_blk (np_then (np_then (np_blk (np_blk (np_then (np_then (np_blk (np_then np_body))))))))) trivial (fun W_ hS => trivial) fun a hk => ?_
            refine xd_done (by kernel_rfl) ?_
            refine blk_n ?_
            refine then_n ?_
            exact ⟨(fun b_ => (fun l_ => if l_ = 1757 then 1745 else if l_ = 1758 then 1746 else if l_ = 1759 then 1747 else l_) (o14510 b_)), A14513, c14514, ((List.take (Int.toNat x14390) l13777) ++ (([(rdD 0 ([(rdD zT44 ((([] : List T44) ++ p0) ++ p1) x9828).From, (rdD zT44 ((([] : List T44) ++ p0) ++ p1) x9828).To] : List Int) x13780)] : List Int) ++ (List.drop (Int.toNat x14390) (List.take (l13777).length l13777)))), (by exact Kn.pick (ks := [0, 1, 2, 7, 22, 23, 24, 32, 33, 34]) hk rfl), (hs.relab0 (fun l_ => if l_ = 1757 then 1745 else if l_ = 1758 then 1746 else if l_ = 1759 then 1747 else l_) rfl), (f13392.relab (fun l_ => if l_ = 1757 then 1745 else if l_ = 1758 then 1746 else if l_ = 1759 then 1747 else l_) rfl), (f14515.relab (fun l_ => if l_ = 1757 then 1745 else if l_ = 1758 then 1746 else if l_ = 1759 then 1747 else l_) rfl), (f900000.relab (fun l_ => if l_ = 1757 then 1745 else if l_ = 1758 then 1746 else if l_ = 1759 then 1747 else l_) rfl), (f900020.relab (fun l_ => if l_ = 1757 then 1745 else if l_ = 1758 then 1746 else if l_ = 1759 then 1747 else l_) rfl), (f9826.relab (fun l_ => if l_ = 1757 then 1745 else if l_ = 1758 then 1746 else if l_ = 1759 then 1747 else l_) rfl), hc14516, H⟩
        refine wpIn_region_lit ?_
        refine x_run tab hk (k := 5) (lv := []) (ks := [0, 1, 2, 7, 11, 12, 22, 23, 24, 32, 33, 34, 56]) (e' := [(0, .slice Ap0 (p0).length cp0), (1, .slice Ap1 (p1).length cp1), (2, .int .i64 p2), (7, .slice A13775 (l13777).length c13776), (11, .int .i64 (rdD 0 ([(rdD zT44 ((([] : List T44) ++ p0) ++ p1) x9828).From, (rdD zT44 ((([] : List T44) ++ p0) ++ p1) x9828).To] : List Int) x13780)), (12, .int .i64 x14390), (22, .slice (some ad13378) (((([] : List T44) ++ p0) ++ p1)).length c9825), (23, .int .i64 ((((([] : List T44) ++ p0) ++ p1)).length : Int)), (24, .int .i64 x9828), (32, .slice (some ⟨bx13390, 0, none⟩) (([(rdD zT44 ((([] : List T44) ++ p0) ++ p1) x9828).From, (rdD zT44 ((([] : List T44) ++ p0) ++ p1) x9828).To] : List Int)).length 2), (33, .int .i64 ((([(rdD zT44 ((([] : List T44) ++ p0) ++ p1) x9828).From, (rdD zT44 ((([] : List T44) ++ p0) ++ p1) x9828).To] : List Int)).length : Int)), (34, .int .i64 x13780), (56, .bool (x14390 == ((l13777).length : Int)))]) rfl trivial fun a hk => ?_
        cases b14517 : (x14390 == ((l13777).length : Int))
        · rw [b14517] at hk H
          replace H := bifF H
          obtain ⟨q14518, H⟩ := ifS H
          obtain ⟨ad14519, hAad14519⟩ := RdC.addr (Own.rd f13778.now) q14518
          have hk_C := hk
          have f13392_C := f13392
          have f13778_C := f13778
          have f900000_C := f900000
          have f900020_C := f900020
          have f9826_C := f9826
          subst hAad14519
          have hk := hk_C
          clear hk_C
          have f13392 := f13392_C
          clear f13392_C
          have f13778 := f13778_C
          clear f13778_C
          have f900000 := f900000_C
          clear f900000_C
          have f900020 := f900020_C
          clear f900020_C
          have f9826 := f9826_C
          clear f9826_C
          refine x_run tab hk (k := 7) (lv := [.int .i64 (rdD 0 l13777 x14390)]) (ks := [0, 1, 2, 7, 11, 12, 22, 23, 24, 32, 33, 34, 63]) (e' := [(0, .slice Ap0 (p0).length cp0), (1, .slice Ap1 (p1).length cp1), (2, .int .i64 p2), (7, .slice (some ad14519) (l13777).length c13776), (11, .int .i64 (rdD 0 ([(rdD zT44 ((([] : List T44) ++ p0) ++ p1) x9828).From, (rdD zT44 ((([] : List T44) ++ p0) ++ p1) x9828).To] : List Int) x13780)), (12, .int .i64 x14390), (22, .slice (some ad13378) (((([] : List T44) ++ p0) ++ p1)).length c9825), (23, .int .i64 ((((([] : List T44) ++ p0) ++ p1)).length : Int)), (24, .int .i64 x9828), (32, .slice (some ⟨bx13390, 0, none⟩) (([(rdD zT44 ((([] : List T44) ++ p0) ++ p1) x9828).From, (rdD zT44 ((([] : List T44) ++ p0) ++ p1) x9828).To] : List Int)).length 2), (33, .int .i64 ((([(rdD zT44 ((([] : List T44) ++ p0) ++ p1) x9828).From, (rdD zT44 ((([] : List T44) ++ p0) ++ p1) x9828).To] : List Int)).length : Int)), (34, .int .i64 x13780), (63, .bool ((rdD 0 l13777 x14390) != (rdD 0 ([(rdD zT44 ((([] : List T44) ++ p0) ++ p1) x9828).From, (rdD zT44 ((([] : List T44) ++ p0) ++ p1) x9828).To] : List Int) x13780)))]) rfl ⟨q14518, (load1 tab rfl (RdC.at0 (E := (encInt .i64)) (d := 0) (i := x14390) (Own.rd f13778.now) q14518 rfl)), trivial⟩ fun a hk => ?_
          refine wpListIn_nil ?_
          refine then_n ?_
          exact ⟨(fun b_ => (fun l_ => if l_ = 1754 then 1757 else if l_ = 1755 then 1758 else if l_ = 1756 then 1759 else l_) (o14389 b_)), (some ad14519), c13776, ((rdD 0 l13777 x14390) != (rdD 0 ([(rdD zT44 ((([] : List T44) ++ p0) ++ p1) x9828).From, (rdD zT44 ((([] : List T44) ++ p0) ++ p1) x9828).To] : List Int) x13780)), (by exact Kn.pick (ks := [0, 1, 2, 7, 11, 12, 22, 23, 24, 32, 33, 34, 63]) hk rfl), (hs.relab0 (fun l_ => if l_ = 1754 then 1757 else if l_ = 1755 then 1758 else if l_ = 1756 then 1759 else l_) rfl), (f13392.relab (fun l_ => if l_ = 1754 then 1757 else if l_ = 1755 then 1758 else if l_ = 1756 then 1759 else l_) rfl), (f13778.relab (fun l_ => if l_ = 1754 then 1757 else if l_ = 1755 then 1758 else if l_ = 1756 then 1759 else l_) rfl), (f900000.relab (fun l_ => if l_ = 1754 then 1757 else if l_ = 1755 then 1758 else if l_ = 1756 then 1759 else l_) rfl), (f900020.relab (fun l_ => if l_ = 1754 then 1757 else if l_ = 1755 then 1758 else if l_ = 1756 then 1759 else l_) rfl), (f9826.relab (fun l_ => if l_ = 1754 then 1757 else if l_ = 1755 then 1758 else if l_ = 1756 then 1759 else l_) rfl), hc13779, H⟩
        · rw [b14517] at hk H
          replace H := bifT H
          refine x_run tab hk (k := 7) (lv := []) (ks := [0, 1, 2, 7, 11, 12, 22, 23, 24, 32, 33, 34, 63]) (e' := [(0, .slice Ap0 (p0).length cp0), (1, .slice Ap1 (p1).length cp1), (2, .int .i64 p2), (7, .slice A13775 (l13777).length c13776), (11, .int .i64 (rdD 0 ([(rdD zT44 ((([] : List T44) ++ p0) ++ p1) x9828).From, (rdD zT44 ((([] : List T44) ++ p0) ++ p1) x9828).To] : List Int) x13780)), (12, .int .i64 x14390), (22, .slice (some ad13378) (((([] : List T44) ++ p0) ++ p1)).length c9825), (23, .int .i64 ((((([] : List T44) ++ p0) ++ p1)).length : Int)), (24, .int .i64 x9828), (32, .slice (some ⟨bx13390, 0, none⟩) (([(rdD zT44 ((([] : List T44) ++ p0) ++ p1) x9828).From, (rdD zT44 ((([] : List T44) ++ p0) ++ p1) x9828).To] : List Int)).length 2), (33, .int .i64 ((([(rdD zT44 ((([] : List T44) ++ p0) ++ p1) x9828).From, (rdD zT44 ((([] : List T44) ++ p0) ++ p1) x9828).To] : List Int)).length : Int)), (34, .int .i64 x13780), (63, .bool true)]) rfl trivial fun a hk => ?_
          refine wpListIn_nil ?_
          refine then_n ?_
          exact ⟨(fun b_ => (fun l_ => if l_ = 1754 then 1757 else if l_ = 1755 then 1758 else if l_ = 1756 then 1759 else l_) (o14389 b_)), A13775, c13776, true, (by exact Kn.pick (ks := [0, 1, 2, 7, 11, 12, 22, 23, 24, 32, 33, 34, 63]) hk rfl), (hs.relab0 (fun l_ => if l_ = 1754 then 1757 else if l_ = 1755 then 1758 else if l_ = 1756 then 1759 else l_) rfl), (f13392.relab (fun l_ => if l_ = 1754 then 1757 else if l_ = 1755 then 1758 else if l_ = 1756 then 1759 else l_) rfl), (f13778.relab (fun l_ => if l_ = 1754 then 1757 else if l_ = 1755 then 1758 else if l_ = 1756 then 1759 else l_) rfl), (f900000.relab (fun l_ => if l_ = 1754 then 1757 else if l_ = 1755 then 1758 else if l_ = 1756 then 1759 else l_) rfl), (f900020.relab (fun l_ => if l_ = 1754 then 1757 else if l_ = 1755 then 1758 else if l_ = 1756 then 1759 else l_) rfl), (f9826.relab (fun l_ => if l_ = 1754 then 1757 else if l_ = 1755 then 1758 else if l_ = 1756 then 1759 else l_) rfl), hc13779, H⟩
      refine wpIn_block ?_
      refine x_loop (fun j_ a_ w_ => ∃ o14527 : Nat → Nat, ∃ x14528 : Int, Kn 132 a_ [(0, .slice Ap0 (p0).length cp0), (1, .slice Ap1 (p1).length cp1), (2, .int .i64 p2), (7, .slice A13775 (l13777).length c13776), (11, .int .i64 (rdD 0 ([(rdD zT44 ((([] : List T44) ++ p0) ++ p1) x9828).From, (rdD zT44 ((([] : List T44) ++ p0) ++ p1) x9828).To] : List Int) x13780)), (12, .int .i64 x14528), (22, .slice (some ad13378) (((([] : List T44) ++ p0) ++ p1)).length c9825), (23, .int .i64 ((((([] : List T44) ++ p0) ++ p1)).length : Int)), (24, .int .i64 x9828), (32, .slice (some ⟨bx13390, 0, none⟩) (([(rdD zT44 ((([] : List T44) ++ p0) ++ p1) x9828).From, (rdD zT44 ((([] : List T44) ++ p0) ++ p1) x9828).To] : List Int)).length 2), (33, .int .i64 ((([(rdD zT44 ((([] : List T44) ++ p0) ++ p1) x9828).From, (rdD zT44 ((([] : List T44) ++ p0) ++ p1) x9828).To] : List Int)).length : Int)), (34, .int .i64 x13780)] ∧ St [] w (fun _ => 0) w_ o14527 ∧ Ft (Own (encInt .i64) 3 (.slice (some ⟨bx13390, 0, none⟩) (([(rdD zT44 ((([] : List T44) ++ p0) ++ p1) x9828).From, (rdD zT44 ((([] : List T44) ++ p0) ++ p1) x9828).To] : List Int)).length 2) ([(rdD zT44 ((([] : List T44) ++ p0) ++ p1) x9828).From, (rdD zT44 ((([] : List T44) ++ p0) ++ p1) x9828).To] : List Int)) w_ o14527 1768 ∧ Ft (Own (encInt .i64) 3 (.slice A13775 (l13777).length c13776) l13777) w_ o14527 1766 ∧ Ft (RdC ET44 Ap0 p0) w_ o14527 0 ∧ Ft (RdC ET44 Ap1 p1) w_ o14527 0 ∧ Ft (Own ET44 102 (.slice (some ad13378) (((([] : List T44) ++ p0) ++ p1)).length c9825) ((([] : List T44) ++ p0) ++ p1)) w_ o14527 1767 ∧ tidewrackref13_build_l11 p0 p1 x9828 l13777 x13780 lp14161 j_ x14528 = some r) (k := K) ⟨(fun b_ => (fun l_ => if l_ = 1676 then 1766 else if l_ = 1677 then 1767 else if l_ = 1678 then 1768 else l_) (o13774 b_)), 0, (by exact Kn.pick (ks := [0, 1, 2, 7, 11, 12, 22, 23, 24, 32, 33, 34]) hk rfl), (hs.relab0 (fun l_ => if l_ = 1676 then 1766 else if l_ = 1677 then 1767 else if l_ = 1678 then 1768 else l_) rfl), (f13392.relab (fun l_ => if l_ = 1676 then 1766 else if l_ = 1677 then 1767 else if l_ = 1678 then 1768 else l_) rfl), (f13778.relab (fun l_ => if l_ = 1676 then 1766 else if l_ = 1677 then 1767 else if l_ = 1678 then 1768 else l_) rfl), (f900000.relab (fun l_ => if l_ = 1676 then 1766 else if l_ = 1677 then 1767 else if l_ = 1678 then 1768 else l_) rfl), (f900020.relab (fun l_ => if l_ = 1676 then 1766 else if l_ = 1677 then 1767 else if l_ = 1678 then 1768 else l_) rfl), (f9826.relab (fun l_ => if l_ = 1676 then 1766 else if l_ = 1677 then 1767 else if l_ = 1678 then 1768 else l_) rfl), H⟩ (by rintro _ _ ⟨_, _, _, _, _, _, _, _, _, H_⟩; exact absurd (show (none : Option (List T44)) = some r from H_) (by simp)) ?_
      rintro k14534 a w14533 ⟨o14527, x14528, hk, hs, f13392, f13778, f900000, f900020, f9826, H⟩
      rw [tidewrackref13_build_l11] at H
      obtain ⟨lp14535, hlp14536⟩ : ∃ lp_, lp_ = tidewrackref13_build_l11 p0 p1 x9828 l13777 x13780 lp14161 k14534 := ⟨_, rfl⟩
      rw [← hlp14536] at H
      refine x_seq ?_
      refine x_seq ?_
      refine wpIn_region_lit ?_
      refine x_run tab hk (k := 5) (lv := []) (ks := [0, 1, 2, 7, 11, 12, 22, 23, 24, 32, 33, 34, 42]) (e' := [(0, .slice Ap0 (p0).length cp0), (1, .slice Ap1 (p1).length cp1), (2, .int .i64 p2), (7, .slice A13775 (l13777).length c13776), (11, .int .i64 (rdD 0 ([(rdD zT44 ((([] : List T44) ++ p0) ++ p1) x9828).From, (rdD zT44 ((([] : List T44) ++ p0) ++ p1) x9828).To] : List Int) x13780)), (12, .int .i64 x14528), (22, .slice (some ad13378) (((([] : List T44) ++ p0) ++ p1)).length c9825), (23, .int .i64 ((((([] : List T44) ++ p0) ++ p1)).length : Int)), (24, .int .i64 x9828), (32, .slice (some ⟨bx13390, 0, none⟩) (([(rdD zT44 ((([] : List T44) ++ p0) ++ p1) x9828).From, (rdD zT44 ((([] : List T44) ++ p0) ++ p1) x9828).To] : List Int)).length 2), (33, .int .i64 ((([(rdD zT44 ((([] : List T44) ++ p0) ++ p1) x9828).From, (rdD zT44 ((([] : List T44) ++ p0) ++ p1) x9828).To] : List Int)).length : Int)), (34, .int .i64 x13780), (42, .bool (decide (x14528 < ((l13777).length : Int))))]) rfl trivial fun a hk => ?_
      cases b14537 : (decide (x14528 < ((l13777).length : Int)))
      · rw [b14537] at hk H
        replace H := bifF H
        refine x_run tab hk (k := 7) (lv := []) (ks := [0, 1, 2, 7, 11, 12, 22, 23, 24, 32, 33, 34, 49]) (e' := [(0, .slice Ap0 (p0).length cp0), (1, .slice Ap1 (p1).length cp1), (2, .int .i64 p2), (7, .slice A13775 (l13777).length c13776), (11, .int .i64 (rdD 0 ([(rdD zT44 ((([] : List T44) ++ p0) ++ p1) x9828).From, (rdD zT44 ((([] : List T44) ++ p0) ++ p1) x9828).To] : List Int) x13780)), (12, .int .i64 x14528), (22, .slice (some ad13378) (((([] : List T44) ++ p0) ++ p1)).length c9825), (23, .int .i64 ((((([] : List T44) ++ p0) ++ p1)).length : Int)), (24, .int .i64 x9828), (32, .slice (some ⟨bx13390, 0, none⟩) (([(rdD zT44 ((([] : List T44) ++ p0) ++ p1) x9828).From, (rdD zT44 ((([] : List T44) ++ p0) ++ p1) x9828).To] : List Int)).length 2), (33, .int .i64 ((([(rdD zT44 ((([] : List T44) ++ p0) ++ p1) x9828).From, (rdD zT44 ((([] : List T44) ++ p0) ++ p1) x9828).To] : List Int)).length : Int)), (34, .int .i64 x13780), (49, .bool false)]) rfl trivial fun a hk => ?_
        refine wpListIn_nil ?_
        refine then_n ?_
        refine x_if hk (b := false) rfl ?_
        refine (show Code.wpIn _ _ _ _ _ _ _ from ?_)
        refine wpIn_exit ?_
        refine then_x ?_
        refine then_x ?_
        refine blk_x ?_
        refine then_n ?_
        exact ⟨(fun b_ => (fun l_ => if l_ = 1766 then 1754 else if l_ = 1767 then 1755 else if l_ = 1768 then 1756 else l_) (o14527 b_)), x14528, (by exact Kn.pick (ks := [0, 1, 2, 7, 11, 12, 22, 23, 24, 32, 33, 34]) hk rfl), (hs.relab0 (fun l_ => if l_ = 1766 then 1754 else if l_ = 1767 then 1755 else if l_ = 1768 then 1756 else l_) rfl), (f13392.relab (fun l_ => if l_ = 1766 then 1754 else if l_ = 1767 then 1755 else if l_ = 1768 then 1756 else l_) rfl), (f13778.relab (fun l_ => if l_ = 1766 then 1754 else if l_ = 1767 then 1755 else if l_ = 1768 then 1756 else l_) rfl), (f900000.relab (fun l_ => if l_ = 1766 then 1754 else if l_ = 1767 then 1755 else if l_ = 1768 then 1756 else l_) rfl), (f900020.relab (fun l_ => if l_ = 1766 then 1754 else if l_ = 1767 then 1755 else if l_ = 1768 then 1756 else l_) rfl), (f9826.relab (fun l_ => if l_ = 1766 then 1754 else if l_ = 1767 then 1755 else if l_ = 1768 then 1756 else l_) rfl), H⟩
      · rw [b14537] at hk H
        replace H := bifT H
        obtain ⟨q14538, H⟩ := ifS H
        obtain ⟨ad14539, hAad14539⟩ := RdC.addr (Own.rd f13778.now) q14538
        have hk_C := hk
        have f13392_C := f13392
        have f13778_C := f13778
        have f900000_C := f900000
        have f900020_C := f900020
        have f9826_C := f9826
        subst hAad14539
        have hk := hk_C
        clear hk_C
        have f13392 := f13392_C
        clear f13392_C
        have f13778 := f13778_C
        clear f13778_C
        have f900000 := f900000_C
        clear f900000_C
        have f900020 := f900020_C
        clear f900020_C
        have f9826 := f9826_C
        clear f9826_C
        refine x_run tab hk (k := 7) (lv := [.int .i64 (rdD 0 l13777 x14528)]) (ks := [0, 1, 2, 7, 11, 12, 22, 23, 24, 32, 33, 34, 49]) (e' := [(0, .slice Ap0 (p0).length cp0), (1, .slice Ap1 (p1).length cp1), (2, .int .i64 p2), (7, .slice (some ad14539) (l13777).length c13776), (11, .int .i64 (rdD 0 ([(rdD zT44 ((([] : List T44) ++ p0) ++ p1) x9828).From, (rdD zT44 ((([] : List T44) ++ p0) ++ p1) x9828).To] : List Int) x13780)), (12, .int .i64 x14528), (22, .slice (some ad13378) (((([] : List T44) ++ p0) ++ p1)).length c9825), (23, .int .i64 ((((([] : List T44) ++ p0) ++ p1)).length : Int)), (24, .int .i64 x9828), (32, .slice (some ⟨bx13390, 0, none⟩) (([(rdD zT44 ((([] : List T44) ++ p0) ++ p1) x9828).From, (rdD zT44 ((([] : List T44) ++ p0) ++ p1) x9828).To] : List Int)).length 2), (33, .int .i64 ((([(rdD zT44 ((([] : List T44) ++ p0) ++ p1) x9828).From, (rdD zT44 ((([] : List T44) ++ p0) ++ p1) x9828).To] : List Int)).length : Int)), (34, .int .i64 x13780), (49, .bool (decide ((rdD 0 l13777 x14528) < (rdD 0 ([(rdD zT44 ((([] : List T44) ++ p0) ++ p1) x9828).From, (rdD zT44 ((([] : List T44) ++ p0) ++ p1) x9828).To] : List Int) x13780))))]) rfl ⟨q14538, (load1 tab rfl (RdC.at0 (E := (encInt .i64)) (d := 0) (i := x14528) (Own.rd f13778.now) q14538 rfl)), trivial⟩ fun a hk => ?_
        refine wpListIn_nil ?_
        refine then_n ?_
        cases b14540 : (decide ((rdD 0 l13777 x14528) < (rdD 0 ([(rdD zT44 ((([] : List T44) ++ p0) ++ p1) x9828).From, (rdD zT44 ((([] : List T44) ++ p0) ++ p1) x9828).To] : List Int) x13780)))
        · rw [b14540] at hk H
          replace H := bifF H
          refine x_if hk (b := false) rfl ?_
          refine (show Code.wpIn _ _ _ _ _ _ _ from ?_)
          refine wpIn_exit ?_
          refine then_x ?_
          refine then_x ?_
          refine blk_x ?_
          refine then_n ?_
          exact ⟨(fun b_ => (fun l_ => if l_ = 1766 then 1754 else if l_ = 1767 then 1755 else if l_ = 1768 then 1756 else l_) (o14527 b_)), x14528, (by exact Kn.pick (ks := [0, 1, 2, 7, 11, 12, 22, 23, 24, 32, 33, 34]) hk rfl), (hs.relab0 (fun l_ => if l_ = 1766 then 1754 else if l_ = 1767 then 1755 else if l_ = 1768 then 1756 else l_) rfl), (f13392.relab (fun l_ => if l_ = 1766 then 1754 else if l_ = 1767 then 1755 else if l_ = 1768 then 1756 else l_) rfl), (f13778.relab (fun l_ => if l_ = 1766 then 1754 else if l_ = 1767 then 1755 else if l_ = 1768 then 1756 else l_) rfl), (f900000.relab (fun l_ => if l_ = 1766 then 1754 else if l_ = 1767 then 1755 else if l_ = 1768 then 1756 else l_) rfl), (f900020.relab (fun l_ => if l_ = 1766 then 1754 else if l_ = 1767 then 1755 else if l_ = 1768 then 1756 else l_) rfl), (f9826.relab (fun l_ => if l_ = 1766 then 1754 else if l_ = 1767 then 1755 else if l_ = 1768 then 1756 else l_) rfl), H⟩
        · rw [b14540] at hk H
          replace H := bifT H
          refine x_if hk (b := true) rfl ?_
          refine (show Code.wpIn _ _ _ _ _ _ _ from ?_)
          refine wpIn_skip ?_
          refine then_n ?_
          refine wpIn_block ?_
          refine wpIn_region_lit ?_
          refine x_run tab hk (k := 3) (lv := []) (ks := [0, 1, 2, 7, 11, 12, 22, 23, 24, 32, 33, 34]) (e' := [(0, .slice Ap0 (p0).length cp0), (1, .slice Ap1 (p1).length cp1), (2, .int .i64 p2), (7, .slice (some ad14539) (l13777).length c13776), (11, .int .i64 (rdD 0 ([(rdD zT44 ((([] : List T44) ++ p0) ++ p1) x9828).From, (rdD zT44 ((([] : List T44) ++ p0) ++ p1) x9828).To] : List Int) x13780)), (12, .int .i64 (IntKind.wrap .i64 (x14528 + 1))), (22, .slice (some ad13378) (((([] : List T44) ++ p0) ++ p1)).length c9825), (23, .int .i64 ((((([] : List T44) ++ p0) ++ p1)).length : Int)), (24, .int .i64 x9828), (32, .slice (some ⟨bx13390, 0, none⟩) (([(rdD zT44 ((([] : List T44) ++ p0) ++ p1) x9828).From, (rdD zT44 ((([] : List T44) ++ p0) ++ p1) x9828).To] : List Int)).length 2), (33, .int .i64 ((([(rdD zT44 ((([] : List T44) ++ p0) ++ p1) x9828).From, (rdD zT44 ((([] : List T44) ++ p0) ++ p1) x9828).To] : List Int)).length : Int)), (34, .int .i64 x13780)]) rfl trivial fun a hk => ?_
          refine wpListIn_nil ?_
          refine blk_n ?_
          refine then_n ?_
          exact ⟨k14534, Nat.le_refl _, o14527, (IntKind.wrap .i64 (x14528 + 1)), (by exact Kn.pick (ks := [0, 1, 2, 7, 11, 12, 22, 23, 24, 32, 33, 34]) hk rfl), hs, f13392, f13778, f900000, f900020, f9826, (hlp14536 ▸ H)⟩

/-! tidewrack/tidewrackref13.Add -/
theorem tidewrackref13_Add_calls (K : Nat) (Ap0 : Option Addr) (cp0 : Nat) (p0 : List T44) (p1 : T44) (w : World) (o : Nat → Nat) (Lp0 : Nat) (hp0 : Ft (RdC ET44 Ap0 p0) w o Lp0) (hcp0 : (p0).length ≤ cp0)  (R0 : Nat) (r : List T44) (H : tidewrackref13_Add K p0 p1 = some r) :
    Calls Try.prog 50 #[.slice Ap0 (p0).length cp0, .agg #[.int .i64 p1.From, .int .i64 p1.To]] w (Ret fun v_ w' => ∃ o' : Nat → Nat, ∃ A0 : Option Addr, ∃ c0 : Nat, v_ = .slice A0 (r).length c0 ∧ St [] w o w' o' ∧ Ft (Own ET44 102 (.slice A0 (r).length c0) r) w' o' R0 ∧ (r).length ≤ c0) := by
  refine x_enter (vs := [.slice Ap0 (p0).length cp0, .agg #[.int .i64 p1.From, .int .i64 p1.To]]) Try.func50 rfl rfl rfl fun a hk => ?_
  obtain ⟨o0, hs, h0⟩ := St.start w o
  have f900000 := h0 _ _ hp0
  clear h0
  rw [tidewrackref13_Add] at H
  refine x_seq ?_
  refine wpIn_region_lit ?_
  refine x_op hk rfl ?_
  refine op_box (o := o0) (t := 102) (v := .agg #[.int .i64 p1.From, .int .i64 p1.To]) (cs := [.int .i64 p1.From, .int .i64 p1.To]) hk rfl rfl 1 fun bx4 w1 o2 st3 f5 => ?_
  replace f900000 := f900000.st st3 (by decide)
  replace hs := hs.loc0 st3 (by decide)
  have hk := hk.put 3 (.pointer (some ⟨bx4, 0, none⟩)) rfl
  refine x_run tab hk (k := 1) (lv := []) (ks := [0, 3]) (e' := [(0, .slice Ap0 (p0).length cp0), (3, .pointer (some ⟨bx4, 0, none⟩))]) rfl trivial fun a hk => ?_
  refine wpListIn_nil ?_
  refine then_n ?_
  refine x_seq ?_
  refine wpIn_region_lit ?_
  refine x_run tab hk (k := 2) (lv := [.agg #[.int .i64 p1.From, .int .i64 p1.To]]) (ks := [5, 6]) (e' := [(5, .slice Ap0 (p0).length cp0), (6, .agg #[.int .i64 p1.From, .int .i64 p1.To])]) rfl ⟨(load_box tab rfl rfl f5.now (k := 0) rfl rfl), trivial⟩ fun a hk => ?_
  refine x_op hk rfl ?_
  obtain ⟨t9, hc10, H⟩ := bindS H
  refine op_call hk ent_56 (vs := [.agg #[.int .i64 p1.From, .int .i64 p1.To]]) rfl (tidewrackref13_one_calls p1 _ o2  2  _ hc10) ?_
  rintro _ w11 ⟨o12, A14, c15, rfl, st13, f16, hc17⟩
  replace f900000 := f900000.st st13 (by decide)
  replace hs := hs.loc0 st13 (by decide)
  have hk := hk.put 7 (.slice A14 (t9).length c15) rfl
  refine x_op hk rfl ?_
  obtain ⟨t21, hc22, H⟩ := bindS H
  refine op_call hk ent_55 (vs := [.slice Ap0 (p0).length cp0, .slice A14 (t9).length c15, .int .i64 0]) rfl (tidewrackref13_build_calls K Ap0 cp0 p0 A14 c15 t9 0 _ o12 _ f900000 hcp0 _ (f16.imp fun _ h_ => Own.rd h_) hc17 3  _ hc22) ?_
  rintro _ w23 ⟨o24, A26, c27, rfl, st25, f28, hc29⟩
  replace f16 := f16.st st25 (by decide)
  replace f900000 := f900000.st st25 (by decide)
  replace hs := hs.loc0 st25 (by decide)
  have hk := hk.put 8 (.slice A26 (t21).length c27) rfl
  refine x_run tab hk (k := 1) (lv := []) (ks := [4]) (e' := [(4, .slice A26 (t21).length c27)]) rfl trivial fun a hk => ?_
  refine wpListIn_nil ?_
  refine then_n ?_
  refine wpIn_ret ?_
  obtain rfl := Option.some.inj H
  exact x_retG hk (rs := [.tmp 4]) (vs := [.slice A26 (t21).length c27]) rfl ⟨rfl, trivial⟩ ⟨fun b_ => if b_ < w.heap.size then o b_ else (fun _ => R0) (o24 b_), A26, c27, rfl, hs.close0 o (fun _ => R0), hs.close_ft (o := o) (ρ := fun _ => R0) f28 (by decide) rfl, hc29⟩

/-! tidewrack/tidewrackref14.Spans -/
theorem tidewrackref14_Spans_calls (K : Nat) (Ap0_0 : Option Addr) (cp0_0 : Nat) (p0 : T50) (w : World) (o : Nat → Nat) (LF : Nat) (Lp0_0 : Nat) (hp0_0 : NRd dT87 Ap0_0 p0.L w o Lp0_0 LF) (hcp0_0 : (p0.L).length ≤ cp0_0) (hd0 : ([LF] : List Nat).Nodup) (hd1 : Lp0_0 ∉ [LF]) (R0 : Nat) (r : List T44) (H : tidewrackref14_Spans K p0 = some r) :
    Calls Try.prog 39 #[.agg #[.int .i64 p0.Most, .slice Ap0_0 (p0.L).length cp0_0]] w (Ret fun v_ w' => ∃ o' : Nat → Nat, ∃ A0 : Option Addr, ∃ c0 : Nat, v_ = .slice A0 (r).length c0 ∧ St [] w o w' o' ∧ Ft (Own ET44 102 (.slice A0 (r).length c0) r) w' o' R0 ∧ (r).length ≤ c0) := by
  refine x_enter (vs := [.agg #[.int .i64 p0.Most, .slice Ap0_0 (p0.L).length cp0_0]]) Try.func39 rfl rfl rfl fun a hk => ?_
  obtain ⟨oi, hs0, h0, h1, hob, hoz, hoa⟩ := St.startM2 w o (m := 1) hd0 rfl
  have hs := hs0 []
  have f900000 := hp0_0.conv (fun P_ => h0 P_ _ hd1) (fun _ h_ => h1 0 1 h_ rfl rfl)
  clear h0 h1 hs0
  rw [tidewrackref14_Spans] at H
  refine x_seq ?_
  refine wpIn_region_lit ?_
  refine x_op hk rfl ?_
  refine op_box (o := oi) (t := 51) (v := .agg #[.int .i64 p0.Most, .slice Ap0_0 (p0.L).length cp0_0]) (cs := [.int .i64 p0.Most, .slice Ap0_0 (p0.L).length cp0_0]) hk rfl rfl 2 fun bx4 w1 o2 st3 f5 => ?_
  replace f900000 := f900000.st st3 (by decide)
  replace hs := hs.locQ st3 hob rfl
  have hk := hk.put 1 (.pointer (some ⟨bx4, 0, none⟩)) rfl
  refine x_run tab hk (k := 1) (lv := []) (ks := [1]) (e' := [(1, .pointer (some ⟨bx4, 0, none⟩))]) rfl trivial fun a hk => ?_
  refine wpListIn_nil ?_
  refine then_n ?_
  refine x_seq ?_
  refine wpIn_region_lit ?_
  refine x_op hk rfl ?_
  refine op_slice (o := o2) tab hk (vs := []) (cs := []) rfl rfl rfl rfl rfl rfl rfl rfl rfl 3 fun bx9 w6 o7 st8 f10 => ?_
  replace f5 := f5.st st8 (by decide)
  replace f900000 := f900000.st st8 (by decide)
  replace hs := hs.locQ st8 hob rfl
  have f11 : Ft (Own ET44 102 (.slice (some ⟨bx9, 0, none⟩) (([] : List T44)).length 0) ([] : List T44)) w6 o7 3 := f10.imp fun _ h_ => Own.of_box h_ rfl (by simp)
  have hk := hk.put 6 (.slice (some ⟨bx9, 0, none⟩) (([] : List T44)).length 0) rfl
  refine x_run tab hk (k := 1) (lv := []) (ks := [1, 3]) (e' := [(1, .pointer (some ⟨bx4, 0, none⟩)), (3, .slice (some ⟨bx9, 0, none⟩) (([] : List T44)).length 0)]) rfl trivial fun a hk => ?_
  refine wpListIn_nil ?_
  refine then_n ?_
  refine x_mid (fun a_ w_ => ∃ o120 : Nat → Nat, ∃ A121 : Option Addr, ∃ c122 : Nat, ∃ l123 : List T44, Kn 24 a_ [(3, .slice A121 (l123).length c122)] ∧ St [] w oi w_ o120 ∧ Ft (Own ET44 102 (.slice A121 (l123).length c122) l123) w_ o120 12 ∧ (l123).length ≤ c122 ∧ tidewrackref14_Spans_j1 l123 = some r) ?_ ?_
  rotate_left
  · rintro a w126 ⟨o120, A121, c122, l123, hk, hs, f124, hc125, H⟩
    rw [tidewrackref14_Spans_j1] at H
    refine x_seq ?_
    refine wpIn_region_lit ?_
    refine x_run tab hk (k := 2) (lv := []) (ks := [2]) (e' := [(2, .slice A121 (l123).length c122)]) rfl trivial fun a hk => ?_
    refine wpListIn_nil ?_
    refine then_n ?_
    refine wpIn_ret ?_
    obtain rfl := Option.some.inj H
    exact x_retG hk (rs := [.tmp 2]) (vs := [.slice A121 (l123).length c122]) rfl ⟨rfl, trivial⟩ ⟨cl w oi o [] (fun l_ => if l_ = 1 then LF else if l_ = 12 then R0 else 0) o120, A121, c122, rfl, hs.closeF (Lm := []) (Sh := []) hoa rfl (fun l_ => if l_ = 1 then LF else if l_ = 12 then R0 else 0), hs.closeM_ft (o := o) (ρ := fun l_ => if l_ = 1 then LF else if l_ = 12 then R0 else 0) f124 (lab_none hob rfl) rfl, hc125⟩
  refine x_seq ?_
  refine wpIn_region_lit ?_
  refine x_run tab hk (k := 4) (lv := [.slice Ap0_0 (p0.L).length cp0_0]) (ks := [3, 8, 9, 10]) (e' := [(3, .slice (some ⟨bx9, 0, none⟩) (([] : List T44)).length 0), (8, .slice Ap0_0 (p0.L).length cp0_0), (9, .int .i64 ((p0.L).length : Int)), (10, .int .i64 0)]) rfl ⟨(load1 tab rfl ((Bx.cell f5.now 1).trans rfl)), trivial⟩ fun a hk => ?_
  refine wpListIn_nil ?_
  refine then_n ?_
  refine wpIn_block ?_
  refine x_loop (fun j_ a_ w_ => ∃ o158 : Nat → Nat, ∃ A159 : Option Addr, ∃ c160 : Nat, ∃ l161 : List T44, ∃ x164 : Int, Kn 24 a_ [(3, .slice A159 (l161).length c160), (8, .slice Ap0_0 (p0.L).length cp0_0), (9, .int .i64 ((p0.L).length : Int)), (10, .int .i64 x164)] ∧ St [] w oi w_ o158 ∧ Ft (Own ET44 102 (.slice A159 (l161).length c160) l161) w_ o158 16 ∧ NRd dT87 Ap0_0 p0.L w_ o158 0 1 ∧ (l161).length ≤ c160 ∧ tidewrackref14_Spans_l2 K p0 j_ l161 x164 = some r) (k := K) ⟨(fun b_ => (fun l_ => if l_ = 3 then 16 else l_) (o7 b_)), (some ⟨bx9, 0, none⟩), 0, ([] : List T44), 0, (by exact Kn.pick (ks := [3, 8, 9, 10]) hk rfl), (hs.relabM hob (fun l_ => if l_ = 3 then 16 else l_) (by decide)), (f11.relab (fun l_ => if l_ = 3 then 16 else l_) rfl), (f900000.relab (fun l_ => if l_ = 3 then 16 else l_) rfl), (Nat.le_refl _), H⟩ (by rintro _ _ ⟨_, _, _, _, _, _, _, _, _, _, H_⟩; exact absurd (show (none : Option (List T44)) = some r from H_) (by simp)) ?_
  rintro k194 a w193 ⟨o158, A159, c160, l161, x164, hk, hs, f162, f900000, hc163, H⟩
  rw [tidewrackref14_Spans_l2] at H
  obtain ⟨lp195, hlp196⟩ : ∃ lp_, lp_ = tidewrackref14_Spans_l2 K p0 k194 := ⟨_, rfl⟩
  rw [← hlp196] at H
  refine x_seq ?_
  refine wpIn_region_lit ?_
  refine x_run tab hk (k := 1) (lv := []) (ks := [3, 8, 9, 10, 11]) (e' := [(3, .slice A159 (l161).length c160), (8, .slice Ap0_0 (p0.L).length cp0_0), (9, .int .i64 ((p0.L).length : Int)), (10, .int .i64 x164), (11, .bool (decide (x164 < ((p0.L).length : Int))))]) rfl trivial fun a hk => ?_
  refine wpListIn_nil ?_
  refine then_n ?_
  refine x_seq ?_
  cases b197 : (decide (x164 < ((p0.L).length : Int)))
  · rw [b197] at hk H
    replace H := bifF H
    refine x_if hk (b := false) rfl ?_
    refine (show Code.wpIn _ _ _ _ _ _ _ from ?_)
    refine wpIn_exit ?_
    refine then_x ?_
    refine then_x ?_
    refine blk_x ?_
    refine then_n ?_
    exact ⟨(fun b_ => (fun l_ => if l_ = 16 then 12 else l_) (o158 b_)), A159, c160, l161, (by exact Kn.pick (ks := [3]) hk rfl), (hs.relabM hob (fun l_ => if l_ = 16 then 12 else l_) (by decide)), (f162.relab (fun l_ => if l_ = 16 then 12 else l_) rfl), hc163, H⟩
  · rw [b197] at hk H
    replace H := bifT H
    refine x_if hk (b := true) rfl ?_
    refine (show Code.wpIn _ _ _ _ _ _ _ from ?_)
    refine wpIn_skip ?_
    refine then_n ?_
    refine x_seq ?_
    refine wpIn_block ?_
    refine x_seq ?_
    refine wpIn_region_lit ?_
    obtain ⟨q198, H⟩ := ifS H
    obtain ⟨ad199, hAad199⟩ := NRd.addr f900000 q198
    have hk_C := hk
    have f162_C := f162
    have f900000_C := f900000
    subst hAad199
    have hk := hk_C
    clear hk_C
    have f162 := f162_C
    clear f162_C
    have f900000 := f900000_C
    clear f900000_C
    obtain ⟨A200, c201, f202, f203, hc204⟩ := elT87 f900000 (i := x164) q198
    refine x_run tab hk (k := 2) (lv := [.agg #[.int .i64 ((rdD zT87 p0.L x164).I), .slice A200 ((rdD zT87 p0.L x164).L).length c201]]) (ks := [3, 8, 9, 10, 13]) (e' := [(3, .slice A159 (l161).length c160), (8, .slice (some ad199) (p0.L).length cp0_0), (9, .int .i64 ((p0.L).length : Int)), (10, .int .i64 x164), (13, .agg #[.int .i64 ((rdD zT87 p0.L x164).I), .slice A200 ((rdD zT87 p0.L x164).L).length c201])]) rfl ⟨q198, (CellsAt.all f202.now tab rfl rfl rfl), trivial⟩ fun a hk => ?_
    refine x_op hk rfl ?_
    refine op_alloc (o := o158) tab (t := 88) (cs := [.int .i64 0, .slice none 0 0]) rfl rfl 19 fun bx208 w205 o206 st207 f209 => ?_
    replace f162 := f162.st st207 (by decide)
    replace f203 := f203.st st207 (by decide)
    replace f900000 := f900000.st st207 (by decide)
    replace hs := hs.locQ st207 hob rfl
    have hk := hk.put 5 (.pointer (some ⟨bx208, 0, none⟩)) rfl
    refine x_op hk rfl ?_
    refine op_store tab hk (t := 88) (v := .agg #[.int .i64 ((rdD zT87 p0.L x164).I), .slice A200 ((rdD zT87 p0.L x164).L).length c201]) (b := bx208) (k := 0) (cs' := [.int .i64 ((rdD zT87 p0.L x164).I), .slice A200 ((rdD zT87 p0.L x164).L).length c201]) rfl rfl rfl rfl rfl rfl f209 rfl rfl fun w210 o211 st212 f209_ => ?_
    replace f162 := f162.st st212 (by decide)
    replace f203 := f203.st st212 (by decide)
    replace f900000 := f900000.st st212 (by decide)
    replace hs := hs.locQ st212 hob rfl
    replace f209 := f209_
    refine wpListIn_nil ?_
    refine then_n ?_
    refine wpIn_region_lit ?_
    refine x_run tab hk (k := 7) (lv := [.int .i64 ((rdD zT87 p0.L x164).I), .int .i64 ((rdD zT87 p0.L x164).I)]) (ks := [8, 9, 10, 14, 20]) (e' := [(8, .slice (some ad199) (p0.L).length cp0_0), (9, .int .i64 ((p0.L).length : Int)), (10, .int .i64 x164), (14, .slice A159 (l161).length c160), (20, .agg #[.int .i64 ((rdD zT87 p0.L x164).I), .int .i64 (IntKind.wrap .i64 (((rdD zT87 p0.L x164).I) + 1))])]) rfl ⟨(load1 tab rfl ((Bx.cell f209.now 0).trans rfl)), (load1 tab rfl ((Bx.cell f209.now 0).trans rfl)), trivial⟩ fun a hk => ?_
    refine x_op hk rfl ?_
    obtain ⟨t216, hc217, H⟩ := bindS H
    refine op_call hk ent_50 (vs := [.slice A159 (l161).length c160, .agg #[.int .i64 ((rdD zT87 p0.L x164).I), .int .i64 (IntKind.wrap .i64 (((rdD zT87 p0.L x164).I) + 1))]]) rfl (tidewrackref13_Add_calls K A159 c160 l161 (⟨(rdD zT87 p0.L x164).I, (IntKind.wrap .i64 (((rdD zT87 p0.L x164).I) + 1))⟩ : T44) _ o211 _ (f162.imp fun _ h_ => Own.rd h_) hc163 20  _ hc217) ?_
    rintro _ w218 ⟨o219, A221, c222, rfl, st220, f223, hc224⟩
    replace f162 := f162.st st220 (by decide)
    replace f900000 := f900000.st st220 (by decide)
    replace hs := hs.locQ st220 hob rfl
    have hk := hk.put 21 (.slice A221 (t216).length c222) rfl
    refine x_run tab hk (k := 1) (lv := []) (ks := [3, 8, 9, 10]) (e' := [(3, .slice A221 (t216).length c222), (8, .slice (some ad199) (p0.L).length cp0_0), (9, .int .i64 ((p0.L).length : Int)), (10, .int .i64 x164)]) rfl trivial fun a hk => ?_
    refine wpListIn_nil ?_
    refine blk_n ?_
    refine then_n ?_
    refine wpIn_region_lit ?_
    refine x_run tab hk (k := 2) (lv := []) (ks := [3, 8, 9, 10]) (e' := [(3, .slice A221 (t216).length c222), (8, .slice (some ad199) (p0.L).length cp0_0), (9, .int .i64 ((p0.L).length : Int)), (10, .int .i64 (IntKind.wrap .i64 (x164 + 1)))]) rfl trivial fun a hk => ?_
    refine wpListIn_nil ?_
    refine then_n ?_
    exact ⟨k194, Nat.le_refl _, (fun b_ => (fun l_ => if l_ = 20 then 16 else l_) (o219 b_)), A221, c222, t216, (IntKind.wrap .i64 (x164 + 1)), (by exact Kn.pick (ks := [3, 8, 9, 10]) hk rfl), (hs.relabM hob (fun l_ => if l_ = 20 then 16 else l_) (by decide)), (f223.relab (fun l_ => if l_ = 20 then 16 else l_) rfl), (f900000.relab (fun l_ => if l_ = 20 then 16 else l_) rfl), hc224, (hlp196 ▸ H)⟩

/-! tidewrack/tidewracklaw13.Same -/
theorem tidewracklaw13_Same_calls (K : Nat) (Ap0 : Option Addr) (cp0 : Nat) (p0 : List T44) (Ap1 : Option Addr) (cp1 : Nat) (p1 : List T44) (w : World) (o : Nat → Nat) (Lp0 : Nat) (hp0 : Ft (RdC ET44 Ap0 p0) w o Lp0) (hcp0 : (p0).length ≤ cp0) (Lp1 : Nat) (hp1 : Ft (RdC ET44 Ap1 p1) w o Lp1) (hcp1 : (p1).length ≤ cp1)  (r : Bool) (H : tidewracklaw13_Same K p0 p1 = some r) :
    Calls Try.prog 38 #[.slice Ap0 (p0).length cp0, .slice Ap1 (p1).length cp1] w (Ret fun v_ w' => ∃ o' : Nat → Nat, v_ = .bool r ∧ St [] w o w' o') := by
  refine x_enter (vs := [.slice Ap0 (p0).length cp0, .slice Ap1 (p1).length cp1]) Try.func38 rfl rfl rfl fun a hk => ?_
  obtain ⟨o0, hs, h0⟩ := St.start w o
  have f900000 := h0 _ _ hp0
  have f900020 := h0 _ _ hp1
  clear h0
  rw [tidewracklaw13_Same] at H
  refine x_seq ?_
  refine wpIn_region_lit ?_
  refine x_run tab hk (k := 1) (lv := []) (ks := [0, 1]) (e' := [(0, .slice Ap0 (p0).length cp0), (1, .slice Ap1 (p1).length cp1)]) rfl trivial fun a hk => ?_
  refine wpListIn_nil ?_
  refine then_n ?_
  refine x_seq ?_
  refine x_seq ?_
  refine wpIn_region_lit ?_
  refine x_run tab hk (k := 5) (lv := []) (ks := [0, 1, 10]) (e' := [(0, .slice Ap0 (p0).length cp0), (1, .slice Ap1 (p1).length cp1), (10, .bool (((p0).length : Int) != ((p1).length : Int)))]) rfl trivial fun a hk => ?_
  refine wpListIn_nil ?_
  refine then_n ?_
  cases b1 : (((p0).length : Int) != ((p1).length : Int))
  · rw [b1] at hk H
    replace H := bifF H
    refine x_if hk (b := false) rfl ?_
    refine (show Code.wpIn _ _ _ _ _ _ _ from ?_)
    refine wpIn_skip ?_
    refine then_n ?_
    refine x_mid (fun a_ w_ => ∃ o62 : Nat → Nat, Kn 26 a_ [] ∧ St [] w (fun _ => 0) w_ o62 ∧ tidewracklaw13_Same_j1 = some r) ?_ ?_
    rotate_left
    · rintro a w63 ⟨o62, hk, hs, H⟩
      rw [tidewracklaw13_Same_j1] at H
      refine x_seq ?_
      refine wpIn_region_lit ?_
      refine x_run tab hk (k := 1) (lv := []) (ks := [4]) (e' := [(4, .bool true)]) rfl trivial fun a hk => ?_
      refine wpListIn_nil ?_
      refine then_n ?_
      refine wpIn_ret ?_
      obtain rfl := Option.some.inj H
      exact x_retG hk (rs := [.tmp 4]) (vs := [.bool true]) rfl ⟨rfl, trivial⟩ ⟨fun b_ => if b_ < w.heap.size then o b_ else (fun _ => 0) (o62 b_), rfl, hs.close0 o (fun _ => 0)⟩
    refine x_seq ?_
    refine wpIn_region_lit ?_
    refine x_run tab hk (k := 3) (lv := []) (ks := [0, 1, 12, 13]) (e' := [(0, .slice Ap0 (p0).length cp0), (1, .slice Ap1 (p1).length cp1), (12, .int .i64 ((p1).length : Int)), (13, .int .i64 0)]) rfl trivial fun a hk => ?_
    refine wpListIn_nil ?_
    refine then_n ?_
    refine wpIn_block ?_
    refine x_loop (fun j_ a_ w_ => ∃ o83 : Nat → Nat, ∃ x84 : Int, Kn 26 a_ [(0, .slice Ap0 (p0).length cp0), (1, .slice Ap1 (p1).length cp1), (12, .int .i64 ((p1).length : Int)), (13, .int .i64 x84)] ∧ St [] w (fun _ => 0) w_ o83 ∧ Ft (RdC ET44 Ap0 p0) w_ o83 0 ∧ Ft (RdC ET44 Ap1 p1) w_ o83 0 ∧ tidewracklaw13_Same_l2 p0 p1 j_ x84 = some r) (k := K) ⟨o0, 0, (by exact Kn.pick (ks := [0, 1, 12, 13]) hk rfl), hs, f900000, f900020, H⟩ (by rintro _ _ ⟨_, _, _, _, _, _, H_⟩; exact absurd (show (none : Option Bool) = some r from H_) (by simp)) ?_
    rintro k102 a w101 ⟨o83, x84, hk, hs, f900000, f900020, H⟩
    rw [tidewracklaw13_Same_l2] at H
    obtain ⟨lp103, hlp104⟩ : ∃ lp_, lp_ = tidewracklaw13_Same_l2 p0 p1 k102 := ⟨_, rfl⟩
    rw [← hlp104] at H
    refine x_seq ?_
    refine wpIn_region_lit ?_
    refine x_run tab hk (k := 1) (lv := []) (ks := [0, 1, 12, 13, 14]) (e' := [(0, .slice Ap0 (p0).length cp0), (1, .slice Ap1 (p1).length cp1), (12, .int .i64 ((p1).length : Int)), (13, .int .i64 x84), (14, .bool (decide (x84 < ((p1).length : Int))))]) rfl trivial fun a hk => ?_
    refine wpListIn_nil ?_
    refine then_n ?_
    refine x_seq ?_
    cases b105 : (decide (x84 < ((p1).length : Int)))
    · rw [b105] at hk H
      replace H := bifF H
      refine x_if hk (b := false) rfl ?_
      refine (show Code.wpIn _ _ _ _ _ _ _ from ?_)
      refine wpIn_exit ?_
      refine then_x ?_
      refine then_x ?_
      refine blk_x ?_
      refine then_n ?_
      exact ⟨o83, (by exact Kn.pick (ks := []) hk rfl), hs, H⟩
    · rw [b105] at hk H
      replace H := bifT H
      refine x_if hk (b := true) rfl ?_
      refine (show Code.wpIn _ _ _ _ _ _ _ from ?_)
      refine wpIn_skip ?_
      refine then_n ?_
      refine x_seq ?_
      refine wpIn_block ?_
      refine x_seq ?_
      refine wpIn_region_lit ?_
      refine x_run tab hk (k := 2) (lv := []) (ks := [0, 1, 5, 12, 13]) (e' := [(0, .slice Ap0 (p0).length cp0), (1, .slice Ap1 (p1).length cp1), (5, .int .i64 x84), (12, .int .i64 ((p1).length : Int)), (13, .int .i64 x84)]) rfl trivial fun a hk => ?_
      refine wpListIn_nil ?_
      refine then_n ?_
      refine x_seq ?_
      refine xd_begin (o := o83) (fun W_ => (RdC ET44 Ap0 p0) W_ ∧ (RdC ET44 Ap1 p1) W_ ∧ True) mixed rfl rfl fun w114 st115 => ?_
      replace f900000 := f900000.st st115 (by decide)
      replace f900020 := f900020.st st115 (by decide)
      replace hs := hs.loc0 st115 (by decide)
      obtain ⟨q116, H⟩ := ifS H
      obtain ⟨ad117, hAad117⟩ := RdC.addr f900000.now q116
      have hk_C := hk
      have f900000_C := f900000
      have f900020_C := f900020
      subst hAad117
      have hk := hk_C
      clear hk_C
      have f900000 := f900000_C
      clear f900000_C
      have f900020 := f900020_C
      clear f900020_C
      obtain ⟨q118, H⟩ := ifS H
      obtain ⟨ad119, hAad119⟩ := RdC.addr f900020.now q118
      have hk_C := hk
      have f900000_C := f900000
      have f900020_C := f900020
      subst hAad119
      have hk := hk_C
      clear hk_C
      have f900000 := f900000_C
      clear f900000_C
      have f900020 := f900020_C
      clear f900020_C
      refine xd_take tab hk (k := 0) (is := [0, 1, 2, 3, 4, 5, 6, 7, 8]) (ls' := #[true, true, true, true, true, true, true, true, true]) (lv := [.agg #[.int .i64 ((rdD zT44 p0 x84).From), .int .i64 ((rdD zT44 p0 x84).To)], .agg #[.int .i64 ((rdD zT44 p1 x84).From), .int .i64 ((rdD zT44 p1 x84).To)], .bool (!(eqT44 (rdD zT44 p0 x84) (rdD zT44 p1 x84)))]) (ks := [0, 1, 12, 13, 24]) (e' := [(0, .slice (some ad117) (p0).length cp0), (1, .slice (some ad119) (p1).length cp1), (12, .int .i64 ((p1).length : Int)), (13, .int .i64 x84), (24, .bool (!(eqT44 (rdD zT44 p0 x84) (rdD zT44 p1 x84))))]) (by kernel_rfl) rfl rfl (by kernel_rfl) (np_then (np_blk (np_then (np_then (np_blk (np_then np_body)))))) ⟨f900000.now, f900020.now, trivial⟩ (fun W_ hS => ⟨q116, (load_elem (E := ET44) (i := x84) (dx := zT44) tab rfl rfl hS.1 q116), q118, (load_elem (E := ET44) (i := x84) (dx := zT44) tab rfl rfl hS.2.1 q118), (ask_neq tab stood rfl rfl rfl rfl), trivial⟩) fun a hk => ?_
      refine xd_done (by kernel_rfl) ?_
      refine then_n ?_
      cases b120 : (!(eqT44 (rdD zT44 p0 x84) (rdD zT44 p1 x84)))
      · rw [b120] at hk H
        replace H := bifF H
        refine x_if hk (b := false) rfl ?_
        refine (show Code.wpIn _ _ _ _ _ _ _ from ?_)
        refine wpIn_skip ?_
        refine blk_n ?_
        refine then_n ?_
        refine wpIn_region_lit ?_
        refine x_run tab hk (k := 2) (lv := []) (ks := [0, 1, 12, 13]) (e' := [(0, .slice (some ad117) (p0).length cp0), (1, .slice (some ad119) (p1).length cp1), (12, .int .i64 ((p1).length : Int)), (13, .int .i64 (IntKind.wrap .i64 (x84 + 1)))]) rfl trivial fun a hk => ?_
        refine wpListIn_nil ?_
        refine then_n ?_
        exact ⟨k102, Nat.le_refl _, o83, (IntKind.wrap .i64 (x84 + 1)), (by exact Kn.pick (ks := [0, 1, 12, 13]) hk rfl), hs, f900000, f900020, (hlp104 ▸ H)⟩
      · rw [b120] at hk H
        replace H := bifT H
        refine x_if hk (b := true) rfl ?_
        refine (show Code.wpIn _ _ _ _ _ _ _ from ?_)
        refine x_seq ?_
        refine wpIn_region_lit ?_
        refine x_run tab hk (k := 1) (lv := []) (ks := [4]) (e' := [(4, .bool false)]) rfl trivial fun a hk => ?_
        refine wpListIn_nil ?_
        refine then_n ?_
        refine wpIn_ret ?_
        refine blk_r ?_
        refine then_r ?_
        refine then_r ?_
        refine blk_r ?_
        refine then_r ?_
        obtain rfl := Option.some.inj H
        exact x_retG hk (rs := [.tmp 4]) (vs := [.bool false]) rfl ⟨rfl, trivial⟩ ⟨fun b_ => if b_ < w.heap.size then o b_ else (fun _ => 0) (o83 b_), rfl, hs.close0 o (fun _ => 0)⟩
  · rw [b1] at hk H
    replace H := bifT H
    refine x_if hk (b := true) rfl ?_
    refine (show Code.wpIn _ _ _ _ _ _ _ from ?_)
    refine x_seq ?_
    refine wpIn_region_lit ?_
    refine x_run tab hk (k := 1) (lv := []) (ks := [4]) (e' := [(4, .bool false)]) rfl trivial fun a hk => ?_
    refine wpListIn_nil ?_
    refine then_n ?_
    refine wpIn_ret ?_
    refine then_r ?_
    obtain rfl := Option.some.inj H
    exact x_retG hk (rs := [.tmp 4]) (vs := [.bool false]) rfl ⟨rfl, trivial⟩ ⟨fun b_ => if b_ < w.heap.size then o b_ else (fun _ => 0) (o0 b_), rfl, hs.close0 o (fun _ => 0)⟩

/-! tidewrack/tidewracklaw14.Is -/
theorem tidewracklaw14_Is_calls (K : Nat) (bp0 : Nat) (Ap0_0 : Option Addr) (cp0_0 : Nat) (p0 : T62) (Ap1_0 : Option Addr) (cp1_0 : Nat) (p1 : T50) (w : World) (o : Nat → Nat) (LF : Nat) (Lp0 : Nat) (hp0 : Ft (Bx bp0 63 [.int .i64 p0.most, .int .i64 p0.now, mv Ap0_0]) w o Lp0) (Lp0_0 : Nat) (hp0_0 : MpN dT71 true Ap0_0 p0.l w o Lp0_0 LF) (hcp0_0 : (p0.l).length ≤ cp0_0) (Lp1_0 : Nat) (hp1_0 : NRd dT87 Ap1_0 p1.L w o Lp1_0 LF) (hcp1_0 : (p1.L).length ≤ cp1_0) (hd0 : ([LF] : List Nat).Nodup) (hd1 : Lp0_0 ∉ [LF]) (hd2 : Lp0 ∉ [LF]) (hd3 : Lp1_0 ∉ [LF]) (r : Bool) (H : tidewracklaw14_Is K p0 p1 = some r) :
    Calls Try.prog 20 #[.pointer (some ⟨bp0, 0, none⟩), .agg #[.int .i64 p1.Most, .slice Ap1_0 (p1.L).length cp1_0]] w (Ret fun v_ w' => ∃ o' : Nat → Nat, v_ = .bool r ∧ St [] w o w' o') := by
  refine x_enter (vs := [.pointer (some ⟨bp0, 0, none⟩), .agg #[.int .i64 p1.Most, .slice Ap1_0 (p1.L).length cp1_0]]) Try.func20 rfl rfl rfl fun a hk => ?_
  obtain ⟨oi, hs0, h0, h1, hob, hoz, hoa⟩ := St.startM2 w o (m := 1) hd0 rfl
  have hs := hs0 []
  have f900000 := hp0_0.conv (fun P_ => h0 P_ _ hd1) (fun _ h_ => h1 0 1 h_ rfl rfl)
  have f900019 := h0 _ _ hd2 hp0
  have f900020 := hp1_0.conv (fun P_ => h0 P_ _ hd3) (fun _ h_ => h1 0 1 h_ rfl rfl)
  clear h0 h1 hs0
  rw [tidewracklaw14_Is] at H
  refine x_seq ?_
  refine wpIn_region_lit ?_
  refine x_op hk rfl ?_
  refine op_box (o := oi) (t := 51) (v := .agg #[.int .i64 p1.Most, .slice Ap1_0 (p1.L).length cp1_0]) (cs := [.int .i64 p1.Most, .slice Ap1_0 (p1.L).length cp1_0]) hk rfl rfl 2 fun bx4 w1 o2 st3 f5 => ?_
  replace f900000 := f900000.st st3 (by decide)
  replace f900019 := f900019.st st3 (by decide)
  replace f900020 := f900020.st st3 (by decide)
  replace hs := hs.locQ st3 hob rfl
  have hk := hk.put 3 (.pointer (some ⟨bx4, 0, none⟩)) rfl
  refine x_run tab hk (k := 1) (lv := []) (ks := [0, 3]) (e' := [(0, .pointer (some ⟨bp0, 0, none⟩)), (3, .pointer (some ⟨bx4, 0, none⟩))]) rfl trivial fun a hk => ?_
  refine wpListIn_nil ?_
  refine then_n ?_
  refine x_seq ?_
  refine wpIn_region_lit ?_
  refine x_run tab hk (k := 1) (lv := []) (ks := [0, 3, 5]) (e' := [(0, .pointer (some ⟨bp0, 0, none⟩)), (3, .pointer (some ⟨bx4, 0, none⟩)), (5, .slice none 0 0)]) rfl trivial fun a hk => ?_
  refine wpListIn_nil ?_
  refine then_n ?_
  refine x_mid (fun a_ w_ => ∃ o186 : Nat → Nat, ∃ A187 : Option Addr, ∃ c188 : Nat, ∃ l189 : List Int, Kn 58 a_ [(0, .pointer (some ⟨bp0, 0, none⟩)), (3, .pointer (some ⟨bx4, 0, none⟩)), (5, .slice A187 (l189).length c188)] ∧ St [] w oi w_ o186 ∧ Ft (Own (encInt .i64) 3 (.slice A187 (l189).length c188) l189) w_ o186 18 ∧ Ft (Bx bx4 51 [.int .i64 p1.Most, .slice Ap1_0 (p1.L).length cp1_0]) w_ o186 17 ∧ MpN dT71 true Ap0_0 p0.l w_ o186 0 1 ∧ Ft (Bx bp0 63 [.int .i64 p0.most, .int .i64 p0.now, mv Ap0_0]) w_ o186 0 ∧ NRd dT87 Ap1_0 p1.L w_ o186 0 1 ∧ (l189).length ≤ c188 ∧ tidewracklaw14_Is_j1 K p0 p1 l189 = some r) ?_ ?_
  rotate_left
  · rintro a w192 ⟨o186, A187, c188, l189, hk, hs, f190, f5, f900000, f900019, f900020, hc191, H⟩
    rw [tidewracklaw14_Is_j1] at H
    refine x_seq ?_
    obtain ⟨t258, hc259, H⟩ := bindS H
    cases b263 : (t258 == ((p1.L).length : Int))
    · rw [b263] at H
      replace H := bifF H
      refine xd_begin (o := o186) (fun W_ => (Bx bx4 51 [.int .i64 p1.Most, .slice Ap1_0 (p1.L).length cp1_0]) W_ ∧ True) mixed rfl rfl fun w270 st271 => ?_
      replace f190 := f190.st st271 (by decide)
      replace f5 := f5.st st271 (by decide)
      replace f900000 := f900000.st st271 (by decide)
      replace f900019 := f900019.st st271 (by decide)
      replace f900020 := f900020.st st271 (by decide)
      replace hs := hs.locQ st271 hob rfl
      refine xd_take tab hk (k := 16) (is := [0, 2, 3, 4]) (ls' := #[true, false, true, true, true, false, false, false, false, false, false, false, false, false, false, false, false, false, false, false]) (lv := [.slice Ap1_0 (p1.L).length cp1_0]) (ks := [0, 3, 5, 39, 43]) (e' := [(0, .pointer (some ⟨bp0, 0, none⟩)), (3, .pointer (some ⟨bx4, 0, none⟩)), (5, .slice A187 (l189).length c188), (39, .pointer (some ⟨bp0, 0, none⟩)), (43, .int .i64 ((p1.L).length : Int))]) (by kernel_rfl) rfl rfl (by kernel_rfl) (np_then np_body) ⟨f5.now, trivial⟩ (fun W_ hS => ⟨(load1 tab rfl ((Bx.cell hS.1 1).trans rfl)), trivial⟩) fun a hk => ?_
      refine xd_op hk (i := 1) (by kernel_rfl) rfl rfl ?_
      refine op_call hk ent_17 (vs := [.pointer (some ⟨bp0, 0, none⟩)]) rfl (cache_Cache_Len_calls bp0 Ap0_0 cp0_0 p0 _ o186 1 0 f900019 _ f900000 hcp0_0 (by decide) (by decide) (by decide)   _ hc259) ?_
      rintro _ w275 ⟨o276, rfl, st277⟩
      replace f190 := f190.st st277 (by decide)
      replace f5 := f5.st st277 (by decide)
      replace f900000 := f900000.st st277 (by decide)
      replace f900019 := f900019.st st277 (by decide)
      replace f900020 := f900020.st st277 (by decide)
      replace hs := hs.locQ st277 hob rfl
      have hk := hk.put 40 (.int .i64 t258) rfl
      refine ⟨.inr ⟨f5.now, trivial⟩, ?_⟩
      refine xd_take tab hk (k := 13) (is := [5, 6]) (ls' := #[true, true, true, true, true, true, true, false, false, false, false, false, false, false, false, false, false, false, false, false]) (lv := []) (ks := [0, 3, 5, 45]) (e' := [(0, .pointer (some ⟨bp0, 0, none⟩)), (3, .pointer (some ⟨bx4, 0, none⟩)), (5, .slice A187 (l189).length c188), (45, .bool (t258 == ((p1.L).length : Int)))]) (by kernel_rfl) rfl rfl (by kernel_rfl) (np_then np_body) ⟨f5.now, trivial⟩ (fun W_ hS => trivial) fun a hk => ?_
      rw [b263] at hk
      refine xd_take tab hk (k := 0) (is := [7, 8, 9, 10, 11, 12, 13, 14, 15, 16, 17, 18, 19]) (ls' := #[true, true, true, true, true, true, true, true, true, true, true, true, true, true, true, true, true, true, true, true]) (lv := []) (ks := [4]) (e' := [(4, .bool false)]) (by kernel_rfl) rfl rfl (by kernel_rfl) (np_then np_body) ⟨f5.now, trivial⟩ (fun W_ hS => trivial) fun a hk => ?_
      refine xd_done (by kernel_rfl) ?_
      refine then_n ?_
      refine wpIn_ret ?_
      obtain rfl := Option.some.inj H
      exact x_retG hk (rs := [.tmp 4]) (vs := [.bool false]) rfl ⟨rfl, trivial⟩ ⟨cl w oi o [] (fun l_ => if l_ = 1 then LF else 0) o276, rfl, hs.closeF (Lm := []) (Sh := []) hoa rfl (fun l_ => if l_ = 1 then LF else 0)⟩
    · rw [b263] at H
      replace H := bifT H
      obtain ⟨t281, hc282, H⟩ := bindS H
      obtain ⟨t293, hc294, H⟩ := bindS H
      cases b298 : t293
      · rw [b298] at H
        replace H := bifF H
        refine xd_begin (o := o186) (fun W_ => (Bx bx4 51 [.int .i64 p1.Most, .slice Ap1_0 (p1.L).length cp1_0]) W_ ∧ True) mixed rfl rfl fun w321 st322 => ?_
        replace f190 := f190.st st322 (by decide)
        replace f5 := f5.st st322 (by decide)
        replace f900000 := f900000.st st322 (by decide)
        replace f900019 := f900019.st st322 (by decide)
        replace f900020 := f900020.st st322 (by decide)
        replace hs := hs.locQ st322 hob rfl
        refine xd_take tab hk (k := 16) (is := [0, 2, 3, 4]) (ls' := #[true, false, true, true, true, false, false, false, false, false, false, false, false, false, false, false, false, false, false, false]) (lv := [.slice Ap1_0 (p1.L).length cp1_0]) (ks := [0, 3, 5, 39, 43]) (e' := [(0, .pointer (some ⟨bp0, 0, none⟩)), (3, .pointer (some ⟨bx4, 0, none⟩)), (5, .slice A187 (l189).length c188), (39, .pointer (some ⟨bp0, 0, none⟩)), (43, .int .i64 ((p1.L).length : Int))]) (by kernel_rfl) rfl rfl (by kernel_rfl) (np_then np_body) ⟨f5.now, trivial⟩ (fun W_ hS => ⟨(load1 tab rfl ((Bx.cell hS.1 1).trans rfl)), trivial⟩) fun a hk => ?_
        refine xd_op hk (i := 1) (by kernel_rfl) rfl rfl ?_
        refine op_call hk ent_17 (vs := [.pointer (some ⟨bp0, 0, none⟩)]) rfl (cache_Cache_Len_calls bp0 Ap0_0 cp0_0 p0 _ o186 1 0 f900019 _ f900000 hcp0_0 (by decide) (by decide) (by decide)   _ hc259) ?_
        rintro _ w326 ⟨o327, rfl, st328⟩
        replace f190 := f190.st st328 (by decide)
        replace f5 := f5.st st328 (by decide)
        replace f900000 := f900000.st st328 (by decide)
        replace f900019 := f900019.st st328 (by decide)
        replace f900020 := f900020.st st328 (by decide)
        replace hs := hs.locQ st328 hob rfl
        have hk := hk.put 40 (.int .i64 t258) rfl
        refine ⟨.inr ⟨f5.now, trivial⟩, ?_⟩
        refine xd_take tab hk (k := 13) (is := [5, 6]) (ls' := #[true, true, true, true, true, true, true, false, false, false, false, false, false, false, false, false, false, false, false, false]) (lv := []) (ks := [0, 3, 5, 45]) (e' := [(0, .pointer (some ⟨bp0, 0, none⟩)), (3, .pointer (some ⟨bx4, 0, none⟩)), (5, .slice A187 (l189).length c188), (45, .bool (t258 == ((p1.L).length : Int)))]) (by kernel_rfl) rfl rfl (by kernel_rfl) (np_then np_body) ⟨f5.now, trivial⟩ (fun W_ hS => trivial) fun a hk => ?_
        rw [b263] at hk
        refine xd_take tab hk (k := 11) (is := [7, 9]) (ls' := #[true, true, true, true, true, true, true, true, false, true, false, false, false, false, false, false, false, false, false, false]) (lv := []) (ks := [0, 3, 45, 46, 48]) (e' := [(0, .pointer (some ⟨bp0, 0, none⟩)), (3, .pointer (some ⟨bx4, 0, none⟩)), (45, .bool true), (46, .pointer (some ⟨bp0, 0, none⟩)), (48, .slice A187 (l189).length c188)]) (by kernel_rfl) rfl rfl (by kernel_rfl) (np_then np_body) ⟨f5.now, trivial⟩ (fun W_ hS => trivial) fun a hk => ?_
        refine xd_op hk (i := 8) (by kernel_rfl) rfl rfl ?_
        refine op_call hk ent_16 (vs := [.pointer (some ⟨bp0, 0, none⟩)]) rfl (cache_Cache_Order_calls bp0 Ap0_0 cp0_0 p0 _ o327 1 0 f900019 _ f900000 hcp0_0 (by decide) (by decide) (by decide) 24  _ hc282) ?_
        rintro _ w332 ⟨o333, A335, c336, rfl, st334, f337, hc338⟩
        replace f190 := f190.st st334 (by decide)
        replace f5 := f5.st st334 (by decide)
        replace f900000 := f900000.st st334 (by decide)
        replace f900019 := f900019.st st334 (by decide)
        replace f900020 := f900020.st st334 (by decide)
        replace hs := hs.locQ st334 hob rfl
        have hk := hk.put 47 (.slice A335 (t281).length c336) rfl
        refine ⟨.inr ⟨f5.now, trivial⟩, ?_⟩
        refine xd_op hk (i := 10) (by kernel_rfl) rfl rfl ?_
        refine op_call hk ent_37 (vs := [.slice A335 (t281).length c336, .slice A187 (l189).length c188]) rfl (tidewracklaw01_Same_calls K A335 c336 t281 A187 c188 l189 _ o333 _ (f337.imp fun _ h_ => Own.rd h_) hc338 _ (f190.imp fun _ h_ => Own.rd h_) hc191   _ hc294) ?_
        rintro _ w342 ⟨o343, rfl, st344⟩
        replace f190 := f190.st st344 (by decide)
        replace f337 := f337.st st344 (by decide)
        replace f5 := f5.st st344 (by decide)
        replace f900000 := f900000.st st344 (by decide)
        replace f900019 := f900019.st st344 (by decide)
        replace f900020 := f900020.st st344 (by decide)
        replace hs := hs.locQ st344 hob rfl
        have hk := hk.put 49 (.bool t293) rfl
        refine ⟨.inr ⟨f5.now, trivial⟩, ?_⟩
        refine xd_take tab hk (k := 7) (is := [11, 12]) (ls' := #[true, true, true, true, true, true, true, true, true, true, true, true, true, false, false, false, false, false, false, false]) (lv := []) (ks := [0, 3, 51]) (e' := [(0, .pointer (some ⟨bp0, 0, none⟩)), (3, .pointer (some ⟨bx4, 0, none⟩)), (51, .bool t293)]) (by kernel_rfl) rfl rfl (by kernel_rfl) (np_then np_body) ⟨f5.now, trivial⟩ (fun W_ hS => trivial) fun a hk => ?_
        rw [b298] at hk
        refine xd_take tab hk (k := 0) (is := [13, 14, 15, 16, 17, 18, 19]) (ls' := #[true, true, true, true, true, true, true, true, true, true, true, true, true, true, true, true, true, true, true, true]) (lv := []) (ks := [4]) (e' := [(4, .bool false)]) (by kernel_rfl) rfl rfl (by kernel_rfl) (np_then np_body) ⟨f5.now, trivial⟩ (fun W_ hS => trivial) fun a hk => ?_
        refine xd_done (by kernel_rfl) ?_
        refine then_n ?_
        refine wpIn_ret ?_
        obtain rfl := Option.some.inj H
        exact x_retG hk (rs := [.tmp 4]) (vs := [.bool false]) rfl ⟨rfl, trivial⟩ ⟨cl w oi o [] (fun l_ => if l_ = 1 then LF else 0) o343, rfl, hs.closeF (Lm := []) (Sh := []) hoa rfl (fun l_ => if l_ = 1 then LF else 0)⟩
      · rw [b298] at H
        replace H := bifT H
        obtain ⟨t348, hc349, H⟩ := bindS H
        obtain ⟨t360, hc361, H⟩ := bindS H
        obtain ⟨t372, hc373, H⟩ := bindS H
        refine xd_begin (o := o186) (fun W_ => (Bx bx4 51 [.int .i64 p1.Most, .slice Ap1_0 (p1.L).length cp1_0]) W_ ∧ True) mixed rfl rfl fun w425 st426 => ?_
        replace f190 := f190.st st426 (by decide)
        replace f5 := f5.st st426 (by decide)
        replace f900000 := f900000.st st426 (by decide)
        replace f900019 := f900019.st st426 (by decide)
        replace f900020 := f900020.st st426 (by decide)
        replace hs := hs.locQ st426 hob rfl
        refine xd_take tab hk (k := 16) (is := [0, 2, 3, 4]) (ls' := #[true, false, true, true, true, false, false, false, false, false, false, false, false, false, false, false, false, false, false, false]) (lv := [.slice Ap1_0 (p1.L).length cp1_0]) (ks := [0, 3, 5, 39, 43]) (e' := [(0, .pointer (some ⟨bp0, 0, none⟩)), (3, .pointer (some ⟨bx4, 0, none⟩)), (5, .slice A187 (l189).length c188), (39, .pointer (some ⟨bp0, 0, none⟩)), (43, .int .i64 ((p1.L).length : Int))]) (by kernel_rfl) rfl rfl (by kernel_rfl) (np_then np_body) ⟨f5.now, trivial⟩ (fun W_ hS => ⟨(load1 tab rfl ((Bx.cell hS.1 1).trans rfl)), trivial⟩) fun a hk => ?_
        refine xd_op hk (i := 1) (by kernel_rfl) rfl rfl ?_
        refine op_call hk ent_17 (vs := [.pointer (some ⟨bp0, 0, none⟩)]) rfl (cache_Cache_Len_calls bp0 Ap0_0 cp0_0 p0 _ o186 1 0 f900019 _ f900000 hcp0_0 (by decide) (by decide) (by decide)   _ hc259) ?_
        rintro _ w430 ⟨o431, rfl, st432⟩
        replace f190 := f190.st st432 (by decide)
        replace f5 := f5.st st432 (by decide)
        replace f900000 := f900000.st st432 (by decide)
        replace f900019 := f900019.st st432 (by decide)
        replace f900020 := f900020.st st432 (by decide)
        replace hs := hs.locQ st432 hob rfl
        have hk := hk.put 40 (.int .i64 t258) rfl
        refine ⟨.inr ⟨f5.now, trivial⟩, ?_⟩
        refine xd_take tab hk (k := 13) (is := [5, 6]) (ls' := #[true, true, true, true, true, true, true, false, false, false, false, false, false, false, false, false, false, false, false, false]) (lv := []) (ks := [0, 3, 5, 45]) (e' := [(0, .pointer (some ⟨bp0, 0, none⟩)), (3, .pointer (some ⟨bx4, 0, none⟩)), (5, .slice A187 (l189).length c188), (45, .bool (t258 == ((p1.L).length : Int)))]) (by kernel_rfl) rfl rfl (by kernel_rfl) (np_then np_body) ⟨f5.now, trivial⟩ (fun W_ hS => trivial) fun a hk => ?_
        rw [b263] at hk
        refine xd_take tab hk (k := 11) (is := [7, 9]) (ls' := #[true, true, true, true, true, true, true, true, false, true, false, false, false, false, false, false, false, false, false, false]) (lv := []) (ks := [0, 3, 45, 46, 48]) (e' := [(0, .pointer (some ⟨bp0, 0, none⟩)), (3, .pointer (some ⟨bx4, 0, none⟩)), (45, .bool true), (46, .pointer (some ⟨bp0, 0, none⟩)), (48, .slice A187 (l189).length c188)]) (by kernel_rfl) rfl rfl (by kernel_rfl) (np_then np_body) ⟨f5.now, trivial⟩ (fun W_ hS => trivial) fun a hk => ?_
        refine xd_op hk (i := 8) (by kernel_rfl) rfl rfl ?_
        refine op_call hk ent_16 (vs := [.pointer (some ⟨bp0, 0, none⟩)]) rfl (cache_Cache_Order_calls bp0 Ap0_0 cp0_0 p0 _ o431 1 0 f900019 _ f900000 hcp0_0 (by decide) (by decide) (by decide) 30  _ hc282) ?_
        rintro _ w436 ⟨o437, A439, c440, rfl, st438, f441, hc442⟩
        replace f190 := f190.st st438 (by decide)
        replace f5 := f5.st st438 (by decide)
        replace f900000 := f900000.st st438 (by decide)
        replace f900019 := f900019.st st438 (by decide)
        replace f900020 := f900020.st st438 (by decide)
        replace hs := hs.locQ st438 hob rfl
        have hk := hk.put 47 (.slice A439 (t281).length c440) rfl
        refine ⟨.inr ⟨f5.now, trivial⟩, ?_⟩
        refine xd_op hk (i := 10) (by kernel_rfl) rfl rfl ?_
        refine op_call hk ent_37 (vs := [.slice A439 (t281).length c440, .slice A187 (l189).length c188]) rfl (tidewracklaw01_Same_calls K A439 c440 t281 A187 c188 l189 _ o437 _ (f441.imp fun _ h_ => Own.rd h_) hc442 _ (f190.imp fun _ h_ => Own.rd h_) hc191   _ hc294) ?_
        rintro _ w446 ⟨o447, rfl, st448⟩
        replace f190 := f190.st st448 (by decide)
        replace f441 := f441.st st448 (by decide)
        replace f5 := f5.st st448 (by decide)
        replace f900000 := f900000.st st448 (by decide)
        replace f900019 := f900019.st st448 (by decide)
        replace f900020 := f900020.st st448 (by decide)
        replace hs := hs.locQ st448 hob rfl
        have hk := hk.put 49 (.bool t293) rfl
        refine ⟨.inr ⟨f5.now, trivial⟩, ?_⟩
        refine xd_take tab hk (k := 7) (is := [11, 12]) (ls' := #[true, true, true, true, true, true, true, true, true, true, true, true, true, false, false, false, false, false, false, false]) (lv := []) (ks := [0, 3, 51]) (e' := [(0, .pointer (some ⟨bp0, 0, none⟩)), (3, .pointer (some ⟨bx4, 0, none⟩)), (51, .bool t293)]) (by kernel_rfl) rfl rfl (by kernel_rfl) (np_then np_body) ⟨f5.now, trivial⟩ (fun W_ hS => trivial) fun a hk => ?_
        rw [b298] at hk
        refine xd_take tab hk (k := 5) (is := [13, 15]) (ls' := #[true, true, true, true, true, true, true, true, true, true, true, true, true, true, false, true, false, false, false, false]) (lv := [.agg #[.int .i64 p1.Most, .slice Ap1_0 (p1.L).length cp1_0]]) (ks := [51, 52, 54]) (e' := [(51, .bool true), (52, .pointer (some ⟨bp0, 0, none⟩)), (54, .agg #[.int .i64 p1.Most, .slice Ap1_0 (p1.L).length cp1_0])]) (by kernel_rfl) rfl rfl (by kernel_rfl) (np_then np_body) ⟨f5.now, trivial⟩ (fun W_ hS => ⟨(load_box tab rfl rfl hS.1 (k := 0) rfl rfl), trivial⟩) fun a hk => ?_
        refine xd_op hk (i := 14) (by kernel_rfl) rfl rfl ?_
        refine op_call hk ent_15 (vs := [.pointer (some ⟨bp0, 0, none⟩)]) rfl (cache_Cache_Spans_calls K bp0 Ap0_0 cp0_0 p0 _ o447 1 0 f900019 _ f900000 hcp0_0 (by decide) (by decide) (by decide) 31  _ hc349) ?_
        rintro _ w452 ⟨o453, A455, c456, rfl, st454, f457, hc458⟩
        replace f5 := f5.st st454 (by decide)
        replace f900000 := f900000.st st454 (by decide)
        replace f900019 := f900019.st st454 (by decide)
        replace f900020 := f900020.st st454 (by decide)
        replace hs := hs.locQ st454 hob rfl
        have hk := hk.put 53 (.slice A455 (t348).length c456) rfl
        refine ⟨.inr ⟨f5.now, trivial⟩, ?_⟩
        refine xd_op hk (i := 16) (by kernel_rfl) rfl rfl ?_
        refine op_call hk ent_39 (vs := [.agg #[.int .i64 p1.Most, .slice Ap1_0 (p1.L).length cp1_0]]) rfl (tidewrackref14_Spans_calls K Ap1_0 cp1_0 p1 _ o453 1 _ f900020 hcp1_0 (by decide) (by decide) 32  _ hc361) ?_
        rintro _ w462 ⟨o463, A465, c466, rfl, st464, f467, hc468⟩
        replace f457 := f457.st st464 (by decide)
        replace f5 := f5.st st464 (by decide)
        replace f900000 := f900000.st st464 (by decide)
        replace f900019 := f900019.st st464 (by decide)
        replace f900020 := f900020.st st464 (by decide)
        replace hs := hs.locQ st464 hob rfl
        have hk := hk.put 55 (.slice A465 (t360).length c466) rfl
        refine ⟨.inr ⟨f5.now, trivial⟩, ?_⟩
        refine xd_op hk (i := 17) (by kernel_rfl) rfl rfl ?_
        refine op_call hk ent_38 (vs := [.slice A455 (t348).length c456, .slice A465 (t360).length c466]) rfl (tidewracklaw13_Same_calls K A455 c456 t348 A465 c466 t360 _ o463 _ (f457.imp fun _ h_ => Own.rd h_) hc458 _ (f467.imp fun _ h_ => Own.rd h_) hc468   _ hc373) ?_
        rintro _ w472 ⟨o473, rfl, st474⟩
        replace f457 := f457.st st474 (by decide)
        replace f467 := f467.st st474 (by decide)
        replace f5 := f5.st st474 (by decide)
        replace f900000 := f900000.st st474 (by decide)
        replace f900019 := f900019.st st474 (by decide)
        replace f900020 := f900020.st st474 (by decide)
        replace hs := hs.locQ st474 hob rfl
        have hk := hk.put 56 (.bool t372) rfl
        refine ⟨.inr ⟨f5.now, trivial⟩, ?_⟩
        refine xd_take tab hk (k := 0) (is := [18, 19]) (ls' := #[true, true, true, true, true, true, true, true, true, true, true, true, true, true, true, true, true, true, true, true]) (lv := []) (ks := [4]) (e' := [(4, .bool t372)]) (by kernel_rfl) rfl rfl (by kernel_rfl) (np_then np_body) ⟨f5.now, trivial⟩ (fun W_ hS => trivial) fun a hk => ?_
        refine xd_done (by kernel_rfl) ?_
        refine then_n ?_
        refine wpIn_ret ?_
        obtain rfl := Option.some.inj H
        exact x_retG hk (rs := [.tmp 4]) (vs := [.bool t372]) rfl ⟨rfl, trivial⟩ ⟨cl w oi o [] (fun l_ => if l_ = 1 then LF else 0) o473, rfl, hs.closeF (Lm := []) (Sh := []) hoa rfl (fun l_ => if l_ = 1 then LF else 0)⟩
  refine x_seq ?_
  refine wpIn_region_lit ?_
  refine x_run tab hk (k := 4) (lv := [.slice Ap1_0 (p1.L).length cp1_0]) (ks := [0, 3, 5, 11, 12, 13]) (e' := [(0, .pointer (some ⟨bp0, 0, none⟩)), (3, .pointer (some ⟨bx4, 0, none⟩)), (5, .slice none 0 0), (11, .slice Ap1_0 (p1.L).length cp1_0), (12, .int .i64 ((p1.L).length : Int)), (13, .int .i64 0)]) rfl ⟨(load1 tab rfl ((Bx.cell f5.now 1).trans rfl)), trivial⟩ fun a hk => ?_
  refine wpListIn_nil ?_
  refine then_n ?_
  refine wpIn_block ?_
  refine x_loop (fun j_ a_ w_ => ∃ o530 : Nat → Nat, ∃ A531 : Option Addr, ∃ c532 : Nat, ∃ l533 : List Int, ∃ x536 : Int, Kn 58 a_ [(0, .pointer (some ⟨bp0, 0, none⟩)), (3, .pointer (some ⟨bx4, 0, none⟩)), (5, .slice A531 (l533).length c532), (11, .slice Ap1_0 (p1.L).length cp1_0), (12, .int .i64 ((p1.L).length : Int)), (13, .int .i64 x536)] ∧ St [] w oi w_ o530 ∧ Ft (Bx bx4 51 [.int .i64 p1.Most, .slice Ap1_0 (p1.L).length cp1_0]) w_ o530 38 ∧ Ft (Own (encInt .i64) 3 (.slice A531 (l533).length c532) l533) w_ o530 39 ∧ MpN dT71 true Ap0_0 p0.l w_ o530 0 1 ∧ Ft (Bx bp0 63 [.int .i64 p0.most, .int .i64 p0.now, mv Ap0_0]) w_ o530 0 ∧ NRd dT87 Ap1_0 p1.L w_ o530 0 1 ∧ (l533).length ≤ c532 ∧ tidewracklaw14_Is_l2 K p0 p1 j_ l533 x536 = some r) (k := K) ⟨(fun b_ => (fun l_ => if l_ = 2 then 38 else l_) (o2 b_)), none, 0, ([] : List Int), 0, (by exact Kn.pick (ks := [0, 3, 5, 11, 12, 13]) hk rfl), (hs.relabM hob (fun l_ => if l_ = 2 then 38 else l_) (by decide)), (f5.relab (fun l_ => if l_ = 2 then 38 else l_) rfl), (Ft.of_all (fun _ => Own.nil _ _ _) _ _ _), (f900000.relab (fun l_ => if l_ = 2 then 38 else l_) rfl), (f900019.relab (fun l_ => if l_ = 2 then 38 else l_) rfl), (f900020.relab (fun l_ => if l_ = 2 then 38 else l_) rfl), (by simp), H⟩ (by rintro _ _ ⟨_, _, _, _, _, _, _, _, _, _, _, _, _, H_⟩; exact absurd (show (none : Option Bool) = some r from H_) (by simp)) ?_
  rintro k590 a w589 ⟨o530, A531, c532, l533, x536, hk, hs, f5, f534, f900000, f900019, f900020, hc535, H⟩
  rw [tidewracklaw14_Is_l2] at H
  obtain ⟨lp591, hlp592⟩ : ∃ lp_, lp_ = tidewracklaw14_Is_l2 K p0 p1 k590 := ⟨_, rfl⟩
  rw [← hlp592] at H
  refine x_seq ?_
  refine wpIn_region_lit ?_
  refine x_run tab hk (k := 1) (lv := []) (ks := [0, 3, 5, 11, 12, 13, 14]) (e' := [(0, .pointer (some ⟨bp0, 0, none⟩)), (3, .pointer (some ⟨bx4, 0, none⟩)), (5, .slice A531 (l533).length c532), (11, .slice Ap1_0 (p1.L).length cp1_0), (12, .int .i64 ((p1.L).length : Int)), (13, .int .i64 x536), (14, .bool (decide (x536 < ((p1.L).length : Int))))]) rfl trivial fun a hk => ?_
  refine wpListIn_nil ?_
  refine then_n ?_
  refine x_seq ?_
  cases b593 : (decide (x536 < ((p1.L).length : Int)))
  · rw [b593] at hk H
    replace H := bifF H
    refine x_if hk (b := false) rfl ?_
    refine (show Code.wpIn _ _ _ _ _ _ _ from ?_)
    refine wpIn_exit ?_
    refine then_x ?_
    refine then_x ?_
    refine blk_x ?_
    refine then_n ?_
    exact ⟨(fun b_ => (fun l_ => if l_ = 38 then 17 else if l_ = 39 then 18 else l_) (o530 b_)), A531, c532, l533, (by exact Kn.pick (ks := [0, 3, 5]) hk rfl), (hs.relabM hob (fun l_ => if l_ = 38 then 17 else if l_ = 39 then 18 else l_) (by decide)), (f534.relab (fun l_ => if l_ = 38 then 17 else if l_ = 39 then 18 else l_) rfl), (f5.relab (fun l_ => if l_ = 38 then 17 else if l_ = 39 then 18 else l_) rfl), (f900000.relab (fun l_ => if l_ = 38 then 17 else if l_ = 39 then 18 else l_) rfl), (f900019.relab (fun l_ => if l_ = 38 then 17 else if l_ = 39 then 18 else l_) rfl), (f900020.relab (fun l_ => if l_ = 38 then 17 else if l_ = 39 then 18 else l_) rfl), hc535, H⟩
  · rw [b593] at hk H
    replace H := bifT H
    refine x_if hk (b := true) rfl ?_
    refine (show Code.wpIn _ _ _ _ _ _ _ from ?_)
    refine wpIn_skip ?_
    refine then_n ?_
    refine x_seq ?_
    refine wpIn_block ?_
    refine x_seq ?_
    refine wpIn_region_lit ?_
    obtain ⟨q594, H⟩ := ifS H
    obtain ⟨ad595, hAad595⟩ := NRd.addr f900020 q594
    have hk_C := hk
    have f5_C := f5
    have f534_C := f534
    have f900000_C := f900000
    have f900019_C := f900019
    have f900020_C := f900020
    subst hAad595
    have hk := hk_C
    clear hk_C
    have f5 := f5_C
    clear f5_C
    have f534 := f534_C
    clear f534_C
    have f900000 := f900000_C
    clear f900000_C
    have f900019 := f900019_C
    clear f900019_C
    have f900020 := f900020_C
    clear f900020_C
    obtain ⟨A596, c597, f598, f599, hc600⟩ := elT87 f900020 (i := x536) q594
    refine x_run tab hk (k := 2) (lv := [.agg #[.int .i64 ((rdD zT87 p1.L x536).I), .slice A596 ((rdD zT87 p1.L x536).L).length c597]]) (ks := [0, 3, 5, 11, 12, 13, 16]) (e' := [(0, .pointer (some ⟨bp0, 0, none⟩)), (3, .pointer (some ⟨bx4, 0, none⟩)), (5, .slice A531 (l533).length c532), (11, .slice (some ad595) (p1.L).length cp1_0), (12, .int .i64 ((p1.L).length : Int)), (13, .int .i64 x536), (16, .agg #[.int .i64 ((rdD zT87 p1.L x536).I), .slice A596 ((rdD zT87 p1.L x536).L).length c597])]) rfl ⟨q594, (CellsAt.all f598.now tab rfl rfl rfl), trivial⟩ fun a hk => ?_
    refine x_op hk rfl ?_
    refine op_alloc (o := o530) tab (t := 88) (cs := [.int .i64 0, .slice none 0 0]) rfl rfl 43 fun bx604 w601 o602 st603 f605 => ?_
    replace f5 := f5.st st603 (by decide)
    replace f534 := f534.st st603 (by decide)
    replace f599 := f599.st st603 (by decide)
    replace f900000 := f900000.st st603 (by decide)
    replace f900019 := f900019.st st603 (by decide)
    replace f900020 := f900020.st st603 (by decide)
    replace hs := hs.locQ st603 hob rfl
    have hk := hk.put 7 (.pointer (some ⟨bx604, 0, none⟩)) rfl
    refine x_op hk rfl ?_
    refine op_store tab hk (t := 88) (v := .agg #[.int .i64 ((rdD zT87 p1.L x536).I), .slice A596 ((rdD zT87 p1.L x536).L).length c597]) (b := bx604) (k := 0) (cs' := [.int .i64 ((rdD zT87 p1.L x536).I), .slice A596 ((rdD zT87 p1.L x536).L).length c597]) rfl rfl rfl rfl rfl rfl f605 rfl rfl fun w606 o607 st608 f605_ => ?_
    replace f5 := f5.st st608 (by decide)
    replace f534 := f534.st st608 (by decide)
    replace f599 := f599.st st608 (by decide)
    replace f900000 := f900000.st st608 (by decide)
    replace f900019 := f900019.st st608 (by decide)
    replace f900020 := f900020.st st608 (by decide)
    replace hs := hs.locQ st608 hob rfl
    replace f605 := f605_
    refine wpListIn_nil ?_
    refine then_n ?_
    refine x_seq ?_
    refine wpIn_region_lit ?_
    refine x_run tab hk (k := 3) (lv := [.int .i64 ((rdD zT87 p1.L x536).I)]) (ks := [0, 3, 7, 11, 12, 13, 17, 19]) (e' := [(0, .pointer (some ⟨bp0, 0, none⟩)), (3, .pointer (some ⟨bx4, 0, none⟩)), (7, .pointer (some ⟨bx604, 0, none⟩)), (11, .slice (some ad595) (p1.L).length cp1_0), (12, .int .i64 ((p1.L).length : Int)), (13, .int .i64 x536), (17, .slice A531 (l533).length c532), (19, .int .i64 ((rdD zT87 p1.L x536).I))]) rfl ⟨(load1 tab rfl ((Bx.cell f605.now 0).trans rfl)), trivial⟩ fun a hk => ?_
    refine x_op hk rfl ?_
    refine op_slice (o := o607) tab hk (vs := [.int .i64 ((rdD zT87 p1.L x536).I)]) (cs := [.int .i64 ((rdD zT87 p1.L x536).I)]) rfl rfl rfl rfl rfl rfl rfl rfl rfl 44 fun bx612 w609 o610 st611 f613 => ?_
    replace f5 := f5.st st611 (by decide)
    replace f534 := f534.st st611 (by decide)
    replace f599 := f599.st st611 (by decide)
    replace f605 := f605.st st611 (by decide)
    replace f900000 := f900000.st st611 (by decide)
    replace f900019 := f900019.st st611 (by decide)
    replace f900020 := f900020.st st611 (by decide)
    replace hs := hs.locQ st611 hob rfl
    have f614 : Ft (Own (encInt .i64) 3 (.slice (some ⟨bx612, 0, none⟩) (([(rdD zT87 p1.L x536).I] : List Int)).length 1) ([(rdD zT87 p1.L x536).I] : List Int)) w609 o610 44 := f613.imp fun _ h_ => Own.of_box h_ rfl (by simp)
    have hk := hk.put 20 (.slice (some ⟨bx612, 0, none⟩) (([(rdD zT87 p1.L x536).I] : List Int)).length 1) rfl
    refine x_op hk rfl ?_
    obtain ⟨q618, H⟩ := ifS H
    refine op_append (o := o610) (E := (encInt .i64)) (xs := l533) (ys := ([(rdD zT87 p1.L x536).I] : List Int)) tab hk rfl rfl rfl rfl rfl rfl rfl f534 (Own.rd f614.now) q618 fun A619 c620 w615 o616 st617 f621 hc622 => ?_
    replace f5 := f5.st st617 (by decide)
    replace f599 := f599.st st617 (by decide)
    replace f605 := f605.st st617 (by decide)
    replace f614 := f614.st st617 (by decide)
    replace f900000 := f900000.st st617 (by decide)
    replace f900019 := f900019.st st617 (by decide)
    replace f900020 := f900020.st st617 (by decide)
    replace hs := hs.locQ st617 hob rfl
    have hk := hk.put 21 (.slice A619 ((l533 ++ ([(rdD zT87 p1.L x536).I] : List Int))).length c620) rfl
    refine x_run tab hk (k := 1) (lv := []) (ks := [0, 3, 5, 7, 11, 12, 13]) (e' := [(0, .pointer (some ⟨bp0, 0, none⟩)), (3, .pointer (some ⟨bx4, 0, none⟩)), (5, .slice A619 ((l533 ++ ([(rdD zT87 p1.L x536).I] : List Int))).length c620), (7, .pointer (some ⟨bx604, 0, none⟩)), (11, .slice (some ad595) (p1.L).length cp1_0), (12, .int .i64 ((p1.L).length : Int)), (13, .int .i64 x536)]) rfl trivial fun a hk => ?_
    refine wpListIn_nil ?_
    refine then_n ?_
    refine x_seq ?_
    refine wpIn_region_lit ?_
    refine x_run tab hk (k := 3) (lv := [.int .i64 ((rdD zT87 p1.L x536).I)]) (ks := [0, 3, 5, 7, 11, 12, 13, 23, 25]) (e' := [(0, .pointer (some ⟨bp0, 0, none⟩)), (3, .pointer (some ⟨bx4, 0, none⟩)), (5, .slice A619 ((l533 ++ ([(rdD zT87 p1.L x536).I] : List Int))).length c620), (7, .pointer (some ⟨bx604, 0, none⟩)), (11, .slice (some ad595) (p1.L).length cp1_0), (12, .int .i64 ((p1.L).length : Int)), (13, .int .i64 x536), (23, .pointer (some ⟨bp0, 0, none⟩)), (25, .int .i64 ((rdD zT87 p1.L x536).I))]) rfl ⟨(load1 tab rfl ((Bx.cell f605.now 0).trans rfl)), trivial⟩ fun a hk => ?_
    refine x_op hk rfl ?_
    obtain ⟨t626, hc627, H⟩ := bindS H
    refine op_call hk ent_11 (vs := [.pointer (some ⟨bp0, 0, none⟩), .int .i64 ((rdD zT87 p1.L x536).I)]) rfl (cache_Cache_Peek_calls bp0 Ap0_0 cp0_0 p0 ((rdD zT87 p1.L x536).I) _ o616 1 0 f900019 _ f900000 hcp0_0 (by decide) (by decide) (by decide) 45  _ hc627) ?_
    rintro _ w628 ⟨o629, A631, c632, rfl, st630, f633, hc634⟩
    replace f5 := f5.st st630 (by decide)
    replace f599 := f599.st st630 (by decide)
    replace f605 := f605.st st630 (by decide)
    replace f621 := f621.st st630 (by decide)
    replace f900000 := f900000.st st630 (by decide)
    replace f900019 := f900019.st st630 (by decide)
    replace f900020 := f900020.st st630 (by decide)
    replace hs := hs.locQ st630 hob rfl
    have hk := hk.put 26 (.tuple #[.slice A631 (t626.1).length c632, .bool t626.2]) rfl
    refine x_run tab hk (k := 5) (lv := []) (ks := [0, 3, 5, 7, 8, 9, 11, 12, 13]) (e' := [(0, .pointer (some ⟨bp0, 0, none⟩)), (3, .pointer (some ⟨bx4, 0, none⟩)), (5, .slice A619 ((l533 ++ ([(rdD zT87 p1.L x536).I] : List Int))).length c620), (7, .pointer (some ⟨bx604, 0, none⟩)), (8, .slice A631 (t626.1).length c632), (9, .bool t626.2), (11, .slice (some ad595) (p1.L).length cp1_0), (12, .int .i64 ((p1.L).length : Int)), (13, .int .i64 x536)]) rfl trivial fun a hk => ?_
    refine wpListIn_nil ?_
    refine then_n ?_
    refine x_seq ?_
    refine wpIn_region_lit ?_
    refine x_run tab hk (k := 3) (lv := []) (ks := [0, 3, 5, 7, 8, 11, 12, 13, 31]) (e' := [(0, .pointer (some ⟨bp0, 0, none⟩)), (3, .pointer (some ⟨bx4, 0, none⟩)), (5, .slice A619 ((l533 ++ ([(rdD zT87 p1.L x536).I] : List Int))).length c620), (7, .pointer (some ⟨bx604, 0, none⟩)), (8, .slice A631 (t626.1).length c632), (11, .slice (some ad595) (p1.L).length cp1_0), (12, .int .i64 ((p1.L).length : Int)), (13, .int .i64 x536), (31, .bool (!t626.2))]) rfl trivial fun a hk => ?_
    cases b635 : (!t626.2)
    · rw [b635] at hk H
      replace H := bifF H
      refine x_run tab hk (k := 3) (lv := [.slice A596 ((rdD zT87 p1.L x536).L).length c597]) (ks := [0, 3, 5, 11, 12, 13, 31, 32, 34]) (e' := [(0, .pointer (some ⟨bp0, 0, none⟩)), (3, .pointer (some ⟨bx4, 0, none⟩)), (5, .slice A619 ((l533 ++ ([(rdD zT87 p1.L x536).I] : List Int))).length c620), (11, .slice (some ad595) (p1.L).length cp1_0), (12, .int .i64 ((p1.L).length : Int)), (13, .int .i64 x536), (31, .bool false), (32, .slice A631 (t626.1).length c632), (34, .slice A596 ((rdD zT87 p1.L x536).L).length c597)]) rfl ⟨(load1 tab rfl ((Bx.cell f605.now 1).trans rfl)), trivial⟩ fun a hk => ?_
      refine x_op hk rfl ?_
      obtain ⟨t639, hc640, H⟩ := bindS H
      refine op_call hk ent_12 (vs := [.slice A631 (t626.1).length c632, .slice A596 ((rdD zT87 p1.L x536).L).length c597]) rfl (tidewracklaw09_Glyphs_calls K A631 c632 t626.1 A596 c597 ((rdD zT87 p1.L x536).L) _ o629 _ (f633.imp fun _ h_ => Own.rd h_) hc634 _ f599 hc600   _ hc640) ?_
      rintro _ w641 ⟨o642, rfl, st643⟩
      replace f5 := f5.st st643 (by decide)
      replace f599 := f599.st st643 (by decide)
      replace f621 := f621.st st643 (by decide)
      replace f633 := f633.st st643 (by decide)
      replace f900000 := f900000.st st643 (by decide)
      replace f900019 := f900019.st st643 (by decide)
      replace f900020 := f900020.st st643 (by decide)
      replace hs := hs.locQ st643 hob rfl
      have hk := hk.put 35 (.bool t639) rfl
      refine x_run tab hk (k := 2) (lv := []) (ks := [0, 3, 5, 11, 12, 13, 37]) (e' := [(0, .pointer (some ⟨bp0, 0, none⟩)), (3, .pointer (some ⟨bx4, 0, none⟩)), (5, .slice A619 ((l533 ++ ([(rdD zT87 p1.L x536).I] : List Int))).length c620), (11, .slice (some ad595) (p1.L).length cp1_0), (12, .int .i64 ((p1.L).length : Int)), (13, .int .i64 x536), (37, .bool (!t639))]) rfl trivial fun a hk => ?_
      refine wpListIn_nil ?_
      refine then_n ?_
      cases b644 : (!t639)
      · rw [b644] at hk H
        replace H := bifF H
        refine x_if hk (b := false) rfl ?_
        refine (show Code.wpIn _ _ _ _ _ _ _ from ?_)
        refine wpIn_skip ?_
        refine blk_n ?_
        refine then_n ?_
        refine wpIn_region_lit ?_
        refine x_run tab hk (k := 2) (lv := []) (ks := [0, 3, 5, 11, 12, 13]) (e' := [(0, .pointer (some ⟨bp0, 0, none⟩)), (3, .pointer (some ⟨bx4, 0, none⟩)), (5, .slice A619 ((l533 ++ ([(rdD zT87 p1.L x536).I] : List Int))).length c620), (11, .slice (some ad595) (p1.L).length cp1_0), (12, .int .i64 ((p1.L).length : Int)), (13, .int .i64 (IntKind.wrap .i64 (x536 + 1)))]) rfl trivial fun a hk => ?_
        refine wpListIn_nil ?_
        refine then_n ?_
        exact ⟨k590, Nat.le_refl _, o642, A619, c620, (l533 ++ ([(rdD zT87 p1.L x536).I] : List Int)), (IntKind.wrap .i64 (x536 + 1)), (by exact Kn.pick (ks := [0, 3, 5, 11, 12, 13]) hk rfl), hs, f5, f621, f900000, f900019, f900020, hc622, (hlp592 ▸ H)⟩
      · rw [b644] at hk H
        replace H := bifT H
        refine x_if hk (b := true) rfl ?_
        refine (show Code.wpIn _ _ _ _ _ _ _ from ?_)
        refine x_seq ?_
        refine wpIn_region_lit ?_
        refine x_run tab hk (k := 1) (lv := []) (ks := [4]) (e' := [(4, .bool false)]) rfl trivial fun a hk => ?_
        refine wpListIn_nil ?_
        refine then_n ?_
        refine wpIn_ret ?_
        refine blk_r ?_
        refine then_r ?_
        refine then_r ?_
        refine blk_r ?_
        refine then_r ?_
        obtain rfl := Option.some.inj H
        exact x_retG hk (rs := [.tmp 4]) (vs := [.bool false]) rfl ⟨rfl, trivial⟩ ⟨cl w oi o [] (fun l_ => if l_ = 1 then LF else 0) o642, rfl, hs.closeF (Lm := []) (Sh := []) hoa rfl (fun l_ => if l_ = 1 then LF else 0)⟩
    · rw [b635] at hk H
      replace H := bifT H
      refine x_run tab hk (k := 6) (lv := []) (ks := [0, 3, 5, 11, 12, 13, 37]) (e' := [(0, .pointer (some ⟨bp0, 0, none⟩)), (3, .pointer (some ⟨bx4, 0, none⟩)), (5, .slice A619 ((l533 ++ ([(rdD zT87 p1.L x536).I] : List Int))).length c620), (11, .slice (some ad595) (p1.L).length cp1_0), (12, .int .i64 ((p1.L).length : Int)), (13, .int .i64 x536), (37, .bool true)]) rfl trivial fun a hk => ?_
      refine wpListIn_nil ?_
      refine then_n ?_
      refine x_if hk (b := true) rfl ?_
      refine (show Code.wpIn _ _ _ _ _ _ _ from ?_)
      refine x_seq ?_
      refine wpIn_region_lit ?_
      refine x_run tab hk (k := 1) (lv := []) (ks := [4]) (e' := [(4, .bool false)]) rfl trivial fun a hk => ?_
      refine wpListIn_nil ?_
      refine then_n ?_
      refine wpIn_ret ?_
      refine blk_r ?_
      refine then_r ?_
      refine then_r ?_
      refine blk_r ?_
      refine then_r ?_
      obtain rfl := Option.some.inj H
      exact x_retG hk (rs := [.tmp 4]) (vs := [.bool false]) rfl ⟨rfl, trivial⟩ ⟨cl w oi o [] (fun l_ => if l_ = 1 then LF else 0) o629, rfl, hs.closeF (Lm := []) (Sh := []) hoa rfl (fun l_ => if l_ = 1 then LF else 0)⟩

/-! tidewrack/tidewracklaw14.CachePlays -/
theorem tidewracklaw14_CachePlays_calls (K : Nat) (p0 : Int) (Ap1 : Option Addr) (cp1 : Nat) (p1 : List T29) (w : World) (o : Nat → Nat) (LF : Nat) (Lp1 : Nat) (Fp1 : Nat) (hp1 : NRd dT29 Ap1 p1 w o Lp1 Fp1) (hcp1 : (p1).length ≤ cp1) (hd0 : ([LF] : List Nat).Nodup) (hd1 : Lp1 ∉ [LF]) (hd2 : Fp1 ∉ [LF]) (r : Bool) (H : tidewracklaw14_CachePlays K p0 p1 = some r) :
    Calls Try.prog 6 #[.int .i64 p0, .slice Ap1 (p1).length cp1] w (Ret fun v_ w' => ∃ o' : Nat → Nat, v_ = .bool r ∧ St [] w o w' o') := by
  refine x_enter (vs := [.int .i64 p0, .slice Ap1 (p1).length cp1]) Try.func6 rfl rfl rfl fun a hk => ?_
  obtain ⟨oi, hs0, h0, h1, hob, hoz, hoa⟩ := St.startM2 w o (m := 1) hd0 rfl
  have hs := hs0 []
  have f900020 := hp1.conv (fun P_ => h0 P_ _ hd1) (fun P_ => h0 P_ _ hd2)
  clear h0 h1 hs0
  rw [tidewracklaw14_CachePlays] at H
  refine x_seq ?_
  refine wpIn_region_lit ?_
  refine x_run tab hk (k := 1) (lv := []) (ks := [0, 1]) (e' := [(0, .int .i64 p0), (1, .slice Ap1 (p1).length cp1)]) rfl trivial fun a hk => ?_
  refine wpListIn_nil ?_
  refine then_n ?_
  refine x_seq ?_
  refine x_seq ?_
  refine wpIn_region_lit ?_
  refine x_op hk rfl ?_
  obtain ⟨t4, hc5, H⟩ := bindS H
  refine op_call hk ent_8 (vs := []) rfl (tidewracklaw14_awake_calls K  _ oi    _ hc5) ?_
  rintro _ w6 ⟨o7, rfl, st8⟩
  replace f900020 := f900020.st st8 (by decide)
  replace hs := hs.locQ st8 hob rfl
  have hk := hk.put 9 (.bool t4) rfl
  refine x_run tab hk (k := 1) (lv := []) (ks := [0, 1, 10]) (e' := [(0, .int .i64 p0), (1, .slice Ap1 (p1).length cp1), (10, .bool (!t4))]) rfl trivial fun a hk => ?_
  refine wpListIn_nil ?_
  refine then_n ?_
  cases b9 : (!t4)
  · rw [b9] at hk H
    replace H := bifF H
    refine x_if hk (b := false) rfl ?_
    refine (show Code.wpIn _ _ _ _ _ _ _ from ?_)
    refine wpIn_skip ?_
    refine then_n ?_
    refine x_seq ?_
    refine wpIn_region_lit ?_
    refine x_run tab hk (k := 1) (lv := []) (ks := [0, 1, 11]) (e' := [(0, .int .i64 p0), (1, .slice Ap1 (p1).length cp1), (11, .int .i64 p0)]) rfl trivial fun a hk => ?_
    refine x_op hk rfl ?_
    obtain ⟨t13, hc14, H⟩ := bindS H
    refine op_call hk ent_9 (vs := [.int .i64 p0]) rfl (cache_New_calls p0 _ o7 1 (by decide) 2 3  _ hc14) ?_
    rintro _ w15 ⟨o16, bx18, A20, c21, rfl, st17, f19, f22, hc23⟩
    replace f900020 := f900020.st st17 (by decide)
    replace hs := hs.locQ st17 hob rfl
    have hk := hk.put 12 (.pointer (some ⟨bx18, 0, none⟩)) rfl
    refine x_run tab hk (k := 1) (lv := []) (ks := [0, 1, 12, 13]) (e' := [(0, .int .i64 p0), (1, .slice Ap1 (p1).length cp1), (12, .pointer (some ⟨bx18, 0, none⟩)), (13, .int .i64 p0)]) rfl trivial fun a hk => ?_
    refine x_op hk rfl ?_
    obtain ⟨t27, hc28, H⟩ := bindS H
    refine op_call hk ent_18 (vs := [.int .i64 p0]) rfl (tidewrackref14_New_calls p0 _ o16 1 (by decide) 4  _ hc28) ?_
    rintro _ w29 ⟨o30, A32, c33, rfl, st31, f34, hc35⟩
    replace f19 := f19.st st31 (by decide)
    replace f22 := f22.st st31 (by decide)
    replace f900020 := f900020.st st31 (by decide)
    replace hs := hs.locQ st31 hob rfl
    have hk := hk.put 14 (.agg #[.int .i64 t27.Most, .slice A32 (t27.L).length c33]) rfl
    refine x_op hk rfl ?_
    refine op_alloc (o := o30) tab (t := 51) (cs := [.int .i64 0, .slice none 0 0]) rfl rfl 5 fun bx39 w36 o37 st38 f40 => ?_
    replace f19 := f19.st st38 (by decide)
    replace f22 := f22.st st38 (by decide)
    replace f34 := f34.st st38 (by decide)
    replace f900020 := f900020.st st38 (by decide)
    replace hs := hs.locQ st38 hob rfl
    have hk := hk.put 6 (.pointer (some ⟨bx39, 0, none⟩)) rfl
    refine x_run tab hk (k := 1) (lv := []) (ks := [0, 1, 5, 6, 14]) (e' := [(0, .int .i64 p0), (1, .slice Ap1 (p1).length cp1), (5, .pointer (some ⟨bx18, 0, none⟩)), (6, .pointer (some ⟨bx39, 0, none⟩)), (14, .agg #[.int .i64 t27.Most, .slice A32 (t27.L).length c33])]) rfl trivial fun a hk => ?_
    refine x_op hk rfl ?_
    refine op_store tab hk (t := 51) (v := .agg #[.int .i64 t27.Most, .slice A32 (t27.L).length c33]) (b := bx39) (k := 0) (cs' := [.int .i64 t27.Most, .slice A32 (t27.L).length c33]) rfl rfl rfl rfl rfl rfl f40 rfl rfl fun w41 o42 st43 f40_ => ?_
    replace f19 := f19.st st43 (by decide)
    replace f22 := f22.st st43 (by decide)
    replace f34 := f34.st st43 (by decide)
    replace f900020 := f900020.st st43 (by decide)
    replace hs := hs.locQ st43 hob rfl
    replace f40 := f40_
    refine wpListIn_nil ?_
    refine then_n ?_
    refine x_seq ?_
    refine x_seq ?_
    refine wpIn_region_lit ?_
    refine x_run tab hk (k := 2) (lv := []) (ks := [0, 1, 5, 6, 16]) (e' := [(0, .int .i64 p0), (1, .slice Ap1 (p1).length cp1), (5, .pointer (some ⟨bx18, 0, none⟩)), (6, .pointer (some ⟨bx39, 0, none⟩)), (16, .bool false)]) rfl trivial fun a hk => ?_
    refine wpListIn_nil ?_
    refine then_n ?_
    refine x_if hk (b := false) rfl ?_
    refine (show Code.wpIn _ _ _ _ _ _ _ from ?_)
    refine wpIn_skip ?_
    refine then_n ?_
    refine x_seq ?_
    refine wpIn_region_lit ?_
    refine x_run tab hk (k := 1) (lv := []) (ks := [0, 1, 5, 6]) (e' := [(0, .int .i64 p0), (1, .slice Ap1 (p1).length cp1), (5, .pointer (some ⟨bx18, 0, none⟩)), (6, .pointer (some ⟨bx39, 0, none⟩))]) rfl trivial fun a hk => ?_
    refine wpListIn_nil ?_
    refine then_n ?_
    refine x_mid (fun a_ w_ => ∃ o429 : Nat → Nat, Kn 53 a_ [] ∧ St [] w oi w_ o429 ∧ tidewracklaw14_CachePlays_j1 = some r) ?_ ?_
    rotate_left
    · rintro a w430 ⟨o429, hk, hs, H⟩
      rw [tidewracklaw14_CachePlays_j1] at H
      refine x_seq ?_
      refine wpIn_region_lit ?_
      refine x_run tab hk (k := 1) (lv := []) (ks := [4]) (e' := [(4, .bool true)]) rfl trivial fun a hk => ?_
      refine wpListIn_nil ?_
      refine then_n ?_
      refine wpIn_ret ?_
      obtain rfl := Option.some.inj H
      exact x_retG hk (rs := [.tmp 4]) (vs := [.bool true]) rfl ⟨rfl, trivial⟩ ⟨cl w oi o [] (fun l_ => if l_ = 1 then LF else 0) o429, rfl, hs.closeF (Lm := []) (Sh := []) hoa rfl (fun l_ => if l_ = 1 then LF else 0)⟩
    refine x_seq ?_
    refine wpIn_region_lit ?_
    refine x_run tab hk (k := 1) (lv := []) (ks := [0, 1, 5, 6, 8]) (e' := [(0, .int .i64 p0), (1, .slice Ap1 (p1).length cp1), (5, .pointer (some ⟨bx18, 0, none⟩)), (6, .pointer (some ⟨bx39, 0, none⟩)), (8, .int .i64 0)]) rfl trivial fun a hk => ?_
    refine wpListIn_nil ?_
    refine then_n ?_
    refine wpIn_block ?_
    refine x_loop (fun j_ a_ w_ => ∃ o554 : Nat → Nat, ∃ x555 : Int, ∃ x556 : Int, ∃ A557 : Option Addr, ∃ c558 : Nat, ∃ l559 : M T71, ∃ x562 : Int, ∃ A563 : Option Addr, ∃ c564 : Nat, ∃ l565 : List T87, ∃ x568 : Int, Kn 53 a_ [(0, .int .i64 p0), (1, .slice Ap1 (p1).length cp1), (5, .pointer (some ⟨bx18, 0, none⟩)), (6, .pointer (some ⟨bx39, 0, none⟩)), (8, .int .i64 x568)] ∧ St [] w oi w_ o554 ∧ Ft (Bx bx18 63 [.int .i64 x555, .int .i64 x556, mv A557]) w_ o554 35 ∧ Ft (Bx bx39 51 [.int .i64 x562, .slice A563 (l565).length c564]) w_ o554 37 ∧ MpN dT71 true A557 l559 w_ o554 34 1 ∧ NRd dT87 A563 l565 w_ o554 36 1 ∧ NRd dT29 Ap1 p1 w_ o554 0 0 ∧ (l559).length ≤ c558 ∧ (l565).length ≤ c564 ∧ tidewracklaw14_CachePlays_l2 K p0 p1 j_ x555 x556 l559 x562 l565 x568 = some r) (k := K) ⟨(fun b_ => (fun l_ => if l_ = 2 then 35 else if l_ = 3 then 34 else if l_ = 4 then 36 else if l_ = 5 then 37 else l_) (o42 b_)), t13.most, t13.now, A20, c21, t13.l, t27.Most, A32, c33, t27.L, 0, (by exact Kn.pick (ks := [0, 1, 5, 6, 8]) hk rfl), (hs.relabM hob (fun l_ => if l_ = 2 then 35 else if l_ = 3 then 34 else if l_ = 4 then 36 else if l_ = 5 then 37 else l_) (by decide)), (f19.relab (fun l_ => if l_ = 2 then 35 else if l_ = 3 then 34 else if l_ = 4 then 36 else if l_ = 5 then 37 else l_) rfl), (f40.relab (fun l_ => if l_ = 2 then 35 else if l_ = 3 then 34 else if l_ = 4 then 36 else if l_ = 5 then 37 else l_) rfl), (f22.relab (fun l_ => if l_ = 2 then 35 else if l_ = 3 then 34 else if l_ = 4 then 36 else if l_ = 5 then 37 else l_) rfl), (f34.rd.relab (fun l_ => if l_ = 2 then 35 else if l_ = 3 then 34 else if l_ = 4 then 36 else if l_ = 5 then 37 else l_) rfl), (f900020.relab (fun l_ => if l_ = 2 then 35 else if l_ = 3 then 34 else if l_ = 4 then 36 else if l_ = 5 then 37 else l_) rfl), hc23, hc35, H⟩ (by rintro _ _ ⟨_, _, _, _, _, _, _, _, _, _, _, _, _, _, _, _, _, _, _, _, H_⟩; exact absurd (show (none : Option Bool) = some r from H_) (by simp)) ?_
    rintro k690 a w689 ⟨o554, x555, x556, A557, c558, l559, x562, A563, c564, l565, x568, hk, hs, f19, f40, f560, f566, f900020, hc561, hc567, H⟩
    rw [tidewracklaw14_CachePlays_l2] at H
    obtain ⟨lp691, hlp692⟩ : ∃ lp_, lp_ = tidewracklaw14_CachePlays_l2 K p0 p1 k690 := ⟨_, rfl⟩
    rw [← hlp692] at H
    refine x_mid (fun a_ w_ => ∃ o698 : Nat → Nat, Kn 53 a_ [(0, .int .i64 p0), (1, .slice Ap1 (p1).length cp1), (5, .pointer (some ⟨bx18, 0, none⟩)), (6, .pointer (some ⟨bx39, 0, none⟩)), (8, .int .i64 x568)] ∧ St [] w oi w_ o698 ∧ Ft (Bx bx18 63 [.int .i64 x555, .int .i64 x556, mv A557]) w_ o698 43 ∧ Ft (Bx bx39 51 [.int .i64 x562, .slice A563 (l565).length c564]) w_ o698 45 ∧ MpN dT71 true A557 l559 w_ o698 42 1 ∧ NRd dT87 A563 l565 w_ o698 44 1 ∧ NRd dT29 Ap1 p1 w_ o698 0 0 ∧ tidewracklaw14_CachePlays_j3 K p0 p1 x555 x556 l559 x562 l565 x568 lp691 = some r) ?_ ?_
    rotate_left
    · rintro a w699 ⟨o698, hk, hs, f19, f40, f560, f566, f900020, H⟩
      rw [tidewracklaw14_CachePlays_j3] at H
      refine x_seq ?_
      refine wpIn_block ?_
      refine x_seq ?_
      obtain ⟨q727, H⟩ := ifS H
      obtain ⟨ad728, hAad728⟩ := NRd.addr f900020 q727
      have hk_C := hk
      have f19_C := f19
      have f40_C := f40
      have f560_C := f560
      have f566_C := f566
      have f900020_C := f900020
      subst hAad728
      have hk := hk_C
      clear hk_C
      have f19 := f19_C
      clear f19_C
      have f40 := f40_C
      clear f40_C
      have f560 := f560_C
      clear f560_C
      have f566 := f566_C
      clear f566_C
      have f900020 := f900020_C
      clear f900020_C
      obtain ⟨A729, c730, f731, f732, hc733⟩ := elT29 f900020 (i := x568) q727
      obtain ⟨t737, hc738, H⟩ := bindS H
      refine xd_begin (o := o698) (fun W_ => (fun W => CellsAt (ad728.add (Int.toNat x568 * 3)) [.int .i64 ((rdD zT29 p1 x568).Kind), .int .i64 ((rdD zT29 p1 x568).I), .slice A729 ((rdD zT29 p1 x568).L).length c730] W) W_ ∧ True) mixed rfl rfl fun w772 st773 => ?_
      replace f19 := f19.st st773 (by decide)
      replace f40 := f40.st st773 (by decide)
      replace f560 := f560.st st773 (by decide)
      replace f566 := f566.st st773 (by decide)
      replace f731 := f731.st st773 (by decide)
      replace f732 := f732.st st773 (by decide)
      replace f900020 := f900020.st st773 (by decide)
      replace hs := hs.locQ st773 hob rfl
      refine xd_take tab hk (k := 7) (is := [0, 2, 3, 4, 5]) (ls' := #[true, false, true, true, true, true, false, false, false, false, false, false]) (lv := [.agg #[.int .i64 ((rdD zT29 p1 x568).Kind), .int .i64 ((rdD zT29 p1 x568).I), .slice A729 ((rdD zT29 p1 x568).L).length c730]]) (ks := [0, 1, 5, 6, 8, 28, 33]) (e' := [(0, .int .i64 p0), (1, .slice (some ad728) (p1).length cp1), (5, .pointer (some ⟨bx18, 0, none⟩)), (6, .pointer (some ⟨bx39, 0, none⟩)), (8, .int .i64 x568), (28, .pointer (some ⟨bx18, 0, none⟩)), (33, .agg #[.int .i64 ((rdD zT29 p1 x568).Kind), .int .i64 ((rdD zT29 p1 x568).I), .slice A729 ((rdD zT29 p1 x568).L).length c730])]) (by kernel_rfl) rfl rfl (by kernel_rfl) (np_then (np_blk (np_then (np_then (np_blk (np_then np_body)))))) ⟨f731.now, trivial⟩ (fun W_ hS => ⟨q727, (CellsAt.all hS.1 tab rfl rfl rfl), trivial⟩) fun a hk => ?_
      refine xd_op hk (i := 1) (by kernel_rfl) rfl rfl ?_
      refine op_quiet tab hk (lv := [.agg #[.int .i64 x562, .slice A563 (l565).length c564]]) (v := .agg #[.int .i64 x562, .slice A563 (l565).length c564]) rfl ⟨(load_box tab rfl rfl f40.now (k := 0) rfl rfl), trivial⟩ ?_
      have hk := hk.put 29 (.agg #[.int .i64 x562, .slice A563 (l565).length c564]) rfl
      refine ⟨.inr ⟨f731.now, trivial⟩, ?_⟩
      refine xd_op hk (i := 6) (by kernel_rfl) rfl rfl ?_
      refine op_call hk ent_19 (vs := [.pointer (some ⟨bx18, 0, none⟩), .agg #[.int .i64 x562, .slice A563 (l565).length c564], .agg #[.int .i64 ((rdD zT29 p1 x568).Kind), .int .i64 ((rdD zT29 p1 x568).I), .slice A729 ((rdD zT29 p1 x568).L).length c730]]) rfl (tidewracklaw14_do_calls K bx18 A557 c558 (⟨x555, x556, l559⟩ : T62) A563 c564 (⟨x562, l565⟩ : T50) A729 c730 (rdD zT29 p1 x568) _ o698 1 43 f19 42 f560 hc561 44 f566 hc567 _ f732 hc733 (by decide) (by decide)   _ hc738) ?_
      rintro _ w777 ⟨o778, A780, c781, A785, c786, rfl, st779, f782, hc783, f784, f787, hc788⟩
      replace f40 := f40.st st779 (by decide)
      replace f566 := f566.st st779 (by decide)
      replace f731 := f731.st st779 (by decide)
      replace f732 := f732.st st779 (by decide)
      replace f900020 := f900020.st st779 (by decide)
      replace hs := hs.locQ st779 hob rfl
      have hk := hk.put 34 (.tuple #[.agg #[.int .i64 t737.1.Most, .slice A780 (t737.1.L).length c781], .bool t737.2.1]) rfl
      refine ⟨.inr ⟨f731.now, trivial⟩, ?_⟩
      refine xd_take tab hk (k := 2) (is := [7, 8, 9]) (ls' := #[true, true, true, true, true, true, true, true, true, true, false, false]) (lv := []) (ks := [0, 1, 5, 6, 8, 35, 36]) (e' := [(0, .int .i64 p0), (1, .slice (some ad728) (p1).length cp1), (5, .pointer (some ⟨bx18, 0, none⟩)), (6, .pointer (some ⟨bx39, 0, none⟩)), (8, .int .i64 x568), (35, .agg #[.int .i64 t737.1.Most, .slice A780 (t737.1.L).length c781]), (36, .bool t737.2.1)]) (by kernel_rfl) rfl rfl (by kernel_rfl) (np_then (np_blk (np_then (np_then (np_blk (np_then np_body)))))) ⟨f731.now, trivial⟩ (fun W_ hS => trivial) fun a hk => ?_
      refine xd_op hk (i := 10) (by kernel_rfl) rfl rfl ?_
      refine op_store tab hk (t := 51) (v := .agg #[.int .i64 t737.1.Most, .slice A780 (t737.1.L).length c781]) (b := bx39) (k := 0) (cs' := [.int .i64 t737.1.Most, .slice A780 (t737.1.L).length c781]) rfl rfl rfl rfl rfl rfl f40 rfl rfl fun w789 o790 st791 f40_ => ?_
      replace f566 := f566.st st791 (by decide)
      replace f731 := f731.st st791 (by decide)
      replace f732 := f732.st st791 (by decide)
      replace f782 := f782.st st791 (by decide)
      replace f784 := f784.st st791 (by decide)
      replace f787 := f787.st st791 (by decide)
      replace f900020 := f900020.st st791 (by decide)
      replace hs := hs.locQ st791 hob rfl
      replace f40 := f40_
      refine ⟨.inr ⟨f731.now, trivial⟩, ?_⟩
      refine xd_take tab hk (k := 0) (is := [11]) (ls' := #[true, true, true, true, true, true, true, true, true, true, true, true]) (lv := []) (ks := [0, 1, 5, 6, 7, 8]) (e' := [(0, .int .i64 p0), (1, .slice (some ad728) (p1).length cp1), (5, .pointer (some ⟨bx18, 0, none⟩)), (6, .pointer (some ⟨bx39, 0, none⟩)), (7, .bool t737.2.1), (8, .int .i64 x568)]) (by kernel_rfl) rfl rfl (by kernel_rfl) (np_then (np_blk (np_then (np_then (np_blk (np_then np_body)))))) ⟨f731.now, trivial⟩ (fun W_ hS => trivial) fun a hk => ?_
      refine xd_done (by kernel_rfl) ?_
      refine then_n ?_
      refine x_seq ?_
      refine wpIn_region_lit ?_
      refine x_run tab hk (k := 3) (lv := []) (ks := [0, 1, 5, 6, 8, 39]) (e' := [(0, .int .i64 p0), (1, .slice (some ad728) (p1).length cp1), (5, .pointer (some ⟨bx18, 0, none⟩)), (6, .pointer (some ⟨bx39, 0, none⟩)), (8, .int .i64 x568), (39, .bool (!t737.2.1))]) rfl trivial fun a hk => ?_
      cases b792 : (!t737.2.1)
      · rw [b792] at hk H
        replace H := bifF H
        refine x_run tab hk (k := 2) (lv := [.agg #[.int .i64 t737.1.Most, .slice A780 (t737.1.L).length c781]]) (ks := [0, 1, 5, 6, 8, 39, 40, 41]) (e' := [(0, .int .i64 p0), (1, .slice (some ad728) (p1).length cp1), (5, .pointer (some ⟨bx18, 0, none⟩)), (6, .pointer (some ⟨bx39, 0, none⟩)), (8, .int .i64 x568), (39, .bool false), (40, .pointer (some ⟨bx18, 0, none⟩)), (41, .agg #[.int .i64 t737.1.Most, .slice A780 (t737.1.L).length c781])]) rfl ⟨(load_box tab rfl rfl f40.now (k := 0) rfl rfl), trivial⟩ fun a hk => ?_
        refine x_op hk rfl ?_
        obtain ⟨t796, hc797, H⟩ := bindS H
        refine op_call hk ent_20 (vs := [.pointer (some ⟨bx18, 0, none⟩), .agg #[.int .i64 t737.1.Most, .slice A780 (t737.1.L).length c781]]) rfl (tidewracklaw14_Is_calls K bx18 A785 c786 t737.2.2 A780 c781 t737.1 _ o790 1 43 f784 _ f787 hc788 _ f782 hc783 (by decide) (by decide) (by decide) (by decide)   _ hc797) ?_
        rintro _ w798 ⟨o799, rfl, st800⟩
        replace f40 := f40.st st800 (by decide)
        replace f782 := f782.st st800 (by decide)
        replace f784 := f784.st st800 (by decide)
        replace f787 := f787.st st800 (by decide)
        replace f900020 := f900020.st st800 (by decide)
        replace hs := hs.locQ st800 hob rfl
        have hk := hk.put 42 (.bool t796) rfl
        refine x_run tab hk (k := 3) (lv := []) (ks := [0, 1, 5, 6, 8, 45]) (e' := [(0, .int .i64 p0), (1, .slice (some ad728) (p1).length cp1), (5, .pointer (some ⟨bx18, 0, none⟩)), (6, .pointer (some ⟨bx39, 0, none⟩)), (8, .int .i64 x568), (45, .bool (!t796))]) rfl trivial fun a hk => ?_
        cases b801 : (!t796)
        · rw [b801] at hk H
          replace H := bifF H
          refine x_run tab hk (k := 1) (lv := []) (ks := [0, 1, 5, 6, 8, 45, 46]) (e' := [(0, .int .i64 p0), (1, .slice (some ad728) (p1).length cp1), (5, .pointer (some ⟨bx18, 0, none⟩)), (6, .pointer (some ⟨bx39, 0, none⟩)), (8, .int .i64 x568), (45, .bool false), (46, .pointer (some ⟨bx18, 0, none⟩))]) rfl trivial fun a hk => ?_
          refine x_op hk rfl ?_
          obtain ⟨t805, hc806, H⟩ := bindS H
          refine op_call hk ent_17 (vs := [.pointer (some ⟨bx18, 0, none⟩)]) rfl (cache_Cache_Len_calls bx18 A785 c786 t737.2.2 _ o799 1 43 f784 _ f787 hc788 (by decide) (by decide) (by decide)   _ hc806) ?_
          rintro _ w807 ⟨o808, rfl, st809⟩
          replace f40 := f40.st st809 (by decide)
          replace f782 := f782.st st809 (by decide)
          replace f784 := f784.st st809 (by decide)
          replace f787 := f787.st st809 (by decide)
          replace f900020 := f900020.st st809 (by decide)
          replace hs := hs.locQ st809 hob rfl
          have hk := hk.put 47 (.int .i64 t805) rfl
          refine x_run tab hk (k := 5) (lv := []) (ks := [0, 1, 5, 6, 8, 52]) (e' := [(0, .int .i64 p0), (1, .slice (some ad728) (p1).length cp1), (5, .pointer (some ⟨bx18, 0, none⟩)), (6, .pointer (some ⟨bx39, 0, none⟩)), (8, .int .i64 x568), (52, .bool (decide (t805 > (mxI 1 (mnI p0 65536)))))]) rfl trivial fun a hk => ?_
          refine wpListIn_nil ?_
          refine then_n ?_
          cases b810 : (decide (t805 > (mxI 1 (mnI p0 65536))))
          · rw [b810] at hk H
            replace H := bifF H
            refine x_if hk (b := false) rfl ?_
            refine (show Code.wpIn _ _ _ _ _ _ _ from ?_)
            refine wpIn_skip ?_
            refine blk_n ?_
            refine then_n ?_
            refine wpIn_region_lit ?_
            refine x_run tab hk (k := 3) (lv := []) (ks := [0, 1, 5, 6, 8]) (e' := [(0, .int .i64 p0), (1, .slice (some ad728) (p1).length cp1), (5, .pointer (some ⟨bx18, 0, none⟩)), (6, .pointer (some ⟨bx39, 0, none⟩)), (8, .int .i64 (IntKind.wrap .i64 (x568 + 1)))]) rfl trivial fun a hk => ?_
            refine wpListIn_nil ?_
            refine then_n ?_
            exact ⟨k690, Nat.le_refl _, (fun b_ => (fun l_ => if l_ = 42 then 34 else if l_ = 43 then 35 else if l_ = 44 then 36 else if l_ = 45 then 37 else l_) (o808 b_)), t737.2.2.most, t737.2.2.now, A785, c786, t737.2.2.l, t737.1.Most, A780, c781, t737.1.L, (IntKind.wrap .i64 (x568 + 1)), (by exact Kn.pick (ks := [0, 1, 5, 6, 8]) hk rfl), (hs.relabM hob (fun l_ => if l_ = 42 then 34 else if l_ = 43 then 35 else if l_ = 44 then 36 else if l_ = 45 then 37 else l_) (by decide)), (f784.relab (fun l_ => if l_ = 42 then 34 else if l_ = 43 then 35 else if l_ = 44 then 36 else if l_ = 45 then 37 else l_) rfl), (f40.relab (fun l_ => if l_ = 42 then 34 else if l_ = 43 then 35 else if l_ = 44 then 36 else if l_ = 45 then 37 else l_) rfl), (f787.relab (fun l_ => if l_ = 42 then 34 else if l_ = 43 then 35 else if l_ = 44 then 36 else if l_ = 45 then 37 else l_) rfl), (f782.relab (fun l_ => if l_ = 42 then 34 else if l_ = 43 then 35 else if l_ = 44 then 36 else if l_ = 45 then 37 else l_) rfl), (f900020.relab (fun l_ => if l_ = 42 then 34 else if l_ = 43 then 35 else if l_ = 44 then 36 else if l_ = 45 then 37 else l_) rfl), hc788, hc783, (hlp692 ▸ H)⟩
          · rw [b810] at hk H
            replace H := bifT H
            refine x_if hk (b := true) rfl ?_
            refine (show Code.wpIn _ _ _ _ _ _ _ from ?_)
            refine x_seq ?_
            refine wpIn_region_lit ?_
            refine x_run tab hk (k := 1) (lv := []) (ks := [4]) (e' := [(4, .bool false)]) rfl trivial fun a hk => ?_
            refine wpListIn_nil ?_
            refine then_n ?_
            refine wpIn_ret ?_
            refine blk_r ?_
            refine then_r ?_
            refine then_r ?_
            refine blk_r ?_
            refine then_r ?_
            obtain rfl := Option.some.inj H
            exact x_retG hk (rs := [.tmp 4]) (vs := [.bool false]) rfl ⟨rfl, trivial⟩ ⟨cl w oi o [] (fun l_ => if l_ = 1 then LF else 0) o808, rfl, hs.closeF (Lm := []) (Sh := []) hoa rfl (fun l_ => if l_ = 1 then LF else 0)⟩
        · rw [b801] at hk H
          replace H := bifT H
          refine x_run tab hk (k := 7) (lv := []) (ks := [0, 1, 5, 6, 8, 52]) (e' := [(0, .int .i64 p0), (1, .slice (some ad728) (p1).length cp1), (5, .pointer (some ⟨bx18, 0, none⟩)), (6, .pointer (some ⟨bx39, 0, none⟩)), (8, .int .i64 x568), (52, .bool true)]) rfl trivial fun a hk => ?_
          refine wpListIn_nil ?_
          refine then_n ?_
          refine x_if hk (b := true) rfl ?_
          refine (show Code.wpIn _ _ _ _ _ _ _ from ?_)
          refine x_seq ?_
          refine wpIn_region_lit ?_
          refine x_run tab hk (k := 1) (lv := []) (ks := [4]) (e' := [(4, .bool false)]) rfl trivial fun a hk => ?_
          refine wpListIn_nil ?_
          refine then_n ?_
          refine wpIn_ret ?_
          refine blk_r ?_
          refine then_r ?_
          refine then_r ?_
          refine blk_r ?_
          refine then_r ?_
          obtain rfl := Option.some.inj H
          exact x_retG hk (rs := [.tmp 4]) (vs := [.bool false]) rfl ⟨rfl, trivial⟩ ⟨cl w oi o [] (fun l_ => if l_ = 1 then LF else 0) o799, rfl, hs.closeF (Lm := []) (Sh := []) hoa rfl (fun l_ => if l_ = 1 then LF else 0)⟩
      · rw [b792] at hk H
        replace H := bifT H
        refine x_run tab hk (k := 12) (lv := []) (ks := [0, 1, 5, 6, 8, 45, 51]) (e' := [(0, .int .i64 p0), (1, .slice (some ad728) (p1).length cp1), (5, .pointer (some ⟨bx18, 0, none⟩)), (6, .pointer (some ⟨bx39, 0, none⟩)), (8, .int .i64 x568), (45, .bool true), (51, undef)]) rfl trivial fun a hk => ?_
        refine x_run tab hk (k := 1) (lv := []) (ks := [0, 1, 5, 6, 8, 52]) (e' := [(0, .int .i64 p0), (1, .slice (some ad728) (p1).length cp1), (5, .pointer (some ⟨bx18, 0, none⟩)), (6, .pointer (some ⟨bx39, 0, none⟩)), (8, .int .i64 x568), (52, .bool true)]) rfl trivial fun a hk => ?_
        refine wpListIn_nil ?_
        refine then_n ?_
        refine x_if hk (b := true) rfl ?_
        refine (show Code.wpIn _ _ _ _ _ _ _ from ?_)
        refine x_seq ?_
        refine wpIn_region_lit ?_
        refine x_run tab hk (k := 1) (lv := []) (ks := [4]) (e' := [(4, .bool false)]) rfl trivial fun a hk => ?_
        refine wpListIn_nil ?_
        refine then_n ?_
        refine wpIn_ret ?_
        refine blk_r ?_
        refine then_r ?_
        refine then_r ?_
        refine blk_r ?_
        refine then_r ?_
        obtain rfl := Option.some.inj H
        exact x_retG hk (rs := [.tmp 4]) (vs := [.bool false]) rfl ⟨rfl, trivial⟩ ⟨cl w oi o [] (fun l_ => if l_ = 1 then LF else 0) o790, rfl, hs.closeF (Lm := []) (Sh := []) hoa rfl (fun l_ => if l_ = 1 then LF else 0)⟩
    refine x_seq ?_
    refine wpIn_region_lit ?_
    refine x_run tab hk (k := 5) (lv := []) (ks := [0, 1, 5, 6, 8, 21]) (e' := [(0, .int .i64 p0), (1, .slice Ap1 (p1).length cp1), (5, .pointer (some ⟨bx18, 0, none⟩)), (6, .pointer (some ⟨bx39, 0, none⟩)), (8, .int .i64 x568), (21, .bool (decide (x568 < ((p1).length : Int))))]) rfl trivial fun a hk => ?_
    cases b811 : (decide (x568 < ((p1).length : Int)))
    · rw [b811] at hk H
      replace H := bifF H
      refine x_run tab hk (k := 3) (lv := []) (ks := [0, 1, 5, 6, 8, 24]) (e' := [(0, .int .i64 p0), (1, .slice Ap1 (p1).length cp1), (5, .pointer (some ⟨bx18, 0, none⟩)), (6, .pointer (some ⟨bx39, 0, none⟩)), (8, .int .i64 x568), (24, .bool false)]) rfl trivial fun a hk => ?_
      refine wpListIn_nil ?_
      refine then_n ?_
      refine x_if hk (b := false) rfl ?_
      refine (show Code.wpIn _ _ _ _ _ _ _ from ?_)
      refine wpIn_exit ?_
      refine then_x ?_
      refine then_x ?_
      refine blk_x ?_
      refine then_n ?_
      exact ⟨o554, (by exact Kn.pick (ks := []) hk rfl), hs, H⟩
    · rw [b811] at hk H
      replace H := bifT H
      refine x_run tab hk (k := 3) (lv := []) (ks := [0, 1, 5, 6, 8, 24]) (e' := [(0, .int .i64 p0), (1, .slice Ap1 (p1).length cp1), (5, .pointer (some ⟨bx18, 0, none⟩)), (6, .pointer (some ⟨bx39, 0, none⟩)), (8, .int .i64 x568), (24, .bool (decide (x568 < (40 : Int))))]) rfl trivial fun a hk => ?_
      refine wpListIn_nil ?_
      refine then_n ?_
      cases b812 : (decide (x568 < (40 : Int)))
      · rw [b812] at hk H
        replace H := bifF H
        refine x_if hk (b := false) rfl ?_
        refine (show Code.wpIn _ _ _ _ _ _ _ from ?_)
        refine wpIn_exit ?_
        refine then_x ?_
        refine then_x ?_
        refine blk_x ?_
        refine then_n ?_
        exact ⟨o554, (by exact Kn.pick (ks := []) hk rfl), hs, H⟩
      · rw [b812] at hk H
        replace H := bifT H
        refine x_if hk (b := true) rfl ?_
        refine (show Code.wpIn _ _ _ _ _ _ _ from ?_)
        refine wpIn_skip ?_
        refine then_n ?_
        exact ⟨(fun b_ => (fun l_ => if l_ = 34 then 42 else if l_ = 35 then 43 else if l_ = 36 then 44 else if l_ = 37 then 45 else l_) (o554 b_)), (by exact Kn.pick (ks := [0, 1, 5, 6, 8]) hk rfl), (hs.relabM hob (fun l_ => if l_ = 34 then 42 else if l_ = 35 then 43 else if l_ = 36 then 44 else if l_ = 37 then 45 else l_) (by decide)), (f19.relab (fun l_ => if l_ = 34 then 42 else if l_ = 35 then 43 else if l_ = 36 then 44 else if l_ = 37 then 45 else l_) rfl), (f40.relab (fun l_ => if l_ = 34 then 42 else if l_ = 35 then 43 else if l_ = 36 then 44 else if l_ = 37 then 45 else l_) rfl), (f560.relab (fun l_ => if l_ = 34 then 42 else if l_ = 35 then 43 else if l_ = 36 then 44 else if l_ = 37 then 45 else l_) rfl), (f566.relab (fun l_ => if l_ = 34 then 42 else if l_ = 35 then 43 else if l_ = 36 then 44 else if l_ = 37 then 45 else l_) rfl), (f900020.relab (fun l_ => if l_ = 34 then 42 else if l_ = 35 then 43 else if l_ = 36 then 44 else if l_ = 37 then 45 else l_) rfl), H⟩
  · rw [b9] at hk H
    replace H := bifT H
    refine x_if hk (b := true) rfl ?_
    refine (show Code.wpIn _ _ _ _ _ _ _ from ?_)
    refine x_seq ?_
    refine wpIn_region_lit ?_
    refine x_run tab hk (k := 1) (lv := []) (ks := [4]) (e' := [(4, .bool false)]) rfl trivial fun a hk => ?_
    refine wpListIn_nil ?_
    refine then_n ?_
    refine wpIn_ret ?_
    refine then_r ?_
    obtain rfl := Option.some.inj H
    exact x_retG hk (rs := [.tmp 4]) (vs := [.bool false]) rfl ⟨rfl, trivial⟩ ⟨cl w oi o [] (fun l_ => if l_ = 1 then LF else 0) o7, rfl, hs.closeF (Lm := []) (Sh := []) hoa rfl (fun l_ => if l_ = 1 then LF else 0)⟩

/-! maps.Clone[map[int]tidewrack/cache.entry,int,tidewrack/cache.entry] -/
theorem maps_Clone_calls (Ap0 : Option Addr) (cp0 : Nat) (p0 : M T71) (w : World) (o : Nat → Nat) (LF : Nat) (Lp0 : Nat) (hp0 : MpN dT71 true Ap0 p0 w o Lp0 LF) (hcp0 : (p0).length ≤ cp0) (hd0 : ([LF] : List Nat).Nodup) (hd1 : Lp0 ∉ [LF]) (R0 : Nat) (r : M T71) (H : maps_Clone p0 = some r) :
    Calls Try.prog 40 #[mv Ap0] w (Ret fun v_ w' => ∃ o' : Nat → Nat, ∃ A0 : Option Addr, ∃ c0 : Nat, v_ = mv A0 ∧ St [] w o w' o' ∧ MpN dT71 true A0 r w' o' R0 LF ∧ (r).length ≤ c0) := by
  refine x_enter (vs := [mv Ap0]) Try.func40 rfl rfl rfl fun a hk => ?_
  obtain ⟨oi, hs0, h0, h1, hob, hoz, hoa⟩ := St.startM2 w o (m := 1) hd0 rfl
  have hs := hs0 []
  have f900000 := hp0.conv (fun P_ => h0 P_ _ hd1) (fun _ h_ => h1 0 1 h_ rfl rfl)
  clear h0 h1 hs0
  rw [maps_Clone] at H
  refine x_seq ?_
  refine wpIn_region_lit ?_
  refine x_run tab hk (k := 1) (lv := []) (ks := [0]) (e' := [(0, mv Ap0)]) rfl trivial fun a hk => ?_
  refine wpListIn_nil ?_
  refine then_n ?_
  refine x_seq ?_
  refine x_seq ?_
  refine wpIn_region_lit ?_
  refine x_run tab hk (k := 2) (lv := [.bool (M.isNil p0)]) (ks := [0, 4]) (e' := [(0, mv Ap0), (4, .bool (M.isNil p0))]) rfl ⟨(ask_mnilN tab rfl f900000.now rfl), trivial⟩ fun a hk => ?_
  refine wpListIn_nil ?_
  refine then_n ?_
  cases b1 : (M.isNil p0)
  · rw [b1] at hk H
    replace H := bifF H
    refine x_if hk (b := false) rfl ?_
    refine (show Code.wpIn _ _ _ _ _ _ _ from ?_)
    refine wpIn_skip ?_
    refine then_n ?_
    refine x_seq ?_
    refine wpIn_region_lit ?_
    refine x_run tab hk (k := 2) (lv := [.iface 61 (mv Ap0)]) (ks := [6]) (e' := [(6, .iface 61 (mv Ap0))]) rfl ⟨(ask_iface tab rfl rfl _), trivial⟩ fun a hk => ?_
    refine x_op hk rfl ?_
    refine op_mcloneN (o := oi) hk Try.func51 (by kernel_rfl) (by kernel_rfl) (by kernel_rfl) (by kernel_rfl) rfl b1 f900000 2 fun bx5 w2 o3 st4 f6 => ?_
    replace hs := hs.locQ st4 hob rfl
    have hk := hk.put 7 (.iface 61 (mv (some ⟨bx5, 0, none⟩))) rfl
    refine x_run tab hk (k := 2) (lv := [mv (some ⟨bx5, 0, none⟩)]) (ks := [2]) (e' := [(2, mv (some ⟨bx5, 0, none⟩))]) rfl ⟨(ask_assert tab rfl rfl _), trivial⟩ fun a hk => ?_
    refine wpListIn_nil ?_
    refine then_n ?_
    refine wpIn_ret ?_
    obtain rfl := Option.some.inj H
    exact x_retG hk (rs := [.tmp 2]) (vs := [mv (some ⟨bx5, 0, none⟩)]) rfl ⟨rfl, trivial⟩ ⟨cl w oi o [] (fun l_ => if l_ = 1 then LF else if l_ = 2 then R0 else 0) o3, (some ⟨bx5, 0, none⟩), (p0).length, rfl, hs.closeF (Lm := []) (Sh := []) hoa rfl (fun l_ => if l_ = 1 then LF else if l_ = 2 then R0 else 0), f6.conv (fun _ h_ => hs.closeM_ft (o := o) (ρ := fun l_ => if l_ = 1 then LF else if l_ = 2 then R0 else 0) h_ (lab_none hob rfl) rfl) (fun _ h_ => hs.closeM_ft (o := o) (ρ := fun l_ => if l_ = 1 then LF else if l_ = 2 then R0 else 0) h_ (lab_at hoa (i := 0) rfl) rfl), (Nat.le_refl _)⟩
  · rw [b1] at hk H
    replace H := bifT H
    refine x_if hk (b := true) rfl ?_
    refine (show Code.wpIn _ _ _ _ _ _ _ from ?_)
    refine x_seq ?_
    refine wpIn_region_lit ?_
    refine x_run tab hk (k := 1) (lv := []) (ks := [2]) (e' := [(2, mv none)]) rfl trivial fun a hk => ?_
    refine wpListIn_nil ?_
    refine then_n ?_
    refine wpIn_ret ?_
    refine then_r ?_
    obtain rfl := Option.some.inj H
    exact x_retG hk (rs := [.tmp 2]) (vs := [mv none]) rfl ⟨rfl, trivial⟩ ⟨cl w oi o [] (fun l_ => if l_ = 1 then LF else 0) oi, none, 0, rfl, hs.closeF (Lm := []) (Sh := []) hoa rfl (fun l_ => if l_ = 1 then LF else 0), (MpN.nil _ _ _ _ _ _), (Nat.le_refl _)⟩

/-! (*tidewrack/cache.Cache).Clone -/
theorem cache_Cache_Clone_calls (bp0 : Nat) (Ap0_0 : Option Addr) (cp0_0 : Nat) (p0 : T62) (w : World) (o : Nat → Nat) (LF : Nat) (Lp0 : Nat) (hp0 : Ft (Bx bp0 63 [.int .i64 p0.most, .int .i64 p0.now, mv Ap0_0]) w o Lp0) (Lp0_0 : Nat) (hp0_0 : MpN dT71 true Ap0_0 p0.l w o Lp0_0 LF) (hcp0_0 : (p0.l).length ≤ cp0_0) (hd0 : ([LF] : List Nat).Nodup) (hd1 : Lp0_0 ∉ [LF]) (hd2 : Lp0 ∉ [LF]) (R0 : Nat) (R1 : Nat) (r : T62) (H : cache_Cache_Clone p0 = some r) :
    Calls Try.prog 21 #[.pointer (some ⟨bp0, 0, none⟩)] w (Ret fun v_ w' => ∃ o' : Nat → Nat, ∃ b0 : Nat, ∃ A0 : Option Addr, ∃ c0 : Nat, v_ = .pointer (some ⟨b0, 0, none⟩) ∧ St [] w o w' o' ∧ Ft (Bx b0 63 [.int .i64 r.most, .int .i64 r.now, mv A0]) w' o' R0 ∧ MpN dT71 true A0 r.l w' o' R1 LF ∧ (r.l).length ≤ c0) := by
  refine x_enter (vs := [.pointer (some ⟨bp0, 0, none⟩)]) Try.func21 rfl rfl rfl fun a hk => ?_
  obtain ⟨oi, hs0, h0, h1, hob, hoz, hoa⟩ := St.startM2 w o (m := 1) hd0 rfl
  have hs := hs0 []
  have f900000 := hp0_0.conv (fun P_ => h0 P_ _ hd1) (fun _ h_ => h1 0 1 h_ rfl rfl)
  have f900019 := h0 _ _ hd2 hp0
  clear h0 h1 hs0
  rw [cache_Cache_Clone] at H
  refine x_seq ?_
  refine wpIn_region_lit ?_
  refine x_run tab hk (k := 1) (lv := []) (ks := [0]) (e' := [(0, .pointer (some ⟨bp0, 0, none⟩))]) rfl trivial fun a hk => ?_
  refine wpListIn_nil ?_
  refine then_n ?_
  refine x_seq ?_
  obtain ⟨t21, hc22, H⟩ := bindS H
  refine xd_begin (o := oi) (fun W_ => (Bx bp0 63 [.int .i64 p0.most, .int .i64 p0.now, mv Ap0_0]) W_ ∧ True) mixed rfl rfl fun w50 st51 => ?_
  replace f900000 := f900000.st st51 (by decide)
  replace f900019 := f900019.st st51 (by decide)
  replace hs := hs.locQ st51 hob rfl
  refine xd_take tab hk (k := 4) (is := [0, 1, 2, 3, 4, 5, 6, 7, 8, 9, 10, 11]) (ls' := #[true, true, true, true, true, true, true, true, true, true, true, true, false, false, false, false]) (lv := [.int .i64 p0.most, .int .i64 p0.now, mv Ap0_0]) (ks := [6, 10, 14]) (e' := [(6, .int .i64 p0.most), (10, .int .i64 p0.now), (14, mv Ap0_0)]) (by kernel_rfl) rfl rfl (by kernel_rfl) (np_then np_body) ⟨f900019.now, trivial⟩ (fun W_ hS => ⟨(load1 tab rfl ((Bx.cell hS.1 0).trans rfl)), (load1 tab rfl ((Bx.cell hS.1 1).trans rfl)), (load1 tab rfl ((Bx.cell hS.1 2).trans rfl)), trivial⟩) fun a hk => ?_
  refine xd_op hk (i := 12) (by kernel_rfl) rfl rfl ?_
  refine op_call hk ent_40 (vs := [mv Ap0_0]) rfl (maps_Clone_calls Ap0_0 cp0_0 p0.l _ oi 1 _ f900000 hcp0_0 (by decide) (by decide) 8  _ hc22) ?_
  rintro _ w55 ⟨o56, A58, c59, rfl, st57, f60, hc61⟩
  replace f900000 := f900000.st st57 (by decide)
  replace f900019 := f900019.st st57 (by decide)
  replace hs := hs.locQ st57 hob rfl
  have hk := hk.put 15 (mv A58) rfl
  refine ⟨.inr ⟨f900019.now, trivial⟩, ?_⟩
  refine xd_take tab hk (k := 2) (is := [13]) (ls' := #[true, true, true, true, true, true, true, true, true, true, true, true, true, true, false, false]) (lv := []) (ks := [16]) (e' := [(16, .agg #[.int .i64 p0.most, .int .i64 p0.now, mv A58])]) (by kernel_rfl) rfl rfl (by kernel_rfl) (np_then np_body) ⟨f900019.now, trivial⟩ (fun W_ hS => trivial) fun a hk => ?_
  refine xd_op hk (i := 14) (by kernel_rfl) rfl rfl ?_
  refine op_box (o := o56) (t := 63) (v := .agg #[.int .i64 p0.most, .int .i64 p0.now, mv A58]) (cs := [.int .i64 p0.most, .int .i64 p0.now, mv A58]) hk rfl rfl 9 fun bx65 w62 o63 st64 f66 => ?_
  replace f60 := f60.st st64 (by decide)
  replace f900000 := f900000.st st64 (by decide)
  replace f900019 := f900019.st st64 (by decide)
  replace hs := hs.locQ st64 hob rfl
  have hk := hk.put 17 (.pointer (some ⟨bx65, 0, none⟩)) rfl
  refine ⟨.inr ⟨f900019.now, trivial⟩, ?_⟩
  refine xd_take tab hk (k := 0) (is := [15]) (ls' := #[true, true, true, true, true, true, true, true, true, true, true, true, true, true, true, true]) (lv := []) (ks := [2]) (e' := [(2, .pointer (some ⟨bx65, 0, none⟩))]) (by kernel_rfl) rfl rfl (by kernel_rfl) (np_then np_body) ⟨f900019.now, trivial⟩ (fun W_ hS => trivial) fun a hk => ?_
  refine xd_done (by kernel_rfl) ?_
  refine then_n ?_
  refine wpIn_ret ?_
  obtain rfl := Option.some.inj H
  exact x_retG hk (rs := [.tmp 2]) (vs := [.pointer (some ⟨bx65, 0, none⟩)]) rfl ⟨rfl, trivial⟩ ⟨cl w oi o [] (fun l_ => if l_ = 1 then LF else if l_ = 8 then R1 else if l_ = 9 then R0 else 0) o63, bx65, A58, c59, rfl, hs.closeF (Lm := []) (Sh := []) hoa rfl (fun l_ => if l_ = 1 then LF else if l_ = 8 then R1 else if l_ = 9 then R0 else 0), hs.closeM_ft (o := o) (ρ := fun l_ => if l_ = 1 then LF else if l_ = 8 then R1 else if l_ = 9 then R0 else 0) f66 (lab_none hob rfl) rfl, f60.conv (fun _ h_ => hs.closeM_ft (o := o) (ρ := fun l_ => if l_ = 1 then LF else if l_ = 8 then R1 else if l_ = 9 then R0 else 0) h_ (lab_none hob rfl) rfl) (fun _ h_ => hs.closeM_ft (o := o) (ρ := fun l_ => if l_ = 1 then LF else if l_ = 8 then R1 else if l_ = 9 then R0 else 0) h_ (lab_at hoa (i := 0) rfl) rfl), hc61⟩

/-! tidewrack/tidewracklaw14.CacheClones -/
set_option maxHeartbeats 4000000 in
set_option maxRecDepth 20000 in
theorem tidewracklaw14_CacheClones_calls (K : Nat) (Ap0 : Option Addr) (cp0 : Nat) (p0 : List T29) (Ap1 : Option Addr) (cp1 : Nat) (p1 : List T29) (w : World) (o : Nat → Nat) (LF : Nat) (Lp0 : Nat) (Fp0 : Nat) (hp0 : NRd dT29 Ap0 p0 w o Lp0 Fp0) (hcp0 : (p0).length ≤ cp0) (Lp1 : Nat) (Fp1 : Nat) (hp1 : NRd dT29 Ap1 p1 w o Lp1 Fp1) (hcp1 : (p1).length ≤ cp1) (hd0 : ([LF] : List Nat).Nodup) (hd1 : Lp0 ∉ [LF]) (hd2 : Fp0 ∉ [LF]) (hd3 : Lp1 ∉ [LF]) (hd4 : Fp1 ∉ [LF]) (r : Bool) (H : tidewracklaw14_CacheClones K p0 p1 = some r) :
    Calls Try.prog 7 #[.slice Ap0 (p0).length cp0, .slice Ap1 (p1).length cp1] w (Ret fun v_ w' => ∃ o' : Nat → Nat, v_ = .bool r ∧ St [] w o w' o') := by
  refine x_enter (vs := [.slice Ap0 (p0).length cp0, .slice Ap1 (p1).length cp1]) Try.func7 rfl rfl rfl fun a hk => ?_
  obtain ⟨oi, hs0, h0, h1, hob, hoz, hoa⟩ := St.startM2 w o (m := 1) hd0 rfl
  have hs := hs0 []
  have f900000 := hp0.conv (fun P_ => h0 P_ _ hd1) (fun P_ => h0 P_ _ hd2)
  have f900020 := hp1.conv (fun P_ => h0 P_ _ hd3) (fun P_ => h0 P_ _ hd4)
  clear h0 h1 hs0
  rw [tidewracklaw14_CacheClones] at H
  refine x_seq ?_
  refine wpIn_region_lit ?_
  refine x_run tab hk (k := 1) (lv := []) (ks := [0, 1]) (e' := [(0, .slice Ap0 (p0).length cp0), (1, .slice Ap1 (p1).length cp1)]) rfl trivial fun a hk => ?_
  refine wpListIn_nil ?_
  refine then_n ?_
  refine x_seq ?_
  refine x_seq ?_
  refine wpIn_region_lit ?_
  refine x_op hk rfl ?_
  obtain ⟨t4, hc5, H⟩ := bindS H
  refine op_call hk ent_8 (vs := []) rfl (tidewracklaw14_awake_calls K  _ oi    _ hc5) ?_
  rintro _ w6 ⟨o7, rfl, st8⟩
  replace f900000 := f900000.st st8 (by decide)
  replace f900020 := f900020.st st8 (by decide)
  replace hs := hs.locQ st8 hob rfl
  have hk := hk.put 12 (.bool t4) rfl
  refine x_run tab hk (k := 1) (lv := []) (ks := [0, 1, 13]) (e' := [(0, .slice Ap0 (p0).length cp0), (1, .slice Ap1 (p1).length cp1), (13, .bool (!t4))]) rfl trivial fun a hk => ?_
  refine wpListIn_nil ?_
  refine then_n ?_
  cases b9 : (!t4)
  · rw [b9] at hk H
    replace H := bifF H
    refine x_if hk (b := false) rfl ?_
    refine (show Code.wpIn _ _ _ _ _ _ _ from ?_)
    refine wpIn_skip ?_
    refine then_n ?_
    refine x_seq ?_
    refine wpIn_region_lit ?_
    refine x_op hk rfl ?_
    obtain ⟨t13, hc14, H⟩ := bindS H
    refine op_call hk ent_9 (vs := [.int .i64 4]) rfl (cache_New_calls 4 _ o7 1 (by decide) 2 3  _ hc14) ?_
    rintro _ w15 ⟨o16, bx18, A20, c21, rfl, st17, f19, f22, hc23⟩
    replace f900000 := f900000.st st17 (by decide)
    replace f900020 := f900020.st st17 (by decide)
    replace hs := hs.locQ st17 hob rfl
    have hk := hk.put 14 (.pointer (some ⟨bx18, 0, none⟩)) rfl
    refine x_op hk rfl ?_
    obtain ⟨t27, hc28, H⟩ := bindS H
    refine op_call hk ent_18 (vs := [.int .i64 4]) rfl (tidewrackref14_New_calls 4 _ o16 1 (by decide) 4  _ hc28) ?_
    rintro _ w29 ⟨o30, A32, c33, rfl, st31, f34, hc35⟩
    replace f19 := f19.st st31 (by decide)
    replace f22 := f22.st st31 (by decide)
    replace f900000 := f900000.st st31 (by decide)
    replace f900020 := f900020.st st31 (by decide)
    replace hs := hs.locQ st31 hob rfl
    have hk := hk.put 15 (.agg #[.int .i64 t27.Most, .slice A32 (t27.L).length c33]) rfl
    refine x_op hk rfl ?_
    refine op_alloc (o := o30) tab (t := 51) (cs := [.int .i64 0, .slice none 0 0]) rfl rfl 5 fun bx39 w36 o37 st38 f40 => ?_
    replace f19 := f19.st st38 (by decide)
    replace f22 := f22.st st38 (by decide)
    replace f34 := f34.st st38 (by decide)
    replace f900000 := f900000.st st38 (by decide)
    replace f900020 := f900020.st st38 (by decide)
    replace hs := hs.locQ st38 hob rfl
    have hk := hk.put 6 (.pointer (some ⟨bx39, 0, none⟩)) rfl
    refine x_run tab hk (k := 1) (lv := []) (ks := [0, 1, 5, 6, 15]) (e' := [(0, .slice Ap0 (p0).length cp0), (1, .slice Ap1 (p1).length cp1), (5, .pointer (some ⟨bx18, 0, none⟩)), (6, .pointer (some ⟨bx39, 0, none⟩)), (15, .agg #[.int .i64 t27.Most, .slice A32 (t27.L).length c33])]) rfl trivial fun a hk => ?_
    refine x_op hk rfl ?_
    refine op_store tab hk (t := 51) (v := .agg #[.int .i64 t27.Most, .slice A32 (t27.L).length c33]) (b := bx39) (k := 0) (cs' := [.int .i64 t27.Most, .slice A32 (t27.L).length c33]) rfl rfl rfl rfl rfl rfl f40 rfl rfl fun w41 o42 st43 f40_ => ?_
    replace f19 := f19.st st43 (by decide)
    replace f22 := f22.st st43 (by decide)
    replace f34 := f34.st st43 (by decide)
    replace f900000 := f900000.st st43 (by decide)
    replace f900020 := f900020.st st43 (by decide)
    replace hs := hs.locQ st43 hob rfl
    replace f40 := f40_
    refine wpListIn_nil ?_
    refine then_n ?_
    refine x_seq ?_
    refine x_seq ?_
    refine wpIn_region_lit ?_
    refine x_run tab hk (k := 2) (lv := []) (ks := [0, 1, 5, 6, 17]) (e' := [(0, .slice Ap0 (p0).length cp0), (1, .slice Ap1 (p1).length cp1), (5, .pointer (some ⟨bx18, 0, none⟩)), (6, .pointer (some ⟨bx39, 0, none⟩)), (17, .bool false)]) rfl trivial fun a hk => ?_
    refine wpListIn_nil ?_
    refine then_n ?_
    refine x_if hk (b := false) rfl ?_
    refine (show Code.wpIn _ _ _ _ _ _ _ from ?_)
    refine wpIn_skip ?_
    refine then_n ?_
    refine x_seq ?_
    refine wpIn_region_lit ?_
    refine x_run tab hk (k := 1) (lv := []) (ks := [0, 1, 5, 6]) (e' := [(0, .slice Ap0 (p0).length cp0), (1, .slice Ap1 (p1).length cp1), (5, .pointer (some ⟨bx18, 0, none⟩)), (6, .pointer (some ⟨bx39, 0, none⟩))]) rfl trivial fun a hk => ?_
    refine wpListIn_nil ?_
    refine then_n ?_
    refine x_mid (fun a_ w_ => ∃ o390 : Nat → Nat, ∃ x391 : Int, ∃ x392 : Int, ∃ A393 : Option Addr, ∃ c394 : Nat, ∃ l395 : M T71, ∃ x398 : Int, ∃ A399 : Option Addr, ∃ c400 : Nat, ∃ l401 : List T87, Kn 75 a_ [(1, .slice Ap1 (p1).length cp1), (5, .pointer (some ⟨bx18, 0, none⟩)), (6, .pointer (some ⟨bx39, 0, none⟩))] ∧ St [] w oi w_ o390 ∧ Ft (Bx bx18 63 [.int .i64 x391, .int .i64 x392, mv A393]) w_ o390 27 ∧ MpN dT71 true A393 l395 w_ o390 26 1 ∧ Ft (Bx bx39 51 [.int .i64 x398, .slice A399 (l401).length c400]) w_ o390 29 ∧ NRd dT87 A399 l401 w_ o390 28 1 ∧ NRd dT29 Ap1 p1 w_ o390 0 0 ∧ (l395).length ≤ c394 ∧ (l401).length ≤ c400 ∧ tidewracklaw14_CacheClones_j1 K p1 x391 x392 l395 x398 l401 = some r) ?_ ?_
    rotate_left
    · rintro a w404 ⟨o390, x391, x392, A393, c394, l395, x398, A399, c400, l401, hk, hs, f19, f396, f40, f402, f900020, hc397, hc403, H⟩
      rw [tidewracklaw14_CacheClones_j1] at H
      refine x_seq ?_
      refine x_cut (fun a_ w_ => ∃ o595 : Nat → Nat, ∃ bx596 : Nat, ∃ x598 : Int, ∃ x599 : Int, ∃ A600 : Option Addr, ∃ c601 : Nat, ∃ l602 : M T71, ∃ bx605 : Nat, Kn 75 a_ [(1, .slice Ap1 (p1).length cp1), (5, .pointer (some ⟨bx18, 0, none⟩)), (6, .pointer (some ⟨bx39, 0, none⟩)), (9, .pointer (some ⟨bx596, 0, none⟩)), (10, .pointer (some ⟨bx605, 0, none⟩))] ∧ St [] w oi w_ o595 ∧ Ft (Bx bx18 63 [.int .i64 x391, .int .i64 x392, mv A393]) w_ o595 63 ∧ MpN dT71 true A393 l395 w_ o595 62 1 ∧ Ft (Bx bx39 51 [.int .i64 x398, .slice A399 (l401).length c400]) w_ o595 65 ∧ NRd dT87 A399 l401 w_ o595 64 1 ∧ Ft (Bx bx596 63 [.int .i64 x598, .int .i64 x599, mv A600]) w_ o595 67 ∧ MpN dT71 true A600 l602 w_ o595 66 1 ∧ Ft (Bx bx605 51 [.int .i64 x398, .slice A399 (l401).length c400]) w_ o595 68 ∧ NRd dT29 Ap1 p1 w_ o595 0 0 ∧ (l602).length ≤ c601 ∧ tidewracklaw14_CacheClones_j2 K p1 x391 x392 l395 x398 l401 x598 x599 l602 = some r) ?_ ?_
      rotate_left
      · rintro a w607 ⟨o595, bx596, x598, x599, A600, c601, l602, bx605, hk, hs, f19, f396, f40, f402, f597, f603, f606, f900020, hc604, H⟩
        rw [tidewracklaw14_CacheClones_j2] at H
        refine then_n ?_
        refine x_seq ?_
        refine x_seq ?_
        refine wpIn_region_lit ?_
        refine x_run tab hk (k := 2) (lv := []) (ks := [1, 5, 6, 9, 10, 44]) (e' := [(1, .slice Ap1 (p1).length cp1), (5, .pointer (some ⟨bx18, 0, none⟩)), (6, .pointer (some ⟨bx39, 0, none⟩)), (9, .pointer (some ⟨bx596, 0, none⟩)), (10, .pointer (some ⟨bx605, 0, none⟩)), (44, .bool false)]) rfl trivial fun a hk => ?_
        refine wpListIn_nil ?_
        refine then_n ?_
        refine x_if hk (b := false) rfl ?_
        refine (show Code.wpIn _ _ _ _ _ _ _ from ?_)
        refine wpIn_skip ?_
        refine then_n ?_
        refine x_mid (fun a_ w_ => ∃ o955 : Nat → Nat, ∃ x956 : Int, ∃ x957 : Int, ∃ A958 : Option Addr, ∃ c959 : Nat, ∃ l960 : M T71, ∃ x963 : Int, ∃ A964 : Option Addr, ∃ c965 : Nat, ∃ l966 : List T87, Kn 75 a_ [(5, .pointer (some ⟨bx18, 0, none⟩)), (6, .pointer (some ⟨bx39, 0, none⟩)), (9, .pointer (some ⟨bx596, 0, none⟩)), (10, .pointer (some ⟨bx605, 0, none⟩))] ∧ St [] w oi w_ o955 ∧ Ft (Bx bx18 63 [.int .i64 x391, .int .i64 x392, mv A393]) w_ o955 107 ∧ MpN dT71 true A393 l395 w_ o955 106 1 ∧ Ft (Bx bx39 51 [.int .i64 x398, .slice A399 (l401).length c400]) w_ o955 109 ∧ NRd dT87 A399 l401 w_ o955 108 1 ∧ Ft (Bx bx596 63 [.int .i64 x956, .int .i64 x957, mv A958]) w_ o955 111 ∧ Ft (Bx bx605 51 [.int .i64 x963, .slice A964 (l966).length c965]) w_ o955 112 ∧ MpN dT71 true A958 l960 w_ o955 110 1 ∧ NRd dT87 A964 l966 w_ o955 108 1 ∧ (l960).length ≤ c959 ∧ (l966).length ≤ c965 ∧ tidewracklaw14_CacheClones_j3 K x391 x392 l395 x398 l401 x956 x957 l960 x963 l966 = some r) ?_ ?_
        rotate_left
        · rintro a w969 ⟨o955, x956, x957, A958, c959, l960, x963, A964, c965, l966, hk, hs, f19, f396, f40, f402, f597, f606, f961, f967, hc962, hc968, H⟩
          rw [tidewracklaw14_CacheClones_j3] at H
          refine x_seq ?_
          refine wpIn_region_lit ?_
          refine x_run tab hk (k := 2) (lv := [.agg #[.int .i64 x398, .slice A399 (l401).length c400]]) (ks := [9, 10, 67, 68]) (e' := [(9, .pointer (some ⟨bx596, 0, none⟩)), (10, .pointer (some ⟨bx605, 0, none⟩)), (67, .pointer (some ⟨bx18, 0, none⟩)), (68, .agg #[.int .i64 x398, .slice A399 (l401).length c400])]) rfl ⟨(load_box tab rfl rfl f40.now (k := 0) rfl rfl), trivial⟩ fun a hk => ?_
          refine x_op hk rfl ?_
          obtain ⟨t973, hc974, H⟩ := bindS H
          refine op_call hk ent_20 (vs := [.pointer (some ⟨bx18, 0, none⟩), .agg #[.int .i64 x398, .slice A399 (l401).length c400]]) rfl (tidewracklaw14_Is_calls K bx18 A393 c394 (⟨x391, x392, l395⟩ : T62) A399 c400 (⟨x398, l401⟩ : T50) _ o955 1 107 f19 _ f396 hc397 _ f402 hc403 (by decide) (by decide) (by decide) (by decide)   _ hc974) ?_
          rintro _ w975 ⟨o976, rfl, st977⟩
          replace f19 := f19.st st977 (by decide)
          replace f396 := f396.st st977 (by decide)
          replace f402 := f402.st st977 (by decide)
          replace f597 := f597.st st977 (by decide)
          replace f606 := f606.st st977 (by decide)
          replace f961 := f961.st st977 (by decide)
          replace f967 := f967.st st977 (by decide)
          replace hs := hs.locQ st977 hob rfl
          have hk := hk.put 69 (.bool t973) rfl
          refine x_run tab hk (k := 1) (lv := []) (ks := [9, 10, 70]) (e' := [(9, .pointer (some ⟨bx596, 0, none⟩)), (10, .pointer (some ⟨bx605, 0, none⟩)), (70, .bool t973)]) rfl trivial fun a hk => ?_
          cases b978 : t973
          · rw [b978] at hk H
            replace H := bifF H
            refine x_run tab hk (k := 5) (lv := []) (ks := [4]) (e' := [(4, .bool false)]) rfl trivial fun a hk => ?_
            refine wpListIn_nil ?_
            refine then_n ?_
            refine wpIn_ret ?_
            obtain rfl := Option.some.inj H
            exact x_retG hk (rs := [.tmp 4]) (vs := [.bool false]) rfl ⟨rfl, trivial⟩ ⟨cl w oi o [] (fun l_ => if l_ = 1 then LF else 0) o976, rfl, hs.closeF (Lm := []) (Sh := []) hoa rfl (fun l_ => if l_ = 1 then LF else 0)⟩
          · rw [b978] at hk H
            replace H := bifT H
            refine x_run tab hk (k := 2) (lv := [.agg #[.int .i64 x963, .slice A964 (l966).length c965]]) (ks := [70, 71, 72]) (e' := [(70, .bool true), (71, .pointer (some ⟨bx596, 0, none⟩)), (72, .agg #[.int .i64 x963, .slice A964 (l966).length c965])]) rfl ⟨(load_box tab rfl rfl f606.now (k := 0) rfl rfl), trivial⟩ fun a hk => ?_
            refine x_op hk rfl ?_
            obtain ⟨t982, hc983, H⟩ := bindS H
            refine op_call hk ent_20 (vs := [.pointer (some ⟨bx596, 0, none⟩), .agg #[.int .i64 x963, .slice A964 (l966).length c965]]) rfl (tidewracklaw14_Is_calls K bx596 A958 c959 (⟨x956, x957, l960⟩ : T62) A964 c965 (⟨x963, l966⟩ : T50) _ o976 1 111 f597 _ f961 hc962 _ f967 hc968 (by decide) (by decide) (by decide) (by decide)   _ hc983) ?_
            rintro _ w984 ⟨o985, rfl, st986⟩
            replace f597 := f597.st st986 (by decide)
            replace f961 := f961.st st986 (by decide)
            replace f967 := f967.st st986 (by decide)
            replace hs := hs.locQ st986 hob rfl
            have hk := hk.put 73 (.bool t982) rfl
            refine x_run tab hk (k := 2) (lv := []) (ks := [4]) (e' := [(4, .bool t982)]) rfl trivial fun a hk => ?_
            refine wpListIn_nil ?_
            refine then_n ?_
            refine wpIn_ret ?_
            obtain rfl := Option.some.inj H
            exact x_retG hk (rs := [.tmp 4]) (vs := [.bool t982]) rfl ⟨rfl, trivial⟩ ⟨cl w oi o [] (fun l_ => if l_ = 1 then LF else 0) o985, rfl, hs.closeF (Lm := []) (Sh := []) hoa rfl (fun l_ => if l_ = 1 then LF else 0)⟩
        refine x_seq ?_
        refine wpIn_region_lit ?_
        refine x_run tab hk (k := 1) (lv := []) (ks := [1, 5, 6, 9, 10, 11]) (e' := [(1, .slice Ap1 (p1).length cp1), (5, .pointer (some ⟨bx18, 0, none⟩)), (6, .pointer (some ⟨bx39, 0, none⟩)), (9, .pointer (some ⟨bx596, 0, none⟩)), (10, .pointer (some ⟨bx605, 0, none⟩)), (11, .int .i64 0)]) rfl trivial fun a hk => ?_
        refine wpListIn_nil ?_
        refine then_n ?_
        refine wpIn_block ?_
        refine x_loop (fun j_ a_ w_ => ∃ o1093 : Nat → Nat, ∃ x1094 : Int, ∃ x1095 : Int, ∃ A1096 : Option Addr, ∃ c1097 : Nat, ∃ l1098 : M T71, ∃ x1101 : Int, ∃ A1102 : Option Addr, ∃ c1103 : Nat, ∃ l1104 : List T87, ∃ x1107 : Int, Kn 75 a_ [(1, .slice Ap1 (p1).length cp1), (5, .pointer (some ⟨bx18, 0, none⟩)), (6, .pointer (some ⟨bx39, 0, none⟩)), (9, .pointer (some ⟨bx596, 0, none⟩)), (10, .pointer (some ⟨bx605, 0, none⟩)), (11, .int .i64 x1107)] ∧ St [] w oi w_ o1093 ∧ MpN dT71 true A1096 l1098 w_ o1093 133 1 ∧ NRd dT87 A1102 l1104 w_ o1093 131 1 ∧ Ft (Bx bx18 63 [.int .i64 x391, .int .i64 x392, mv A393]) w_ o1093 130 ∧ MpN dT71 true A393 l395 w_ o1093 129 1 ∧ Ft (Bx bx39 51 [.int .i64 x398, .slice A399 (l401).length c400]) w_ o1093 132 ∧ NRd dT87 A399 l401 w_ o1093 131 1 ∧ Ft (Bx bx596 63 [.int .i64 x1094, .int .i64 x1095, mv A1096]) w_ o1093 134 ∧ Ft (Bx bx605 51 [.int .i64 x1101, .slice A1102 (l1104).length c1103]) w_ o1093 135 ∧ NRd dT29 Ap1 p1 w_ o1093 0 0 ∧ (l1098).length ≤ c1097 ∧ (l1104).length ≤ c1103 ∧ tidewracklaw14_CacheClones_l4 K p1 x391 x392 l395 x398 l401 j_ x1094 x1095 l1098 x1101 l1104 x1107 = some r) (k := K) ⟨(fun b_ => (fun l_ => if l_ = 62 then 129 else if l_ = 63 then 130 else if l_ = 64 then 131 else if l_ = 65 then 132 else if l_ = 66 then 133 else if l_ = 67 then 134 else if l_ = 68 then 135 else l_) (o595 b_)), x598, x599, A600, c601, l602, x398, A399, c400, l401, 0, (by exact Kn.pick (ks := [1, 5, 6, 9, 10, 11]) hk rfl), (hs.relabM hob (fun l_ => if l_ = 62 then 129 else if l_ = 63 then 130 else if l_ = 64 then 131 else if l_ = 65 then 132 else if l_ = 66 then 133 else if l_ = 67 then 134 else if l_ = 68 then 135 else l_) (by decide)), (f603.relab (fun l_ => if l_ = 62 then 129 else if l_ = 63 then 130 else if l_ = 64 then 131 else if l_ = 65 then 132 else if l_ = 66 then 133 else if l_ = 67 then 134 else if l_ = 68 then 135 else l_) rfl), (f402.relab (fun l_ => if l_ = 62 then 129 else if l_ = 63 then 130 else if l_ = 64 then 131 else if l_ = 65 then 132 else if l_ = 66 then 133 else if l_ = 67 then 134 else if l_ = 68 then 135 else l_) rfl), (f19.relab (fun l_ => if l_ = 62 then 129 else if l_ = 63 then 130 else if l_ = 64 then 131 else if l_ = 65 then 132 else if l_ = 66 then 133 else if l_ = 67 then 134 else if l_ = 68 then 135 else l_) rfl), (f396.relab (fun l_ => if l_ = 62 then 129 else if l_ = 63 then 130 else if l_ = 64 then 131 else if l_ = 65 then 132 else if l_ = 66 then 133 else if l_ = 67 then 134 else if l_ = 68 then 135 else l_) rfl), (f40.relab (fun l_ => if l_ = 62 then 129 else if l_ = 63 then 130 else if l_ = 64 then 131 else if l_ = 65 then 132 else if l_ = 66 then 133 else if l_ = 67 then 134 else if l_ = 68 then 135 else l_) rfl), (f402.relab (fun l_ => if l_ = 62 then 129 else if l_ = 63 then 130 else if l_ = 64 then 131 else if l_ = 65 then 132 else if l_ = 66 then 133 else if l_ = 67 then 134 else if l_ = 68 then 135 else l_) rfl), (f597.relab (fun l_ => if l_ = 62 then 129 else if l_ = 63 then 130 else if l_ = 64 then 131 else if l_ = 65 then 132 else if l_ = 66 then 133 else if l_ = 67 then 134 else if l_ = 68 then 135 else l_) rfl), (f606.relab (fun l_ => if l_ = 62 then 129 else if l_ = 63 then 130 else if l_ = 64 then 131 else if l_ = 65 then 132 else if l_ = 66 then 133 else if l_ = 67 then 134 else if l_ = 68 then 135 else l_) rfl), (f900020.relab (fun l_ => if l_ = 62 then 129 else if l_ = 63 then 130 else if l_ = 64 then 131 else if l_ = 65 then 132 else if l_ = 66 then 133 else if l_ = 67 then 134 else if l_ = 68 then 135 else l_) rfl), hc604, hc403, H⟩ (by rintro _ _ ⟨_, _, _, _, _, _, _, _, _, _, _, _, _, _, _, _, _, _, _, _, _, _, _, _, H_⟩; exact absurd (show (none : Option Bool) = some r from H_) (by simp)) ?_
        rintro k1211 a w1210 ⟨o1093, x1094, x1095, A1096, c1097, l1098, x1101, A1102, c1103, l1104, x1107, hk, hs, f1099, f1105, f19, f396, f40, f402, f597, f606, f900020, hc1100, hc1106, H⟩
        rw [tidewracklaw14_CacheClones_l4] at H
        obtain ⟨lp1212, hlp1213⟩ : ∃ lp_, lp_ = tidewracklaw14_CacheClones_l4 K p1 x391 x392 l395 x398 l401 k1211 := ⟨_, rfl⟩
        rw [← hlp1213] at H
        refine x_mid (fun a_ w_ => ∃ o1219 : Nat → Nat, Kn 75 a_ [(1, .slice Ap1 (p1).length cp1), (5, .pointer (some ⟨bx18, 0, none⟩)), (6, .pointer (some ⟨bx39, 0, none⟩)), (9, .pointer (some ⟨bx596, 0, none⟩)), (10, .pointer (some ⟨bx605, 0, none⟩)), (11, .int .i64 x1107)] ∧ St [] w oi w_ o1219 ∧ MpN dT71 true A1096 l1098 w_ o1219 147 1 ∧ NRd dT87 A1102 l1104 w_ o1219 145 1 ∧ Ft (Bx bx18 63 [.int .i64 x391, .int .i64 x392, mv A393]) w_ o1219 144 ∧ MpN dT71 true A393 l395 w_ o1219 143 1 ∧ Ft (Bx bx39 51 [.int .i64 x398, .slice A399 (l401).length c400]) w_ o1219 146 ∧ NRd dT87 A399 l401 w_ o1219 145 1 ∧ Ft (Bx bx596 63 [.int .i64 x1094, .int .i64 x1095, mv A1096]) w_ o1219 148 ∧ Ft (Bx bx605 51 [.int .i64 x1101, .slice A1102 (l1104).length c1103]) w_ o1219 149 ∧ NRd dT29 Ap1 p1 w_ o1219 0 0 ∧ tidewracklaw14_CacheClones_j5 K p1 x1094 x1095 l1098 x1101 l1104 x1107 lp1212 = some r) ?_ ?_
        rotate_left
        · rintro a w1220 ⟨o1219, hk, hs, f1099, f1105, f19, f396, f40, f402, f597, f606, f900020, H⟩
          rw [tidewracklaw14_CacheClones_j5] at H
          refine x_seq ?_
          refine wpIn_block ?_
          refine x_seq ?_
          obtain ⟨q1248, H⟩ := ifS H
          obtain ⟨ad1249, hAad1249⟩ := NRd.addr f900020 q1248
          have hk_C := hk
          have f1099_C := f1099
          have f1105_C := f1105
          have f19_C := f19
          have f396_C := f396
          have f40_C := f40
          have f402_C := f402
          have f597_C := f597
          have f606_C := f606
          have f900020_C := f900020
          subst hAad1249
          have hk := hk_C
          clear hk_C
          have f1099 := f1099_C
          clear f1099_C
          have f1105 := f1105_C
          clear f1105_C
          have f19 := f19_C
          clear f19_C
          have f396 := f396_C
          clear f396_C
          have f40 := f40_C
          clear f40_C
          have f402 := f402_C
          clear f402_C
          have f597 := f597_C
          clear f597_C
          have f606 := f606_C
          clear f606_C
          have f900020 := f900020_C
          clear f900020_C
          obtain ⟨A1250, c1251, f1252, f1253, hc1254⟩ := elT29 f900020 (i := x1107) q1248
          obtain ⟨t1258, hc1259, H⟩ := bindS H
          refine xd_begin (o := o1219) (fun W_ => (fun W => CellsAt (ad1249.add (Int.toNat x1107 * 3)) [.int .i64 ((rdD zT29 p1 x1107).Kind), .int .i64 ((rdD zT29 p1 x1107).I), .slice A1250 ((rdD zT29 p1 x1107).L).length c1251] W) W_ ∧ True) mixed rfl rfl fun w1293 st1294 => ?_
          replace f1099 := f1099.st st1294 (by decide)
          replace f1105 := f1105.st st1294 (by decide)
          replace f1252 := f1252.st st1294 (by decide)
          replace f1253 := f1253.st st1294 (by decide)
          replace f19 := f19.st st1294 (by decide)
          replace f396 := f396.st st1294 (by decide)
          replace f40 := f40.st st1294 (by decide)
          replace f402 := f402.st st1294 (by decide)
          replace f597 := f597.st st1294 (by decide)
          replace f606 := f606.st st1294 (by decide)
          replace f900020 := f900020.st st1294 (by decide)
          replace hs := hs.locQ st1294 hob rfl
          refine xd_take tab hk (k := 7) (is := [0, 2, 3, 4, 5]) (ls' := #[true, false, true, true, true, true, false, false, false, false, false, false]) (lv := [.agg #[.int .i64 ((rdD zT29 p1 x1107).Kind), .int .i64 ((rdD zT29 p1 x1107).I), .slice A1250 ((rdD zT29 p1 x1107).L).length c1251]]) (ks := [1, 5, 6, 9, 10, 11, 56, 61]) (e' := [(1, .slice (some ad1249) (p1).length cp1), (5, .pointer (some ⟨bx18, 0, none⟩)), (6, .pointer (some ⟨bx39, 0, none⟩)), (9, .pointer (some ⟨bx596, 0, none⟩)), (10, .pointer (some ⟨bx605, 0, none⟩)), (11, .int .i64 x1107), (56, .pointer (some ⟨bx596, 0, none⟩)), (61, .agg #[.int .i64 ((rdD zT29 p1 x1107).Kind), .int .i64 ((rdD zT29 p1 x1107).I), .slice A1250 ((rdD zT29 p1 x1107).L).length c1251])]) (by kernel_rfl) rfl rfl (by kernel_rfl) (np_then (np_blk (np_then (np_then (np_blk (np_then np_body)))))) ⟨f1252.now, trivial⟩ (fun W_ hS => ⟨q1248, (CellsAt.all hS.1 tab rfl rfl rfl), trivial⟩) fun a hk => ?_
          refine xd_op hk (i := 1) (by kernel_rfl) rfl rfl ?_
          refine op_quiet tab hk (lv := [.agg #[.int .i64 x1101, .slice A1102 (l1104).length c1103]]) (v := .agg #[.int .i64 x1101, .slice A1102 (l1104).length c1103]) rfl ⟨(load_box tab rfl rfl f606.now (k := 0) rfl rfl), trivial⟩ ?_
          have hk := hk.put 57 (.agg #[.int .i64 x1101, .slice A1102 (l1104).length c1103]) rfl
          refine ⟨.inr ⟨f1252.now, trivial⟩, ?_⟩
          refine xd_op hk (i := 6) (by kernel_rfl) rfl rfl ?_
          refine op_call hk ent_19 (vs := [.pointer (some ⟨bx596, 0, none⟩), .agg #[.int .i64 x1101, .slice A1102 (l1104).length c1103], .agg #[.int .i64 ((rdD zT29 p1 x1107).Kind), .int .i64 ((rdD zT29 p1 x1107).I), .slice A1250 ((rdD zT29 p1 x1107).L).length c1251]]) rfl (tidewracklaw14_do_calls K bx596 A1096 c1097 (⟨x1094, x1095, l1098⟩ : T62) A1102 c1103 (⟨x1101, l1104⟩ : T50) A1250 c1251 (rdD zT29 p1 x1107) _ o1219 1 148 f597 147 f1099 hc1100 145 f1105 hc1106 _ f1253 hc1254 (by decide) (by decide)   _ hc1259) ?_
          rintro _ w1298 ⟨o1299, A1301, c1302, A1306, c1307, rfl, st1300, f1303, hc1304, f1305, f1308, hc1309⟩
          replace f1105 := f1105.st st1300 (by decide)
          replace f1252 := f1252.st st1300 (by decide)
          replace f1253 := f1253.st st1300 (by decide)
          replace f19 := f19.st st1300 (by decide)
          replace f396 := f396.st st1300 (by decide)
          replace f40 := f40.st st1300 (by decide)
          replace f402 := f402.st st1300 (by decide)
          replace f606 := f606.st st1300 (by decide)
          replace f900020 := f900020.st st1300 (by decide)
          replace hs := hs.locQ st1300 hob rfl
          have hk := hk.put 62 (.tuple #[.agg #[.int .i64 t1258.1.Most, .slice A1301 (t1258.1.L).length c1302], .bool t1258.2.1]) rfl
          refine ⟨.inr ⟨f1252.now, trivial⟩, ?_⟩
          refine xd_take tab hk (k := 2) (is := [7, 8, 9]) (ls' := #[true, true, true, true, true, true, true, true, true, true, false, false]) (lv := []) (ks := [1, 5, 6, 9, 10, 11, 63, 64]) (e' := [(1, .slice (some ad1249) (p1).length cp1), (5, .pointer (some ⟨bx18, 0, none⟩)), (6, .pointer (some ⟨bx39, 0, none⟩)), (9, .pointer (some ⟨bx596, 0, none⟩)), (10, .pointer (some ⟨bx605, 0, none⟩)), (11, .int .i64 x1107), (63, .agg #[.int .i64 t1258.1.Most, .slice A1301 (t1258.1.L).length c1302]), (64, .bool t1258.2.1)]) (by kernel_rfl) rfl rfl (by kernel_rfl) (np_then (np_blk (np_then (np_then (np_blk (np_then np_body)))))) ⟨f1252.now, trivial⟩ (fun W_ hS => trivial) fun a hk => ?_
          refine xd_op hk (i := 10) (by kernel_rfl) rfl rfl ?_
          refine op_store tab hk (t := 51) (v := .agg #[.int .i64 t1258.1.Most, .slice A1301 (t1258.1.L).length c1302]) (b := bx605) (k := 0) (cs' := [.int .i64 t1258.1.Most, .slice A1301 (t1258.1.L).length c1302]) rfl rfl rfl rfl rfl rfl f606 rfl rfl fun w1310 o1311 st1312 f606_ => ?_
          replace f1105 := f1105.st st1312 (by decide)
          replace f1252 := f1252.st st1312 (by decide)
          replace f1253 := f1253.st st1312 (by decide)
          replace f1303 := f1303.st st1312 (by decide)
          replace f1305 := f1305.st st1312 (by decide)
          replace f1308 := f1308.st st1312 (by decide)
          replace f19 := f19.st st1312 (by decide)
          replace f396 := f396.st st1312 (by decide)
          replace f40 := f40.st st1312 (by decide)
          replace f402 := f402.st st1312 (by decide)
          replace f900020 := f900020.st st1312 (by decide)
          replace hs := hs.locQ st1312 hob rfl
          replace f606 := f606_
          refine ⟨.inr ⟨f1252.now, trivial⟩, ?_⟩
          refine xd_take tab hk (k := 0) (is := [11]) (ls' := #[true, true, true, true, true, true, true, true, true, true, true, true]) (lv := []) (ks := [1, 5, 6, 7, 9, 10, 11]) (e' := [(1, .slice (some ad1249) (p1).length cp1), (5, .pointer (some ⟨bx18, 0, none⟩)), (6, .pointer (some ⟨bx39, 0, none⟩)), (7, .bool t1258.2.1), (9, .pointer (some ⟨bx596, 0, none⟩)), (10, .pointer (some ⟨bx605, 0, none⟩)), (11, .int .i64 x1107)]) (by kernel_rfl) rfl rfl (by kernel_rfl) (np_then (np_blk (np_then (np_then (np_blk (np_then np_body)))))) ⟨f1252.now, trivial⟩ (fun W_ hS => trivial) fun a hk => ?_
          refine xd_done (by kernel_rfl) ?_
          refine then_n ?_
          refine x_seq ?_
          refine wpIn_region_lit ?_
          refine x_run tab hk (k := 2) (lv := []) (ks := [1, 5, 6, 9, 10, 11, 66]) (e' := [(1, .slice (some ad1249) (p1).length cp1), (5, .pointer (some ⟨bx18, 0, none⟩)), (6, .pointer (some ⟨bx39, 0, none⟩)), (9, .pointer (some ⟨bx596, 0, none⟩)), (10, .pointer (some ⟨bx605, 0, none⟩)), (11, .int .i64 x1107), (66, .bool (!t1258.2.1))]) rfl trivial fun a hk => ?_
          refine wpListIn_nil ?_
          refine then_n ?_
          cases b1313 : (!t1258.2.1)
          · rw [b1313] at hk H
            replace H := bifF H
            refine x_if hk (b := false) rfl ?_
            refine (show Code.wpIn _ _ _ _ _ _ _ from ?_)
            refine wpIn_skip ?_
            refine blk_n ?_
            refine then_n ?_
            refine wpIn_region_lit ?_
            refine x_run tab hk (k := 3) (lv := []) (ks := [1, 5, 6, 9, 10, 11]) (e' := [(1, .slice (some ad1249) (p1).length cp1), (5, .pointer (some ⟨bx18, 0, none⟩)), (6, .pointer (some ⟨bx39, 0, none⟩)), (9, .pointer (some ⟨bx596, 0, none⟩)), (10, .pointer (some ⟨bx605, 0, none⟩)), (11, .int .i64 (IntKind.wrap .i64 (x1107 + 1)))]) rfl trivial fun a hk => ?_
            refine wpListIn_nil ?_
            refine then_n ?_
            exact ⟨k1211, Nat.le_refl _, (fun b_ => (fun l_ => if l_ = 143 then 129 else if l_ = 144 then 130 else if l_ = 145 then 131 else if l_ = 146 then 132 else if l_ = 147 then 133 else if l_ = 148 then 134 else if l_ = 149 then 135 else l_) (o1311 b_)), t1258.2.2.most, t1258.2.2.now, A1306, c1307, t1258.2.2.l, t1258.1.Most, A1301, c1302, t1258.1.L, (IntKind.wrap .i64 (x1107 + 1)), (by exact Kn.pick (ks := [1, 5, 6, 9, 10, 11]) hk rfl), (hs.relabM hob (fun l_ => if l_ = 143 then 129 else if l_ = 144 then 130 else if l_ = 145 then 131 else if l_ = 146 then 132 else if l_ = 147 then 133 else if l_ = 148 then 134 else if l_ = 149 then 135 else l_) (by decide)), (f1308.relab (fun l_ => if l_ = 143 then 129 else if l_ = 144 then 130 else if l_ = 145 then 131 else if l_ = 146 then 132 else if l_ = 147 then 133 else if l_ = 148 then 134 else if l_ = 149 then 135 else l_) rfl), (f1303.relab (fun l_ => if l_ = 143 then 129 else if l_ = 144 then 130 else if l_ = 145 then 131 else if l_ = 146 then 132 else if l_ = 147 then 133 else if l_ = 148 then 134 else if l_ = 149 then 135 else l_) rfl), (f19.relab (fun l_ => if l_ = 143 then 129 else if l_ = 144 then 130 else if l_ = 145 then 131 else if l_ = 146 then 132 else if l_ = 147 then 133 else if l_ = 148 then 134 else if l_ = 149 then 135 else l_) rfl), (f396.relab (fun l_ => if l_ = 143 then 129 else if l_ = 144 then 130 else if l_ = 145 then 131 else if l_ = 146 then 132 else if l_ = 147 then 133 else if l_ = 148 then 134 else if l_ = 149 then 135 else l_) rfl), (f40.relab (fun l_ => if l_ = 143 then 129 else if l_ = 144 then 130 else if l_ = 145 then 131 else if l_ = 146 then 132 else if l_ = 147 then 133 else if l_ = 148 then 134 else if l_ = 149 then 135 else l_) rfl), (f402.relab (fun l_ => if l_ = 143 then 129 else if l_ = 144 then 130 else if l_ = 145 then 131 else if l_ = 146 then 132 else if l_ = 147 then 133 else if l_ = 148 then 134 else if l_ = 149 then 135 else l_) rfl), (f1305.relab (fun l_ => if l_ = 143 then 129 else if l_ = 144 then 130 else if l_ = 145 then 131 else if l_ = 146 then 132 else if l_ = 147 then 133 else if l_ = 148 then 134 else if l_ = 149 then 135 else l_) rfl), (f606.relab (fun l_ => if l_ = 143 then 129 else if l_ = 144 then 130 else if l_ = 145 then 131 else if l_ = 146 then 132 else if l_ = 147 then 133 else if l_ = 148 then 134 else if l_ = 149 then 135 else l_) rfl), (f900020.relab (fun l_ => if l_ = 143 then 129 else if l_ = 144 then 130 else if l_ = 145 then 131 else if l_ = 146 then 132 else if l_ = 147 then 133 else if l_ = 148 then 134 else if l_ = 149 then 135 else l_) rfl), hc1309, hc1304, (hlp1213 ▸ H)⟩
          · rw [b1313] at hk H
            replace H := bifT H
            refine x_if hk (b := true) rfl ?_
            refine (show Code.wpIn _ _ _ _ _ _ _ from ?_)
            refine x_seq ?_
            refine wpIn_region_lit ?_
            refine x_run tab hk (k := 1) (lv := []) (ks := [4]) (e' := [(4, .bool false)]) rfl trivial fun a hk => ?_
            refine wpListIn_nil ?_
            refine then_n ?_
            refine wpIn_ret ?_
            refine blk_r ?_
            refine then_r ?_
            refine then_r ?_
            refine blk_r ?_
            refine then_r ?_
            obtain rfl := Option.some.inj H
            exact x_retG hk (rs := [.tmp 4]) (vs := [.bool false]) rfl ⟨rfl, trivial⟩ ⟨cl w oi o [] (fun l_ => if l_ = 1 then LF else 0) o1311, rfl, hs.closeF (Lm := []) (Sh := []) hoa rfl (fun l_ => if l_ = 1 then LF else 0)⟩
        refine x_seq ?_
        refine wpIn_region_lit ?_
        refine x_run tab hk (k := 5) (lv := []) (ks := [1, 5, 6, 9, 10, 11, 49]) (e' := [(1, .slice Ap1 (p1).length cp1), (5, .pointer (some ⟨bx18, 0, none⟩)), (6, .pointer (some ⟨bx39, 0, none⟩)), (9, .pointer (some ⟨bx596, 0, none⟩)), (10, .pointer (some ⟨bx605, 0, none⟩)), (11, .int .i64 x1107), (49, .bool (decide (x1107 < ((p1).length : Int))))]) rfl trivial fun a hk => ?_
        cases b1314 : (decide (x1107 < ((p1).length : Int)))
        · rw [b1314] at hk H
          replace H := bifF H
          refine x_run tab hk (k := 3) (lv := []) (ks := [1, 5, 6, 9, 10, 11, 52]) (e' := [(1, .slice Ap1 (p1).length cp1), (5, .pointer (some ⟨bx18, 0, none⟩)), (6, .pointer (some ⟨bx39, 0, none⟩)), (9, .pointer (some ⟨bx596, 0, none⟩)), (10, .pointer (some ⟨bx605, 0, none⟩)), (11, .int .i64 x1107), (52, .bool false)]) rfl trivial fun a hk => ?_
          refine wpListIn_nil ?_
          refine then_n ?_
          refine x_if hk (b := false) rfl ?_
          refine (show Code.wpIn _ _ _ _ _ _ _ from ?_)
          refine wpIn_exit ?_
          refine then_x ?_
          refine then_x ?_
          refine blk_x ?_
          refine then_n ?_
          exact ⟨(fun b_ => (fun l_ => if l_ = 129 then 106 else if l_ = 130 then 107 else if l_ = 131 then 108 else if l_ = 132 then 109 else if l_ = 133 then 110 else if l_ = 134 then 111 else if l_ = 135 then 112 else l_) (o1093 b_)), x1094, x1095, A1096, c1097, l1098, x1101, A1102, c1103, l1104, (by exact Kn.pick (ks := [5, 6, 9, 10]) hk rfl), (hs.relabM hob (fun l_ => if l_ = 129 then 106 else if l_ = 130 then 107 else if l_ = 131 then 108 else if l_ = 132 then 109 else if l_ = 133 then 110 else if l_ = 134 then 111 else if l_ = 135 then 112 else l_) (by decide)), (f19.relab (fun l_ => if l_ = 129 then 106 else if l_ = 130 then 107 else if l_ = 131 then 108 else if l_ = 132 then 109 else if l_ = 133 then 110 else if l_ = 134 then 111 else if l_ = 135 then 112 else l_) rfl), (f396.relab (fun l_ => if l_ = 129 then 106 else if l_ = 130 then 107 else if l_ = 131 then 108 else if l_ = 132 then 109 else if l_ = 133 then 110 else if l_ = 134 then 111 else if l_ = 135 then 112 else l_) rfl), (f40.relab (fun l_ => if l_ = 129 then 106 else if l_ = 130 then 107 else if l_ = 131 then 108 else if l_ = 132 then 109 else if l_ = 133 then 110 else if l_ = 134 then 111 else if l_ = 135 then 112 else l_) rfl), (f402.relab (fun l_ => if l_ = 129 then 106 else if l_ = 130 then 107 else if l_ = 131 then 108 else if l_ = 132 then 109 else if l_ = 133 then 110 else if l_ = 134 then 111 else if l_ = 135 then 112 else l_) rfl), (f597.relab (fun l_ => if l_ = 129 then 106 else if l_ = 130 then 107 else if l_ = 131 then 108 else if l_ = 132 then 109 else if l_ = 133 then 110 else if l_ = 134 then 111 else if l_ = 135 then 112 else l_) rfl), (f606.relab (fun l_ => if l_ = 129 then 106 else if l_ = 130 then 107 else if l_ = 131 then 108 else if l_ = 132 then 109 else if l_ = 133 then 110 else if l_ = 134 then 111 else if l_ = 135 then 112 else l_) rfl), (f1099.relab (fun l_ => if l_ = 129 then 106 else if l_ = 130 then 107 else if l_ = 131 then 108 else if l_ = 132 then 109 else if l_ = 133 then 110 else if l_ = 134 then 111 else if l_ = 135 then 112 else l_) rfl), (f1105.relab (fun l_ => if l_ = 129 then 106 else if l_ = 130 then 107 else if l_ = 131 then 108 else if l_ = 132 then 109 else if l_ = 133 then 110 else if l_ = 134 then 111 else if l_ = 135 then 112 else l_) rfl), hc1100, hc1106, H⟩
        · rw [b1314] at hk H
          replace H := bifT H
          refine x_run tab hk (k := 3) (lv := []) (ks := [1, 5, 6, 9, 10, 11, 52]) (e' := [(1, .slice Ap1 (p1).length cp1), (5, .pointer (some ⟨bx18, 0, none⟩)), (6, .pointer (some ⟨bx39, 0, none⟩)), (9, .pointer (some ⟨bx596, 0, none⟩)), (10, .pointer (some ⟨bx605, 0, none⟩)), (11, .int .i64 x1107), (52, .bool (decide (x1107 < (15 : Int))))]) rfl trivial fun a hk => ?_
          refine wpListIn_nil ?_
          refine then_n ?_
          cases b1315 : (decide (x1107 < (15 : Int)))
          · rw [b1315] at hk H
            replace H := bifF H
            refine x_if hk (b := false) rfl ?_
            refine (show Code.wpIn _ _ _ _ _ _ _ from ?_)
            refine wpIn_exit ?_
            refine then_x ?_
            refine then_x ?_
            refine blk_x ?_
            refine then_n ?_
            exact ⟨(fun b_ => (fun l_ => if l_ = 129 then 106 else if l_ = 130 then 107 else if l_ = 131 then 108 else if l_ = 132 then 109 else if l_ = 133 then 110 else if l_ = 134 then 111 else if l_ = 135 then 112 else l_) (o1093 b_)), x1094, x1095, A1096, c1097, l1098, x1101, A1102, c1103, l1104, (by exact Kn.pick (ks := [5, 6, 9, 10]) hk rfl), (hs.relabM hob (fun l_ => if l_ = 129 then 106 else if l_ = 130 then 107 else if l_ = 131 then 108 else if l_ = 132 then 109 else if l_ = 133 then 110 else if l_ = 134 then 111 else if l_ = 135 then 112 else l_) (by decide)), (f19.relab (fun l_ => if l_ = 129 then 106 else if l_ = 130 then 107 else if l_ = 131 then 108 else if l_ = 132 then 109 else if l_ = 133 then 110 else if l_ = 134 then 111 else if l_ = 135 then 112 else l_) rfl), (f396.relab (fun l_ => if l_ = 129 then 106 else if l_ = 130 then 107 else if l_ = 131 then 108 else if l_ = 132 then 109 else if l_ = 133 then 110 else if l_ = 134 then 111 else if l_ = 135 then 112 else l_) rfl), (f40.relab (fun l_ => if l_ = 129 then 106 else if l_ = 130 then 107 else if l_ = 131 then 108 else if l_ = 132 then 109 else if l_ = 133 then 110 else if l_ = 134 then 111 else if l_ = 135 then 112 else l_) rfl), (f402.relab (fun l_ => if l_ = 129 then 106 else if l_ = 130 then 107 else if l_ = 131 then 108 else if l_ = 132 then 109 else if l_ = 133 then 110 else if l_ = 134 then 111 else if l_ = 135 then 112 else l_) rfl), (f597.relab (fun l_ => if l_ = 129 then 106 else if l_ = 130 then 107 else if l_ = 131 then 108 else if l_ = 132 then 109 else if l_ = 133 then 110 else if l_ = 134 then 111 else if l_ = 135 then 112 else l_) rfl), (f606.relab (fun l_ => if l_ = 129 then 106 else if l_ = 130 then 107 else if l_ = 131 then 108 else if l_ = 132 then 109 else if l_ = 133 then 110 else if l_ = 134 then 111 else if l_ = 135 then 112 else l_) rfl), (f1099.relab (fun l_ => if l_ = 129 then 106 else if l_ = 130 then 107 else if l_ = 131 then 108 else if l_ = 132 then 109 else if l_ = 133 then 110 else if l_ = 134 then 111 else if l_ = 135 then 112 else l_) rfl), (f1105.relab (fun l_ => if l_ = 129 then 106 else if l_ = 130 then 107 else if l_ = 131 then 108 else if l_ = 132 then 109 else if l_ = 133 then 110 else if l_ = 134 then 111 else if l_ = 135 then 112 else l_) rfl), hc1100, hc1106, H⟩
          · rw [b1315] at hk H
            replace H := bifT H
            refine x_if hk (b := true) rfl ?_
            refine (show Code.wpIn _ _ _ _ _ _ _ from ?_)
            refine wpIn_skip ?_
            refine then_n ?_
            exact ⟨(fun b_ => (fun l_ => if l_ = 129 then 143 else if l_ = 130 then 144 else if l_ = 131 then 145 else if l_ = 132 then 146 else if l_ = 133 then 147 else if l_ = 134 then 148 else if l_ = 135 then 149 else l_) (o1093 b_)), (by exact Kn.pick (ks := [1, 5, 6, 9, 10, 11]) hk rfl), (hs.relabM hob (fun l_ => if l_ = 129 then 143 else if l_ = 130 then 144 else if l_ = 131 then 145 else if l_ = 132 then 146 else if l_ = 133 then 147 else if l_ = 134 then 148 else if l_ = 135 then 149 else l_) (by decide)), (f1099.relab (fun l_ => if l_ = 129 then 143 else if l_ = 130 then 144 else if l_ = 131 then 145 else if l_ = 132 then 146 else if l_ = 133 then 147 else if l_ = 134 then 148 else if l_ = 135 then 149 else l_) rfl), (f1105.relab (fun l_ => if l_ = 129 then 143 else if l_ = 130 then 144 else if l_ = 131 then 145 else if l_ = 132 then 146 else if l_ = 133 then 147 else if l_ = 134 then 148 else if l_ = 135 then 149 else l_) rfl), (f19.relab (fun l_ => if l_ = 129 then 143 else if l_ = 130 then 144 else if l_ = 131 then 145 else if l_ = 132 then 146 else if l_ = 133 then 147 else if l_ = 134 then 148 else if l_ = 135 then 149 else l_) rfl), (f396.relab (fun l_ => if l_ = 129 then 143 else if l_ = 130 then 144 else if l_ = 131 then 145 else if l_ = 132 then 146 else if l_ = 133 then 147 else if l_ = 134 then 148 else if l_ = 135 then 149 else l_) rfl), (f40.relab (fun l_ => if l_ = 129 then 143 else if l_ = 130 then 144 else if l_ = 131 then 145 else if l_ = 132 then 146 else if l_ = 133 then 147 else if l_ = 134 then 148 else if l_ = 135 then 149 else l_) rfl), (f402.relab (fun l_ => if l_ = 129 then 143 else if l_ = 130 then 144 else if l_ = 131 then 145 else if l_ = 132 then 146 else if l_ = 133 then 147 else if l_ = 134 then 148 else if l_ = 135 then 149 else l_) rfl), (f597.relab (fun l_ => if l_ = 129 then 143 else if l_ = 130 then 144 else if l_ = 131 then 145 else if l_ = 132 then 146 else if l_ = 133 then 147 else if l_ = 134 then 148 else if l_ = 135 then 149 else l_) rfl), (f606.relab (fun l_ => if l_ = 129 then 143 else if l_ = 130 then 144 else if l_ = 131 then 145 else if l_ = 132 then 146 else if l_ = 133 then 147 else if l_ = 134 then 148 else if l_ = 135 then 149 else l_) rfl), (f900020.relab (fun l_ => if l_ = 129 then 143 else if l_ = 130 then 144 else if l_ = 131 then 145 else if l_ = 132 then 146 else if l_ = 133 then 147 else if l_ = 134 then 148 else if l_ = 135 then 149 else l_) rfl), H⟩
      obtain ⟨t1338, hc1339, H⟩ := bindS H
      refine xd_begin (o := o390) (fun W_ => (Bx bx39 51 [.int .i64 x398, .slice A399 (l401).length c400]) W_ ∧ True) mixed rfl rfl fun w1397 st1398 => ?_
      replace f19 := f19.st st1398 (by decide)
      replace f396 := f396.st st1398 (by decide)
      replace f40 := f40.st st1398 (by decide)
      replace f402 := f402.st st1398 (by decide)
      replace f900020 := f900020.st st1398 (by decide)
      replace hs := hs.locQ st1398 hob rfl
      refine xd_abs fun G hG => ?_
      have N1430 : ∀ (a_ : Act) (w_ : World), (∃ o1422 : Nat → Nat, ∃ bx1423 : Nat, ∃ A1425 : Option Addr, ∃ c1426 : Nat, Kn 75 a_ [(1, .slice Ap1 (p1).length cp1), (5, .pointer (some ⟨bx18, 0, none⟩)), (6, .pointer (some ⟨bx39, 0, none⟩)), (41, .pointer (some ⟨bx1423, 0, none⟩)), (42, .agg #[.int .i64 x398, .slice A399 (l401).length c400])] ∧ St [] w oi w_ o1422 ∧ Ft (Bx bx1423 63 [.int .i64 t1338.most, .int .i64 t1338.now, mv A1425]) w_ o1422 169 ∧ MpN dT71 true A1425 t1338.l w_ o1422 168 1 ∧ Ft (Bx bx18 63 [.int .i64 x391, .int .i64 x392, mv A393]) w_ o1422 167 ∧ MpN dT71 true A393 l395 w_ o1422 166 1 ∧ Ft (Bx bx39 51 [.int .i64 x398, .slice A399 (l401).length c400]) w_ o1422 165 ∧ NRd dT87 A399 l401 w_ o1422 164 1 ∧ NRd dT29 Ap1 p1 w_ o1422 0 0 ∧ (t1338.l).length ≤ c1426) → G 3 #[true, true, true, false, false, false] a_ w_ := by
        rintro a w1429 ⟨o1422, bx1423, A1425, c1426, hk, hs, f1424, f1427, f19, f396, f40, f402, f900020, hc1428⟩
        refine xd_of hG ?_
        refine xd_op hk (i := 3) (by kernel_rfl) rfl rfl ?_
        refine op_alloc (o := o1422) tab (t := 51) (cs := [.int .i64 0, .slice none 0 0]) rfl rfl 170 fun bx1434 w1431 o1432 st1433 f1435 => ?_
        replace f1424 := f1424.st st1433 (by decide)
        replace f1427 := f1427.st st1433 (by decide)
        replace f19 := f19.st st1433 (by decide)
        replace f396 := f396.st st1433 (by decide)
        replace f40 := f40.st st1433 (by decide)
        replace f402 := f402.st st1433 (by decide)
        replace f900020 := f900020.st st1433 (by decide)
        replace hs := hs.locQ st1433 hob rfl
        have hk := hk.put 10 (.pointer (some ⟨bx1434, 0, none⟩)) rfl
        refine ⟨.inr ⟨f40.now, trivial⟩, ?_⟩
        refine xd_take tab hk (k := 1) (is := [4]) (ls' := #[true, true, true, true, true, false]) (lv := []) (ks := [1, 5, 6, 9, 10, 42]) (e' := [(1, .slice Ap1 (p1).length cp1), (5, .pointer (some ⟨bx18, 0, none⟩)), (6, .pointer (some ⟨bx39, 0, none⟩)), (9, .pointer (some ⟨bx1423, 0, none⟩)), (10, .pointer (some ⟨bx1434, 0, none⟩)), (42, .agg #[.int .i64 x398, .slice A399 (l401).length c400])]) (by kernel_rfl) rfl rfl (by kernel_rfl) (np_then (np_then np_body)) ⟨f40.now, trivial⟩ (fun W_ hS => trivial) fun a hk => ?_
        refine xd_op hk (i := 5) (by kernel_rfl) rfl rfl ?_
        refine op_store tab hk (t := 51) (v := .agg #[.int .i64 x398, .slice A399 (l401).length c400]) (b := bx1434) (k := 0) (cs' := [.int .i64 x398, .slice A399 (l401).length c400]) rfl rfl rfl rfl rfl rfl f1435 rfl rfl fun w1436 o1437 st1438 f1435_ => ?_
        replace f1424 := f1424.st st1438 (by decide)
        replace f1427 := f1427.st st1438 (by decide)
        replace f19 := f19.st st1438 (by decide)
        replace f396 := f396.st st1438 (by decide)
        replace f40 := f40.st st1438 (by decide)
        replace f402 := f402.st st1438 (by decide)
        replace f900020 := f900020.st st1438 (by decide)
        replace hs := hs.locQ st1438 hob rfl
        replace f1435 := f1435_
        refine ⟨.inl (by kernel_rfl), ?_⟩
        refine xd_done (by kernel_rfl) ?_
        refine then_n ?_
        exact ⟨(fun b_ => (fun l_ => if l_ = 164 then 64 else if l_ = 165 then 65 else if l_ = 166 then 62 else if l_ = 167 then 63 else if l_ = 168 then 66 else if l_ = 169 then 67 else if l_ = 170 then 68 else l_) (o1437 b_)), bx1423, t1338.most, t1338.now, A1425, c1426, t1338.l, bx1434, (by exact Kn.pick (ks := [1, 5, 6, 9, 10]) hk rfl), (hs.relabM hob (fun l_ => if l_ = 164 then 64 else if l_ = 165 then 65 else if l_ = 166 then 62 else if l_ = 167 then 63 else if l_ = 168 then 66 else if l_ = 169 then 67 else if l_ = 170 then 68 else l_) (by decide)), (f19.relab (fun l_ => if l_ = 164 then 64 else if l_ = 165 then 65 else if l_ = 166 then 62 else if l_ = 167 then 63 else if l_ = 168 then 66 else if l_ = 169 then 67 else if l_ = 170 then 68 else l_) rfl), (f396.relab (fun l_ => if l_ = 164 then 64 else if l_ = 165 then 65 else if l_ = 166 then 62 else if l_ = 167 then 63 else if l_ = 168 then 66 else if l_ = 169 then 67 else if l_ = 170 then 68 else l_) rfl), (f40.relab (fun l_ => if l_ = 164 then 64 else if l_ = 165 then 65 else if l_ = 166 then 62 else if l_ = 167 then 63 else if l_ = 168 then 66 else if l_ = 169 then 67 else if l_ = 170 then 68 else l_) rfl), (f402.relab (fun l_ => if l_ = 164 then 64 else if l_ = 165 then 65 else if l_ = 166 then 62 else if l_ = 167 then 63 else if l_ = 168 then 66 else if l_ = 169 then 67 else if l_ = 170 then 68 else l_) rfl), (f1424.relab (fun l_ => if l_ = 164 then 64 else if l_ = 165 then 65 else if l_ = 166 then 62 else if l_ = 167 then 63 else if l_ = 168 then 66 else if l_ = 169 then 67 else if l_ = 170 then 68 else l_) rfl), (f1427.relab (fun l_ => if l_ = 164 then 64 else if l_ = 165 then 65 else if l_ = 166 then 62 else if l_ = 167 then 63 else if l_ = 168 then 66 else if l_ = 169 then 67 else if l_ = 170 then 68 else l_) rfl), (f1435.relab (fun l_ => if l_ = 164 then 64 else if l_ = 165 then 65 else if l_ = 166 then 62 else if l_ = 167 then 63 else if l_ = 168 then 66 else if l_ = 169 then 67 else if l_ = 170 then 68 else l_) rfl), (f900020.relab (fun l_ => if l_ = 164 then 64 else if l_ = 165 then 65 else if l_ = 166 then 62 else if l_ = 167 then 63 else if l_ = 168 then 66 else if l_ = 169 then 67 else if l_ = 170 then 68 else l_) rfl), hc1428, H⟩
      have N1455 : ∀ (a_ : Act) (w_ : World), (∃ o1451 : Nat → Nat, ∃ bx1452 : Nat, Kn 75 a_ [(1, .slice Ap1 (p1).length cp1), (5, .pointer (some ⟨bx18, 0, none⟩)), (6, .pointer (some ⟨bx39, 0, none⟩)), (10, .pointer (some ⟨bx1452, 0, none⟩)), (40, .pointer (some ⟨bx18, 0, none⟩)), (42, .agg #[.int .i64 x398, .slice A399 (l401).length c400])] ∧ St [] w oi w_ o1451 ∧ Ft (Bx bx1452 51 [.int .i64 0, .slice none 0 0]) w_ o1451 176 ∧ Ft (Bx bx18 63 [.int .i64 x391, .int .i64 x392, mv A393]) w_ o1451 175 ∧ MpN dT71 true A393 l395 w_ o1451 174 1 ∧ Ft (Bx bx39 51 [.int .i64 x398, .slice A399 (l401).length c400]) w_ o1451 173 ∧ NRd dT87 A399 l401 w_ o1451 172 1 ∧ NRd dT29 Ap1 p1 w_ o1451 0 0) → G 3 #[true, false, true, true, false, false] a_ w_ := by
        rintro a w1454 ⟨o1451, bx1452, hk, hs, f1453, f19, f396, f40, f402, f900020⟩
        refine xd_of hG ?_
        refine xd_op hk (i := 1) (by kernel_rfl) rfl rfl ?_
        refine op_call hk ent_21 (vs := [.pointer (some ⟨bx18, 0, none⟩)]) rfl (cache_Cache_Clone_calls bx18 A393 c394 (⟨x391, x392, l395⟩ : T62) _ o1451 1 175 f19 _ f396 hc397 (by decide) (by decide) (by decide) 177 178  _ hc1339) ?_
        rintro _ w1459 ⟨o1460, bx1462, A1464, c1465, rfl, st1461, f1463, f1466, hc1467⟩
        replace f1453 := f1453.st st1461 (by decide)
        replace f19 := f19.st st1461 (by decide)
        replace f396 := f396.st st1461 (by decide)
        replace f40 := f40.st st1461 (by decide)
        replace f402 := f402.st st1461 (by decide)
        replace f900020 := f900020.st st1461 (by decide)
        replace hs := hs.locQ st1461 hob rfl
        have hk := hk.put 41 (.pointer (some ⟨bx1462, 0, none⟩)) rfl
        refine ⟨.inr ⟨f40.now, trivial⟩, ?_⟩
        refine xd_take tab hk (k := 1) (is := [4]) (ls' := #[true, true, true, true, true, false]) (lv := []) (ks := [1, 5, 6, 9, 10, 42]) (e' := [(1, .slice Ap1 (p1).length cp1), (5, .pointer (some ⟨bx18, 0, none⟩)), (6, .pointer (some ⟨bx39, 0, none⟩)), (9, .pointer (some ⟨bx1462, 0, none⟩)), (10, .pointer (some ⟨bx1452, 0, none⟩)), (42, .agg #[.int .i64 x398, .slice A399 (l401).length c400])]) (by kernel_rfl) rfl rfl (by kernel_rfl) (np_then (np_then np_body)) ⟨f40.now, trivial⟩ (fun W_ hS => trivial) fun a hk => ?_
        refine xd_op hk (i := 5) (by kernel_rfl) rfl rfl ?_
        refine op_store tab hk (t := 51) (v := .agg #[.int .i64 x398, .slice A399 (l401).length c400]) (b := bx1452) (k := 0) (cs' := [.int .i64 x398, .slice A399 (l401).length c400]) rfl rfl rfl rfl rfl rfl f1453 rfl rfl fun w1468 o1469 st1470 f1453_ => ?_
        replace f1463 := f1463.st st1470 (by decide)
        replace f1466 := f1466.st st1470 (by decide)
        replace f19 := f19.st st1470 (by decide)
        replace f396 := f396.st st1470 (by decide)
        replace f40 := f40.st st1470 (by decide)
        replace f402 := f402.st st1470 (by decide)
        replace f900020 := f900020.st st1470 (by decide)
        replace hs := hs.locQ st1470 hob rfl
        replace f1453 := f1453_
        refine ⟨.inl (by kernel_rfl), ?_⟩
        refine xd_done (by kernel_rfl) ?_
        refine then_n ?_
        exact ⟨(fun b_ => (fun l_ => if l_ = 172 then 64 else if l_ = 173 then 65 else if l_ = 174 then 62 else if l_ = 175 then 63 else if l_ = 176 then 68 else if l_ = 177 then 67 else if l_ = 178 then 66 else l_) (o1469 b_)), bx1462, t1338.most, t1338.now, A1464, c1465, t1338.l, bx1452, (by exact Kn.pick (ks := [1, 5, 6, 9, 10]) hk rfl), (hs.relabM hob (fun l_ => if l_ = 172 then 64 else if l_ = 173 then 65 else if l_ = 174 then 62 else if l_ = 175 then 63 else if l_ = 176 then 68 else if l_ = 177 then 67 else if l_ = 178 then 66 else l_) (by decide)), (f19.relab (fun l_ => if l_ = 172 then 64 else if l_ = 173 then 65 else if l_ = 174 then 62 else if l_ = 175 then 63 else if l_ = 176 then 68 else if l_ = 177 then 67 else if l_ = 178 then 66 else l_) rfl), (f396.relab (fun l_ => if l_ = 172 then 64 else if l_ = 173 then 65 else if l_ = 174 then 62 else if l_ = 175 then 63 else if l_ = 176 then 68 else if l_ = 177 then 67 else if l_ = 178 then 66 else l_) rfl), (f40.relab (fun l_ => if l_ = 172 then 64 else if l_ = 173 then 65 else if l_ = 174 then 62 else if l_ = 175 then 63 else if l_ = 176 then 68 else if l_ = 177 then 67 else if l_ = 178 then 66 else l_) rfl), (f402.relab (fun l_ => if l_ = 172 then 64 else if l_ = 173 then 65 else if l_ = 174 then 62 else if l_ = 175 then 63 else if l_ = 176 then 68 else if l_ = 177 then 67 else if l_ = 178 then 66 else l_) rfl), (f1463.relab (fun l_ => if l_ = 172 then 64 else if l_ = 173 then 65 else if l_ = 174 then 62 else if l_ = 175 then 63 else if l_ = 176 then 68 else if l_ = 177 then 67 else if l_ = 178 then 66 else l_) rfl), (f1466.relab (fun l_ => if l_ = 172 then 64 else if l_ = 173 then 65 else if l_ = 174 then 62 else if l_ = 175 then 63 else if l_ = 176 then 68 else if l_ = 177 then 67 else if l_ = 178 then 66 else l_) rfl), (f1453.relab (fun l_ => if l_ = 172 then 64 else if l_ = 173 then 65 else if l_ = 174 then 62 else if l_ = 175 then 63 else if l_ = 176 then 68 else if l_ = 177 then 67 else if l_ = 178 then 66 else l_) rfl), (f900020.relab (fun l_ => if l_ = 172 then 64 else if l_ = 173 then 65 else if l_ = 174 then 62 else if l_ = 175 then 63 else if l_ = 176 then 68 else if l_ = 177 then 67 else if l_ = 178 then 66 else l_) rfl), hc1467, H⟩
      refine xd_of hG ?_
      refine xd_take tab hk (k := 4) (is := [0, 2]) (ls' := #[true, false, true, false, false, false]) (lv := [.agg #[.int .i64 x398, .slice A399 (l401).length c400]]) (ks := [1, 5, 6, 40, 42]) (e' := [(1, .slice Ap1 (p1).length cp1), (5, .pointer (some ⟨bx18, 0, none⟩)), (6, .pointer (some ⟨bx39, 0, none⟩)), (40, .pointer (some ⟨bx18, 0, none⟩)), (42, .agg #[.int .i64 x398, .slice A399 (l401).length c400])]) (by kernel_rfl) rfl rfl (by kernel_rfl) (np_then (np_then np_body)) ⟨f40.now, trivial⟩ (fun W_ hS => ⟨(load_box tab rfl rfl hS.1 (k := 0) rfl rfl), trivial⟩) fun a hk => ?_
      refine xd_each [1, 3] (by kernel_rfl) rfl ⟨?_, ?_, trivial⟩
      · refine xd_one hk rfl rfl ?_
        refine op_call hk ent_21 (vs := [.pointer (some ⟨bx18, 0, none⟩)]) rfl (cache_Cache_Clone_calls bx18 A393 c394 (⟨x391, x392, l395⟩ : T62) _ o390 1 27 f19 _ f396 hc397 (by decide) (by decide) (by decide) 162 163  _ hc1339) ?_
        rintro _ w1402 ⟨o1403, bx1405, A1407, c1408, rfl, st1404, f1406, f1409, hc1410⟩
        replace f19 := f19.st st1404 (by decide)
        replace f396 := f396.st st1404 (by decide)
        replace f40 := f40.st st1404 (by decide)
        replace f402 := f402.st st1404 (by decide)
        replace f900020 := f900020.st st1404 (by decide)
        replace hs := hs.locQ st1404 hob rfl
        have hk := hk.put 41 (.pointer (some ⟨bx1405, 0, none⟩)) rfl
        refine ⟨.inr ⟨f40.now, trivial⟩, ?_⟩
        exact xd_to hG rfl (N1430 _ _ ⟨(fun b_ => (fun l_ => if l_ = 26 then 166 else if l_ = 27 then 167 else if l_ = 28 then 164 else if l_ = 29 then 165 else if l_ = 162 then 169 else if l_ = 163 then 168 else l_) (o1403 b_)), bx1405, A1407, c1408, (by exact Kn.pick (ks := [1, 5, 6, 41, 42]) hk rfl), (hs.relabM hob (fun l_ => if l_ = 26 then 166 else if l_ = 27 then 167 else if l_ = 28 then 164 else if l_ = 29 then 165 else if l_ = 162 then 169 else if l_ = 163 then 168 else l_) (by decide)), (f1406.relab (fun l_ => if l_ = 26 then 166 else if l_ = 27 then 167 else if l_ = 28 then 164 else if l_ = 29 then 165 else if l_ = 162 then 169 else if l_ = 163 then 168 else l_) rfl), (f1409.relab (fun l_ => if l_ = 26 then 166 else if l_ = 27 then 167 else if l_ = 28 then 164 else if l_ = 29 then 165 else if l_ = 162 then 169 else if l_ = 163 then 168 else l_) rfl), (f19.relab (fun l_ => if l_ = 26 then 166 else if l_ = 27 then 167 else if l_ = 28 then 164 else if l_ = 29 then 165 else if l_ = 162 then 169 else if l_ = 163 then 168 else l_) rfl), (f396.relab (fun l_ => if l_ = 26 then 166 else if l_ = 27 then 167 else if l_ = 28 then 164 else if l_ = 29 then 165 else if l_ = 162 then 169 else if l_ = 163 then 168 else l_) rfl), (f40.relab (fun l_ => if l_ = 26 then 166 else if l_ = 27 then 167 else if l_ = 28 then 164 else if l_ = 29 then 165 else if l_ = 162 then 169 else if l_ = 163 then 168 else l_) rfl), (f402.relab (fun l_ => if l_ = 26 then 166 else if l_ = 27 then 167 else if l_ = 28 then 164 else if l_ = 29 then 165 else if l_ = 162 then 169 else if l_ = 163 then 168 else l_) rfl), (f900020.relab (fun l_ => if l_ = 26 then 166 else if l_ = 27 then 167 else if l_ = 28 then 164 else if l_ = 29 then 165 else if l_ = 162 then 169 else if l_ = 163 then 168 else l_) rfl), hc1410⟩)
      · refine xd_one hk rfl rfl ?_
        refine op_alloc (o := o390) tab (t := 51) (cs := [.int .i64 0, .slice none 0 0]) rfl rfl 171 fun bx1442 w1439 o1440 st1441 f1443 => ?_
        replace f19 := f19.st st1441 (by decide)
        replace f396 := f396.st st1441 (by decide)
        replace f40 := f40.st st1441 (by decide)
        replace f402 := f402.st st1441 (by decide)
        replace f900020 := f900020.st st1441 (by decide)
        replace hs := hs.locQ st1441 hob rfl
        have hk := hk.put 10 (.pointer (some ⟨bx1442, 0, none⟩)) rfl
        refine ⟨.inr ⟨f40.now, trivial⟩, ?_⟩
        exact xd_to hG rfl (N1455 _ _ ⟨(fun b_ => (fun l_ => if l_ = 26 then 174 else if l_ = 27 then 175 else if l_ = 28 then 172 else if l_ = 29 then 173 else if l_ = 171 then 176 else l_) (o1440 b_)), bx1442, (by exact Kn.pick (ks := [1, 5, 6, 10, 40, 42]) hk rfl), (hs.relabM hob (fun l_ => if l_ = 26 then 174 else if l_ = 27 then 175 else if l_ = 28 then 172 else if l_ = 29 then 173 else if l_ = 171 then 176 else l_) (by decide)), (f1443.relab (fun l_ => if l_ = 26 then 174 else if l_ = 27 then 175 else if l_ = 28 then 172 else if l_ = 29 then 173 else if l_ = 171 then 176 else l_) rfl), (f19.relab (fun l_ => if l_ = 26 then 174 else if l_ = 27 then 175 else if l_ = 28 then 172 else if l_ = 29 then 173 else if l_ = 171 then 176 else l_) rfl), (f396.relab (fun l_ => if l_ = 26 then 174 else if l_ = 27 then 175 else if l_ = 28 then 172 else if l_ = 29 then 173 else if l_ = 171 then 176 else l_) rfl), (f40.relab (fun l_ => if l_ = 26 then 174 else if l_ = 27 then 175 else if l_ = 28 then 172 else if l_ = 29 then 173 else if l_ = 171 then 176 else l_) rfl), (f402.relab (fun l_ => if l_ = 26 then 174 else if l_ = 27 then 175 else if l_ = 28 then 172 else if l_ = 29 then 173 else if l_ = 171 then 176 else l_) rfl), (f900020.relab (fun l_ => if l_ = 26 then 174 else if l_ = 27 then 175 else if l_ = 28 then 172 else if l_ = 29 then 173 else if l_ = 171 then 176 else l_) rfl)⟩)
    refine x_seq ?_
    refine wpIn_region_lit ?_
    refine x_run tab hk (k := 1) (lv := []) (ks := [0, 1, 5, 6, 8]) (e' := [(0, .slice Ap0 (p0).length cp0), (1, .slice Ap1 (p1).length cp1), (5, .pointer (some ⟨bx18, 0, none⟩)), (6, .pointer (some ⟨bx39, 0, none⟩)), (8, .int .i64 0)]) rfl trivial fun a hk => ?_
    refine wpListIn_nil ?_
    refine then_n ?_
    refine wpIn_block ?_
    refine x_loop (fun j_ a_ w_ => ∃ o1576 : Nat → Nat, ∃ x1577 : Int, ∃ x1578 : Int, ∃ A1579 : Option Addr, ∃ c1580 : Nat, ∃ l1581 : M T71, ∃ x1584 : Int, ∃ A1585 : Option Addr, ∃ c1586 : Nat, ∃ l1587 : List T87, ∃ x1590 : Int, Kn 75 a_ [(0, .slice Ap0 (p0).length cp0), (1, .slice Ap1 (p1).length cp1), (5, .pointer (some ⟨bx18, 0, none⟩)), (6, .pointer (some ⟨bx39, 0, none⟩)), (8, .int .i64 x1590)] ∧ St [] w oi w_ o1576 ∧ MpN dT71 true A1579 l1581 w_ o1576 187 1 ∧ NRd dT87 A1585 l1587 w_ o1576 189 1 ∧ Ft (Bx bx18 63 [.int .i64 x1577, .int .i64 x1578, mv A1579]) w_ o1576 188 ∧ Ft (Bx bx39 51 [.int .i64 x1584, .slice A1585 (l1587).length c1586]) w_ o1576 190 ∧ NRd dT29 Ap0 p0 w_ o1576 0 0 ∧ NRd dT29 Ap1 p1 w_ o1576 0 0 ∧ (l1581).length ≤ c1580 ∧ (l1587).length ≤ c1586 ∧ tidewracklaw14_CacheClones_l6 K p0 p1 j_ x1577 x1578 l1581 x1584 l1587 x1590 = some r) (k := K) ⟨(fun b_ => (fun l_ => if l_ = 2 then 188 else if l_ = 3 then 187 else if l_ = 4 then 189 else if l_ = 5 then 190 else l_) (o42 b_)), t13.most, t13.now, A20, c21, t13.l, t27.Most, A32, c33, t27.L, 0, (by exact Kn.pick (ks := [0, 1, 5, 6, 8]) hk rfl), (hs.relabM hob (fun l_ => if l_ = 2 then 188 else if l_ = 3 then 187 else if l_ = 4 then 189 else if l_ = 5 then 190 else l_) (by decide)), (f22.relab (fun l_ => if l_ = 2 then 188 else if l_ = 3 then 187 else if l_ = 4 then 189 else if l_ = 5 then 190 else l_) rfl), (f34.rd.relab (fun l_ => if l_ = 2 then 188 else if l_ = 3 then 187 else if l_ = 4 then 189 else if l_ = 5 then 190 else l_) rfl), (f19.relab (fun l_ => if l_ = 2 then 188 else if l_ = 3 then 187 else if l_ = 4 then 189 else if l_ = 5 then 190 else l_) rfl), (f40.relab (fun l_ => if l_ = 2 then 188 else if l_ = 3 then 187 else if l_ = 4 then 189 else if l_ = 5 then 190 else l_) rfl), (f900000.relab (fun l_ => if l_ = 2 then 188 else if l_ = 3 then 187 else if l_ = 4 then 189 else if l_ = 5 then 190 else l_) rfl), (f900020.relab (fun l_ => if l_ = 2 then 188 else if l_ = 3 then 187 else if l_ = 4 then 189 else if l_ = 5 then 190 else l_) rfl), hc23, hc35, H⟩ (by rintro _ _ ⟨_, _, _, _, _, _, _, _, _, _, _, _, _, _, _, _, _, _, _, _, _, H_⟩; exact absurd (show (none : Option Bool) = some r from H_) (by simp)) ?_
    rintro k1694 a w1693 ⟨o1576, x1577, x1578, A1579, c1580, l1581, x1584, A1585, c1586, l1587, x1590, hk, hs, f1582, f1588, f19, f40, f900000, f900020, hc1583, hc1589, H⟩
    rw [tidewracklaw14_CacheClones_l6] at H
    obtain ⟨lp1695, hlp1696⟩ : ∃ lp_, lp_ = tidewracklaw14_CacheClones_l6 K p0 p1 k1694 := ⟨_, rfl⟩
    rw [← hlp1696] at H
    refine x_mid (fun a_ w_ => ∃ o1702 : Nat → Nat, Kn 75 a_ [(0, .slice Ap0 (p0).length cp0), (1, .slice Ap1 (p1).length cp1), (5, .pointer (some ⟨bx18, 0, none⟩)), (6, .pointer (some ⟨bx39, 0, none⟩)), (8, .int .i64 x1590)] ∧ St [] w oi w_ o1702 ∧ MpN dT71 true A1579 l1581 w_ o1702 195 1 ∧ NRd dT87 A1585 l1587 w_ o1702 197 1 ∧ Ft (Bx bx18 63 [.int .i64 x1577, .int .i64 x1578, mv A1579]) w_ o1702 196 ∧ Ft (Bx bx39 51 [.int .i64 x1584, .slice A1585 (l1587).length c1586]) w_ o1702 198 ∧ NRd dT29 Ap0 p0 w_ o1702 0 0 ∧ NRd dT29 Ap1 p1 w_ o1702 0 0 ∧ tidewracklaw14_CacheClones_j7 K p0 x1577 x1578 l1581 x1584 l1587 x1590 lp1695 = some r) ?_ ?_
    rotate_left
    · rintro a w1703 ⟨o1702, hk, hs, f1582, f1588, f19, f40, f900000, f900020, H⟩
      rw [tidewracklaw14_CacheClones_j7] at H
      refine x_seq ?_
      refine wpIn_block ?_
      refine x_seq ?_
      obtain ⟨q1731, H⟩ := ifS H
      obtain ⟨ad1732, hAad1732⟩ := NRd.addr f900000 q1731
      have hk_C := hk
      have f1582_C := f1582
      have f1588_C := f1588
      have f19_C := f19
      have f40_C := f40
      have f900000_C := f900000
      have f900020_C := f900020
      subst hAad1732
      have hk := hk_C
      clear hk_C
      have f1582 := f1582_C
      clear f1582_C
      have f1588 := f1588_C
      clear f1588_C
      have f19 := f19_C
      clear f19_C
      have f40 := f40_C
      clear f40_C
      have f900000 := f900000_C
      clear f900000_C
      have f900020 := f900020_C
      clear f900020_C
      obtain ⟨A1733, c1734, f1735, f1736, hc1737⟩ := elT29 f900000 (i := x1590) q1731
      obtain ⟨t1741, hc1742, H⟩ := bindS H
      refine xd_begin (o := o1702) (fun W_ => (fun W => CellsAt (ad1732.add (Int.toNat x1590 * 3)) [.int .i64 ((rdD zT29 p0 x1590).Kind), .int .i64 ((rdD zT29 p0 x1590).I), .slice A1733 ((rdD zT29 p0 x1590).L).length c1734] W) W_ ∧ True) mixed rfl rfl fun w1776 st1777 => ?_
      replace f1582 := f1582.st st1777 (by decide)
      replace f1588 := f1588.st st1777 (by decide)
      replace f1735 := f1735.st st1777 (by decide)
      replace f1736 := f1736.st st1777 (by decide)
      replace f19 := f19.st st1777 (by decide)
      replace f40 := f40.st st1777 (by decide)
      replace f900000 := f900000.st st1777 (by decide)
      replace f900020 := f900020.st st1777 (by decide)
      replace hs := hs.locQ st1777 hob rfl
      refine xd_take tab hk (k := 7) (is := [0, 2, 3, 4, 5]) (ls' := #[true, false, true, true, true, true, false, false, false, false, false, false]) (lv := [.agg #[.int .i64 ((rdD zT29 p0 x1590).Kind), .int .i64 ((rdD zT29 p0 x1590).I), .slice A1733 ((rdD zT29 p0 x1590).L).length c1734]]) (ks := [0, 1, 5, 6, 8, 29, 34]) (e' := [(0, .slice (some ad1732) (p0).length cp0), (1, .slice Ap1 (p1).length cp1), (5, .pointer (some ⟨bx18, 0, none⟩)), (6, .pointer (some ⟨bx39, 0, none⟩)), (8, .int .i64 x1590), (29, .pointer (some ⟨bx18, 0, none⟩)), (34, .agg #[.int .i64 ((rdD zT29 p0 x1590).Kind), .int .i64 ((rdD zT29 p0 x1590).I), .slice A1733 ((rdD zT29 p0 x1590).L).length c1734])]) (by kernel_rfl) rfl rfl (by kernel_rfl) (np_then (np_blk (np_then (np_then (np_blk (np_then np_body)))))) ⟨f1735.now, trivial⟩ (fun W_ hS => ⟨q1731, (CellsAt.all hS.1 tab rfl rfl rfl), trivial⟩) fun a hk => ?_
      refine xd_op hk (i := 1) (by kernel_rfl) rfl rfl ?_
      refine op_quiet tab hk (lv := [.agg #[.int .i64 x1584, .slice A1585 (l1587).length c1586]]) (v := .agg #[.int .i64 x1584, .slice A1585 (l1587).length c1586]) rfl ⟨(load_box tab rfl rfl f40.now (k := 0) rfl rfl), trivial⟩ ?_
      have hk := hk.put 30 (.agg #[.int .i64 x1584, .slice A1585 (l1587).length c1586]) rfl
      refine ⟨.inr ⟨f1735.now, trivial⟩, ?_⟩
      refine xd_op hk (i := 6) (by kernel_rfl) rfl rfl ?_
      refine op_call hk ent_19 (vs := [.pointer (some ⟨bx18, 0, none⟩), .agg #[.int .i64 x1584, .slice A1585 (l1587).length c1586], .agg #[.int .i64 ((rdD zT29 p0 x1590).Kind), .int .i64 ((rdD zT29 p0 x1590).I), .slice A1733 ((rdD zT29 p0 x1590).L).length c1734]]) rfl (tidewracklaw14_do_calls K bx18 A1579 c1580 (⟨x1577, x1578, l1581⟩ : T62) A1585 c1586 (⟨x1584, l1587⟩ : T50) A1733 c1734 (rdD zT29 p0 x1590) _ o1702 1 196 f19 195 f1582 hc1583 197 f1588 hc1589 _ f1736 hc1737 (by decide) (by decide)   _ hc1742) ?_
      rintro _ w1781 ⟨o1782, A1784, c1785, A1789, c1790, rfl, st1783, f1786, hc1787, f1788, f1791, hc1792⟩
      replace f1588 := f1588.st st1783 (by decide)
      replace f1735 := f1735.st st1783 (by decide)
      replace f1736 := f1736.st st1783 (by decide)
      replace f40 := f40.st st1783 (by decide)
      replace f900000 := f900000.st st1783 (by decide)
      replace f900020 := f900020.st st1783 (by decide)
      replace hs := hs.locQ st1783 hob rfl
      have hk := hk.put 35 (.tuple #[.agg #[.int .i64 t1741.1.Most, .slice A1784 (t1741.1.L).length c1785], .bool t1741.2.1]) rfl
      refine ⟨.inr ⟨f1735.now, trivial⟩, ?_⟩
      refine xd_take tab hk (k := 2) (is := [7, 8, 9]) (ls' := #[true, true, true, true, true, true, true, true, true, true, false, false]) (lv := []) (ks := [0, 1, 5, 6, 8, 36, 37]) (e' := [(0, .slice (some ad1732) (p0).length cp0), (1, .slice Ap1 (p1).length cp1), (5, .pointer (some ⟨bx18, 0, none⟩)), (6, .pointer (some ⟨bx39, 0, none⟩)), (8, .int .i64 x1590), (36, .agg #[.int .i64 t1741.1.Most, .slice A1784 (t1741.1.L).length c1785]), (37, .bool t1741.2.1)]) (by kernel_rfl) rfl rfl (by kernel_rfl) (np_then (np_blk (np_then (np_then (np_blk (np_then np_body)))))) ⟨f1735.now, trivial⟩ (fun W_ hS => trivial) fun a hk => ?_
      refine xd_op hk (i := 10) (by kernel_rfl) rfl rfl ?_
      refine op_store tab hk (t := 51) (v := .agg #[.int .i64 t1741.1.Most, .slice A1784 (t1741.1.L).length c1785]) (b := bx39) (k := 0) (cs' := [.int .i64 t1741.1.Most, .slice A1784 (t1741.1.L).length c1785]) rfl rfl rfl rfl rfl rfl f40 rfl rfl fun w1793 o1794 st1795 f40_ => ?_
      replace f1588 := f1588.st st1795 (by decide)
      replace f1735 := f1735.st st1795 (by decide)
      replace f1736 := f1736.st st1795 (by decide)
      replace f1786 := f1786.st st1795 (by decide)
      replace f1788 := f1788.st st1795 (by decide)
      replace f1791 := f1791.st st1795 (by decide)
      replace f900000 := f900000.st st1795 (by decide)
      replace f900020 := f900020.st st1795 (by decide)
      replace hs := hs.locQ st1795 hob rfl
      replace f40 := f40_
      refine ⟨.inr ⟨f1735.now, trivial⟩, ?_⟩
      refine xd_take tab hk (k := 0) (is := [11]) (ls' := #[true, true, true, true, true, true, true, true, true, true, true, true]) (lv := []) (ks := [0, 1, 5, 6, 7, 8]) (e' := [(0, .slice (some ad1732) (p0).length cp0), (1, .slice Ap1 (p1).length cp1), (5, .pointer (some ⟨bx18, 0, none⟩)), (6, .pointer (some ⟨bx39, 0, none⟩)), (7, .bool t1741.2.1), (8, .int .i64 x1590)]) (by kernel_rfl) rfl rfl (by kernel_rfl) (np_then (np_blk (np_then (np_then (np_blk (np_then np_body)))))) ⟨f1735.now, trivial⟩ (fun W_ hS => trivial) fun a hk => ?_
      refine xd_done (by kernel_rfl) ?_
      refine then_n ?_
      refine x_seq ?_
      refine wpIn_region_lit ?_
      refine x_run tab hk (k := 2) (lv := []) (ks := [0, 1, 5, 6, 8, 39]) (e' := [(0, .slice (some ad1732) (p0).length cp0), (1, .slice Ap1 (p1).length cp1), (5, .pointer (some ⟨bx18, 0, none⟩)), (6, .pointer (some ⟨bx39, 0, none⟩)), (8, .int .i64 x1590), (39, .bool (!t1741.2.1))]) rfl trivial fun a hk => ?_
      refine wpListIn_nil ?_
      refine then_n ?_
      cases b1796 : (!t1741.2.1)
      · rw [b1796] at hk H
        replace H := bifF H
        refine x_if hk (b := false) rfl ?_
        refine (show Code.wpIn _ _ _ _ _ _ _ from ?_)
        refine wpIn_skip ?_
        refine blk_n ?_
        refine then_n ?_
        refine wpIn_region_lit ?_
        refine x_run tab hk (k := 3) (lv := []) (ks := [0, 1, 5, 6, 8]) (e' := [(0, .slice (some ad1732) (p0).length cp0), (1, .slice Ap1 (p1).length cp1), (5, .pointer (some ⟨bx18, 0, none⟩)), (6, .pointer (some ⟨bx39, 0, none⟩)), (8, .int .i64 (IntKind.wrap .i64 (x1590 + 1)))]) rfl trivial fun a hk => ?_
        refine wpListIn_nil ?_
        refine then_n ?_
        exact ⟨k1694, Nat.le_refl _, (fun b_ => (fun l_ => if l_ = 195 then 187 else if l_ = 196 then 188 else if l_ = 197 then 189 else if l_ = 198 then 190 else l_) (o1794 b_)), t1741.2.2.most, t1741.2.2.now, A1789, c1790, t1741.2.2.l, t1741.1.Most, A1784, c1785, t1741.1.L, (IntKind.wrap .i64 (x1590 + 1)), (by exact Kn.pick (ks := [0, 1, 5, 6, 8]) hk rfl), (hs.relabM hob (fun l_ => if l_ = 195 then 187 else if l_ = 196 then 188 else if l_ = 197 then 189 else if l_ = 198 then 190 else l_) (by decide)), (f1791.relab (fun l_ => if l_ = 195 then 187 else if l_ = 196 then 188 else if l_ = 197 then 189 else if l_ = 198 then 190 else l_) rfl), (f1786.relab (fun l_ => if l_ = 195 then 187 else if l_ = 196 then 188 else if l_ = 197 then 189 else if l_ = 198 then 190 else l_) rfl), (f1788.relab (fun l_ => if l_ = 195 then 187 else if l_ = 196 then 188 else if l_ = 197 then 189 else if l_ = 198 then 190 else l_) rfl), (f40.relab (fun l_ => if l_ = 195 then 187 else if l_ = 196 then 188 else if l_ = 197 then 189 else if l_ = 198 then 190 else l_) rfl), (f900000.relab (fun l_ => if l_ = 195 then 187 else if l_ = 196 then 188 else if l_ = 197 then 189 else if l_ = 198 then 190 else l_) rfl), (f900020.relab (fun l_ => if l_ = 195 then 187 else if l_ = 196 then 188 else if l_ = 197 then 189 else if l_ = 198 then 190 else l_) rfl), hc1792, hc1787, (hlp1696 ▸ H)⟩
      · rw [b1796] at hk H
        replace H := bifT H
        refine x_if hk (b := true) rfl ?_
        refine (show Code.wpIn _ _ _ _ _ _ _ from ?_)
        refine x_seq ?_
        refine wpIn_region_lit ?_
        refine x_run tab hk (k := 1) (lv := []) (ks := [4]) (e' := [(4, .bool false)]) rfl trivial fun a hk => ?_
        refine wpListIn_nil ?_
        refine then_n ?_
        refine wpIn_ret ?_
        refine blk_r ?_
        refine then_r ?_
        refine then_r ?_
        refine blk_r ?_
        refine then_r ?_
        obtain rfl := Option.some.inj H
        exact x_retG hk (rs := [.tmp 4]) (vs := [.bool false]) rfl ⟨rfl, trivial⟩ ⟨cl w oi o [] (fun l_ => if l_ = 1 then LF else 0) o1794, rfl, hs.closeF (Lm := []) (Sh := []) hoa rfl (fun l_ => if l_ = 1 then LF else 0)⟩
    refine x_seq ?_
    refine wpIn_region_lit ?_
    refine x_run tab hk (k := 5) (lv := []) (ks := [0, 1, 5, 6, 8, 22]) (e' := [(0, .slice Ap0 (p0).length cp0), (1, .slice Ap1 (p1).length cp1), (5, .pointer (some ⟨bx18, 0, none⟩)), (6, .pointer (some ⟨bx39, 0, none⟩)), (8, .int .i64 x1590), (22, .bool (decide (x1590 < ((p0).length : Int))))]) rfl trivial fun a hk => ?_
    cases b1797 : (decide (x1590 < ((p0).length : Int)))
    · rw [b1797] at hk H
      replace H := bifF H
      refine x_run tab hk (k := 3) (lv := []) (ks := [0, 1, 5, 6, 8, 25]) (e' := [(0, .slice Ap0 (p0).length cp0), (1, .slice Ap1 (p1).length cp1), (5, .pointer (some ⟨bx18, 0, none⟩)), (6, .pointer (some ⟨bx39, 0, none⟩)), (8, .int .i64 x1590), (25, .bool false)]) rfl trivial fun a hk => ?_
      refine wpListIn_nil ?_
      refine then_n ?_
      refine x_if hk (b := false) rfl ?_
      refine (show Code.wpIn _ _ _ _ _ _ _ from ?_)
      refine wpIn_exit ?_
      refine then_x ?_
      refine then_x ?_
      refine blk_x ?_
      refine then_n ?_
      exact ⟨(fun b_ => (fun l_ => if l_ = 187 then 26 else if l_ = 188 then 27 else if l_ = 189 then 28 else if l_ = 190 then 29 else l_) (o1576 b_)), x1577, x1578, A1579, c1580, l1581, x1584, A1585, c1586, l1587, (by exact Kn.pick (ks := [1, 5, 6]) hk rfl), (hs.relabM hob (fun l_ => if l_ = 187 then 26 else if l_ = 188 then 27 else if l_ = 189 then 28 else if l_ = 190 then 29 else l_) (by decide)), (f19.relab (fun l_ => if l_ = 187 then 26 else if l_ = 188 then 27 else if l_ = 189 then 28 else if l_ = 190 then 29 else l_) rfl), (f1582.relab (fun l_ => if l_ = 187 then 26 else if l_ = 188 then 27 else if l_ = 189 then 28 else if l_ = 190 then 29 else l_) rfl), (f40.relab (fun l_ => if l_ = 187 then 26 else if l_ = 188 then 27 else if l_ = 189 then 28 else if l_ = 190 then 29 else l_) rfl), (f1588.relab (fun l_ => if l_ = 187 then 26 else if l_ = 188 then 27 else if l_ = 189 then 28 else if l_ = 190 then 29 else l_) rfl), (f900020.relab (fun l_ => if l_ = 187 then 26 else if l_ = 188 then 27 else if l_ = 189 then 28 else if l_ = 190 then 29 else l_) rfl), hc1583, hc1589, H⟩
    · rw [b1797] at hk H
      replace H := bifT H
      refine x_run tab hk (k := 3) (lv := []) (ks := [0, 1, 5, 6, 8, 25]) (e' := [(0, .slice Ap0 (p0).length cp0), (1, .slice Ap1 (p1).length cp1), (5, .pointer (some ⟨bx18, 0, none⟩)), (6, .pointer (some ⟨bx39, 0, none⟩)), (8, .int .i64 x1590), (25, .bool (decide (x1590 < (20 : Int))))]) rfl trivial fun a hk => ?_
      refine wpListIn_nil ?_
      refine then_n ?_
      cases b1798 : (decide (x1590 < (20 : Int)))
      · rw [b1798] at hk H
        replace H := bifF H
        refine x_if hk (b := false) rfl ?_
        refine (show Code.wpIn _ _ _ _ _ _ _ from ?_)
        refine wpIn_exit ?_
        refine then_x ?_
        refine then_x ?_
        refine blk_x ?_
        refine then_n ?_
        exact ⟨(fun b_ => (fun l_ => if l_ = 187 then 26 else if l_ = 188 then 27 else if l_ = 189 then 28 else if l_ = 190 then 29 else l_) (o1576 b_)), x1577, x1578, A1579, c1580, l1581, x1584, A1585, c1586, l1587, (by exact Kn.pick (ks := [1, 5, 6]) hk rfl), (hs.relabM hob (fun l_ => if l_ = 187 then 26 else if l_ = 188 then 27 else if l_ = 189 then 28 else if l_ = 190 then 29 else l_) (by decide)), (f19.relab (fun l_ => if l_ = 187 then 26 else if l_ = 188 then 27 else if l_ = 189 then 28 else if l_ = 190 then 29 else l_) rfl), (f1582.relab (fun l_ => if l_ = 187 then 26 else if l_ = 188 then 27 else if l_ = 189 then 28 else if l_ = 190 then 29 else l_) rfl), (f40.relab (fun l_ => if l_ = 187 then 26 else if l_ = 188 then 27 else if l_ = 189 then 28 else if l_ = 190 then 29 else l_) rfl), (f1588.relab (fun l_ => if l_ = 187 then 26 else if l_ = 188 then 27 else if l_ = 189 then 28 else if l_ = 190 then 29 else l_) rfl), (f900020.relab (fun l_ => if l_ = 187 then 26 else if l_ = 188 then 27 else if l_ = 189 then 28 else if l_ = 190 then 29 else l_) rfl), hc1583, hc1589, H⟩
      · rw [b1798] at hk H
        replace H := bifT H
        refine x_if hk (b := true) rfl ?_
        refine (show Code.wpIn _ _ _ _ _ _ _ from ?_)
        refine wpIn_skip ?_
        refine then_n ?_
        exact ⟨(fun b_ => (fun l_ => if l_ = 187 then 195 else if l_ = 188 then 196 else if l_ = 189 then 197 else if l_ = 190 then 198 else l_) (o1576 b_)), (by exact Kn.pick (ks := [0, 1, 5, 6, 8]) hk rfl), (hs.relabM hob (fun l_ => if l_ = 187 then 195 else if l_ = 188 then 196 else if l_ = 189 then 197 else if l_ = 190 then 198 else l_) (by decide)), (f1582.relab (fun l_ => if l_ = 187 then 195 else if l_ = 188 then 196 else if l_ = 189 then 197 else if l_ = 190 then 198 else l_) rfl), (f1588.relab (fun l_ => if l_ = 187 then 195 else if l_ = 188 then 196 else if l_ = 189 then 197 else if l_ = 190 then 198 else l_) rfl), (f19.relab (fun l_ => if l_ = 187 then 195 else if l_ = 188 then 196 else if l_ = 189 then 197 else if l_ = 190 then 198 else l_) rfl), (f40.relab (fun l_ => if l_ = 187 then 195 else if l_ = 188 then 196 else if l_ = 189 then 197 else if l_ = 190 then 198 else l_) rfl), (f900000.relab (fun l_ => if l_ = 187 then 195 else if l_ = 188 then 196 else if l_ = 189 then 197 else if l_ = 190 then 198 else l_) rfl), (f900020.relab (fun l_ => if l_ = 187 then 195 else if l_ = 188 then 196 else if l_ = 189 then 197 else if l_ = 190 then 198 else l_) rfl), H⟩
  · rw [b9] at hk H
    replace H := bifT H
    refine x_if hk (b := true) rfl ?_
    refine (show Code.wpIn _ _ _ _ _ _ _ from ?_)
    refine x_seq ?_
    refine wpIn_region_lit ?_
    refine x_run tab hk (k := 1) (lv := []) (ks := [4]) (e' := [(4, .bool false)]) rfl trivial fun a hk => ?_
    refine wpListIn_nil ?_
    refine then_n ?_
    refine wpIn_ret ?_
    refine then_r ?_
    obtain rfl := Option.some.inj H
    exact x_retG hk (rs := [.tmp 4]) (vs := [.bool false]) rfl ⟨rfl, trivial⟩ ⟨cl w oi o [] (fun l_ => if l_ = 1 then LF else 0) o7, rfl, hs.closeF (Lm := []) (Sh := []) hoa rfl (fun l_ => if l_ = 1 then LF else 0)⟩

end Go.Proofs.Ythmlldkmgdjeoaa
