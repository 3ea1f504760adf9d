/- Walks, printed by an own program: the machine's calls compute the plain functions. -/
import Derived.Test.YtbmkbpdgmbdoeaaDoorW0
set_option linter.unusedVariables false
set_option linter.unusedSimpArgs false
namespace Go.Proofs.YtbmkbpdgmbdoeaaDoor
open Go Go.Proofs.XC
/-! tidewrack/wide.in -/
theorem wide_in_calls (K : Nat) (Ap0 : Option Addr) (cp0 : Nat) (p0 : List T36) (p1 : Int) (w : World) (o : Nat → Nat) (Lp0 : Nat) (hp0 : Ft (RdC ET36 Ap0 p0) w o Lp0) (hcp0 : (p0).length ≤ cp0)  (r : Bool) (H : wide_in K p0 p1 = some r) :
    Calls Tryd.prog 12 #[.slice Ap0 (p0).length cp0, .int .i32 p1] w (Ret fun v_ w' => ∃ o' : Nat → Nat, v_ = .bool r ∧ St [] w o w' o') := by
  refine x_enter (vs := [.slice Ap0 (p0).length cp0, .int .i32 p1]) Tryd.func12 rfl rfl rfl fun a hk => ?_
  obtain ⟨o0, hs, h0⟩ := St.start w o
  have f900 := h0 _ _ hp0
  clear h0
  rw [wide_in] at H
  refine x_seq ?_
  refine wpIn_region_lit ?_
  refine x_run tab hk (k := 1) (lv := []) (ks := [0, 1]) (e' := [(0, .slice Ap0 (p0).length cp0), (1, .int .i32 p1)]) rfl trivial fun a hk => ?_
  refine wpListIn_nil ?_
  refine then_n ?_
  refine x_seq ?_
  refine wpIn_region_lit ?_
  refine x_run tab hk (k := 4) (lv := []) (ks := [0, 1, 5, 6]) (e' := [(0, .slice Ap0 (p0).length cp0), (1, .int .i32 p1), (5, .int .i64 0), (6, .int .i64 ((p0).length : Int))]) rfl trivial fun a hk => ?_
  refine wpListIn_nil ?_
  refine then_n ?_
  refine x_mid (fun a_ w_ => ∃ o29 : Nat → Nat, ∃ x30 : Int, Kn 40 a_ [(0, .slice Ap0 (p0).length cp0), (1, .int .i32 p1), (5, .int .i64 x30)] ∧ St [] w (fun _ => 0) w_ o29 ∧ Ft (RdC ET36 Ap0 p0) w_ o29 0 ∧ wide_in_j1 p0 p1 x30 = some r) ?_ ?_
  rotate_left
  · rintro a w31 ⟨o29, x30, hk, hs, f900, H⟩
    rw [wide_in_j1] at H
    refine x_seq ?_
    refine wpIn_region_lit ?_
    refine x_run tab hk (k := 5) (lv := []) (ks := [0, 1, 5, 31]) (e' := [(0, .slice Ap0 (p0).length cp0), (1, .int .i32 p1), (5, .int .i64 x30), (31, .bool (decide (x30 < ((p0).length : Int))))]) rfl trivial fun a hk => ?_
    cases b32 : (decide (x30 < ((p0).length : Int)))
    · rw [b32] at hk H
      replace H := bifF H
      refine x_run tab hk (k := 9) (lv := []) (ks := [4]) (e' := [(4, .bool false)]) rfl trivial fun a hk => ?_
      refine wpListIn_nil ?_
      refine then_n ?_
      refine wpIn_ret ?_
      obtain rfl := Option.some.inj H
      exact x_retG hk (rs := [.tmp 4]) (vs := [.bool false]) rfl ⟨rfl, trivial⟩ ⟨fun b_ => if b_ < w.heap.size then o b_ else (fun _ => 0) (o29 b_), rfl, hs.close0 o (fun _ => 0)⟩
    · rw [b32] at hk H
      replace H := bifT H
      obtain ⟨q33, H⟩ := ifS H
      obtain ⟨ad34, hAad34⟩ := RdC.addr f900.now q33
      have hk_C := hk
      have f900_C := f900
      subst hAad34
      have hk := hk_C
      clear hk_C
      have f900 := f900_C
      clear f900_C
      refine x_run tab hk (k := 9) (lv := [.int .i32 ((rdD zT36 p0 x30).from_)]) (ks := [4]) (e' := [(4, .bool (decide (((rdD zT36 p0 x30).from_) ≤ p1)))]) rfl ⟨q33, (load1 tab rfl (RdC.at (E := ET36) (d := zT36) (i := x30) (j := 0) f900.now q33 rfl)), trivial⟩ fun a hk => ?_
      refine wpListIn_nil ?_
      refine then_n ?_
      refine wpIn_ret ?_
      obtain rfl := Option.some.inj H
      exact x_retG hk (rs := [.tmp 4]) (vs := [.bool (decide (((rdD zT36 p0 x30).from_) ≤ p1))]) rfl ⟨rfl, trivial⟩ ⟨fun b_ => if b_ < w.heap.size then o b_ else (fun _ => 0) (o29 b_), rfl, hs.close0 o (fun _ => 0)⟩
  refine wpIn_block ?_
  refine x_loop (fun j_ a_ w_ => ∃ o42 : Nat → Nat, ∃ x43 : Int, ∃ x44 : Int, Kn 40 a_ [(0, .slice Ap0 (p0).length cp0), (1, .int .i32 p1), (5, .int .i64 x43), (6, .int .i64 x44)] ∧ St [] w (fun _ => 0) w_ o42 ∧ Ft (RdC ET36 Ap0 p0) w_ o42 0 ∧ wide_in_l2 p0 p1 j_ x43 x44 = some r) (k := K) ⟨o0, 0, ((p0).length : Int), (by exact Kn.pick (ks := [0, 1, 5, 6]) hk rfl), hs, f900, H⟩ (by rintro _ _ ⟨_, _, _, _, _, _, H_⟩; exact absurd (show (none : Option Bool) = some r from H_) (by simp)) ?_
  rintro k50 a w49 ⟨o42, x43, x44, hk, hs, f900, H⟩
  rw [wide_in_l2] at H
  obtain ⟨lp51, hlp52⟩ : ∃ lp_, lp_ = wide_in_l2 p0 p1 k50 := ⟨_, rfl⟩
  rw [← hlp52] at H
  refine x_seq ?_
  refine x_seq ?_
  refine wpIn_region_lit ?_
  refine x_run tab hk (k := 3) (lv := []) (ks := [0, 1, 5, 6, 12]) (e' := [(0, .slice Ap0 (p0).length cp0), (1, .int .i32 p1), (5, .int .i64 x43), (6, .int .i64 x44), (12, .bool (decide (x43 < x44)))]) rfl trivial fun a hk => ?_
  refine wpListIn_nil ?_
  refine then_n ?_
  cases b53 : (decide (x43 < x44))
  · rw [b53] at hk H
    replace H := bifF H
    refine x_if hk (b := false) rfl ?_
    refine (show Code.wpIn _ _ _ _ _ _ _ from ?_)
    refine wpIn_exit ?_
    refine then_x ?_
    refine then_x ?_
    refine blk_x ?_
    refine then_n ?_
    exact ⟨o42, x43, (by exact Kn.pick (ks := [0, 1, 5]) hk rfl), hs, f900, H⟩
  · rw [b53] at hk H
    replace H := bifT H
    refine x_if hk (b := true) rfl ?_
    refine (show Code.wpIn _ _ _ _ _ _ _ from ?_)
    refine wpIn_skip ?_
    refine then_n ?_
    refine wpIn_block ?_
    refine x_seq ?_
    refine wpIn_region_lit ?_
    refine x_run tab hk (k := 5) (lv := []) (ks := [0, 1, 5, 6, 7]) (e' := [(0, .slice Ap0 (p0).length cp0), (1, .int .i32 p1), (5, .int .i64 x43), (6, .int .i64 x44), (7, .int .i64 (IntKind.wrap .i64 (Int.tdiv (IntKind.wrap .i64 (x43 + x44)) 2)))]) rfl ⟨(show (2 : Int) ≠ 0 from by decide), trivial⟩ fun a hk => ?_
    refine wpListIn_nil ?_
    refine then_n ?_
    refine x_seq ?_
    refine wpIn_region_lit ?_
    obtain ⟨q54, H⟩ := ifS H
    obtain ⟨ad55, hAad55⟩ := RdC.addr f900.now q54
    have hk_C := hk
    have f900_C := f900
    subst hAad55
    have hk := hk_C
    clear hk_C
    have f900 := f900_C
    clear f900_C
    refine x_run tab hk (k := 7) (lv := [.int .i32 ((rdD zT36 p0 (IntKind.wrap .i64 (Int.tdiv (IntKind.wrap .i64 (x43 + x44)) 2))).to)]) (ks := [0, 1, 5, 6, 7, 23]) (e' := [(0, .slice (some ad55) (p0).length cp0), (1, .int .i32 p1), (5, .int .i64 x43), (6, .int .i64 x44), (7, .int .i64 (IntKind.wrap .i64 (Int.tdiv (IntKind.wrap .i64 (x43 + x44)) 2))), (23, .bool (decide (((rdD zT36 p0 (IntKind.wrap .i64 (Int.tdiv (IntKind.wrap .i64 (x43 + x44)) 2))).to) < p1)))]) rfl ⟨q54, (load1 tab rfl (RdC.at (E := ET36) (d := zT36) (i := (IntKind.wrap .i64 (Int.tdiv (IntKind.wrap .i64 (x43 + x44)) 2))) (j := 1) f900.now q54 rfl)), trivial⟩ fun a hk => ?_
    refine wpListIn_nil ?_
    refine then_n ?_
    cases b56 : (decide (((rdD zT36 p0 (IntKind.wrap .i64 (Int.tdiv (IntKind.wrap .i64 (x43 + x44)) 2))).to) < p1))
    · rw [b56] at hk H
      replace H := bifF H
      refine x_if hk (b := false) rfl ?_
      refine (show Code.wpIn _ _ _ _ _ _ _ from ?_)
      refine wpIn_region_lit ?_
      refine x_run tab hk (k := 2) (lv := []) (ks := [0, 1, 5, 6]) (e' := [(0, .slice (some ad55) (p0).length cp0), (1, .int .i32 p1), (5, .int .i64 x43), (6, .int .i64 (IntKind.wrap .i64 (Int.tdiv (IntKind.wrap .i64 (x43 + x44)) 2)))]) rfl trivial fun a hk => ?_
      refine wpListIn_nil ?_
      refine blk_n ?_
      refine then_n ?_
      exact ⟨k50, Nat.le_refl _, o42, x43, (IntKind.wrap .i64 (Int.tdiv (IntKind.wrap .i64 (x43 + x44)) 2)), (by exact Kn.pick (ks := [0, 1, 5, 6]) hk rfl), hs, f900, (hlp52 ▸ H)⟩
    · rw [b56] at hk H
      replace H := bifT H
      refine x_if hk (b := true) rfl ?_
      refine (show Code.wpIn _ _ _ _ _ _ _ from ?_)
      refine wpIn_region_lit ?_
      refine x_run tab hk (k := 3) (lv := []) (ks := [0, 1, 5, 6]) (e' := [(0, .slice (some ad55) (p0).length cp0), (1, .int .i32 p1), (5, .int .i64 (IntKind.wrap .i64 ((IntKind.wrap .i64 (Int.tdiv (IntKind.wrap .i64 (x43 + x44)) 2)) + 1))), (6, .int .i64 x44)]) rfl trivial fun a hk => ?_
      refine wpListIn_nil ?_
      refine blk_n ?_
      refine then_n ?_
      exact ⟨k50, Nat.le_refl _, o42, (IntKind.wrap .i64 ((IntKind.wrap .i64 (Int.tdiv (IntKind.wrap .i64 (x43 + x44)) 2)) + 1)), x44, (by exact Kn.pick (ks := [0, 1, 5, 6]) hk rfl), hs, f900, (hlp52 ▸ H)⟩

/-! tidewrack/wide.Of -/
theorem wide_Of_calls (K : Nat) (p0 : Int) (w : World) (o : Nat → Nat) (Lg0 : Nat) (hg0 : Ft (RdC ET36 (some ⟨0, 0, none⟩) glob0) w o Lg0) (Lg1 : Nat) (hg1 : Ft (RdC ET36 (some ⟨1, 0, none⟩) glob1) w o Lg1)   (r : Int) (H : wide_Of K p0 = some r) :
    Calls Tryd.prog 8 #[.int .i32 p0] w (Ret fun v_ w' => ∃ o' : Nat → Nat, v_ = .int .i64 r ∧ St [] w o w' o') := by
  refine x_enter (vs := [.int .i32 p0]) Tryd.func8 rfl rfl rfl fun a hk => ?_
  obtain ⟨o0, hs, h0⟩ := St.start w o
  have fg0 := h0 _ _ hg0
  have fg1 := h0 _ _ hg1
  clear h0
  rw [wide_Of] at H
  refine x_seq ?_
  refine wpIn_region_lit ?_
  refine x_run tab hk (k := 1) (lv := []) (ks := [0]) (e' := [(0, .int .i32 p0)]) rfl trivial fun a hk => ?_
  refine wpListIn_nil ?_
  refine then_n ?_
  refine x_seq ?_
  refine wpIn_block ?_
  refine x_seq ?_
  refine wpIn_region_lit ?_
  refine x_run tab hk (k := 2) (lv := [.slice (some ⟨0, 0, none⟩) (glob0).length 13]) (ks := [0, 4, 5]) (e' := [(0, .int .i32 p0), (4, .slice (some ⟨0, 0, none⟩) (glob0).length 13), (5, .int .i32 p0)]) rfl ⟨(ask_whole tab rfl rfl rfl), trivial⟩ fun a hk => ?_
  refine x_op hk rfl ?_
  obtain ⟨t4, hc5, H⟩ := bindS H
  refine op_call hk ent_12 (vs := [.slice (some ⟨0, 0, none⟩) (glob0).length 13, .int .i32 p0]) rfl (wide_in_calls K (some ⟨0, 0, none⟩) 13 glob0 p0 _ o0 _ fg0 (by decide)   _ hc5) ?_
  rintro _ w6 ⟨o7, rfl, st8⟩
  replace fg0 := fg0.st st8 (by decide)
  replace fg1 := fg1.st st8 (by decide)
  replace hs := hs.loc0 st8 (by decide)
  have hk := hk.put 6 (.bool t4) rfl
  refine x_run tab hk (k := 1) (lv := []) (ks := [0, 3]) (e' := [(0, .int .i32 p0), (3, .bool t4)]) rfl trivial fun a hk => ?_
  refine wpListIn_nil ?_
  refine then_n ?_
  cases b9 : t4
  · rw [b9] at hk H
    replace H := bifF H
    refine x_if hk (b := false) rfl ?_
    refine (show Code.wpIn _ _ _ _ _ _ _ from ?_)
    refine x_seq ?_
    refine wpIn_region_lit ?_
    refine x_run tab hk (k := 2) (lv := [.slice (some ⟨1, 0, none⟩) (glob1).length 14]) (ks := [8, 9]) (e' := [(8, .slice (some ⟨1, 0, none⟩) (glob1).length 14), (9, .int .i32 p0)]) rfl ⟨(ask_whole tab rfl rfl rfl), trivial⟩ fun a hk => ?_
    refine x_op hk rfl ?_
    obtain ⟨t13, hc14, H⟩ := bindS H
    refine op_call hk ent_12 (vs := [.slice (some ⟨1, 0, none⟩) (glob1).length 14, .int .i32 p0]) rfl (wide_in_calls K (some ⟨1, 0, none⟩) 14 glob1 p0 _ o7 _ fg1 (by decide)   _ hc14) ?_
    rintro _ w15 ⟨o16, rfl, st17⟩
    replace fg0 := fg0.st st17 (by decide)
    replace fg1 := fg1.st st17 (by decide)
    replace hs := hs.loc0 st17 (by decide)
    have hk := hk.put 10 (.bool t13) rfl
    refine x_run tab hk (k := 1) (lv := []) (ks := [7]) (e' := [(7, .bool t13)]) rfl trivial fun a hk => ?_
    refine wpListIn_nil ?_
    refine then_n ?_
    cases b18 : t13
    · rw [b18] at hk H
      replace H := bifF H
      refine x_if hk (b := false) rfl ?_
      refine (show Code.wpIn _ _ _ _ _ _ _ from ?_)
      refine wpIn_skip ?_
      refine blk_n ?_
      refine then_n ?_
      refine x_seq ?_
      refine wpIn_region_lit ?_
      refine x_run tab hk (k := 1) (lv := []) (ks := [2]) (e' := [(2, .int .i64 1)]) rfl trivial fun a hk => ?_
      refine wpListIn_nil ?_
      refine then_n ?_
      refine wpIn_ret ?_
      obtain rfl := Option.some.inj H
      exact x_retG hk (rs := [.tmp 2]) (vs := [.int .i64 1]) rfl ⟨rfl, trivial⟩ ⟨fun b_ => if b_ < w.heap.size then o b_ else (fun _ => 0) (o16 b_), rfl, hs.close0 o (fun _ => 0)⟩
    · rw [b18] at hk H
      replace H := bifT H
      refine x_if hk (b := true) rfl ?_
      refine (show Code.wpIn _ _ _ _ _ _ _ from ?_)
      refine x_seq ?_
      refine wpIn_region_lit ?_
      refine x_run tab hk (k := 1) (lv := []) (ks := [2]) (e' := [(2, .int .i64 2)]) rfl trivial fun a hk => ?_
      refine wpListIn_nil ?_
      refine then_n ?_
      refine wpIn_ret ?_
      refine blk_r ?_
      refine then_r ?_
      obtain rfl := Option.some.inj H
      exact x_retG hk (rs := [.tmp 2]) (vs := [.int .i64 2]) rfl ⟨rfl, trivial⟩ ⟨fun b_ => if b_ < w.heap.size then o b_ else (fun _ => 0) (o16 b_), rfl, hs.close0 o (fun _ => 0)⟩
  · rw [b9] at hk H
    replace H := bifT H
    refine x_if hk (b := true) rfl ?_
    refine (show Code.wpIn _ _ _ _ _ _ _ from ?_)
    refine x_seq ?_
    refine wpIn_region_lit ?_
    refine x_run tab hk (k := 1) (lv := []) (ks := [2]) (e' := [(2, .int .i64 0)]) rfl trivial fun a hk => ?_
    refine wpListIn_nil ?_
    refine then_n ?_
    refine wpIn_ret ?_
    refine blk_r ?_
    refine then_r ?_
    obtain rfl := Option.some.inj H
    exact x_retG hk (rs := [.tmp 2]) (vs := [.int .i64 0]) rfl ⟨rfl, trivial⟩ ⟨fun b_ => if b_ < w.heap.size then o b_ else (fun _ => 0) (o7 b_), rfl, hs.close0 o (fun _ => 0)⟩

/-! tidewrack/wide.columns$1 -/
theorem wide_columns_1_iter (K : Nat) (bp1 : Nat) (Ap1_0 : Option Addr) (cp1_0 : Nat) (p1 : List Int) (w : World) (o : Nat → Nat) (Lg0 : Nat) (hg0 : Ft (RdC ET36 (some ⟨0, 0, none⟩) glob0) w o Lg0) (Lg1 : Nat) (hg1 : Ft (RdC ET36 (some ⟨1, 0, none⟩) glob1) w o Lg1) (Lp1 : Nat) (hp1 : Ft (Bx bp1 22 [.slice Ap1_0 (p1).length cp1_0]) w o Lp1) (Lp1_0 : Nat) (hp1_0 : Ft (RdC (encInt .i32) Ap1_0 p1) w o Lp1_0) (hcp1_0 : (p1).length ≤ cp1_0) (hd0 : ([] : List Nat).Nodup) (hd1 : Lg0 ∉ ([] : List Nat)) (hd2 : Lg1 ∉ ([] : List Nat)) (hd3 : Lp1_0 ∉ ([] : List Nat)) (hd4 : Lp1 ∉ ([] : List Nat)) (r : List (Int × Int)) (H : wide_columns_1 K p1 = some r) :
    IterC Tryd.prog 14 [] [.pointer (some ⟨bp1, 0, none⟩)] (fun (x_ : Int × Int) vs_ _ => vs_ = [.int .i64 x_.1, .int .i64 x_.2]) none r w o [] [Lg0, Lg1, Lp1, Lp1_0] := by
  refine iter_start hd0 (fun _ h_ => by cases h_) fun l_ JJ XX Res w1 oi h1 h2 h3 hJ hX hRl hY hE0 hE1 hs => ?_
  refine x_enter (vs := [.func (.yield l_) #[] #[], .pointer (some ⟨bp1, 0, none⟩)]) Tryd.func14 rfl rfl rfl fun a hk => ?_
  have fg0 := h3 2 hg0 (by simp) hd1 (by simp) rfl
  have fg1 := h3 2 hg1 (by simp) hd2 (by simp) rfl
  have f920 := h3 2 hp1_0 (by simp) hd3 (by simp) rfl
  have f939 := h3 2 hp1 (by simp) hd4 (by simp) rfl
  clear h1 h2 h3
  rw [wide_columns_1] at H
  refine x_seq ?_
  refine wpIn_region_lit ?_
  refine x_run tab hk (k := 1) (lv := []) (ks := [0, 1, 3]) (e' := [(0, .func (.yield l_) #[] #[]), (1, .pointer (some ⟨bp1, 0, none⟩)), (3, .int .i64 0)]) rfl trivial fun a hk => ?_
  refine wpListIn_nil ?_
  refine then_n ?_
  refine x_seq ?_
  refine wpIn_region_lit ?_
  refine x_run tab hk (k := 3) (lv := [.slice Ap1_0 (p1).length cp1_0]) (ks := [0, 3, 6, 7, 8]) (e' := [(0, .func (.yield l_) #[] #[]), (3, .int .i64 0), (6, .slice Ap1_0 (p1).length cp1_0), (7, .int .i64 ((p1).length : Int)), (8, .int .i64 0)]) rfl ⟨(load1 tab rfl ((Bx.cell f939.now 0).trans rfl)), trivial⟩ fun a hk => ?_
  refine wpListIn_nil ?_
  refine then_n ?_
  refine wpIn_block ?_
  refine x_loop (fun j_ a_ w_ => ∃ o22 : Nat → Nat, ∃ r23 : List (Int × Int), ∃ x24 : Int, ∃ x25 : Int, Kn 23 a_ [(0, .func (.yield l_) #[] #[]), (3, .int .i64 x24), (6, .slice Ap1_0 (p1).length cp1_0), (7, .int .i64 ((p1).length : Int)), (8, .int .i64 x25)] ∧ JJ r23 w_ o22 ∧ Ft (RdC (encInt .i32) Ap1_0 p1) w_ o22 2 ∧ Ft (Bx bp1 22 [.slice Ap1_0 (p1).length cp1_0]) w_ o22 2 ∧ Ft (RdC ET36 (some ⟨0, 0, none⟩) glob0) w_ o22 2 ∧ Ft (RdC ET36 (some ⟨1, 0, none⟩) glob1) w_ o22 2 ∧ wide_columns_1_l1 K p1 j_ x24 x25 = some r23) (k := K) ⟨oi, r, 0, 0, (by exact Kn.pick (ks := [0, 3, 6, 7, 8]) hk rfl), hs, f920, f939, fg0, fg1, H⟩ (by rintro _ _ ⟨_, _, _, _, _, _, _, _, _, _, H_⟩; exact absurd (show (none : Option (List (Int × Int))) = some _ from H_) (by simp)) ?_
  rintro k44 a w43 ⟨o22, r23, x24, x25, hk, hs, f920, f939, fg0, fg1, H⟩
  rw [wide_columns_1_l1] at H
  obtain ⟨lp45, hlp46⟩ : ∃ lp_, lp_ = wide_columns_1_l1 K p1 k44 := ⟨_, rfl⟩
  rw [← hlp46] at H
  refine x_seq ?_
  refine wpIn_region_lit ?_
  refine x_run tab hk (k := 1) (lv := []) (ks := [0, 3, 6, 7, 8, 9]) (e' := [(0, .func (.yield l_) #[] #[]), (3, .int .i64 x24), (6, .slice Ap1_0 (p1).length cp1_0), (7, .int .i64 ((p1).length : Int)), (8, .int .i64 x25), (9, .bool (decide (x25 < ((p1).length : Int))))]) rfl trivial fun a hk => ?_
  refine wpListIn_nil ?_
  refine then_n ?_
  refine x_seq ?_
  cases b47 : (decide (x25 < ((p1).length : Int)))
  · rw [b47] at hk H
    replace H := bifF H
    refine x_if hk (b := false) rfl ?_
    refine (show Code.wpIn _ _ _ _ _ _ _ from ?_)
    refine wpIn_exit ?_
    refine then_x ?_
    refine then_x ?_
    refine blk_x ?_
    obtain rfl := Option.some.inj H
    exact x_endG hk (rs := []) (vs := []) rfl trivial (hE0 hs)
  · rw [b47] at hk H
    replace H := bifT H
    refine x_if hk (b := true) rfl ?_
    refine (show Code.wpIn _ _ _ _ _ _ _ from ?_)
    refine wpIn_skip ?_
    refine then_n ?_
    refine x_seq ?_
    refine wpIn_block ?_
    refine x_seq ?_
    refine wpIn_region_lit ?_
    obtain ⟨q48, H⟩ := ifS H
    obtain ⟨ad49, hAad49⟩ := RdC.addr f920.now q48
    have hk_C := hk
    have f920_C := f920
    have f939_C := f939
    have fg0_C := fg0
    have fg1_C := fg1
    subst hAad49
    have hk := hk_C
    clear hk_C
    have f920 := f920_C
    clear f920_C
    have f939 := f939_C
    clear f939_C
    have fg0 := fg0_C
    clear fg0_C
    have fg1 := fg1_C
    clear fg1_C
    refine x_run tab hk (k := 5) (lv := [.int .i32 (rdD 0 p1 x25)]) (ks := [0, 3, 4, 5, 6, 7, 8]) (e' := [(0, .func (.yield l_) #[] #[]), (3, .int .i64 x24), (4, .int .i64 x25), (5, .int .i32 (rdD 0 p1 x25)), (6, .slice (some ad49) (p1).length cp1_0), (7, .int .i64 ((p1).length : Int)), (8, .int .i64 x25)]) rfl ⟨q48, (load1 tab rfl (RdC.at0 (E := (encInt .i32)) (d := 0) (i := x25) f920.now q48 rfl)), trivial⟩ fun a hk => ?_
    refine wpListIn_nil ?_
    refine then_n ?_
    refine x_seq ?_
    refine wpIn_region_lit ?_
    refine x_run tab hk (k := 2) (lv := []) (ks := [0, 4, 6, 7, 8, 13, 14]) (e' := [(0, .func (.yield l_) #[] #[]), (4, .int .i64 x25), (6, .slice (some ad49) (p1).length cp1_0), (7, .int .i64 ((p1).length : Int)), (8, .int .i64 x25), (13, .int .i64 x24), (14, .int .i32 (rdD 0 p1 x25))]) rfl trivial fun a hk => ?_
    refine x_op hk rfl ?_
    obtain ⟨t53, hc54, H⟩ := bindS H
    refine op_call hk ent_8 (vs := [.int .i32 (rdD 0 p1 x25)]) rfl (wide_Of_calls K (rdD 0 p1 x25) _ o22 2 fg0 2 fg1   _ hc54) ?_
    rintro _ w55 ⟨o56, rfl, st57⟩
    replace f920 := f920.st st57 (by decide)
    replace f939 := f939.st st57 (by decide)
    replace fg0 := fg0.st st57 (by decide)
    replace fg1 := fg1.st st57 (by decide)
    replace hs := hJ hs st57 rfl
    have hk := hk.put 15 (.int .i64 t53) rfl
    refine x_run tab hk (k := 2) (lv := []) (ks := [0, 3, 4, 6, 7, 8]) (e' := [(0, .func (.yield l_) #[] #[]), (3, .int .i64 (IntKind.wrap .i64 (x24 + t53))), (4, .int .i64 x25), (6, .slice (some ad49) (p1).length cp1_0), (7, .int .i64 ((p1).length : Int)), (8, .int .i64 x25)]) rfl trivial fun a hk => ?_
    refine wpListIn_nil ?_
    refine then_n ?_
    refine x_seq ?_
    refine wpIn_region_lit ?_
    refine x_run tab hk (k := 3) (lv := []) (ks := [0, 3, 6, 7, 8, 17, 18, 19]) (e' := [(0, .func (.yield l_) #[] #[]), (3, .int .i64 (IntKind.wrap .i64 (x24 + t53))), (6, .slice (some ad49) (p1).length cp1_0), (7, .int .i64 ((p1).length : Int)), (8, .int .i64 x25), (17, .func (.yield l_) #[] #[]), (18, .int .i64 x25), (19, .int .i64 (IntKind.wrap .i64 (x24 + t53)))]) rfl trivial fun a hk => ?_
    refine x_op hk rfl ?_
    obtain ⟨r58, hr59, H⟩ := consS H
    rw [hr59] at hs
    refine op_yield hk rfl (vs := [.int .i64 x25, .int .i64 (IntKind.wrap .i64 (x24 + t53))]) rfl (hY hs (fun _ => rfl)) ?_
    rintro b60 w61 ⟨o62, st63, ht_, hf_⟩
    replace f920 := f920.st st63 (by decide)
    replace f939 := f939.st st63 (by decide)
    replace fg0 := fg0.st st63 (by decide)
    replace fg1 := fg1.st st63 (by decide)
    cases b60
    · have hs := hf_ rfl
      have hk := hk.put 20 (.bool false) rfl
      refine x_run tab hk (k := 1) (lv := []) (ks := [0, 3, 6, 7, 8, 21]) (e' := [(0, .func (.yield l_) #[] #[]), (3, .int .i64 (IntKind.wrap .i64 (x24 + t53))), (6, .slice (some ad49) (p1).length cp1_0), (7, .int .i64 ((p1).length : Int)), (8, .int .i64 x25), (21, .bool true)]) rfl trivial fun a hk => ?_
      refine wpListIn_nil ?_
      refine then_n ?_
      refine x_if hk (b := true) rfl ?_
      refine (show Code.wpIn _ _ _ _ _ _ _ from ?_)
      refine wpIn_ret ?_
      refine blk_r ?_
      refine then_r ?_
      refine then_r ?_
      refine blk_r ?_
      exact x_retG hk (rs := []) (vs := []) rfl trivial (hE1 hs)
    · have hs := ht_ rfl
      have hk := hk.put 20 (.bool true) rfl
      refine x_run tab hk (k := 1) (lv := []) (ks := [0, 3, 6, 7, 8, 21]) (e' := [(0, .func (.yield l_) #[] #[]), (3, .int .i64 (IntKind.wrap .i64 (x24 + t53))), (6, .slice (some ad49) (p1).length cp1_0), (7, .int .i64 ((p1).length : Int)), (8, .int .i64 x25), (21, .bool false)]) rfl trivial fun a hk => ?_
      refine wpListIn_nil ?_
      refine then_n ?_
      refine x_if hk (b := false) rfl ?_
      refine (show Code.wpIn _ _ _ _ _ _ _ from ?_)
      refine wpIn_skip ?_
      refine blk_n ?_
      refine then_n ?_
      refine wpIn_region_lit ?_
      refine x_run tab hk (k := 2) (lv := []) (ks := [0, 3, 6, 7, 8]) (e' := [(0, .func (.yield l_) #[] #[]), (3, .int .i64 (IntKind.wrap .i64 (x24 + t53))), (6, .slice (some ad49) (p1).length cp1_0), (7, .int .i64 ((p1).length : Int)), (8, .int .i64 (IntKind.wrap .i64 (x25 + 1)))]) rfl trivial fun a hk => ?_
      refine wpListIn_nil ?_
      refine then_n ?_
      exact ⟨k44, Nat.le_refl _, o62, r58, (IntKind.wrap .i64 (x24 + t53)), (IntKind.wrap .i64 (x25 + 1)), (by exact Kn.pick (ks := [0, 3, 6, 7, 8]) hk rfl), hs, f920, f939, fg0, fg1, (hlp46 ▸ H)⟩

/-! tidewrack/wide.columns -/
theorem wide_columns_calls (Ap0 : Option Addr) (cp0 : Nat) (p0 : List Int) (w : World) (o : Nat → Nat) (Lg0 : Nat) (hg0 : Ft (RdC ET36 (some ⟨0, 0, none⟩) glob0) w o Lg0) (Lg1 : Nat) (hg1 : Ft (RdC ET36 (some ⟨1, 0, none⟩) glob1) w o Lg1) (Lp0 : Nat) (hp0 : Ft (RdC (encInt .i32) Ap0 p0) w o Lp0) (hcp0 : (p0).length ≤ cp0)  (R0 : Nat) (r : Unit) (H : wide_columns p0 = some r) :
    Calls Tryd.prog 13 #[.slice Ap0 (p0).length cp0] w (Ret fun v_ w' => ∃ o' : Nat → Nat, ∃ b0 : Nat, v_ = .func (.func 14) #[] #[.pointer (some ⟨b0, 0, none⟩)] ∧ St [] w o w' o' ∧ Ft (Bx b0 22 [.slice Ap0 (p0).length cp0]) w' o' R0) := by
  refine x_enter (vs := [.slice Ap0 (p0).length cp0]) Tryd.func13 rfl rfl rfl fun a hk => ?_
  obtain ⟨o0, hs, h0⟩ := St.start w o
  have fg0 := h0 _ _ hg0
  have fg1 := h0 _ _ hg1
  have f900 := h0 _ _ hp0
  clear h0
  rw [wide_columns] at H
  refine x_seq ?_
  refine wpIn_region_lit ?_
  refine x_op hk rfl ?_
  refine op_box (o := o0) (t := 22) (v := .slice Ap0 (p0).length cp0) (cs := [.slice Ap0 (p0).length cp0]) hk rfl rfl 1 fun bx4 w1 o2 st3 f5 => ?_
  replace f900 := f900.st st3 (by decide)
  replace fg0 := fg0.st st3 (by decide)
  replace fg1 := fg1.st st3 (by decide)
  replace hs := hs.loc0 st3 (by decide)
  have hk := hk.put 1 (.pointer (some ⟨bx4, 0, none⟩)) rfl
  refine x_run tab hk (k := 1) (lv := []) (ks := [1]) (e' := [(1, .pointer (some ⟨bx4, 0, none⟩))]) rfl trivial fun a hk => ?_
  refine wpListIn_nil ?_
  refine then_n ?_
  refine x_seq ?_
  refine wpIn_region_lit ?_
  refine x_run tab hk (k := 2) (lv := []) (ks := [2]) (e' := [(2, .func (.func 14) #[] #[.pointer (some ⟨bx4, 0, none⟩)])]) rfl trivial fun a hk => ?_
  refine wpListIn_nil ?_
  refine then_n ?_
  refine wpIn_ret ?_
  obtain rfl := Option.some.inj H
  exact x_retG hk (rs := [.tmp 2]) (vs := [.func (.func 14) #[] #[.pointer (some ⟨bx4, 0, none⟩)]]) rfl ⟨rfl, trivial⟩ ⟨fun b_ => if b_ < w.heap.size then o b_ else (fun _ => R0) (o2 b_), bx4, rfl, hs.close0 o (fun _ => R0), hs.close_ft (o := o) (ρ := fun _ => R0) f5 (by decide) rfl⟩

/-! tidewrack/wide.Fit -/
theorem wide_Fit_calls (K : Nat) (p0 : Int) (Ap1 : Option Addr) (cp1 : Nat) (p1 : List Int) (w : World) (o : Nat → Nat) (Lg0 : Nat) (hg0 : Ft (RdC ET36 (some ⟨0, 0, none⟩) glob0) w o Lg0) (Lg1 : Nat) (hg1 : Ft (RdC ET36 (some ⟨1, 0, none⟩) glob1) w o Lg1) (Lp1 : Nat) (hp1 : Ft (RdC (encInt .i32) Ap1 p1) w o Lp1) (hcp1 : (p1).length ≤ cp1)  (r : Int) (H : wide_Fit K p0 p1 = some r) :
    Calls Tryd.prog 9 #[.int .i64 p0, .slice Ap1 (p1).length cp1] w (Ret fun v_ w' => ∃ o' : Nat → Nat, v_ = .int .i64 r ∧ St [] w o w' o') := by
  refine x_enterQ (vs := [.int .i64 p0, .slice Ap1 (p1).length cp1]) Tryd.func9 rfl rfl rfl fun a hk => ?_
  obtain ⟨o0, hs, h0⟩ := St.start w o
  have fg0 := h0 _ _ hg0
  have fg1 := h0 _ _ hg1
  have f920 := h0 _ _ hp1
  have fxm : Ft (MK []) w o0 1 := Ft.of_all (fun _ => MK.nil _) _ _ _
  clear h0
  rw [wide_Fit] at H
  refine x_seq ?_
  refine wpIn_region_lit ?_
  refine x_op hk rfl ?_
  refine op_box (o := o0) (t := 3) (v := .int .i64 p0) (cs := [.int .i64 p0]) hk rfl rfl 2 fun bx4 w1 o2 st3 f5 => ?_
  replace f920 := f920.st st3 (by decide)
  replace fg0 := fg0.st st3 (by decide)
  replace fg1 := fg1.st st3 (by decide)
  replace fxm := fxm.st st3 (by decide)
  replace hs := hs.loc0 st3 (by decide)
  have hk := hk.put 2 (.pointer (some ⟨bx4, 0, none⟩)) rfl
  refine x_run tab hk (k := 1) (lv := []) (ks := [1, 2]) (e' := [(1, .slice Ap1 (p1).length cp1), (2, .pointer (some ⟨bx4, 0, none⟩))]) rfl trivial fun a hk => ?_
  refine wpListIn_nil ?_
  refine then_n ?_
  refine x_seq ?_
  refine wpIn_region_lit ?_
  refine x_op hk rfl ?_
  refine op_alloc (o := o2) tab (t := 3) (cs := [.int .i64 0]) rfl rfl 3 fun bx9 w6 o7 st8 f10 => ?_
  replace f5 := f5.st st8 (by decide)
  replace f920 := f920.st st8 (by decide)
  replace fg0 := fg0.st st8 (by decide)
  replace fg1 := fg1.st st8 (by decide)
  replace fxm := fxm.st st8 (by decide)
  replace hs := hs.loc0 st8 (by decide)
  have hk := hk.put 5 (.pointer (some ⟨bx9, 0, none⟩)) rfl
  refine x_op hk rfl ?_
  refine op_store tab hk (t := 3) (v := .int .i64 0) (b := bx9) (k := 0) (cs' := [.int .i64 0]) rfl rfl rfl rfl rfl rfl f10 rfl rfl fun w11 o12 st13 f10_ => ?_
  replace f5 := f5.st st13 (by decide)
  replace f920 := f920.st st13 (by decide)
  replace fg0 := fg0.st st13 (by decide)
  replace fg1 := fg1.st st13 (by decide)
  replace fxm := fxm.st st13 (by decide)
  replace hs := hs.loc0 st13 (by decide)
  replace f10 := f10_
  refine wpListIn_nil ?_
  refine then_n ?_
  refine x_mid (fun a_ w_ => ∃ o81 : Nat → Nat, ∃ ds82 : List Deferred, ∃ x83 : Int, KnD 18 ds82 a_ [(5, .pointer (some ⟨bx9, 0, none⟩))] ∧ St [] w (fun _ => 0) w_ o81 ∧ Ft (Bx bx9 3 [.int .i64 x83]) w_ o81 7 ∧ Ft (RdC ET36 (some ⟨0, 0, none⟩) glob0) w_ o81 0 ∧ Ft (RdC ET36 (some ⟨1, 0, none⟩) glob1) w_ o81 0 ∧ Ft (MK ds82) w_ o81 1 ∧ wide_Fit_j1 x83 = some r) ?_ ?_
  rotate_left
  · rintro a w84 ⟨o81, ds82, x83, hk, hs, f10, fg0, fg1, fxm, H⟩
    rw [wide_Fit_j1] at H
    refine x_seq ?_
    refine wpIn_region_lit ?_
    refine x_run tab hk (k := 2) (lv := [.int .i64 x83]) (ks := [4]) (e' := [(4, .int .i64 x83)]) rfl ⟨(load1 tab rfl ((Bx.cell f10.now 0).trans rfl)), trivial⟩ fun a hk => ?_
    refine wpListIn_nil ?_
    refine then_n ?_
    refine wpIn_ret ?_
    refine x_retQ hk fxm fun w85 a st86 hk => ?_
    replace fg0 := fg0.st st86 (by decide)
    replace fg1 := fg1.st st86 (by decide)
    replace hs := hs.loc0 st86 (by decide)
    obtain rfl := Option.some.inj H
    exact x_retG hk (rs := [.tmp 4]) (vs := [.int .i64 x83]) rfl ⟨rfl, trivial⟩ ⟨fun b_ => if b_ < w.heap.size then o b_ else (fun _ => 0) (o81 b_), rfl, hs.close0 o (fun _ => 0)⟩
  refine x_seq ?_
  refine wpIn_region_lit ?_
  refine x_run tab hk (k := 1) (lv := []) (ks := [2, 5, 8]) (e' := [(2, .pointer (some ⟨bx4, 0, none⟩)), (5, .pointer (some ⟨bx9, 0, none⟩)), (8, .slice Ap1 (p1).length cp1)]) rfl trivial fun a hk => ?_
  refine x_op hk rfl ?_
  obtain ⟨t90, hc91, H⟩ := bindS H
  refine op_call hk ent_13 (vs := [.slice Ap1 (p1).length cp1]) rfl (wide_columns_calls Ap1 cp1 p1 _ o12 0 fg0 0 fg1 _ f920 hcp1 8  _ hc91) ?_
  rintro _ w92 ⟨o93, bx95, rfl, st94, f96⟩
  replace f10 := f10.st st94 (by decide)
  replace f5 := f5.st st94 (by decide)
  replace f920 := f920.st st94 (by decide)
  replace fg0 := fg0.st st94 (by decide)
  replace fg1 := fg1.st st94 (by decide)
  replace fxm := fxm.st st94 (by decide)
  replace hs := hs.loc0 st94 (by decide)
  have hk := hk.put 9 (.func (.func 14) #[] #[.pointer (some ⟨bx95, 0, none⟩)]) rfl
  refine wpListIn_nil ?_
  refine then_n ?_
  refine wpIn_block ?_
  obtain ⟨ys97, hy98, H⟩ := bindS H
  refine x_range 1 9 10 [3] hk rfl ent_14 (wide_columns_1_iter K bx95 Ap1 cp1 p1 _ _ 0 fg0 0 fg1 8 f96 0 f920 hcp1 (by decide) (by decide) (by decide) (by decide) (by decide) _ hy98) fxm (fun _ _ _ h_ => by subst h_; rfl) rfl rfl (fun rr_ w_ o119 => ∃ x120 : Int, St [] w (fun _ => 0) w_ o119 ∧ Ft (Bx bx9 3 [.int .i64 x120]) w_ o119 3 ∧ Ft (Bx bx4 3 [.int .i64 p0]) w_ o119 2 ∧ Ft (RdC ET36 (some ⟨0, 0, none⟩) glob0) w_ o119 0 ∧ Ft (RdC ET36 (some ⟨1, 0, none⟩) glob1) w_ o119 0 ∧ wide_Fit_r2 p0 rr_ x120 = some r) (fun c_ w_ o127 => (c_ = .exit 0 ∧ ∃ x137 : Int, St [] w (fun _ => 0) w_ o127 ∧ Ft (Bx bx9 3 [.int .i64 x137]) w_ o127 3 ∧ Ft (RdC ET36 (some ⟨0, 0, none⟩) glob0) w_ o127 0 ∧ Ft (RdC ET36 (some ⟨1, 0, none⟩) glob1) w_ o127 0 ∧ wide_Fit_x3 x137 = some r) ∨ (False)) ?_ ?_ ⟨0, hs, f10, f5, fg0, fg1, H⟩ ?_ ?_ ?_
  · rintro rr_ w_ _ _ _ ⟨x120, hs, f10, f5, fg0, fg1, H⟩ st_
    exact ⟨x120, hs.loc0 st_ (by decide), f10.st st_ (by decide), f5.st st_ (by decide), fg0.st st_ (by decide), fg1.st st_ (by decide), H⟩
  · rintro c_ w_ _ _ _ (⟨hc_, x137, hs, f10, fg0, fg1, H⟩ | hc_) st_
    · exact (Or.inl ⟨hc_, ⟨x137, hs.loc0 st_ (by decide), f10.st st_ (by decide), fg0.st st_ (by decide), fg1.st st_ (by decide), H⟩⟩)
    · exact hc_.elim
  · rintro R0_ R1_ lr_ x99 vs_ rest100 w101 o102 ⟨x120, hsO, f10, f5, fg0, fg1, H⟩ hE fxr a hk
    obtain rfl : vs_ = [.int .i64 x99.1, .int .i64 x99.2] := hE w101
    obtain ⟨o103, hs0, hfl, hbB, hoi⟩ := St.startB w101 o102 10
    have hs := hs0 [9, 3]
    replace f10 := hfl f10 rfl
    replace f5 := hfl f5 rfl
    replace fg0 := hfl fg0 rfl
    replace fg1 := hfl fg1 rfl
    replace fxr := hfl fxr rfl
    replace hk : Kn 18 a [(2, .pointer (some ⟨bx4, 0, none⟩)), (5, .pointer (some ⟨bx9, 0, none⟩)), (10, .int .i64 x99.1), (11, .int .i64 x99.2)] := Kn.pick (ks := [2, 5, 10, 11]) hk rfl
    rw [wide_Fit_r2] at H
    obtain ⟨lp104, hlp105⟩ : ∃ lp_, lp_ = wide_Fit_r2 p0 rest100 := ⟨_, rfl⟩
    rw [← hlp105] at H
    refine x_seq ?_
    refine wpIn_region_lit ?_
    refine x_run tab hk (k := 1) (lv := []) (ks := [2, 5, 6, 11]) (e' := [(2, .pointer (some ⟨bx4, 0, none⟩)), (5, .pointer (some ⟨bx9, 0, none⟩)), (6, .int .i64 x99.1), (11, .int .i64 x99.2)]) rfl trivial fun a hk => ?_
    refine wpListIn_nil ?_
    refine then_n ?_
    refine wpIn_region_lit ?_
    refine x_run tab hk (k := 1) (lv := []) (ks := [2, 5, 6, 7]) (e' := [(2, .pointer (some ⟨bx4, 0, none⟩)), (5, .pointer (some ⟨bx9, 0, none⟩)), (6, .int .i64 x99.1), (7, .int .i64 x99.2)]) rfl trivial fun a hk => ?_
    refine wpListIn_nil ?_
    refine then_n ?_
    refine ⟨_, fxr, fun w138 st139 fxr => ?_⟩
    replace f10 := f10.st st139 (by decide)
    replace f5 := f5.st st139 (by decide)
    replace fg0 := fg0.st st139 (by decide)
    replace fg1 := fg1.st st139 (by decide)
    replace hs := hs.locB st139 rfl hbB
    refine wpIn_block ?_
    refine x_seq ?_
    refine x_seq ?_
    refine wpIn_region_lit ?_
    refine x_run tab hk (k := 3) (lv := [.int .i64 p0]) (ks := [2, 5, 6, 14]) (e' := [(2, .pointer (some ⟨bx4, 0, none⟩)), (5, .pointer (some ⟨bx9, 0, none⟩)), (6, .int .i64 x99.1), (14, .bool (decide (x99.2 > p0)))]) rfl ⟨(load1 tab rfl ((Bx.cell f5.now 0).trans rfl)), trivial⟩ fun a hk => ?_
    refine wpListIn_nil ?_
    refine then_n ?_
    cases b140 : (decide (x99.2 > p0))
    · rw [b140] at hk H
      replace H := bifF H
      refine x_if hk (b := false) rfl ?_
      refine (show Code.wpIn _ _ _ _ _ _ _ from ?_)
      refine wpIn_skip ?_
      refine then_n ?_
      refine wpIn_region_lit ?_
      refine x_run tab hk (k := 2) (lv := []) (ks := [2, 5, 16]) (e' := [(2, .pointer (some ⟨bx4, 0, none⟩)), (5, .pointer (some ⟨bx9, 0, none⟩)), (16, .int .i64 (IntKind.wrap .i64 (x99.1 + 1)))]) rfl trivial fun a hk => ?_
      refine x_op hk rfl ?_
      refine op_store tab hk (t := 3) (v := .int .i64 (IntKind.wrap .i64 (x99.1 + 1))) (b := bx9) (k := 0) (cs' := [.int .i64 (IntKind.wrap .i64 (x99.1 + 1))]) rfl rfl rfl rfl rfl rfl f10 rfl rfl fun w141 o142 st143 f10_ => ?_
      replace f5 := f5.st st143 (by decide)
      replace fg0 := fg0.st st143 (by decide)
      replace fg1 := fg1.st st143 (by decide)
      replace fxr := fxr.st st143 (by decide)
      replace hs := hs.locB st143 rfl hbB
      replace f10 := f10_
      refine wpListIn_nil ?_
      refine blk_n ?_
      have hq144 := hs.closeB hoi hbB rfl (fun l_ => if l_ = 2 then 2 else if l_ = 3 then 3 else 0)
      exact ⟨_, hq144, fxr.now, ⟨(IntKind.wrap .i64 (x99.1 + 1)), (hsO.loc0 hq144 (by decide)), (hs.closeM_ft (o := o102) (ρ := (fun l_ => if l_ = 2 then 2 else if l_ = 3 then 3 else 0)) f10 (lab_atB hoi rfl) rfl), (hs.closeM_ft (o := o102) (ρ := (fun l_ => if l_ = 2 then 2 else if l_ = 3 then 3 else 0)) f5 (lab_atB hoi rfl) rfl), (hs.closeM_ft (o := o102) (ρ := (fun l_ => if l_ = 2 then 2 else if l_ = 3 then 3 else 0)) fg0 (lab_atB hoi rfl) rfl), (hs.closeM_ft (o := o102) (ρ := (fun l_ => if l_ = 2 then 2 else if l_ = 3 then 3 else 0)) fg1 (lab_atB hoi rfl) rfl), (hlp105 ▸ H)⟩⟩
    · rw [b140] at hk H
      replace H := bifT H
      refine x_if hk (b := true) rfl ?_
      refine (show Code.wpIn _ _ _ _ _ _ _ from ?_)
      refine wpIn_exit ?_
      refine then_x ?_
      refine blk_y rfl ?_
      have hq145 := hs.closeB hoi hbB rfl (fun l_ => if l_ = 3 then 3 else 0)
      exact ⟨_, hq145, fxr.now, Or.inl ⟨rfl, ⟨x120, (hsO.loc0 hq145 (by decide)), (hs.closeM_ft (o := o102) (ρ := (fun l_ => if l_ = 3 then 3 else 0)) f10 (lab_atB hoi rfl) rfl), (hs.closeM_ft (o := o102) (ρ := (fun l_ => if l_ = 3 then 3 else 0)) fg0 (lab_atB hoi rfl) rfl), (hs.closeM_ft (o := o102) (ρ := (fun l_ => if l_ = 3 then 3 else 0)) fg1 (lab_atB hoi rfl) rfl), H⟩⟩⟩
  · rintro ds129 w128 o119 a hk fxm ⟨x120, hs, f10, f5, fg0, fg1, H⟩
    rw [wide_Fit_r2] at H
    refine blk_n ?_
    refine then_n ?_
    exact ⟨(fun b_ => (fun l_ => if l_ = 3 then 7 else l_) (o119 b_)), ds129, x120, (by exact Kn.pick (ks := [5]) hk rfl), (hs.relab0 (fun l_ => if l_ = 3 then 7 else l_) rfl), (f10.relab (fun l_ => if l_ = 3 then 7 else l_) rfl), (fg0.relab (fun l_ => if l_ = 3 then 7 else l_) rfl), (fg1.relab (fun l_ => if l_ = 3 then 7 else l_) rfl), (fxm.relab (fun l_ => if l_ = 3 then 7 else l_) rfl), H⟩
  · rintro c_ ds129 w128 o127 a hk fxm (⟨rfl, x137, hs, f10, fg0, fg1, H⟩ | hc_)
    · rw [wide_Fit_x3] at H
      refine wpIn_exit ?_
      refine blk_x ?_
      refine then_n ?_
      exact ⟨(fun b_ => (fun l_ => if l_ = 3 then 7 else l_) (o127 b_)), ds129, x137, (by exact Kn.pick (ks := [5]) hk rfl), (hs.relab0 (fun l_ => if l_ = 3 then 7 else l_) rfl), (f10.relab (fun l_ => if l_ = 3 then 7 else l_) rfl), (fg0.relab (fun l_ => if l_ = 3 then 7 else l_) rfl), (fg1.relab (fun l_ => if l_ = 3 then 7 else l_) rfl), (fxm.relab (fun l_ => if l_ = 3 then 7 else l_) rfl), H⟩
    · exact hc_.elim

/-! tidewrack/tidewracklaw06.awake -/
theorem tidewracklaw06_awake_calls (K : Nat)  (w : World) (o : Nat → Nat) (Lg0 : Nat) (hg0 : Ft (RdC ET36 (some ⟨0, 0, none⟩) glob0) w o Lg0) (Lg1 : Nat) (hg1 : Ft (RdC ET36 (some ⟨1, 0, none⟩) glob1) w o Lg1)   (r : Bool) (H : tidewracklaw06_awake K = some r) :
    Calls Tryd.prog 6 #[] w (Ret fun v_ w' => ∃ o' : Nat → Nat, v_ = .bool r ∧ St [] w o w' o') := by
  refine x_enter (vs := []) Tryd.func6 rfl rfl rfl fun a hk => ?_
  obtain ⟨o0, hs, h0⟩ := St.start w o
  have fg0 := h0 _ _ hg0
  have fg1 := h0 _ _ hg1
  clear h0
  rw [tidewracklaw06_awake] at H
  refine x_seq ?_
  refine wpIn_region_lit ?_
  refine x_run tab hk (k := 1) (lv := []) (ks := []) (e' := []) rfl trivial fun a hk => ?_
  refine wpListIn_nil ?_
  refine then_n ?_
  refine x_seq ?_
  refine wpIn_region_lit ?_
  refine x_op hk rfl ?_
  obtain ⟨t4, hc5, H⟩ := bindS H
  refine op_call hk ent_8 (vs := [.int .i32 97]) rfl (wide_Of_calls K 97 _ o0 0 fg0 0 fg1   _ hc5) ?_
  rintro _ w6 ⟨o7, rfl, st8⟩
  replace fg0 := fg0.st st8 (by decide)
  replace fg1 := fg1.st st8 (by decide)
  replace hs := hs.loc0 st8 (by decide)
  have hk := hk.put 1 (.int .i64 t4) rfl
  refine x_run tab hk (k := 2) (lv := []) (ks := [3]) (e' := [(3, .bool (t4 == (1 : Int)))]) rfl trivial fun a hk => ?_
  cases b9 : (t4 == (1 : Int))
  · rw [b9] at hk H
    replace H := bifF H
    refine x_run tab hk (k := 11) (lv := []) (ks := [11, 14]) (e' := [(11, .bool false), (14, undef)]) rfl trivial fun a hk => ?_
    refine x_run tab hk (k := 2) (lv := []) (ks := [0]) (e' := [(0, .bool false)]) rfl trivial fun a hk => ?_
    refine wpListIn_nil ?_
    refine then_n ?_
    refine wpIn_ret ?_
    obtain rfl := Option.some.inj H
    exact x_retG hk (rs := [.tmp 0]) (vs := [.bool false]) rfl ⟨rfl, trivial⟩ ⟨fun b_ => if b_ < w.heap.size then o b_ else (fun _ => 0) (o7 b_), rfl, hs.close0 o (fun _ => 0)⟩
  · rw [b9] at hk H
    replace H := bifT H
    refine x_op hk rfl ?_
    obtain ⟨t13, hc14, H⟩ := bindS H
    refine op_call hk ent_8 (vs := [.int .i32 20013]) rfl (wide_Of_calls K 20013 _ o7 0 fg0 0 fg1   _ hc14) ?_
    rintro _ w15 ⟨o16, rfl, st17⟩
    replace fg0 := fg0.st st17 (by decide)
    replace fg1 := fg1.st st17 (by decide)
    replace hs := hs.loc0 st17 (by decide)
    have hk := hk.put 4 (.int .i64 t13) rfl
    refine x_run tab hk (k := 3) (lv := []) (ks := [7]) (e' := [(7, .bool (t13 == (2 : Int)))]) rfl trivial fun a hk => ?_
    cases b18 : (t13 == (2 : Int))
    · rw [b18] at hk H
      replace H := bifF H
      refine x_run tab hk (k := 9) (lv := []) (ks := [0]) (e' := [(0, .bool false)]) rfl trivial fun a hk => ?_
      refine wpListIn_nil ?_
      refine then_n ?_
      refine wpIn_ret ?_
      obtain rfl := Option.some.inj H
      exact x_retG hk (rs := [.tmp 0]) (vs := [.bool false]) rfl ⟨rfl, trivial⟩ ⟨fun b_ => if b_ < w.heap.size then o b_ else (fun _ => 0) (o16 b_), rfl, hs.close0 o (fun _ => 0)⟩
    · rw [b18] at hk H
      replace H := bifT H
      refine x_op hk rfl ?_
      obtain ⟨t22, hc23, H⟩ := bindS H
      refine op_call hk ent_8 (vs := [.int .i32 769]) rfl (wide_Of_calls K 769 _ o16 0 fg0 0 fg1   _ hc23) ?_
      rintro _ w24 ⟨o25, rfl, st26⟩
      replace fg0 := fg0.st st26 (by decide)
      replace fg1 := fg1.st st26 (by decide)
      replace hs := hs.loc0 st26 (by decide)
      have hk := hk.put 8 (.int .i64 t22) rfl
      refine x_run tab hk (k := 3) (lv := []) (ks := [11]) (e' := [(11, .bool (t22 == (0 : Int)))]) rfl trivial fun a hk => ?_
      cases b27 : (t22 == (0 : Int))
      · rw [b27] at hk H
        replace H := bifF H
        refine x_run tab hk (k := 5) (lv := []) (ks := [0]) (e' := [(0, .bool false)]) rfl trivial fun a hk => ?_
        refine wpListIn_nil ?_
        refine then_n ?_
        refine wpIn_ret ?_
        obtain rfl := Option.some.inj H
        exact x_retG hk (rs := [.tmp 0]) (vs := [.bool false]) rfl ⟨rfl, trivial⟩ ⟨fun b_ => if b_ < w.heap.size then o b_ else (fun _ => 0) (o25 b_), rfl, hs.close0 o (fun _ => 0)⟩
      · rw [b27] at hk H
        replace H := bifT H
        refine x_op hk rfl ?_
        refine op_slice (o := o25) tab hk (vs := [.int .i32 97, .int .i32 769, .int .i32 20013]) (cs := [.int .i32 97, .int .i32 769, .int .i32 20013]) rfl rfl rfl rfl rfl rfl rfl rfl rfl 1 fun bx31 w28 o29 st30 f32 => ?_
        replace fg0 := fg0.st st30 (by decide)
        replace fg1 := fg1.st st30 (by decide)
        replace hs := hs.loc0 st30 (by decide)
        have f33 : Ft (Own (encInt .i32) 21 (.slice (some ⟨bx31, 0, none⟩) (([97, 769, 20013] : List Int)).length 3) ([97, 769, 20013] : List Int)) w28 o29 1 := f32.imp fun _ h_ => Own.of_box h_ rfl (by simp)
        have hk := hk.put 12 (.slice (some ⟨bx31, 0, none⟩) (([97, 769, 20013] : List Int)).length 3) rfl
        refine x_op hk rfl ?_
        obtain ⟨t37, hc38, H⟩ := bindS H
        refine op_call hk ent_9 (vs := [.int .i64 2, .slice (some ⟨bx31, 0, none⟩) (([97, 769, 20013] : List Int)).length 3]) rfl (wide_Fit_calls K 2 (some ⟨bx31, 0, none⟩) 3 ([97, 769, 20013] : List Int) _ o29 0 fg0 0 fg1 _ (f33.imp fun _ h_ => Own.rd h_) (Nat.le_refl _)   _ hc38) ?_
        rintro _ w39 ⟨o40, rfl, st41⟩
        replace f33 := f33.st st41 (by decide)
        replace fg0 := fg0.st st41 (by decide)
        replace fg1 := fg1.st st41 (by decide)
        replace hs := hs.loc0 st41 (by decide)
        have hk := hk.put 13 (.int .i64 t37) rfl
        refine x_run tab hk (k := 3) (lv := []) (ks := [0]) (e' := [(0, .bool (t37 == (2 : Int)))]) rfl trivial fun a hk => ?_
        refine wpListIn_nil ?_
        refine then_n ?_
        refine wpIn_ret ?_
        obtain rfl := Option.some.inj H
        exact x_retG hk (rs := [.tmp 0]) (vs := [.bool (t37 == (2 : Int))]) rfl ⟨rfl, trivial⟩ ⟨fun b_ => if b_ < w.heap.size then o b_ else (fun _ => 0) (o40 b_), rfl, hs.close0 o (fun _ => 0)⟩

/-! tidewrack/tidewrackref06.Of -/
set_option maxHeartbeats 4000000 in
theorem tidewrackref06_Of_calls (K : Nat) (p0 : Int) (w : World) (o : Nat → Nat)   (r : Int) (H : tidewrackref06_Of K p0 = some r) :
    Calls Tryd.prog 7 #[.int .i64 p0] w (Ret fun v_ w' => ∃ o' : Nat → Nat, v_ = .int .i64 r ∧ St [] w o w' o') := by
  refine x_enter (vs := [.int .i64 p0]) Tryd.func7 rfl rfl rfl fun a hk => ?_
  obtain ⟨o0, hs, h0⟩ := St.start w o
  clear h0
  rw [tidewrackref06_Of] at H
  refine x_seq ?_
  refine wpIn_region_lit ?_
  refine x_run tab hk (k := 1) (lv := []) (ks := [0]) (e' := [(0, .int .i64 p0)]) rfl trivial fun a hk => ?_
  refine wpListIn_nil ?_
  refine then_n ?_
  refine x_seq ?_
  refine wpIn_region_lit ?_
  refine x_run tab hk (k := 10) (lv := [.agg #[.int .i64 127, .int .i64 159], .agg #[.int .i64 768, .int .i64 879], .agg #[.int .i64 6832, .int .i64 6911], .agg #[.int .i64 7616, .int .i64 7679], .agg #[.int .i64 8203, .int .i64 8207], .agg #[.int .i64 8400, .int .i64 8447], .agg #[.int .i64 55296, .int .i64 57343], .agg #[.int .i64 65024, .int .i64 65039], .agg #[.int .i64 65056, .int .i64 65071], .agg #[.int .i64 65279, .int .i64 65279]]) (ks := [0, 9, 10, 11, 12, 13, 14, 15, 16, 17, 18]) (e' := [(0, .int .i64 p0), (9, .agg #[.int .i64 127, .int .i64 159]), (10, .agg #[.int .i64 768, .int .i64 879]), (11, .agg #[.int .i64 6832, .int .i64 6911]), (12, .agg #[.int .i64 7616, .int .i64 7679]), (13, .agg #[.int .i64 8203, .int .i64 8207]), (14, .agg #[.int .i64 8400, .int .i64 8447]), (15, .agg #[.int .i64 55296, .int .i64 57343]), (16, .agg #[.int .i64 65024, .int .i64 65039]), (17, .agg #[.int .i64 65056, .int .i64 65071]), (18, .agg #[.int .i64 65279, .int .i64 65279])]) rfl ⟨(ask_buildA tab rfl rfl rfl rfl rfl), (ask_buildA tab rfl rfl rfl rfl rfl), (ask_buildA tab rfl rfl rfl rfl rfl), (ask_buildA tab rfl rfl rfl rfl rfl), (ask_buildA tab rfl rfl rfl rfl rfl), (ask_buildA tab rfl rfl rfl rfl rfl), (ask_buildA tab rfl rfl rfl rfl rfl), (ask_buildA tab rfl rfl rfl rfl rfl), (ask_buildA tab rfl rfl rfl rfl rfl), (ask_buildA tab rfl rfl rfl rfl rfl), trivial⟩ fun a hk => ?_
  refine x_run tab hk (k := 1) (lv := [.agg #[.int .i64 917760, .int .i64 917999]]) (ks := [0, 9, 10, 11, 12, 13, 14, 15, 16, 17, 18, 19]) (e' := [(0, .int .i64 p0), (9, .agg #[.int .i64 127, .int .i64 159]), (10, .agg #[.int .i64 768, .int .i64 879]), (11, .agg #[.int .i64 6832, .int .i64 6911]), (12, .agg #[.int .i64 7616, .int .i64 7679]), (13, .agg #[.int .i64 8203, .int .i64 8207]), (14, .agg #[.int .i64 8400, .int .i64 8447]), (15, .agg #[.int .i64 55296, .int .i64 57343]), (16, .agg #[.int .i64 65024, .int .i64 65039]), (17, .agg #[.int .i64 65056, .int .i64 65071]), (18, .agg #[.int .i64 65279, .int .i64 65279]), (19, .agg #[.int .i64 917760, .int .i64 917999])]) rfl ⟨(ask_buildA tab rfl rfl rfl rfl rfl), trivial⟩ fun a hk => ?_
  refine x_op hk rfl ?_
  refine op_slice (o := o0) tab hk (vs := [.agg #[.int .i64 127, .int .i64 159], .agg #[.int .i64 768, .int .i64 879], .agg #[.int .i64 6832, .int .i64 6911], .agg #[.int .i64 7616, .int .i64 7679], .agg #[.int .i64 8203, .int .i64 8207], .agg #[.int .i64 8400, .int .i64 8447], .agg #[.int .i64 55296, .int .i64 57343], .agg #[.int .i64 65024, .int .i64 65039], .agg #[.int .i64 65056, .int .i64 65071], .agg #[.int .i64 65279, .int .i64 65279], .agg #[.int .i64 917760, .int .i64 917999]]) (cs := [.int .i64 127, .int .i64 159, .int .i64 768, .int .i64 879, .int .i64 6832, .int .i64 6911, .int .i64 7616, .int .i64 7679, .int .i64 8203, .int .i64 8207, .int .i64 8400, .int .i64 8447, .int .i64 55296, .int .i64 57343, .int .i64 65024, .int .i64 65039, .int .i64 65056, .int .i64 65071, .int .i64 65279, .int .i64 65279, .int .i64 917760, .int .i64 917999]) rfl rfl rfl rfl rfl rfl rfl rfl rfl 1 fun bx4 w1 o2 st3 f5 => ?_
  replace hs := hs.loc0 st3 (by decide)
  have f6 : Ft (Own ET32 32 (.slice (some ⟨bx4, 0, none⟩) (([(⟨127, 159⟩ : T32), (⟨768, 879⟩ : T32), (⟨6832, 6911⟩ : T32), (⟨7616, 7679⟩ : T32), (⟨8203, 8207⟩ : T32), (⟨8400, 8447⟩ : T32), (⟨55296, 57343⟩ : T32), (⟨65024, 65039⟩ : T32), (⟨65056, 65071⟩ : T32), (⟨65279, 65279⟩ : T32), (⟨917760, 917999⟩ : T32)] : List T32)).length 11) ([(⟨127, 159⟩ : T32), (⟨768, 879⟩ : T32), (⟨6832, 6911⟩ : T32), (⟨7616, 7679⟩ : T32), (⟨8203, 8207⟩ : T32), (⟨8400, 8447⟩ : T32), (⟨55296, 57343⟩ : T32), (⟨65024, 65039⟩ : T32), (⟨65056, 65071⟩ : T32), (⟨65279, 65279⟩ : T32), (⟨917760, 917999⟩ : T32)] : List T32)) w1 o2 1 := f5.imp fun _ h_ => Own.of_box h_ rfl (by simp)
  have hk := hk.put 20 (.slice (some ⟨bx4, 0, none⟩) (([(⟨127, 159⟩ : T32), (⟨768, 879⟩ : T32), (⟨6832, 6911⟩ : T32), (⟨7616, 7679⟩ : T32), (⟨8203, 8207⟩ : T32), (⟨8400, 8447⟩ : T32), (⟨55296, 57343⟩ : T32), (⟨65024, 65039⟩ : T32), (⟨65056, 65071⟩ : T32), (⟨65279, 65279⟩ : T32), (⟨917760, 917999⟩ : T32)] : List T32)).length 11) rfl
  refine x_run tab hk (k := 1) (lv := []) (ks := [0, 3]) (e' := [(0, .int .i64 p0), (3, .slice (some ⟨bx4, 0, none⟩) (([(⟨127, 159⟩ : T32), (⟨768, 879⟩ : T32), (⟨6832, 6911⟩ : T32), (⟨7616, 7679⟩ : T32), (⟨8203, 8207⟩ : T32), (⟨8400, 8447⟩ : T32), (⟨55296, 57343⟩ : T32), (⟨65024, 65039⟩ : T32), (⟨65056, 65071⟩ : T32), (⟨65279, 65279⟩ : T32), (⟨917760, 917999⟩ : T32)] : List T32)).length 11)]) rfl trivial fun a hk => ?_
  refine wpListIn_nil ?_
  refine then_n ?_
  refine x_seq ?_
  refine wpIn_region_lit ?_
  refine x_run tab hk (k := 10) (lv := [.agg #[.int .i64 4352, .int .i64 4447], .agg #[.int .i64 11904, .int .i64 12350], .agg #[.int .i64 12353, .int .i64 13311], .agg #[.int .i64 13312, .int .i64 19903], .agg #[.int .i64 19968, .int .i64 40959], .agg #[.int .i64 40960, .int .i64 42191], .agg #[.int .i64 44032, .int .i64 55203], .agg #[.int .i64 63744, .int .i64 64255], .agg #[.int .i64 65072, .int .i64 65135], .agg #[.int .i64 65280, .int .i64 65376]]) (ks := [0, 3, 21, 22, 23, 24, 25, 26, 27, 28, 29, 30]) (e' := [(0, .int .i64 p0), (3, .slice (some ⟨bx4, 0, none⟩) (([(⟨127, 159⟩ : T32), (⟨768, 879⟩ : T32), (⟨6832, 6911⟩ : T32), (⟨7616, 7679⟩ : T32), (⟨8203, 8207⟩ : T32), (⟨8400, 8447⟩ : T32), (⟨55296, 57343⟩ : T32), (⟨65024, 65039⟩ : T32), (⟨65056, 65071⟩ : T32), (⟨65279, 65279⟩ : T32), (⟨917760, 917999⟩ : T32)] : List T32)).length 11), (21, .agg #[.int .i64 4352, .int .i64 4447]), (22, .agg #[.int .i64 11904, .int .i64 12350]), (23, .agg #[.int .i64 12353, .int .i64 13311]), (24, .agg #[.int .i64 13312, .int .i64 19903]), (25, .agg #[.int .i64 19968, .int .i64 40959]), (26, .agg #[.int .i64 40960, .int .i64 42191]), (27, .agg #[.int .i64 44032, .int .i64 55203]), (28, .agg #[.int .i64 63744, .int .i64 64255]), (29, .agg #[.int .i64 65072, .int .i64 65135]), (30, .agg #[.int .i64 65280, .int .i64 65376])]) rfl ⟨(ask_buildA tab rfl rfl rfl rfl rfl), (ask_buildA tab rfl rfl rfl rfl rfl), (ask_buildA tab rfl rfl rfl rfl rfl), (ask_buildA tab rfl rfl rfl rfl rfl), (ask_buildA tab rfl rfl rfl rfl rfl), (ask_buildA tab rfl rfl rfl rfl rfl), (ask_buildA tab rfl rfl rfl rfl rfl), (ask_buildA tab rfl rfl rfl rfl rfl), (ask_buildA tab rfl rfl rfl rfl rfl), (ask_buildA tab rfl rfl rfl rfl rfl), trivial⟩ fun a hk => ?_
  refine x_run tab hk (k := 4) (lv := [.agg #[.int .i64 65504, .int .i64 65510], .agg #[.int .i64 127744, .int .i64 128591], .agg #[.int .i64 129280, .int .i64 129535], .agg #[.int .i64 131072, .int .i64 262141]]) (ks := [0, 3, 21, 22, 23, 24, 25, 26, 27, 28, 29, 30, 31, 32, 33, 34]) (e' := [(0, .int .i64 p0), (3, .slice (some ⟨bx4, 0, none⟩) (([(⟨127, 159⟩ : T32), (⟨768, 879⟩ : T32), (⟨6832, 6911⟩ : T32), (⟨7616, 7679⟩ : T32), (⟨8203, 8207⟩ : T32), (⟨8400, 8447⟩ : T32), (⟨55296, 57343⟩ : T32), (⟨65024, 65039⟩ : T32), (⟨65056, 65071⟩ : T32), (⟨65279, 65279⟩ : T32), (⟨917760, 917999⟩ : T32)] : List T32)).length 11), (21, .agg #[.int .i64 4352, .int .i64 4447]), (22, .agg #[.int .i64 11904, .int .i64 12350]), (23, .agg #[.int .i64 12353, .int .i64 13311]), (24, .agg #[.int .i64 13312, .int .i64 19903]), (25, .agg #[.int .i64 19968, .int .i64 40959]), (26, .agg #[.int .i64 40960, .int .i64 42191]), (27, .agg #[.int .i64 44032, .int .i64 55203]), (28, .agg #[.int .i64 63744, .int .i64 64255]), (29, .agg #[.int .i64 65072, .int .i64 65135]), (30, .agg #[.int .i64 65280, .int .i64 65376]), (31, .agg #[.int .i64 65504, .int .i64 65510]), (32, .agg #[.int .i64 127744, .int .i64 128591]), (33, .agg #[.int .i64 129280, .int .i64 129535]), (34, .agg #[.int .i64 131072, .int .i64 262141])]) rfl ⟨(ask_buildA tab rfl rfl rfl rfl rfl), (ask_buildA tab rfl rfl rfl rfl rfl), (ask_buildA tab rfl rfl rfl rfl rfl), (ask_buildA tab rfl rfl rfl rfl rfl), trivial⟩ fun a hk => ?_
  refine x_op hk rfl ?_
  refine op_slice (o := o2) tab hk (vs := [.agg #[.int .i64 4352, .int .i64 4447], .agg #[.int .i64 11904, .int .i64 12350], .agg #[.int .i64 12353, .int .i64 13311], .agg #[.int .i64 13312, .int .i64 19903], .agg #[.int .i64 19968, .int .i64 40959], .agg #[.int .i64 40960, .int .i64 42191], .agg #[.int .i64 44032, .int .i64 55203], .agg #[.int .i64 63744, .int .i64 64255], .agg #[.int .i64 65072, .int .i64 65135], .agg #[.int .i64 65280, .int .i64 65376], .agg #[.int .i64 65504, .int .i64 65510], .agg #[.int .i64 127744, .int .i64 128591], .agg #[.int .i64 129280, .int .i64 129535], .agg #[.int .i64 131072, .int .i64 262141]]) (cs := [.int .i64 4352, .int .i64 4447, .int .i64 11904, .int .i64 12350, .int .i64 12353, .int .i64 13311, .int .i64 13312, .int .i64 19903, .int .i64 19968, .int .i64 40959, .int .i64 40960, .int .i64 42191, .int .i64 44032, .int .i64 55203, .int .i64 63744, .int .i64 64255, .int .i64 65072, .int .i64 65135, .int .i64 65280, .int .i64 65376, .int .i64 65504, .int .i64 65510, .int .i64 127744, .int .i64 128591, .int .i64 129280, .int .i64 129535, .int .i64 131072, .int .i64 262141]) rfl rfl rfl rfl rfl rfl rfl rfl rfl 2 fun bx10 w7 o8 st9 f11 => ?_
  replace f6 := f6.st st9 (by decide)
  replace hs := hs.loc0 st9 (by decide)
  have f12 : Ft (Own ET32 32 (.slice (some ⟨bx10, 0, none⟩) (([(⟨4352, 4447⟩ : T32), (⟨11904, 12350⟩ : T32), (⟨12353, 13311⟩ : T32), (⟨13312, 19903⟩ : T32), (⟨19968, 40959⟩ : T32), (⟨40960, 42191⟩ : T32), (⟨44032, 55203⟩ : T32), (⟨63744, 64255⟩ : T32), (⟨65072, 65135⟩ : T32), (⟨65280, 65376⟩ : T32), (⟨65504, 65510⟩ : T32), (⟨127744, 128591⟩ : T32), (⟨129280, 129535⟩ : T32), (⟨131072, 262141⟩ : T32)] : List T32)).length 14) ([(⟨4352, 4447⟩ : T32), (⟨11904, 12350⟩ : T32), (⟨12353, 13311⟩ : T32), (⟨13312, 19903⟩ : T32), (⟨19968, 40959⟩ : T32), (⟨40960, 42191⟩ : T32), (⟨44032, 55203⟩ : T32), (⟨63744, 64255⟩ : T32), (⟨65072, 65135⟩ : T32), (⟨65280, 65376⟩ : T32), (⟨65504, 65510⟩ : T32), (⟨127744, 128591⟩ : T32), (⟨129280, 129535⟩ : T32), (⟨131072, 262141⟩ : T32)] : List T32)) w7 o8 2 := f11.imp fun _ h_ => Own.of_box h_ rfl (by simp)
  have hk := hk.put 35 (.slice (some ⟨bx10, 0, none⟩) (([(⟨4352, 4447⟩ : T32), (⟨11904, 12350⟩ : T32), (⟨12353, 13311⟩ : T32), (⟨13312, 19903⟩ : T32), (⟨19968, 40959⟩ : T32), (⟨40960, 42191⟩ : T32), (⟨44032, 55203⟩ : T32), (⟨63744, 64255⟩ : T32), (⟨65072, 65135⟩ : T32), (⟨65280, 65376⟩ : T32), (⟨65504, 65510⟩ : T32), (⟨127744, 128591⟩ : T32), (⟨129280, 129535⟩ : T32), (⟨131072, 262141⟩ : T32)] : List T32)).length 14) rfl
  refine x_run tab hk (k := 1) (lv := []) (ks := [0, 3, 4]) (e' := [(0, .int .i64 p0), (3, .slice (some ⟨bx4, 0, none⟩) (([(⟨127, 159⟩ : T32), (⟨768, 879⟩ : T32), (⟨6832, 6911⟩ : T32), (⟨7616, 7679⟩ : T32), (⟨8203, 8207⟩ : T32), (⟨8400, 8447⟩ : T32), (⟨55296, 57343⟩ : T32), (⟨65024, 65039⟩ : T32), (⟨65056, 65071⟩ : T32), (⟨65279, 65279⟩ : T32), (⟨917760, 917999⟩ : T32)] : List T32)).length 11), (4, .slice (some ⟨bx10, 0, none⟩) (([(⟨4352, 4447⟩ : T32), (⟨11904, 12350⟩ : T32), (⟨12353, 13311⟩ : T32), (⟨13312, 19903⟩ : T32), (⟨19968, 40959⟩ : T32), (⟨40960, 42191⟩ : T32), (⟨44032, 55203⟩ : T32), (⟨63744, 64255⟩ : T32), (⟨65072, 65135⟩ : T32), (⟨65280, 65376⟩ : T32), (⟨65504, 65510⟩ : T32), (⟨127744, 128591⟩ : T32), (⟨129280, 129535⟩ : T32), (⟨131072, 262141⟩ : T32)] : List T32)).length 14)]) rfl trivial fun a hk => ?_
  refine wpListIn_nil ?_
  refine then_n ?_
  refine x_mid (fun a_ w_ => ∃ o18 : Nat → Nat, Kn 76 a_ [(0, .int .i64 p0), (3, .slice (some ⟨bx4, 0, none⟩) (([(⟨127, 159⟩ : T32), (⟨768, 879⟩ : T32), (⟨6832, 6911⟩ : T32), (⟨7616, 7679⟩ : T32), (⟨8203, 8207⟩ : T32), (⟨8400, 8447⟩ : T32), (⟨55296, 57343⟩ : T32), (⟨65024, 65039⟩ : T32), (⟨65056, 65071⟩ : T32), (⟨65279, 65279⟩ : T32), (⟨917760, 917999⟩ : T32)] : List T32)).length 11), (4, .slice (some ⟨bx10, 0, none⟩) (([(⟨4352, 4447⟩ : T32), (⟨11904, 12350⟩ : T32), (⟨12353, 13311⟩ : T32), (⟨13312, 19903⟩ : T32), (⟨19968, 40959⟩ : T32), (⟨40960, 42191⟩ : T32), (⟨44032, 55203⟩ : T32), (⟨63744, 64255⟩ : T32), (⟨65072, 65135⟩ : T32), (⟨65280, 65376⟩ : T32), (⟨65504, 65510⟩ : T32), (⟨127744, 128591⟩ : T32), (⟨129280, 129535⟩ : T32), (⟨131072, 262141⟩ : T32)] : List T32)).length 14)] ∧ St [] w (fun _ => 0) w_ o18 ∧ Ft (Own ET32 32 (.slice (some ⟨bx10, 0, none⟩) (([(⟨4352, 4447⟩ : T32), (⟨11904, 12350⟩ : T32), (⟨12353, 13311⟩ : T32), (⟨13312, 19903⟩ : T32), (⟨19968, 40959⟩ : T32), (⟨40960, 42191⟩ : T32), (⟨44032, 55203⟩ : T32), (⟨63744, 64255⟩ : T32), (⟨65072, 65135⟩ : T32), (⟨65280, 65376⟩ : T32), (⟨65504, 65510⟩ : T32), (⟨127744, 128591⟩ : T32), (⟨129280, 129535⟩ : T32), (⟨131072, 262141⟩ : T32)] : List T32)).length 14) ([(⟨4352, 4447⟩ : T32), (⟨11904, 12350⟩ : T32), (⟨12353, 13311⟩ : T32), (⟨13312, 19903⟩ : T32), (⟨19968, 40959⟩ : T32), (⟨40960, 42191⟩ : T32), (⟨44032, 55203⟩ : T32), (⟨63744, 64255⟩ : T32), (⟨65072, 65135⟩ : T32), (⟨65280, 65376⟩ : T32), (⟨65504, 65510⟩ : T32), (⟨127744, 128591⟩ : T32), (⟨129280, 129535⟩ : T32), (⟨131072, 262141⟩ : T32)] : List T32)) w_ o18 4 ∧ Ft (Own ET32 32 (.slice (some ⟨bx4, 0, none⟩) (([(⟨127, 159⟩ : T32), (⟨768, 879⟩ : T32), (⟨6832, 6911⟩ : T32), (⟨7616, 7679⟩ : T32), (⟨8203, 8207⟩ : T32), (⟨8400, 8447⟩ : T32), (⟨55296, 57343⟩ : T32), (⟨65024, 65039⟩ : T32), (⟨65056, 65071⟩ : T32), (⟨65279, 65279⟩ : T32), (⟨917760, 917999⟩ : T32)] : List T32)).length 11) ([(⟨127, 159⟩ : T32), (⟨768, 879⟩ : T32), (⟨6832, 6911⟩ : T32), (⟨7616, 7679⟩ : T32), (⟨8203, 8207⟩ : T32), (⟨8400, 8447⟩ : T32), (⟨55296, 57343⟩ : T32), (⟨65024, 65039⟩ : T32), (⟨65056, 65071⟩ : T32), (⟨65279, 65279⟩ : T32), (⟨917760, 917999⟩ : T32)] : List T32)) w_ o18 3 ∧ tidewrackref06_Of_j1 K p0 = some r) ?_ ?_
  rotate_left
  · rintro a w19 ⟨o18, hk, hs, f12, f6, H⟩
    rw [tidewrackref06_Of_j1] at H
    refine x_mid (fun a_ w_ => ∃ o68 : Nat → Nat, Kn 76 a_ [(0, .int .i64 p0), (4, .slice (some ⟨bx10, 0, none⟩) (([(⟨4352, 4447⟩ : T32), (⟨11904, 12350⟩ : T32), (⟨12353, 13311⟩ : T32), (⟨13312, 19903⟩ : T32), (⟨19968, 40959⟩ : T32), (⟨40960, 42191⟩ : T32), (⟨44032, 55203⟩ : T32), (⟨63744, 64255⟩ : T32), (⟨65072, 65135⟩ : T32), (⟨65280, 65376⟩ : T32), (⟨65504, 65510⟩ : T32), (⟨127744, 128591⟩ : T32), (⟨129280, 129535⟩ : T32), (⟨131072, 262141⟩ : T32)] : List T32)).length 14)] ∧ St [] w (fun _ => 0) w_ o68 ∧ Ft (Own ET32 32 (.slice (some ⟨bx10, 0, none⟩) (([(⟨4352, 4447⟩ : T32), (⟨11904, 12350⟩ : T32), (⟨12353, 13311⟩ : T32), (⟨13312, 19903⟩ : T32), (⟨19968, 40959⟩ : T32), (⟨40960, 42191⟩ : T32), (⟨44032, 55203⟩ : T32), (⟨63744, 64255⟩ : T32), (⟨65072, 65135⟩ : T32), (⟨65280, 65376⟩ : T32), (⟨65504, 65510⟩ : T32), (⟨127744, 128591⟩ : T32), (⟨129280, 129535⟩ : T32), (⟨131072, 262141⟩ : T32)] : List T32)).length 14) ([(⟨4352, 4447⟩ : T32), (⟨11904, 12350⟩ : T32), (⟨12353, 13311⟩ : T32), (⟨13312, 19903⟩ : T32), (⟨19968, 40959⟩ : T32), (⟨40960, 42191⟩ : T32), (⟨44032, 55203⟩ : T32), (⟨63744, 64255⟩ : T32), (⟨65072, 65135⟩ : T32), (⟨65280, 65376⟩ : T32), (⟨65504, 65510⟩ : T32), (⟨127744, 128591⟩ : T32), (⟨129280, 129535⟩ : T32), (⟨131072, 262141⟩ : T32)] : List T32)) w_ o68 12 ∧ tidewrackref06_Of_j2 K p0 = some r) ?_ ?_
    rotate_left
    · rintro a w69 ⟨o68, hk, hs, f12, H⟩
      rw [tidewrackref06_Of_j2] at H
      refine x_mid (fun a_ w_ => ∃ o118 : Nat → Nat, Kn 76 a_ [] ∧ St [] w (fun _ => 0) w_ o118 ∧ tidewrackref06_Of_j3 = some r) ?_ ?_
      rotate_left
      · rintro a w119 ⟨o118, hk, hs, H⟩
        rw [tidewrackref06_Of_j3] at H
        refine x_seq ?_
        refine wpIn_region_lit ?_
        refine x_run tab hk (k := 1) (lv := []) (ks := [2]) (e' := [(2, .int .i64 1)]) rfl trivial fun a hk => ?_
        refine wpListIn_nil ?_
        refine then_n ?_
        refine wpIn_ret ?_
        obtain rfl := Option.some.inj H
        exact x_retG hk (rs := [.tmp 2]) (vs := [.int .i64 1]) rfl ⟨rfl, trivial⟩ ⟨fun b_ => if b_ < w.heap.size then o b_ else (fun _ => 0) (o118 b_), rfl, hs.close0 o (fun _ => 0)⟩
      refine x_seq ?_
      refine wpIn_region_lit ?_
      refine x_run tab hk (k := 3) (lv := []) (ks := [0, 59, 60, 61]) (e' := [(0, .int .i64 p0), (59, .slice (some ⟨bx10, 0, none⟩) (([(⟨4352, 4447⟩ : T32), (⟨11904, 12350⟩ : T32), (⟨12353, 13311⟩ : T32), (⟨13312, 19903⟩ : T32), (⟨19968, 40959⟩ : T32), (⟨40960, 42191⟩ : T32), (⟨44032, 55203⟩ : T32), (⟨63744, 64255⟩ : T32), (⟨65072, 65135⟩ : T32), (⟨65280, 65376⟩ : T32), (⟨65504, 65510⟩ : T32), (⟨127744, 128591⟩ : T32), (⟨129280, 129535⟩ : T32), (⟨131072, 262141⟩ : T32)] : List T32)).length 14), (60, .int .i64 ((([(⟨4352, 4447⟩ : T32), (⟨11904, 12350⟩ : T32), (⟨12353, 13311⟩ : T32), (⟨13312, 19903⟩ : T32), (⟨19968, 40959⟩ : T32), (⟨40960, 42191⟩ : T32), (⟨44032, 55203⟩ : T32), (⟨63744, 64255⟩ : T32), (⟨65072, 65135⟩ : T32), (⟨65280, 65376⟩ : T32), (⟨65504, 65510⟩ : T32), (⟨127744, 128591⟩ : T32), (⟨129280, 129535⟩ : T32), (⟨131072, 262141⟩ : T32)] : List T32)).length : Int)), (61, .int .i64 0)]) rfl trivial fun a hk => ?_
      refine wpListIn_nil ?_
      refine then_n ?_
      refine wpIn_block ?_
      refine x_loop (fun j_ a_ w_ => ∃ o135 : Nat → Nat, ∃ x136 : Int, Kn 76 a_ [(0, .int .i64 p0), (59, .slice (some ⟨bx10, 0, none⟩) (([(⟨4352, 4447⟩ : T32), (⟨11904, 12350⟩ : T32), (⟨12353, 13311⟩ : T32), (⟨13312, 19903⟩ : T32), (⟨19968, 40959⟩ : T32), (⟨40960, 42191⟩ : T32), (⟨44032, 55203⟩ : T32), (⟨63744, 64255⟩ : T32), (⟨65072, 65135⟩ : T32), (⟨65280, 65376⟩ : T32), (⟨65504, 65510⟩ : T32), (⟨127744, 128591⟩ : T32), (⟨129280, 129535⟩ : T32), (⟨131072, 262141⟩ : T32)] : List T32)).length 14), (60, .int .i64 ((([(⟨4352, 4447⟩ : T32), (⟨11904, 12350⟩ : T32), (⟨12353, 13311⟩ : T32), (⟨13312, 19903⟩ : T32), (⟨19968, 40959⟩ : T32), (⟨40960, 42191⟩ : T32), (⟨44032, 55203⟩ : T32), (⟨63744, 64255⟩ : T32), (⟨65072, 65135⟩ : T32), (⟨65280, 65376⟩ : T32), (⟨65504, 65510⟩ : T32), (⟨127744, 128591⟩ : T32), (⟨129280, 129535⟩ : T32), (⟨131072, 262141⟩ : T32)] : List T32)).length : Int)), (61, .int .i64 x136)] ∧ St [] w (fun _ => 0) w_ o135 ∧ Ft (Own ET32 32 (.slice (some ⟨bx10, 0, none⟩) (([(⟨4352, 4447⟩ : T32), (⟨11904, 12350⟩ : T32), (⟨12353, 13311⟩ : T32), (⟨13312, 19903⟩ : T32), (⟨19968, 40959⟩ : T32), (⟨40960, 42191⟩ : T32), (⟨44032, 55203⟩ : T32), (⟨63744, 64255⟩ : T32), (⟨65072, 65135⟩ : T32), (⟨65280, 65376⟩ : T32), (⟨65504, 65510⟩ : T32), (⟨127744, 128591⟩ : T32), (⟨129280, 129535⟩ : T32), (⟨131072, 262141⟩ : T32)] : List T32)).length 14) ([(⟨4352, 4447⟩ : T32), (⟨11904, 12350⟩ : T32), (⟨12353, 13311⟩ : T32), (⟨13312, 19903⟩ : T32), (⟨19968, 40959⟩ : T32), (⟨40960, 42191⟩ : T32), (⟨44032, 55203⟩ : T32), (⟨63744, 64255⟩ : T32), (⟨65072, 65135⟩ : T32), (⟨65280, 65376⟩ : T32), (⟨65504, 65510⟩ : T32), (⟨127744, 128591⟩ : T32), (⟨129280, 129535⟩ : T32), (⟨131072, 262141⟩ : T32)] : List T32)) w_ o135 20 ∧ tidewrackref06_Of_l4 p0 j_ x136 = some r) (k := K) ⟨(fun b_ => (fun l_ => if l_ = 12 then 20 else l_) (o68 b_)), 0, (by exact Kn.pick (ks := [0, 59, 60, 61]) hk rfl), (hs.relab0 (fun l_ => if l_ = 12 then 20 else l_) rfl), (f12.relab (fun l_ => if l_ = 12 then 20 else l_) rfl), H⟩ (by rintro _ _ ⟨_, _, _, _, _, H_⟩; exact absurd (show (none : Option Int) = some r from H_) (by simp)) ?_
      rintro k150 a w149 ⟨o135, x136, hk, hs, f12, H⟩
      rw [tidewrackref06_Of_l4] at H
      obtain ⟨lp151, hlp152⟩ : ∃ lp_, lp_ = tidewrackref06_Of_l4 p0 k150 := ⟨_, rfl⟩
      rw [← hlp152] at H
      refine x_seq ?_
      refine wpIn_region_lit ?_
      refine x_run tab hk (k := 1) (lv := []) (ks := [0, 59, 60, 61, 62]) (e' := [(0, .int .i64 p0), (59, .slice (some ⟨bx10, 0, none⟩) (([(⟨4352, 4447⟩ : T32), (⟨11904, 12350⟩ : T32), (⟨12353, 13311⟩ : T32), (⟨13312, 19903⟩ : T32), (⟨19968, 40959⟩ : T32), (⟨40960, 42191⟩ : T32), (⟨44032, 55203⟩ : T32), (⟨63744, 64255⟩ : T32), (⟨65072, 65135⟩ : T32), (⟨65280, 65376⟩ : T32), (⟨65504, 65510⟩ : T32), (⟨127744, 128591⟩ : T32), (⟨129280, 129535⟩ : T32), (⟨131072, 262141⟩ : T32)] : List T32)).length 14), (60, .int .i64 ((([(⟨4352, 4447⟩ : T32), (⟨11904, 12350⟩ : T32), (⟨12353, 13311⟩ : T32), (⟨13312, 19903⟩ : T32), (⟨19968, 40959⟩ : T32), (⟨40960, 42191⟩ : T32), (⟨44032, 55203⟩ : T32), (⟨63744, 64255⟩ : T32), (⟨65072, 65135⟩ : T32), (⟨65280, 65376⟩ : T32), (⟨65504, 65510⟩ : T32), (⟨127744, 128591⟩ : T32), (⟨129280, 129535⟩ : T32), (⟨131072, 262141⟩ : T32)] : List T32)).length : Int)), (61, .int .i64 x136), (62, .bool (decide (x136 < ((([(⟨4352, 4447⟩ : T32), (⟨11904, 12350⟩ : T32), (⟨12353, 13311⟩ : T32), (⟨13312, 19903⟩ : T32), (⟨19968, 40959⟩ : T32), (⟨40960, 42191⟩ : T32), (⟨44032, 55203⟩ : T32), (⟨63744, 64255⟩ : T32), (⟨65072, 65135⟩ : T32), (⟨65280, 65376⟩ : T32), (⟨65504, 65510⟩ : T32), (⟨127744, 128591⟩ : T32), (⟨129280, 129535⟩ : T32), (⟨131072, 262141⟩ : T32)] : List T32)).length : Int))))]) rfl trivial fun a hk => ?_
      refine wpListIn_nil ?_
      refine then_n ?_
      refine x_seq ?_
      cases b153 : (decide (x136 < ((([(⟨4352, 4447⟩ : T32), (⟨11904, 12350⟩ : T32), (⟨12353, 13311⟩ : T32), (⟨13312, 19903⟩ : T32), (⟨19968, 40959⟩ : T32), (⟨40960, 42191⟩ : T32), (⟨44032, 55203⟩ : T32), (⟨63744, 64255⟩ : T32), (⟨65072, 65135⟩ : T32), (⟨65280, 65376⟩ : T32), (⟨65504, 65510⟩ : T32), (⟨127744, 128591⟩ : T32), (⟨129280, 129535⟩ : T32), (⟨131072, 262141⟩ : T32)] : List T32)).length : Int)))
      · rw [b153] at hk H
        replace H := bifF H
        refine x_if hk (b := false) rfl ?_
        refine (show Code.wpIn _ _ _ _ _ _ _ from ?_)
        refine wpIn_exit ?_
        refine then_x ?_
        refine then_x ?_
        refine blk_x ?_
        refine then_n ?_
        exact ⟨o135, (by exact Kn.pick (ks := []) hk rfl), hs, H⟩
      · rw [b153] at hk H
        replace H := bifT H
        refine x_if hk (b := true) rfl ?_
        refine (show Code.wpIn _ _ _ _ _ _ _ from ?_)
        refine wpIn_skip ?_
        refine then_n ?_
        refine x_seq ?_
        refine wpIn_block ?_
        refine x_seq ?_
        refine wpIn_region_lit ?_
        obtain ⟨q154, H⟩ := ifS H
        refine x_run tab hk (k := 2) (lv := [.agg #[.int .i64 ((rdD zT32 ([(⟨4352, 4447⟩ : T32), (⟨11904, 12350⟩ : T32), (⟨12353, 13311⟩ : T32), (⟨13312, 19903⟩ : T32), (⟨19968, 40959⟩ : T32), (⟨40960, 42191⟩ : T32), (⟨44032, 55203⟩ : T32), (⟨63744, 64255⟩ : T32), (⟨65072, 65135⟩ : T32), (⟨65280, 65376⟩ : T32), (⟨65504, 65510⟩ : T32), (⟨127744, 128591⟩ : T32), (⟨129280, 129535⟩ : T32), (⟨131072, 262141⟩ : T32)] : List T32) x136).a0), .int .i64 ((rdD zT32 ([(⟨4352, 4447⟩ : T32), (⟨11904, 12350⟩ : T32), (⟨12353, 13311⟩ : T32), (⟨13312, 19903⟩ : T32), (⟨19968, 40959⟩ : T32), (⟨40960, 42191⟩ : T32), (⟨44032, 55203⟩ : T32), (⟨63744, 64255⟩ : T32), (⟨65072, 65135⟩ : T32), (⟨65280, 65376⟩ : T32), (⟨65504, 65510⟩ : T32), (⟨127744, 128591⟩ : T32), (⟨129280, 129535⟩ : T32), (⟨131072, 262141⟩ : T32)] : List T32) x136).a1)]]) (ks := [0, 59, 60, 61, 64]) (e' := [(0, .int .i64 p0), (59, .slice (some ⟨bx10, 0, none⟩) (([(⟨4352, 4447⟩ : T32), (⟨11904, 12350⟩ : T32), (⟨12353, 13311⟩ : T32), (⟨13312, 19903⟩ : T32), (⟨19968, 40959⟩ : T32), (⟨40960, 42191⟩ : T32), (⟨44032, 55203⟩ : T32), (⟨63744, 64255⟩ : T32), (⟨65072, 65135⟩ : T32), (⟨65280, 65376⟩ : T32), (⟨65504, 65510⟩ : T32), (⟨127744, 128591⟩ : T32), (⟨129280, 129535⟩ : T32), (⟨131072, 262141⟩ : T32)] : List T32)).length 14), (60, .int .i64 ((([(⟨4352, 4447⟩ : T32), (⟨11904, 12350⟩ : T32), (⟨12353, 13311⟩ : T32), (⟨13312, 19903⟩ : T32), (⟨19968, 40959⟩ : T32), (⟨40960, 42191⟩ : T32), (⟨44032, 55203⟩ : T32), (⟨63744, 64255⟩ : T32), (⟨65072, 65135⟩ : T32), (⟨65280, 65376⟩ : T32), (⟨65504, 65510⟩ : T32), (⟨127744, 128591⟩ : T32), (⟨129280, 129535⟩ : T32), (⟨131072, 262141⟩ : T32)] : List T32)).length : Int)), (61, .int .i64 x136), (64, .agg #[.int .i64 ((rdD zT32 ([(⟨4352, 4447⟩ : T32), (⟨11904, 12350⟩ : T32), (⟨12353, 13311⟩ : T32), (⟨13312, 19903⟩ : T32), (⟨19968, 40959⟩ : T32), (⟨40960, 42191⟩ : T32), (⟨44032, 55203⟩ : T32), (⟨63744, 64255⟩ : T32), (⟨65072, 65135⟩ : T32), (⟨65280, 65376⟩ : T32), (⟨65504, 65510⟩ : T32), (⟨127744, 128591⟩ : T32), (⟨129280, 129535⟩ : T32), (⟨131072, 262141⟩ : T32)] : List T32) x136).a0), .int .i64 ((rdD zT32 ([(⟨4352, 4447⟩ : T32), (⟨11904, 12350⟩ : T32), (⟨12353, 13311⟩ : T32), (⟨13312, 19903⟩ : T32), (⟨19968, 40959⟩ : T32), (⟨40960, 42191⟩ : T32), (⟨44032, 55203⟩ : T32), (⟨63744, 64255⟩ : T32), (⟨65072, 65135⟩ : T32), (⟨65280, 65376⟩ : T32), (⟨65504, 65510⟩ : T32), (⟨127744, 128591⟩ : T32), (⟨129280, 129535⟩ : T32), (⟨131072, 262141⟩ : T32)] : List T32) x136).a1)])]) rfl ⟨q154, (load_elem (E := ET32) (i := x136) (dx := zT32) tab rfl rfl (Own.rd f12.now) q154), trivial⟩ fun a hk => ?_
        refine x_op hk rfl ?_
        refine op_alloc (o := o135) tab (t := 32) (cs := [.int .i64 0, .int .i64 0]) rfl rfl 22 fun bx158 w155 o156 st157 f159 => ?_
        replace f12 := f12.st st157 (by decide)
        replace hs := hs.loc0 st157 (by decide)
        have hk := hk.put 8 (.pointer (some ⟨bx158, 0, none⟩)) rfl
        refine x_op hk rfl ?_
        refine op_store tab hk (t := 32) (v := .agg #[.int .i64 ((rdD zT32 ([(⟨4352, 4447⟩ : T32), (⟨11904, 12350⟩ : T32), (⟨12353, 13311⟩ : T32), (⟨13312, 19903⟩ : T32), (⟨19968, 40959⟩ : T32), (⟨40960, 42191⟩ : T32), (⟨44032, 55203⟩ : T32), (⟨63744, 64255⟩ : T32), (⟨65072, 65135⟩ : T32), (⟨65280, 65376⟩ : T32), (⟨65504, 65510⟩ : T32), (⟨127744, 128591⟩ : T32), (⟨129280, 129535⟩ : T32), (⟨131072, 262141⟩ : T32)] : List T32) x136).a0), .int .i64 ((rdD zT32 ([(⟨4352, 4447⟩ : T32), (⟨11904, 12350⟩ : T32), (⟨12353, 13311⟩ : T32), (⟨13312, 19903⟩ : T32), (⟨19968, 40959⟩ : T32), (⟨40960, 42191⟩ : T32), (⟨44032, 55203⟩ : T32), (⟨63744, 64255⟩ : T32), (⟨65072, 65135⟩ : T32), (⟨65280, 65376⟩ : T32), (⟨65504, 65510⟩ : T32), (⟨127744, 128591⟩ : T32), (⟨129280, 129535⟩ : T32), (⟨131072, 262141⟩ : T32)] : List T32) x136).a1)]) (b := bx158) (k := 0) (cs' := [.int .i64 ((rdD zT32 ([(⟨4352, 4447⟩ : T32), (⟨11904, 12350⟩ : T32), (⟨12353, 13311⟩ : T32), (⟨13312, 19903⟩ : T32), (⟨19968, 40959⟩ : T32), (⟨40960, 42191⟩ : T32), (⟨44032, 55203⟩ : T32), (⟨63744, 64255⟩ : T32), (⟨65072, 65135⟩ : T32), (⟨65280, 65376⟩ : T32), (⟨65504, 65510⟩ : T32), (⟨127744, 128591⟩ : T32), (⟨129280, 129535⟩ : T32), (⟨131072, 262141⟩ : T32)] : List T32) x136).a0), .int .i64 ((rdD zT32 ([(⟨4352, 4447⟩ : T32), (⟨11904, 12350⟩ : T32), (⟨12353, 13311⟩ : T32), (⟨13312, 19903⟩ : T32), (⟨19968, 40959⟩ : T32), (⟨40960, 42191⟩ : T32), (⟨44032, 55203⟩ : T32), (⟨63744, 64255⟩ : T32), (⟨65072, 65135⟩ : T32), (⟨65280, 65376⟩ : T32), (⟨65504, 65510⟩ : T32), (⟨127744, 128591⟩ : T32), (⟨129280, 129535⟩ : T32), (⟨131072, 262141⟩ : T32)] : List T32) x136).a1)]) rfl rfl rfl rfl rfl rfl f159 rfl rfl fun w160 o161 st162 f159_ => ?_
        replace f12 := f12.st st162 (by decide)
        replace hs := hs.loc0 st162 (by decide)
        replace f159 := f159_
        refine wpListIn_nil ?_
        refine then_n ?_
        refine x_seq ?_
        refine wpIn_region_lit ?_
        refine x_run tab hk (k := 5) (lv := [.int .i64 ((rdD zT32 ([(⟨4352, 4447⟩ : T32), (⟨11904, 12350⟩ : T32), (⟨12353, 13311⟩ : T32), (⟨13312, 19903⟩ : T32), (⟨19968, 40959⟩ : T32), (⟨40960, 42191⟩ : T32), (⟨44032, 55203⟩ : T32), (⟨63744, 64255⟩ : T32), (⟨65072, 65135⟩ : T32), (⟨65280, 65376⟩ : T32), (⟨65504, 65510⟩ : T32), (⟨127744, 128591⟩ : T32), (⟨129280, 129535⟩ : T32), (⟨131072, 262141⟩ : T32)] : List T32) x136).a0)]) (ks := [0, 8, 59, 60, 61, 69]) (e' := [(0, .int .i64 p0), (8, .pointer (some ⟨bx158, 0, none⟩)), (59, .slice (some ⟨bx10, 0, none⟩) (([(⟨4352, 4447⟩ : T32), (⟨11904, 12350⟩ : T32), (⟨12353, 13311⟩ : T32), (⟨13312, 19903⟩ : T32), (⟨19968, 40959⟩ : T32), (⟨40960, 42191⟩ : T32), (⟨44032, 55203⟩ : T32), (⟨63744, 64255⟩ : T32), (⟨65072, 65135⟩ : T32), (⟨65280, 65376⟩ : T32), (⟨65504, 65510⟩ : T32), (⟨127744, 128591⟩ : T32), (⟨129280, 129535⟩ : T32), (⟨131072, 262141⟩ : T32)] : List T32)).length 14), (60, .int .i64 ((([(⟨4352, 4447⟩ : T32), (⟨11904, 12350⟩ : T32), (⟨12353, 13311⟩ : T32), (⟨13312, 19903⟩ : T32), (⟨19968, 40959⟩ : T32), (⟨40960, 42191⟩ : T32), (⟨44032, 55203⟩ : T32), (⟨63744, 64255⟩ : T32), (⟨65072, 65135⟩ : T32), (⟨65280, 65376⟩ : T32), (⟨65504, 65510⟩ : T32), (⟨127744, 128591⟩ : T32), (⟨129280, 129535⟩ : T32), (⟨131072, 262141⟩ : T32)] : List T32)).length : Int)), (61, .int .i64 x136), (69, .bool (decide (p0 ≥ ((rdD zT32 ([(⟨4352, 4447⟩ : T32), (⟨11904, 12350⟩ : T32), (⟨12353, 13311⟩ : T32), (⟨13312, 19903⟩ : T32), (⟨19968, 40959⟩ : T32), (⟨40960, 42191⟩ : T32), (⟨44032, 55203⟩ : T32), (⟨63744, 64255⟩ : T32), (⟨65072, 65135⟩ : T32), (⟨65280, 65376⟩ : T32), (⟨65504, 65510⟩ : T32), (⟨127744, 128591⟩ : T32), (⟨129280, 129535⟩ : T32), (⟨131072, 262141⟩ : T32)] : List T32) x136).a0))))]) rfl ⟨(show (0 : Int) ≤ 0 ∧ (0 : Int) < 2 from by decide), (load1 tab rfl ((Bx.cell f159.now 0).trans rfl)), trivial⟩ fun a hk => ?_
        cases b163 : (decide (p0 ≥ ((rdD zT32 ([(⟨4352, 4447⟩ : T32), (⟨11904, 12350⟩ : T32), (⟨12353, 13311⟩ : T32), (⟨13312, 19903⟩ : T32), (⟨19968, 40959⟩ : T32), (⟨40960, 42191⟩ : T32), (⟨44032, 55203⟩ : T32), (⟨63744, 64255⟩ : T32), (⟨65072, 65135⟩ : T32), (⟨65280, 65376⟩ : T32), (⟨65504, 65510⟩ : T32), (⟨127744, 128591⟩ : T32), (⟨129280, 129535⟩ : T32), (⟨131072, 262141⟩ : T32)] : List T32) x136).a0)))
        · rw [b163] at hk H
          replace H := bifF H
          refine x_run tab hk (k := 5) (lv := []) (ks := [0, 59, 60, 61, 74]) (e' := [(0, .int .i64 p0), (59, .slice (some ⟨bx10, 0, none⟩) (([(⟨4352, 4447⟩ : T32), (⟨11904, 12350⟩ : T32), (⟨12353, 13311⟩ : T32), (⟨13312, 19903⟩ : T32), (⟨19968, 40959⟩ : T32), (⟨40960, 42191⟩ : T32), (⟨44032, 55203⟩ : T32), (⟨63744, 64255⟩ : T32), (⟨65072, 65135⟩ : T32), (⟨65280, 65376⟩ : T32), (⟨65504, 65510⟩ : T32), (⟨127744, 128591⟩ : T32), (⟨129280, 129535⟩ : T32), (⟨131072, 262141⟩ : T32)] : List T32)).length 14), (60, .int .i64 ((([(⟨4352, 4447⟩ : T32), (⟨11904, 12350⟩ : T32), (⟨12353, 13311⟩ : T32), (⟨13312, 19903⟩ : T32), (⟨19968, 40959⟩ : T32), (⟨40960, 42191⟩ : T32), (⟨44032, 55203⟩ : T32), (⟨63744, 64255⟩ : T32), (⟨65072, 65135⟩ : T32), (⟨65280, 65376⟩ : T32), (⟨65504, 65510⟩ : T32), (⟨127744, 128591⟩ : T32), (⟨129280, 129535⟩ : T32), (⟨131072, 262141⟩ : T32)] : List T32)).length : Int)), (61, .int .i64 x136), (74, .bool false)]) rfl trivial fun a hk => ?_
          refine wpListIn_nil ?_
          refine then_n ?_
          refine x_if hk (b := false) rfl ?_
          refine (show Code.wpIn _ _ _ _ _ _ _ from ?_)
          refine wpIn_skip ?_
          refine blk_n ?_
          refine then_n ?_
          refine wpIn_region_lit ?_
          refine x_run tab hk (k := 2) (lv := []) (ks := [0, 59, 60, 61]) (e' := [(0, .int .i64 p0), (59, .slice (some ⟨bx10, 0, none⟩) (([(⟨4352, 4447⟩ : T32), (⟨11904, 12350⟩ : T32), (⟨12353, 13311⟩ : T32), (⟨13312, 19903⟩ : T32), (⟨19968, 40959⟩ : T32), (⟨40960, 42191⟩ : T32), (⟨44032, 55203⟩ : T32), (⟨63744, 64255⟩ : T32), (⟨65072, 65135⟩ : T32), (⟨65280, 65376⟩ : T32), (⟨65504, 65510⟩ : T32), (⟨127744, 128591⟩ : T32), (⟨129280, 129535⟩ : T32), (⟨131072, 262141⟩ : T32)] : List T32)).length 14), (60, .int .i64 ((([(⟨4352, 4447⟩ : T32), (⟨11904, 12350⟩ : T32), (⟨12353, 13311⟩ : T32), (⟨13312, 19903⟩ : T32), (⟨19968, 40959⟩ : T32), (⟨40960, 42191⟩ : T32), (⟨44032, 55203⟩ : T32), (⟨63744, 64255⟩ : T32), (⟨65072, 65135⟩ : T32), (⟨65280, 65376⟩ : T32), (⟨65504, 65510⟩ : T32), (⟨127744, 128591⟩ : T32), (⟨129280, 129535⟩ : T32), (⟨131072, 262141⟩ : T32)] : List T32)).length : Int)), (61, .int .i64 (IntKind.wrap .i64 (x136 + 1)))]) rfl trivial fun a hk => ?_
          refine wpListIn_nil ?_
          refine then_n ?_
          exact ⟨k150, Nat.le_refl _, o161, (IntKind.wrap .i64 (x136 + 1)), (by exact Kn.pick (ks := [0, 59, 60, 61]) hk rfl), hs, f12, (hlp152 ▸ H)⟩
        · rw [b163] at hk H
          replace H := bifT H
          refine x_run tab hk (k := 5) (lv := [.int .i64 ((rdD zT32 ([(⟨4352, 4447⟩ : T32), (⟨11904, 12350⟩ : T32), (⟨12353, 13311⟩ : T32), (⟨13312, 19903⟩ : T32), (⟨19968, 40959⟩ : T32), (⟨40960, 42191⟩ : T32), (⟨44032, 55203⟩ : T32), (⟨63744, 64255⟩ : T32), (⟨65072, 65135⟩ : T32), (⟨65280, 65376⟩ : T32), (⟨65504, 65510⟩ : T32), (⟨127744, 128591⟩ : T32), (⟨129280, 129535⟩ : T32), (⟨131072, 262141⟩ : T32)] : List T32) x136).a1)]) (ks := [0, 59, 60, 61, 74]) (e' := [(0, .int .i64 p0), (59, .slice (some ⟨bx10, 0, none⟩) (([(⟨4352, 4447⟩ : T32), (⟨11904, 12350⟩ : T32), (⟨12353, 13311⟩ : T32), (⟨13312, 19903⟩ : T32), (⟨19968, 40959⟩ : T32), (⟨40960, 42191⟩ : T32), (⟨44032, 55203⟩ : T32), (⟨63744, 64255⟩ : T32), (⟨65072, 65135⟩ : T32), (⟨65280, 65376⟩ : T32), (⟨65504, 65510⟩ : T32), (⟨127744, 128591⟩ : T32), (⟨129280, 129535⟩ : T32), (⟨131072, 262141⟩ : T32)] : List T32)).length 14), (60, .int .i64 ((([(⟨4352, 4447⟩ : T32), (⟨11904, 12350⟩ : T32), (⟨12353, 13311⟩ : T32), (⟨13312, 19903⟩ : T32), (⟨19968, 40959⟩ : T32), (⟨40960, 42191⟩ : T32), (⟨44032, 55203⟩ : T32), (⟨63744, 64255⟩ : T32), (⟨65072, 65135⟩ : T32), (⟨65280, 65376⟩ : T32), (⟨65504, 65510⟩ : T32), (⟨127744, 128591⟩ : T32), (⟨129280, 129535⟩ : T32), (⟨131072, 262141⟩ : T32)] : List T32)).length : Int)), (61, .int .i64 x136), (74, .bool (decide (p0 ≤ ((rdD zT32 ([(⟨4352, 4447⟩ : T32), (⟨11904, 12350⟩ : T32), (⟨12353, 13311⟩ : T32), (⟨13312, 19903⟩ : T32), (⟨19968, 40959⟩ : T32), (⟨40960, 42191⟩ : T32), (⟨44032, 55203⟩ : T32), (⟨63744, 64255⟩ : T32), (⟨65072, 65135⟩ : T32), (⟨65280, 65376⟩ : T32), (⟨65504, 65510⟩ : T32), (⟨127744, 128591⟩ : T32), (⟨129280, 129535⟩ : T32), (⟨131072, 262141⟩ : T32)] : List T32) x136).a1))))]) rfl ⟨(show (0 : Int) ≤ 1 ∧ (1 : Int) < 2 from by decide), (load1 tab rfl ((Bx.cell f159.now 1).trans rfl)), trivial⟩ fun a hk => ?_
          refine wpListIn_nil ?_
          refine then_n ?_
          cases b164 : (decide (p0 ≤ ((rdD zT32 ([(⟨4352, 4447⟩ : T32), (⟨11904, 12350⟩ : T32), (⟨12353, 13311⟩ : T32), (⟨13312, 19903⟩ : T32), (⟨19968, 40959⟩ : T32), (⟨40960, 42191⟩ : T32), (⟨44032, 55203⟩ : T32), (⟨63744, 64255⟩ : T32), (⟨65072, 65135⟩ : T32), (⟨65280, 65376⟩ : T32), (⟨65504, 65510⟩ : T32), (⟨127744, 128591⟩ : T32), (⟨129280, 129535⟩ : T32), (⟨131072, 262141⟩ : T32)] : List T32) x136).a1)))
          · rw [b164] at hk H
            replace H := bifF H
            refine x_if hk (b := false) rfl ?_
            refine (show Code.wpIn _ _ _ _ _ _ _ from ?_)
            refine wpIn_skip ?_
            refine blk_n ?_
            refine then_n ?_
            refine wpIn_region_lit ?_
            refine x_run tab hk (k := 2) (lv := []) (ks := [0, 59, 60, 61]) (e' := [(0, .int .i64 p0), (59, .slice (some ⟨bx10, 0, none⟩) (([(⟨4352, 4447⟩ : T32), (⟨11904, 12350⟩ : T32), (⟨12353, 13311⟩ : T32), (⟨13312, 19903⟩ : T32), (⟨19968, 40959⟩ : T32), (⟨40960, 42191⟩ : T32), (⟨44032, 55203⟩ : T32), (⟨63744, 64255⟩ : T32), (⟨65072, 65135⟩ : T32), (⟨65280, 65376⟩ : T32), (⟨65504, 65510⟩ : T32), (⟨127744, 128591⟩ : T32), (⟨129280, 129535⟩ : T32), (⟨131072, 262141⟩ : T32)] : List T32)).length 14), (60, .int .i64 ((([(⟨4352, 4447⟩ : T32), (⟨11904, 12350⟩ : T32), (⟨12353, 13311⟩ : T32), (⟨13312, 19903⟩ : T32), (⟨19968, 40959⟩ : T32), (⟨40960, 42191⟩ : T32), (⟨44032, 55203⟩ : T32), (⟨63744, 64255⟩ : T32), (⟨65072, 65135⟩ : T32), (⟨65280, 65376⟩ : T32), (⟨65504, 65510⟩ : T32), (⟨127744, 128591⟩ : T32), (⟨129280, 129535⟩ : T32), (⟨131072, 262141⟩ : T32)] : List T32)).length : Int)), (61, .int .i64 (IntKind.wrap .i64 (x136 + 1)))]) rfl trivial fun a hk => ?_
            refine wpListIn_nil ?_
            refine then_n ?_
            exact ⟨k150, Nat.le_refl _, o161, (IntKind.wrap .i64 (x136 + 1)), (by exact Kn.pick (ks := [0, 59, 60, 61]) hk rfl), hs, f12, (hlp152 ▸ H)⟩
          · rw [b164] at hk H
            replace H := bifT H
            refine x_if hk (b := true) rfl ?_
            refine (show Code.wpIn _ _ _ _ _ _ _ from ?_)
            refine x_seq ?_
            refine wpIn_region_lit ?_
            refine x_run tab hk (k := 1) (lv := []) (ks := [2]) (e' := [(2, .int .i64 2)]) rfl trivial fun a hk => ?_
            refine wpListIn_nil ?_
            refine then_n ?_
            refine wpIn_ret ?_
            refine blk_r ?_
            refine then_r ?_
            refine then_r ?_
            refine blk_r ?_
            refine then_r ?_
            obtain rfl := Option.some.inj H
            exact x_retG hk (rs := [.tmp 2]) (vs := [.int .i64 2]) rfl ⟨rfl, trivial⟩ ⟨fun b_ => if b_ < w.heap.size then o b_ else (fun _ => 0) (o161 b_), rfl, hs.close0 o (fun _ => 0)⟩
    refine x_seq ?_
    refine wpIn_region_lit ?_
    refine x_run tab hk (k := 3) (lv := []) (ks := [0, 4, 42, 43, 44]) (e' := [(0, .int .i64 p0), (4, .slice (some ⟨bx10, 0, none⟩) (([(⟨4352, 4447⟩ : T32), (⟨11904, 12350⟩ : T32), (⟨12353, 13311⟩ : T32), (⟨13312, 19903⟩ : T32), (⟨19968, 40959⟩ : T32), (⟨40960, 42191⟩ : T32), (⟨44032, 55203⟩ : T32), (⟨63744, 64255⟩ : T32), (⟨65072, 65135⟩ : T32), (⟨65280, 65376⟩ : T32), (⟨65504, 65510⟩ : T32), (⟨127744, 128591⟩ : T32), (⟨129280, 129535⟩ : T32), (⟨131072, 262141⟩ : T32)] : List T32)).length 14), (42, .slice (some ⟨bx4, 0, none⟩) (([(⟨127, 159⟩ : T32), (⟨768, 879⟩ : T32), (⟨6832, 6911⟩ : T32), (⟨7616, 7679⟩ : T32), (⟨8203, 8207⟩ : T32), (⟨8400, 8447⟩ : T32), (⟨55296, 57343⟩ : T32), (⟨65024, 65039⟩ : T32), (⟨65056, 65071⟩ : T32), (⟨65279, 65279⟩ : T32), (⟨917760, 917999⟩ : T32)] : List T32)).length 11), (43, .int .i64 ((([(⟨127, 159⟩ : T32), (⟨768, 879⟩ : T32), (⟨6832, 6911⟩ : T32), (⟨7616, 7679⟩ : T32), (⟨8203, 8207⟩ : T32), (⟨8400, 8447⟩ : T32), (⟨55296, 57343⟩ : T32), (⟨65024, 65039⟩ : T32), (⟨65056, 65071⟩ : T32), (⟨65279, 65279⟩ : T32), (⟨917760, 917999⟩ : T32)] : List T32)).length : Int)), (44, .int .i64 0)]) rfl trivial fun a hk => ?_
    refine wpListIn_nil ?_
    refine then_n ?_
    refine wpIn_block ?_
    refine x_loop (fun j_ a_ w_ => ∃ o180 : Nat → Nat, ∃ x181 : Int, Kn 76 a_ [(0, .int .i64 p0), (4, .slice (some ⟨bx10, 0, none⟩) (([(⟨4352, 4447⟩ : T32), (⟨11904, 12350⟩ : T32), (⟨12353, 13311⟩ : T32), (⟨13312, 19903⟩ : T32), (⟨19968, 40959⟩ : T32), (⟨40960, 42191⟩ : T32), (⟨44032, 55203⟩ : T32), (⟨63744, 64255⟩ : T32), (⟨65072, 65135⟩ : T32), (⟨65280, 65376⟩ : T32), (⟨65504, 65510⟩ : T32), (⟨127744, 128591⟩ : T32), (⟨129280, 129535⟩ : T32), (⟨131072, 262141⟩ : T32)] : List T32)).length 14), (42, .slice (some ⟨bx4, 0, none⟩) (([(⟨127, 159⟩ : T32), (⟨768, 879⟩ : T32), (⟨6832, 6911⟩ : T32), (⟨7616, 7679⟩ : T32), (⟨8203, 8207⟩ : T32), (⟨8400, 8447⟩ : T32), (⟨55296, 57343⟩ : T32), (⟨65024, 65039⟩ : T32), (⟨65056, 65071⟩ : T32), (⟨65279, 65279⟩ : T32), (⟨917760, 917999⟩ : T32)] : List T32)).length 11), (43, .int .i64 ((([(⟨127, 159⟩ : T32), (⟨768, 879⟩ : T32), (⟨6832, 6911⟩ : T32), (⟨7616, 7679⟩ : T32), (⟨8203, 8207⟩ : T32), (⟨8400, 8447⟩ : T32), (⟨55296, 57343⟩ : T32), (⟨65024, 65039⟩ : T32), (⟨65056, 65071⟩ : T32), (⟨65279, 65279⟩ : T32), (⟨917760, 917999⟩ : T32)] : List T32)).length : Int)), (44, .int .i64 x181)] ∧ St [] w (fun _ => 0) w_ o180 ∧ Ft (Own ET32 32 (.slice (some ⟨bx10, 0, none⟩) (([(⟨4352, 4447⟩ : T32), (⟨11904, 12350⟩ : T32), (⟨12353, 13311⟩ : T32), (⟨13312, 19903⟩ : T32), (⟨19968, 40959⟩ : T32), (⟨40960, 42191⟩ : T32), (⟨44032, 55203⟩ : T32), (⟨63744, 64255⟩ : T32), (⟨65072, 65135⟩ : T32), (⟨65280, 65376⟩ : T32), (⟨65504, 65510⟩ : T32), (⟨127744, 128591⟩ : T32), (⟨129280, 129535⟩ : T32), (⟨131072, 262141⟩ : T32)] : List T32)).length 14) ([(⟨4352, 4447⟩ : T32), (⟨11904, 12350⟩ : T32), (⟨12353, 13311⟩ : T32), (⟨13312, 19903⟩ : T32), (⟨19968, 40959⟩ : T32), (⟨40960, 42191⟩ : T32), (⟨44032, 55203⟩ : T32), (⟨63744, 64255⟩ : T32), (⟨65072, 65135⟩ : T32), (⟨65280, 65376⟩ : T32), (⟨65504, 65510⟩ : T32), (⟨127744, 128591⟩ : T32), (⟨129280, 129535⟩ : T32), (⟨131072, 262141⟩ : T32)] : List T32)) w_ o180 26 ∧ Ft (Own ET32 32 (.slice (some ⟨bx4, 0, none⟩) (([(⟨127, 159⟩ : T32), (⟨768, 879⟩ : T32), (⟨6832, 6911⟩ : T32), (⟨7616, 7679⟩ : T32), (⟨8203, 8207⟩ : T32), (⟨8400, 8447⟩ : T32), (⟨55296, 57343⟩ : T32), (⟨65024, 65039⟩ : T32), (⟨65056, 65071⟩ : T32), (⟨65279, 65279⟩ : T32), (⟨917760, 917999⟩ : T32)] : List T32)).length 11) ([(⟨127, 159⟩ : T32), (⟨768, 879⟩ : T32), (⟨6832, 6911⟩ : T32), (⟨7616, 7679⟩ : T32), (⟨8203, 8207⟩ : T32), (⟨8400, 8447⟩ : T32), (⟨55296, 57343⟩ : T32), (⟨65024, 65039⟩ : T32), (⟨65056, 65071⟩ : T32), (⟨65279, 65279⟩ : T32), (⟨917760, 917999⟩ : T32)] : List T32)) w_ o180 27 ∧ tidewrackref06_Of_l5 K p0 j_ x181 = some r) (k := K) ⟨(fun b_ => (fun l_ => if l_ = 3 then 27 else if l_ = 4 then 26 else l_) (o18 b_)), 0, (by exact Kn.pick (ks := [0, 4, 42, 43, 44]) hk rfl), (hs.relab0 (fun l_ => if l_ = 3 then 27 else if l_ = 4 then 26 else l_) rfl), (f12.relab (fun l_ => if l_ = 3 then 27 else if l_ = 4 then 26 else l_) rfl), (f6.relab (fun l_ => if l_ = 3 then 27 else if l_ = 4 then 26 else l_) rfl), H⟩ (by rintro _ _ ⟨_, _, _, _, _, _, H_⟩; exact absurd (show (none : Option Int) = some r from H_) (by simp)) ?_
    rintro k195 a w194 ⟨o180, x181, hk, hs, f12, f6, H⟩
    rw [tidewrackref06_Of_l5] at H
    obtain ⟨lp196, hlp197⟩ : ∃ lp_, lp_ = tidewrackref06_Of_l5 K p0 k195 := ⟨_, rfl⟩
    rw [← hlp197] at H
    refine x_seq ?_
    refine wpIn_region_lit ?_
    refine x_run tab hk (k := 1) (lv := []) (ks := [0, 4, 42, 43, 44, 45]) (e' := [(0, .int .i64 p0), (4, .slice (some ⟨bx10, 0, none⟩) (([(⟨4352, 4447⟩ : T32), (⟨11904, 12350⟩ : T32), (⟨12353, 13311⟩ : T32), (⟨13312, 19903⟩ : T32), (⟨19968, 40959⟩ : T32), (⟨40960, 42191⟩ : T32), (⟨44032, 55203⟩ : T32), (⟨63744, 64255⟩ : T32), (⟨65072, 65135⟩ : T32), (⟨65280, 65376⟩ : T32), (⟨65504, 65510⟩ : T32), (⟨127744, 128591⟩ : T32), (⟨129280, 129535⟩ : T32), (⟨131072, 262141⟩ : T32)] : List T32)).length 14), (42, .slice (some ⟨bx4, 0, none⟩) (([(⟨127, 159⟩ : T32), (⟨768, 879⟩ : T32), (⟨6832, 6911⟩ : T32), (⟨7616, 7679⟩ : T32), (⟨8203, 8207⟩ : T32), (⟨8400, 8447⟩ : T32), (⟨55296, 57343⟩ : T32), (⟨65024, 65039⟩ : T32), (⟨65056, 65071⟩ : T32), (⟨65279, 65279⟩ : T32), (⟨917760, 917999⟩ : T32)] : List T32)).length 11), (43, .int .i64 ((([(⟨127, 159⟩ : T32), (⟨768, 879⟩ : T32), (⟨6832, 6911⟩ : T32), (⟨7616, 7679⟩ : T32), (⟨8203, 8207⟩ : T32), (⟨8400, 8447⟩ : T32), (⟨55296, 57343⟩ : T32), (⟨65024, 65039⟩ : T32), (⟨65056, 65071⟩ : T32), (⟨65279, 65279⟩ : T32), (⟨917760, 917999⟩ : T32)] : List T32)).length : Int)), (44, .int .i64 x181), (45, .bool (decide (x181 < ((([(⟨127, 159⟩ : T32), (⟨768, 879⟩ : T32), (⟨6832, 6911⟩ : T32), (⟨7616, 7679⟩ : T32), (⟨8203, 8207⟩ : T32), (⟨8400, 8447⟩ : T32), (⟨55296, 57343⟩ : T32), (⟨65024, 65039⟩ : T32), (⟨65056, 65071⟩ : T32), (⟨65279, 65279⟩ : T32), (⟨917760, 917999⟩ : T32)] : List T32)).length : Int))))]) rfl trivial fun a hk => ?_
    refine wpListIn_nil ?_
    refine then_n ?_
    refine x_seq ?_
    cases b198 : (decide (x181 < ((([(⟨127, 159⟩ : T32), (⟨768, 879⟩ : T32), (⟨6832, 6911⟩ : T32), (⟨7616, 7679⟩ : T32), (⟨8203, 8207⟩ : T32), (⟨8400, 8447⟩ : T32), (⟨55296, 57343⟩ : T32), (⟨65024, 65039⟩ : T32), (⟨65056, 65071⟩ : T32), (⟨65279, 65279⟩ : T32), (⟨917760, 917999⟩ : T32)] : List T32)).length : Int)))
    · rw [b198] at hk H
      replace H := bifF H
      refine x_if hk (b := false) rfl ?_
      refine (show Code.wpIn _ _ _ _ _ _ _ from ?_)
      refine wpIn_exit ?_
      refine then_x ?_
      refine then_x ?_
      refine blk_x ?_
      refine then_n ?_
      exact ⟨(fun b_ => (fun l_ => if l_ = 26 then 12 else l_) (o180 b_)), (by exact Kn.pick (ks := [0, 4]) hk rfl), (hs.relab0 (fun l_ => if l_ = 26 then 12 else l_) rfl), (f12.relab (fun l_ => if l_ = 26 then 12 else l_) rfl), H⟩
    · rw [b198] at hk H
      replace H := bifT H
      refine x_if hk (b := true) rfl ?_
      refine (show Code.wpIn _ _ _ _ _ _ _ from ?_)
      refine wpIn_skip ?_
      refine then_n ?_
      refine x_seq ?_
      refine wpIn_block ?_
      refine x_seq ?_
      refine wpIn_region_lit ?_
      obtain ⟨q199, H⟩ := ifS H
      refine x_run tab hk (k := 2) (lv := [.agg #[.int .i64 ((rdD zT32 ([(⟨127, 159⟩ : T32), (⟨768, 879⟩ : T32), (⟨6832, 6911⟩ : T32), (⟨7616, 7679⟩ : T32), (⟨8203, 8207⟩ : T32), (⟨8400, 8447⟩ : T32), (⟨55296, 57343⟩ : T32), (⟨65024, 65039⟩ : T32), (⟨65056, 65071⟩ : T32), (⟨65279, 65279⟩ : T32), (⟨917760, 917999⟩ : T32)] : List T32) x181).a0), .int .i64 ((rdD zT32 ([(⟨127, 159⟩ : T32), (⟨768, 879⟩ : T32), (⟨6832, 6911⟩ : T32), (⟨7616, 7679⟩ : T32), (⟨8203, 8207⟩ : T32), (⟨8400, 8447⟩ : T32), (⟨55296, 57343⟩ : T32), (⟨65024, 65039⟩ : T32), (⟨65056, 65071⟩ : T32), (⟨65279, 65279⟩ : T32), (⟨917760, 917999⟩ : T32)] : List T32) x181).a1)]]) (ks := [0, 4, 42, 43, 44, 47]) (e' := [(0, .int .i64 p0), (4, .slice (some ⟨bx10, 0, none⟩) (([(⟨4352, 4447⟩ : T32), (⟨11904, 12350⟩ : T32), (⟨12353, 13311⟩ : T32), (⟨13312, 19903⟩ : T32), (⟨19968, 40959⟩ : T32), (⟨40960, 42191⟩ : T32), (⟨44032, 55203⟩ : T32), (⟨63744, 64255⟩ : T32), (⟨65072, 65135⟩ : T32), (⟨65280, 65376⟩ : T32), (⟨65504, 65510⟩ : T32), (⟨127744, 128591⟩ : T32), (⟨129280, 129535⟩ : T32), (⟨131072, 262141⟩ : T32)] : List T32)).length 14), (42, .slice (some ⟨bx4, 0, none⟩) (([(⟨127, 159⟩ : T32), (⟨768, 879⟩ : T32), (⟨6832, 6911⟩ : T32), (⟨7616, 7679⟩ : T32), (⟨8203, 8207⟩ : T32), (⟨8400, 8447⟩ : T32), (⟨55296, 57343⟩ : T32), (⟨65024, 65039⟩ : T32), (⟨65056, 65071⟩ : T32), (⟨65279, 65279⟩ : T32), (⟨917760, 917999⟩ : T32)] : List T32)).length 11), (43, .int .i64 ((([(⟨127, 159⟩ : T32), (⟨768, 879⟩ : T32), (⟨6832, 6911⟩ : T32), (⟨7616, 7679⟩ : T32), (⟨8203, 8207⟩ : T32), (⟨8400, 8447⟩ : T32), (⟨55296, 57343⟩ : T32), (⟨65024, 65039⟩ : T32), (⟨65056, 65071⟩ : T32), (⟨65279, 65279⟩ : T32), (⟨917760, 917999⟩ : T32)] : List T32)).length : Int)), (44, .int .i64 x181), (47, .agg #[.int .i64 ((rdD zT32 ([(⟨127, 159⟩ : T32), (⟨768, 879⟩ : T32), (⟨6832, 6911⟩ : T32), (⟨7616, 7679⟩ : T32), (⟨8203, 8207⟩ : T32), (⟨8400, 8447⟩ : T32), (⟨55296, 57343⟩ : T32), (⟨65024, 65039⟩ : T32), (⟨65056, 65071⟩ : T32), (⟨65279, 65279⟩ : T32), (⟨917760, 917999⟩ : T32)] : List T32) x181).a0), .int .i64 ((rdD zT32 ([(⟨127, 159⟩ : T32), (⟨768, 879⟩ : T32), (⟨6832, 6911⟩ : T32), (⟨7616, 7679⟩ : T32), (⟨8203, 8207⟩ : T32), (⟨8400, 8447⟩ : T32), (⟨55296, 57343⟩ : T32), (⟨65024, 65039⟩ : T32), (⟨65056, 65071⟩ : T32), (⟨65279, 65279⟩ : T32), (⟨917760, 917999⟩ : T32)] : List T32) x181).a1)])]) rfl ⟨q199, (load_elem (E := ET32) (i := x181) (dx := zT32) tab rfl rfl (Own.rd f6.now) q199), trivial⟩ fun a hk => ?_
      refine x_op hk rfl ?_
      refine op_alloc (o := o180) tab (t := 32) (cs := [.int .i64 0, .int .i64 0]) rfl rfl 29 fun bx203 w200 o201 st202 f204 => ?_
      replace f12 := f12.st st202 (by decide)
      replace f6 := f6.st st202 (by decide)
      replace hs := hs.loc0 st202 (by decide)
      have hk := hk.put 6 (.pointer (some ⟨bx203, 0, none⟩)) rfl
      refine x_op hk rfl ?_
      refine op_store tab hk (t := 32) (v := .agg #[.int .i64 ((rdD zT32 ([(⟨127, 159⟩ : T32), (⟨768, 879⟩ : T32), (⟨6832, 6911⟩ : T32), (⟨7616, 7679⟩ : T32), (⟨8203, 8207⟩ : T32), (⟨8400, 8447⟩ : T32), (⟨55296, 57343⟩ : T32), (⟨65024, 65039⟩ : T32), (⟨65056, 65071⟩ : T32), (⟨65279, 65279⟩ : T32), (⟨917760, 917999⟩ : T32)] : List T32) x181).a0), .int .i64 ((rdD zT32 ([(⟨127, 159⟩ : T32), (⟨768, 879⟩ : T32), (⟨6832, 6911⟩ : T32), (⟨7616, 7679⟩ : T32), (⟨8203, 8207⟩ : T32), (⟨8400, 8447⟩ : T32), (⟨55296, 57343⟩ : T32), (⟨65024, 65039⟩ : T32), (⟨65056, 65071⟩ : T32), (⟨65279, 65279⟩ : T32), (⟨917760, 917999⟩ : T32)] : List T32) x181).a1)]) (b := bx203) (k := 0) (cs' := [.int .i64 ((rdD zT32 ([(⟨127, 159⟩ : T32), (⟨768, 879⟩ : T32), (⟨6832, 6911⟩ : T32), (⟨7616, 7679⟩ : T32), (⟨8203, 8207⟩ : T32), (⟨8400, 8447⟩ : T32), (⟨55296, 57343⟩ : T32), (⟨65024, 65039⟩ : T32), (⟨65056, 65071⟩ : T32), (⟨65279, 65279⟩ : T32), (⟨917760, 917999⟩ : T32)] : List T32) x181).a0), .int .i64 ((rdD zT32 ([(⟨127, 159⟩ : T32), (⟨768, 879⟩ : T32), (⟨6832, 6911⟩ : T32), (⟨7616, 7679⟩ : T32), (⟨8203, 8207⟩ : T32), (⟨8400, 8447⟩ : T32), (⟨55296, 57343⟩ : T32), (⟨65024, 65039⟩ : T32), (⟨65056, 65071⟩ : T32), (⟨65279, 65279⟩ : T32), (⟨917760, 917999⟩ : T32)] : List T32) x181).a1)]) rfl rfl rfl rfl rfl rfl f204 rfl rfl fun w205 o206 st207 f204_ => ?_
      replace f12 := f12.st st207 (by decide)
      replace f6 := f6.st st207 (by decide)
      replace hs := hs.loc0 st207 (by decide)
      replace f204 := f204_
      refine wpListIn_nil ?_
      refine then_n ?_
      refine x_seq ?_
      refine wpIn_region_lit ?_
      refine x_run tab hk (k := 5) (lv := [.int .i64 ((rdD zT32 ([(⟨127, 159⟩ : T32), (⟨768, 879⟩ : T32), (⟨6832, 6911⟩ : T32), (⟨7616, 7679⟩ : T32), (⟨8203, 8207⟩ : T32), (⟨8400, 8447⟩ : T32), (⟨55296, 57343⟩ : T32), (⟨65024, 65039⟩ : T32), (⟨65056, 65071⟩ : T32), (⟨65279, 65279⟩ : T32), (⟨917760, 917999⟩ : T32)] : List T32) x181).a0)]) (ks := [0, 4, 6, 42, 43, 44, 52]) (e' := [(0, .int .i64 p0), (4, .slice (some ⟨bx10, 0, none⟩) (([(⟨4352, 4447⟩ : T32), (⟨11904, 12350⟩ : T32), (⟨12353, 13311⟩ : T32), (⟨13312, 19903⟩ : T32), (⟨19968, 40959⟩ : T32), (⟨40960, 42191⟩ : T32), (⟨44032, 55203⟩ : T32), (⟨63744, 64255⟩ : T32), (⟨65072, 65135⟩ : T32), (⟨65280, 65376⟩ : T32), (⟨65504, 65510⟩ : T32), (⟨127744, 128591⟩ : T32), (⟨129280, 129535⟩ : T32), (⟨131072, 262141⟩ : T32)] : List T32)).length 14), (6, .pointer (some ⟨bx203, 0, none⟩)), (42, .slice (some ⟨bx4, 0, none⟩) (([(⟨127, 159⟩ : T32), (⟨768, 879⟩ : T32), (⟨6832, 6911⟩ : T32), (⟨7616, 7679⟩ : T32), (⟨8203, 8207⟩ : T32), (⟨8400, 8447⟩ : T32), (⟨55296, 57343⟩ : T32), (⟨65024, 65039⟩ : T32), (⟨65056, 65071⟩ : T32), (⟨65279, 65279⟩ : T32), (⟨917760, 917999⟩ : T32)] : List T32)).length 11), (43, .int .i64 ((([(⟨127, 159⟩ : T32), (⟨768, 879⟩ : T32), (⟨6832, 6911⟩ : T32), (⟨7616, 7679⟩ : T32), (⟨8203, 8207⟩ : T32), (⟨8400, 8447⟩ : T32), (⟨55296, 57343⟩ : T32), (⟨65024, 65039⟩ : T32), (⟨65056, 65071⟩ : T32), (⟨65279, 65279⟩ : T32), (⟨917760, 917999⟩ : T32)] : List T32)).length : Int)), (44, .int .i64 x181), (52, .bool (decide (p0 ≥ ((rdD zT32 ([(⟨127, 159⟩ : T32), (⟨768, 879⟩ : T32), (⟨6832, 6911⟩ : T32), (⟨7616, 7679⟩ : T32), (⟨8203, 8207⟩ : T32), (⟨8400, 8447⟩ : T32), (⟨55296, 57343⟩ : T32), (⟨65024, 65039⟩ : T32), (⟨65056, 65071⟩ : T32), (⟨65279, 65279⟩ : T32), (⟨917760, 917999⟩ : T32)] : List T32) x181).a0))))]) rfl ⟨(show (0 : Int) ≤ 0 ∧ (0 : Int) < 2 from by decide), (load1 tab rfl ((Bx.cell f204.now 0).trans rfl)), trivial⟩ fun a hk => ?_
      cases b208 : (decide (p0 ≥ ((rdD zT32 ([(⟨127, 159⟩ : T32), (⟨768, 879⟩ : T32), (⟨6832, 6911⟩ : T32), (⟨7616, 7679⟩ : T32), (⟨8203, 8207⟩ : T32), (⟨8400, 8447⟩ : T32), (⟨55296, 57343⟩ : T32), (⟨65024, 65039⟩ : T32), (⟨65056, 65071⟩ : T32), (⟨65279, 65279⟩ : T32), (⟨917760, 917999⟩ : T32)] : List T32) x181).a0)))
      · rw [b208] at hk H
        replace H := bifF H
        refine x_run tab hk (k := 5) (lv := []) (ks := [0, 4, 42, 43, 44, 57]) (e' := [(0, .int .i64 p0), (4, .slice (some ⟨bx10, 0, none⟩) (([(⟨4352, 4447⟩ : T32), (⟨11904, 12350⟩ : T32), (⟨12353, 13311⟩ : T32), (⟨13312, 19903⟩ : T32), (⟨19968, 40959⟩ : T32), (⟨40960, 42191⟩ : T32), (⟨44032, 55203⟩ : T32), (⟨63744, 64255⟩ : T32), (⟨65072, 65135⟩ : T32), (⟨65280, 65376⟩ : T32), (⟨65504, 65510⟩ : T32), (⟨127744, 128591⟩ : T32), (⟨129280, 129535⟩ : T32), (⟨131072, 262141⟩ : T32)] : List T32)).length 14), (42, .slice (some ⟨bx4, 0, none⟩) (([(⟨127, 159⟩ : T32), (⟨768, 879⟩ : T32), (⟨6832, 6911⟩ : T32), (⟨7616, 7679⟩ : T32), (⟨8203, 8207⟩ : T32), (⟨8400, 8447⟩ : T32), (⟨55296, 57343⟩ : T32), (⟨65024, 65039⟩ : T32), (⟨65056, 65071⟩ : T32), (⟨65279, 65279⟩ : T32), (⟨917760, 917999⟩ : T32)] : List T32)).length 11), (43, .int .i64 ((([(⟨127, 159⟩ : T32), (⟨768, 879⟩ : T32), (⟨6832, 6911⟩ : T32), (⟨7616, 7679⟩ : T32), (⟨8203, 8207⟩ : T32), (⟨8400, 8447⟩ : T32), (⟨55296, 57343⟩ : T32), (⟨65024, 65039⟩ : T32), (⟨65056, 65071⟩ : T32), (⟨65279, 65279⟩ : T32), (⟨917760, 917999⟩ : T32)] : List T32)).length : Int)), (44, .int .i64 x181), (57, .bool false)]) rfl trivial fun a hk => ?_
        refine wpListIn_nil ?_
        refine then_n ?_
        refine x_if hk (b := false) rfl ?_
        refine (show Code.wpIn _ _ _ _ _ _ _ from ?_)
        refine wpIn_skip ?_
        refine blk_n ?_
        refine then_n ?_
        refine wpIn_region_lit ?_
        refine x_run tab hk (k := 2) (lv := []) (ks := [0, 4, 42, 43, 44]) (e' := [(0, .int .i64 p0), (4, .slice (some ⟨bx10, 0, none⟩) (([(⟨4352, 4447⟩ : T32), (⟨11904, 12350⟩ : T32), (⟨12353, 13311⟩ : T32), (⟨13312, 19903⟩ : T32), (⟨19968, 40959⟩ : T32), (⟨40960, 42191⟩ : T32), (⟨44032, 55203⟩ : T32), (⟨63744, 64255⟩ : T32), (⟨65072, 65135⟩ : T32), (⟨65280, 65376⟩ : T32), (⟨65504, 65510⟩ : T32), (⟨127744, 128591⟩ : T32), (⟨129280, 129535⟩ : T32), (⟨131072, 262141⟩ : T32)] : List T32)).length 14), (42, .slice (some ⟨bx4, 0, none⟩) (([(⟨127, 159⟩ : T32), (⟨768, 879⟩ : T32), (⟨6832, 6911⟩ : T32), (⟨7616, 7679⟩ : T32), (⟨8203, 8207⟩ : T32), (⟨8400, 8447⟩ : T32), (⟨55296, 57343⟩ : T32), (⟨65024, 65039⟩ : T32), (⟨65056, 65071⟩ : T32), (⟨65279, 65279⟩ : T32), (⟨917760, 917999⟩ : T32)] : List T32)).length 11), (43, .int .i64 ((([(⟨127, 159⟩ : T32), (⟨768, 879⟩ : T32), (⟨6832, 6911⟩ : T32), (⟨7616, 7679⟩ : T32), (⟨8203, 8207⟩ : T32), (⟨8400, 8447⟩ : T32), (⟨55296, 57343⟩ : T32), (⟨65024, 65039⟩ : T32), (⟨65056, 65071⟩ : T32), (⟨65279, 65279⟩ : T32), (⟨917760, 917999⟩ : T32)] : List T32)).length : Int)), (44, .int .i64 (IntKind.wrap .i64 (x181 + 1)))]) rfl trivial fun a hk => ?_
        refine wpListIn_nil ?_
        refine then_n ?_
        exact ⟨k195, Nat.le_refl _, o206, (IntKind.wrap .i64 (x181 + 1)), (by exact Kn.pick (ks := [0, 4, 42, 43, 44]) hk rfl), hs, f12, f6, (hlp197 ▸ H)⟩
      · rw [b208] at hk H
        replace H := bifT H
        refine x_run tab hk (k := 5) (lv := [.int .i64 ((rdD zT32 ([(⟨127, 159⟩ : T32), (⟨768, 879⟩ : T32), (⟨6832, 6911⟩ : T32), (⟨7616, 7679⟩ : T32), (⟨8203, 8207⟩ : T32), (⟨8400, 8447⟩ : T32), (⟨55296, 57343⟩ : T32), (⟨65024, 65039⟩ : T32), (⟨65056, 65071⟩ : T32), (⟨65279, 65279⟩ : T32), (⟨917760, 917999⟩ : T32)] : List T32) x181).a1)]) (ks := [0, 4, 42, 43, 44, 57]) (e' := [(0, .int .i64 p0), (4, .slice (some ⟨bx10, 0, none⟩) (([(⟨4352, 4447⟩ : T32), (⟨11904, 12350⟩ : T32), (⟨12353, 13311⟩ : T32), (⟨13312, 19903⟩ : T32), (⟨19968, 40959⟩ : T32), (⟨40960, 42191⟩ : T32), (⟨44032, 55203⟩ : T32), (⟨63744, 64255⟩ : T32), (⟨65072, 65135⟩ : T32), (⟨65280, 65376⟩ : T32), (⟨65504, 65510⟩ : T32), (⟨127744, 128591⟩ : T32), (⟨129280, 129535⟩ : T32), (⟨131072, 262141⟩ : T32)] : List T32)).length 14), (42, .slice (some ⟨bx4, 0, none⟩) (([(⟨127, 159⟩ : T32), (⟨768, 879⟩ : T32), (⟨6832, 6911⟩ : T32), (⟨7616, 7679⟩ : T32), (⟨8203, 8207⟩ : T32), (⟨8400, 8447⟩ : T32), (⟨55296, 57343⟩ : T32), (⟨65024, 65039⟩ : T32), (⟨65056, 65071⟩ : T32), (⟨65279, 65279⟩ : T32), (⟨917760, 917999⟩ : T32)] : List T32)).length 11), (43, .int .i64 ((([(⟨127, 159⟩ : T32), (⟨768, 879⟩ : T32), (⟨6832, 6911⟩ : T32), (⟨7616, 7679⟩ : T32), (⟨8203, 8207⟩ : T32), (⟨8400, 8447⟩ : T32), (⟨55296, 57343⟩ : T32), (⟨65024, 65039⟩ : T32), (⟨65056, 65071⟩ : T32), (⟨65279, 65279⟩ : T32), (⟨917760, 917999⟩ : T32)] : List T32)).length : Int)), (44, .int .i64 x181), (57, .bool (decide (p0 ≤ ((rdD zT32 ([(⟨127, 159⟩ : T32), (⟨768, 879⟩ : T32), (⟨6832, 6911⟩ : T32), (⟨7616, 7679⟩ : T32), (⟨8203, 8207⟩ : T32), (⟨8400, 8447⟩ : T32), (⟨55296, 57343⟩ : T32), (⟨65024, 65039⟩ : T32), (⟨65056, 65071⟩ : T32), (⟨65279, 65279⟩ : T32), (⟨917760, 917999⟩ : T32)] : List T32) x181).a1))))]) rfl ⟨(show (0 : Int) ≤ 1 ∧ (1 : Int) < 2 from by decide), (load1 tab rfl ((Bx.cell f204.now 1).trans rfl)), trivial⟩ fun a hk => ?_
        refine wpListIn_nil ?_
        refine then_n ?_
        cases b209 : (decide (p0 ≤ ((rdD zT32 ([(⟨127, 159⟩ : T32), (⟨768, 879⟩ : T32), (⟨6832, 6911⟩ : T32), (⟨7616, 7679⟩ : T32), (⟨8203, 8207⟩ : T32), (⟨8400, 8447⟩ : T32), (⟨55296, 57343⟩ : T32), (⟨65024, 65039⟩ : T32), (⟨65056, 65071⟩ : T32), (⟨65279, 65279⟩ : T32), (⟨917760, 917999⟩ : T32)] : List T32) x181).a1)))
        · rw [b209] at hk H
          replace H := bifF H
          refine x_if hk (b := false) rfl ?_
          refine (show Code.wpIn _ _ _ _ _ _ _ from ?_)
          refine wpIn_skip ?_
          refine blk_n ?_
          refine then_n ?_
          refine wpIn_region_lit ?_
          refine x_run tab hk (k := 2) (lv := []) (ks := [0, 4, 42, 43, 44]) (e' := [(0, .int .i64 p0), (4, .slice (some ⟨bx10, 0, none⟩) (([(⟨4352, 4447⟩ : T32), (⟨11904, 12350⟩ : T32), (⟨12353, 13311⟩ : T32), (⟨13312, 19903⟩ : T32), (⟨19968, 40959⟩ : T32), (⟨40960, 42191⟩ : T32), (⟨44032, 55203⟩ : T32), (⟨63744, 64255⟩ : T32), (⟨65072, 65135⟩ : T32), (⟨65280, 65376⟩ : T32), (⟨65504, 65510⟩ : T32), (⟨127744, 128591⟩ : T32), (⟨129280, 129535⟩ : T32), (⟨131072, 262141⟩ : T32)] : List T32)).length 14), (42, .slice (some ⟨bx4, 0, none⟩) (([(⟨127, 159⟩ : T32), (⟨768, 879⟩ : T32), (⟨6832, 6911⟩ : T32), (⟨7616, 7679⟩ : T32), (⟨8203, 8207⟩ : T32), (⟨8400, 8447⟩ : T32), (⟨55296, 57343⟩ : T32), (⟨65024, 65039⟩ : T32), (⟨65056, 65071⟩ : T32), (⟨65279, 65279⟩ : T32), (⟨917760, 917999⟩ : T32)] : List T32)).length 11), (43, .int .i64 ((([(⟨127, 159⟩ : T32), (⟨768, 879⟩ : T32), (⟨6832, 6911⟩ : T32), (⟨7616, 7679⟩ : T32), (⟨8203, 8207⟩ : T32), (⟨8400, 8447⟩ : T32), (⟨55296, 57343⟩ : T32), (⟨65024, 65039⟩ : T32), (⟨65056, 65071⟩ : T32), (⟨65279, 65279⟩ : T32), (⟨917760, 917999⟩ : T32)] : List T32)).length : Int)), (44, .int .i64 (IntKind.wrap .i64 (x181 + 1)))]) rfl trivial fun a hk => ?_
          refine wpListIn_nil ?_
          refine then_n ?_
          exact ⟨k195, Nat.le_refl _, o206, (IntKind.wrap .i64 (x181 + 1)), (by exact Kn.pick (ks := [0, 4, 42, 43, 44]) hk rfl), hs, f12, f6, (hlp197 ▸ H)⟩
        · rw [b209] at hk H
          replace H := bifT H
          refine x_if hk (b := true) rfl ?_
          refine (show Code.wpIn _ _ _ _ _ _ _ from ?_)
          refine x_seq ?_
          refine wpIn_region_lit ?_
          refine x_run tab hk (k := 1) (lv := []) (ks := [2]) (e' := [(2, .int .i64 0)]) rfl trivial fun a hk => ?_
          refine wpListIn_nil ?_
          refine then_n ?_
          refine wpIn_ret ?_
          refine blk_r ?_
          refine then_r ?_
          refine then_r ?_
          refine blk_r ?_
          refine then_r ?_
          obtain rfl := Option.some.inj H
          exact x_retG hk (rs := [.tmp 2]) (vs := [.int .i64 0]) rfl ⟨rfl, trivial⟩ ⟨fun b_ => if b_ < w.heap.size then o b_ else (fun _ => 0) (o206 b_), rfl, hs.close0 o (fun _ => 0)⟩
  refine x_seq ?_
  refine wpIn_region_lit ?_
  refine x_run tab hk (k := 3) (lv := []) (ks := [0, 3, 4, 38]) (e' := [(0, .int .i64 p0), (3, .slice (some ⟨bx4, 0, none⟩) (([(⟨127, 159⟩ : T32), (⟨768, 879⟩ : T32), (⟨6832, 6911⟩ : T32), (⟨7616, 7679⟩ : T32), (⟨8203, 8207⟩ : T32), (⟨8400, 8447⟩ : T32), (⟨55296, 57343⟩ : T32), (⟨65024, 65039⟩ : T32), (⟨65056, 65071⟩ : T32), (⟨65279, 65279⟩ : T32), (⟨917760, 917999⟩ : T32)] : List T32)).length 11), (4, .slice (some ⟨bx10, 0, none⟩) (([(⟨4352, 4447⟩ : T32), (⟨11904, 12350⟩ : T32), (⟨12353, 13311⟩ : T32), (⟨13312, 19903⟩ : T32), (⟨19968, 40959⟩ : T32), (⟨40960, 42191⟩ : T32), (⟨44032, 55203⟩ : T32), (⟨63744, 64255⟩ : T32), (⟨65072, 65135⟩ : T32), (⟨65280, 65376⟩ : T32), (⟨65504, 65510⟩ : T32), (⟨127744, 128591⟩ : T32), (⟨129280, 129535⟩ : T32), (⟨131072, 262141⟩ : T32)] : List T32)).length 14), (38, .bool (decide (p0 < (32 : Int))))]) rfl trivial fun a hk => ?_
  cases b210 : (decide (p0 < (32 : Int)))
  · rw [b210] at hk H
    replace H := bifF H
    refine x_run tab hk (k := 3) (lv := []) (ks := [0, 3, 4, 41]) (e' := [(0, .int .i64 p0), (3, .slice (some ⟨bx4, 0, none⟩) (([(⟨127, 159⟩ : T32), (⟨768, 879⟩ : T32), (⟨6832, 6911⟩ : T32), (⟨7616, 7679⟩ : T32), (⟨8203, 8207⟩ : T32), (⟨8400, 8447⟩ : T32), (⟨55296, 57343⟩ : T32), (⟨65024, 65039⟩ : T32), (⟨65056, 65071⟩ : T32), (⟨65279, 65279⟩ : T32), (⟨917760, 917999⟩ : T32)] : List T32)).length 11), (4, .slice (some ⟨bx10, 0, none⟩) (([(⟨4352, 4447⟩ : T32), (⟨11904, 12350⟩ : T32), (⟨12353, 13311⟩ : T32), (⟨13312, 19903⟩ : T32), (⟨19968, 40959⟩ : T32), (⟨40960, 42191⟩ : T32), (⟨44032, 55203⟩ : T32), (⟨63744, 64255⟩ : T32), (⟨65072, 65135⟩ : T32), (⟨65280, 65376⟩ : T32), (⟨65504, 65510⟩ : T32), (⟨127744, 128591⟩ : T32), (⟨129280, 129535⟩ : T32), (⟨131072, 262141⟩ : T32)] : List T32)).length 14), (41, .bool (decide (p0 > (1114111 : Int))))]) rfl trivial fun a hk => ?_
    refine wpListIn_nil ?_
    refine then_n ?_
    cases b211 : (decide (p0 > (1114111 : Int)))
    · rw [b211] at hk H
      replace H := bifF H
      refine x_if hk (b := false) rfl ?_
      refine (show Code.wpIn _ _ _ _ _ _ _ from ?_)
      refine wpIn_skip ?_
      refine then_n ?_
      exact ⟨(fun b_ => (fun l_ => if l_ = 1 then 3 else if l_ = 2 then 4 else l_) (o8 b_)), (by exact Kn.pick (ks := [0, 3, 4]) hk rfl), (hs.relab0 (fun l_ => if l_ = 1 then 3 else if l_ = 2 then 4 else l_) rfl), (f12.relab (fun l_ => if l_ = 1 then 3 else if l_ = 2 then 4 else l_) rfl), (f6.relab (fun l_ => if l_ = 1 then 3 else if l_ = 2 then 4 else l_) rfl), H⟩
    · rw [b211] at hk H
      replace H := bifT H
      refine x_if hk (b := true) rfl ?_
      refine (show Code.wpIn _ _ _ _ _ _ _ from ?_)
      refine x_seq ?_
      refine wpIn_region_lit ?_
      refine x_run tab hk (k := 1) (lv := []) (ks := [2]) (e' := [(2, .int .i64 0)]) rfl trivial fun a hk => ?_
      refine wpListIn_nil ?_
      refine then_n ?_
      refine wpIn_ret ?_
      refine then_r ?_
      obtain rfl := Option.some.inj H
      exact x_retG hk (rs := [.tmp 2]) (vs := [.int .i64 0]) rfl ⟨rfl, trivial⟩ ⟨fun b_ => if b_ < w.heap.size then o b_ else (fun _ => 0) (o8 b_), rfl, hs.close0 o (fun _ => 0)⟩
  · rw [b210] at hk H
    replace H := bifT H
    refine x_run tab hk (k := 3) (lv := []) (ks := [0, 3, 4, 41]) (e' := [(0, .int .i64 p0), (3, .slice (some ⟨bx4, 0, none⟩) (([(⟨127, 159⟩ : T32), (⟨768, 879⟩ : T32), (⟨6832, 6911⟩ : T32), (⟨7616, 7679⟩ : T32), (⟨8203, 8207⟩ : T32), (⟨8400, 8447⟩ : T32), (⟨55296, 57343⟩ : T32), (⟨65024, 65039⟩ : T32), (⟨65056, 65071⟩ : T32), (⟨65279, 65279⟩ : T32), (⟨917760, 917999⟩ : T32)] : List T32)).length 11), (4, .slice (some ⟨bx10, 0, none⟩) (([(⟨4352, 4447⟩ : T32), (⟨11904, 12350⟩ : T32), (⟨12353, 13311⟩ : T32), (⟨13312, 19903⟩ : T32), (⟨19968, 40959⟩ : T32), (⟨40960, 42191⟩ : T32), (⟨44032, 55203⟩ : T32), (⟨63744, 64255⟩ : T32), (⟨65072, 65135⟩ : T32), (⟨65280, 65376⟩ : T32), (⟨65504, 65510⟩ : T32), (⟨127744, 128591⟩ : T32), (⟨129280, 129535⟩ : T32), (⟨131072, 262141⟩ : T32)] : List T32)).length 14), (41, .bool true)]) rfl trivial fun a hk => ?_
    refine wpListIn_nil ?_
    refine then_n ?_
    refine x_if hk (b := true) rfl ?_
    refine (show Code.wpIn _ _ _ _ _ _ _ from ?_)
    refine x_seq ?_
    refine wpIn_region_lit ?_
    refine x_run tab hk (k := 1) (lv := []) (ks := [2]) (e' := [(2, .int .i64 0)]) rfl trivial fun a hk => ?_
    refine wpListIn_nil ?_
    refine then_n ?_
    refine wpIn_ret ?_
    refine then_r ?_
    obtain rfl := Option.some.inj H
    exact x_retG hk (rs := [.tmp 2]) (vs := [.int .i64 0]) rfl ⟨rfl, trivial⟩ ⟨fun b_ => if b_ < w.heap.size then o b_ else (fun _ => 0) (o8 b_), rfl, hs.close0 o (fun _ => 0)⟩

/-! tidewrack/wide.Sum -/
theorem wide_Sum_calls (K : Nat) (Ap0 : Option Addr) (cp0 : Nat) (p0 : List Int) (w : World) (o : Nat → Nat) (Lg0 : Nat) (hg0 : Ft (RdC ET36 (some ⟨0, 0, none⟩) glob0) w o Lg0) (Lg1 : Nat) (hg1 : Ft (RdC ET36 (some ⟨1, 0, none⟩) glob1) w o Lg1) (Lp0 : Nat) (hp0 : Ft (RdC (encInt .i32) Ap0 p0) w o Lp0) (hcp0 : (p0).length ≤ cp0)  (r : Int) (H : wide_Sum K p0 = some r) :
    Calls Tryd.prog 10 #[.slice Ap0 (p0).length cp0] w (Ret fun v_ w' => ∃ o' : Nat → Nat, v_ = .int .i64 r ∧ St [] w o w' o') := by
  refine x_enterQ (vs := [.slice Ap0 (p0).length cp0]) Tryd.func10 rfl rfl rfl fun a hk => ?_
  obtain ⟨o0, hs, h0⟩ := St.start w o
  have fg0 := h0 _ _ hg0
  have fg1 := h0 _ _ hg1
  have f900 := h0 _ _ hp0
  have fxm : Ft (MK []) w o0 1 := Ft.of_all (fun _ => MK.nil _) _ _ _
  clear h0
  rw [wide_Sum] at H
  refine x_seq ?_
  refine wpIn_region_lit ?_
  refine x_run tab hk (k := 1) (lv := []) (ks := [0]) (e' := [(0, .slice Ap0 (p0).length cp0)]) rfl trivial fun a hk => ?_
  refine wpListIn_nil ?_
  refine then_n ?_
  refine x_seq ?_
  refine wpIn_region_lit ?_
  refine x_op hk rfl ?_
  refine op_alloc (o := o0) tab (t := 3) (cs := [.int .i64 0]) rfl rfl 2 fun bx4 w1 o2 st3 f5 => ?_
  replace f900 := f900.st st3 (by decide)
  replace fg0 := fg0.st st3 (by decide)
  replace fg1 := fg1.st st3 (by decide)
  replace fxm := fxm.st st3 (by decide)
  replace hs := hs.loc0 st3 (by decide)
  have hk := hk.put 3 (.pointer (some ⟨bx4, 0, none⟩)) rfl
  refine x_op hk rfl ?_
  refine op_store tab hk (t := 3) (v := .int .i64 0) (b := bx4) (k := 0) (cs' := [.int .i64 0]) rfl rfl rfl rfl rfl rfl f5 rfl rfl fun w6 o7 st8 f5_ => ?_
  replace f900 := f900.st st8 (by decide)
  replace fg0 := fg0.st st8 (by decide)
  replace fg1 := fg1.st st8 (by decide)
  replace fxm := fxm.st st8 (by decide)
  replace hs := hs.loc0 st8 (by decide)
  replace f5 := f5_
  refine wpListIn_nil ?_
  refine then_n ?_
  refine x_mid (fun a_ w_ => ∃ o64 : Nat → Nat, ∃ ds65 : List Deferred, ∃ x66 : Int, KnD 12 ds65 a_ [(3, .pointer (some ⟨bx4, 0, none⟩))] ∧ St [] w (fun _ => 0) w_ o64 ∧ Ft (Bx bx4 3 [.int .i64 x66]) w_ o64 6 ∧ Ft (RdC ET36 (some ⟨0, 0, none⟩) glob0) w_ o64 0 ∧ Ft (RdC ET36 (some ⟨1, 0, none⟩) glob1) w_ o64 0 ∧ Ft (MK ds65) w_ o64 1 ∧ wide_Sum_j1 x66 = some r) ?_ ?_
  rotate_left
  · rintro a w67 ⟨o64, ds65, x66, hk, hs, f5, fg0, fg1, fxm, H⟩
    rw [wide_Sum_j1] at H
    refine x_seq ?_
    refine wpIn_region_lit ?_
    refine x_run tab hk (k := 2) (lv := [.int .i64 x66]) (ks := [2]) (e' := [(2, .int .i64 x66)]) rfl ⟨(load1 tab rfl ((Bx.cell f5.now 0).trans rfl)), trivial⟩ fun a hk => ?_
    refine wpListIn_nil ?_
    refine then_n ?_
    refine wpIn_ret ?_
    refine x_retQ hk fxm fun w68 a st69 hk => ?_
    replace fg0 := fg0.st st69 (by decide)
    replace fg1 := fg1.st st69 (by decide)
    replace hs := hs.loc0 st69 (by decide)
    obtain rfl := Option.some.inj H
    exact x_retG hk (rs := [.tmp 2]) (vs := [.int .i64 x66]) rfl ⟨rfl, trivial⟩ ⟨fun b_ => if b_ < w.heap.size then o b_ else (fun _ => 0) (o64 b_), rfl, hs.close0 o (fun _ => 0)⟩
  refine x_seq ?_
  refine wpIn_region_lit ?_
  refine x_run tab hk (k := 1) (lv := []) (ks := [3, 6]) (e' := [(3, .pointer (some ⟨bx4, 0, none⟩)), (6, .slice Ap0 (p0).length cp0)]) rfl trivial fun a hk => ?_
  refine x_op hk rfl ?_
  obtain ⟨t73, hc74, H⟩ := bindS H
  refine op_call hk ent_13 (vs := [.slice Ap0 (p0).length cp0]) rfl (wide_columns_calls Ap0 cp0 p0 _ o7 0 fg0 0 fg1 _ f900 hcp0 7  _ hc74) ?_
  rintro _ w75 ⟨o76, bx78, rfl, st77, f79⟩
  replace f5 := f5.st st77 (by decide)
  replace f900 := f900.st st77 (by decide)
  replace fg0 := fg0.st st77 (by decide)
  replace fg1 := fg1.st st77 (by decide)
  replace fxm := fxm.st st77 (by decide)
  replace hs := hs.loc0 st77 (by decide)
  have hk := hk.put 7 (.func (.func 14) #[] #[.pointer (some ⟨bx78, 0, none⟩)]) rfl
  refine wpListIn_nil ?_
  refine then_n ?_
  refine wpIn_block ?_
  obtain ⟨ys80, hy81, H⟩ := bindS H
  refine x_range 1 8 9 [2] hk rfl ent_14 (wide_columns_1_iter K bx78 Ap0 cp0 p0 _ _ 0 fg0 0 fg1 7 f79 0 f900 hcp0 (by decide) (by decide) (by decide) (by decide) (by decide) _ hy81) fxm (fun _ _ _ h_ => by subst h_; rfl) rfl rfl (fun rr_ w_ o101 => ∃ x102 : Int, St [] w (fun _ => 0) w_ o101 ∧ Ft (Bx bx4 3 [.int .i64 x102]) w_ o101 2 ∧ Ft (RdC ET36 (some ⟨0, 0, none⟩) glob0) w_ o101 0 ∧ Ft (RdC ET36 (some ⟨1, 0, none⟩) glob1) w_ o101 0 ∧ wide_Sum_r2 rr_ x102 = some r) (fun c_ w_ o108 => False) ?_ ?_ ⟨0, hs, f5, fg0, fg1, H⟩ ?_ ?_ ?_
  · rintro rr_ w_ _ _ _ ⟨x102, hs, f5, fg0, fg1, H⟩ st_
    exact ⟨x102, hs.loc0 st_ (by decide), f5.st st_ (by decide), fg0.st st_ (by decide), fg1.st st_ (by decide), H⟩
  · exact fun _ _ _ _ _ h_ _ => h_.elim
  · rintro R0_ R1_ lr_ x82 vs_ rest83 w84 o85 ⟨x102, hsO, f5, fg0, fg1, H⟩ hE fxr a hk
    obtain rfl : vs_ = [.int .i64 x82.1, .int .i64 x82.2] := hE w84
    obtain ⟨o86, hs0, hfl, hbB, hoi⟩ := St.startB w84 o85 9
    have hs := hs0 [8, 2]
    replace f5 := hfl f5 rfl
    replace fg0 := hfl fg0 rfl
    replace fg1 := hfl fg1 rfl
    replace fxr := hfl fxr rfl
    replace hk : Kn 12 a [(3, .pointer (some ⟨bx4, 0, none⟩)), (8, .int .i64 x82.1), (9, .int .i64 x82.2)] := Kn.pick (ks := [3, 8, 9]) hk rfl
    rw [wide_Sum_r2] at H
    obtain ⟨lp87, hlp88⟩ : ∃ lp_, lp_ = wide_Sum_r2 rest83 := ⟨_, rfl⟩
    rw [← hlp88] at H
    refine wpIn_region_lit ?_
    refine x_run tab hk (k := 1) (lv := []) (ks := [3, 5]) (e' := [(3, .pointer (some ⟨bx4, 0, none⟩)), (5, .int .i64 x82.2)]) rfl trivial fun a hk => ?_
    refine wpListIn_nil ?_
    refine then_n ?_
    refine ⟨_, fxr, fun w111 st112 fxr => ?_⟩
    replace f5 := f5.st st112 (by decide)
    replace fg0 := fg0.st st112 (by decide)
    replace fg1 := fg1.st st112 (by decide)
    replace hs := hs.locB st112 rfl hbB
    refine wpIn_block ?_
    refine wpIn_region_lit ?_
    refine x_run tab hk (k := 1) (lv := []) (ks := [3, 10]) (e' := [(3, .pointer (some ⟨bx4, 0, none⟩)), (10, .int .i64 x82.2)]) rfl trivial fun a hk => ?_
    refine x_op hk rfl ?_
    refine op_store tab hk (t := 3) (v := .int .i64 x82.2) (b := bx4) (k := 0) (cs' := [.int .i64 x82.2]) rfl rfl rfl rfl rfl rfl f5 rfl rfl fun w113 o114 st115 f5_ => ?_
    replace fg0 := fg0.st st115 (by decide)
    replace fg1 := fg1.st st115 (by decide)
    replace fxr := fxr.st st115 (by decide)
    replace hs := hs.locB st115 rfl hbB
    replace f5 := f5_
    refine wpListIn_nil ?_
    refine blk_n ?_
    have hq116 := hs.closeB hoi hbB rfl (fun l_ => if l_ = 2 then 2 else 0)
    exact ⟨_, hq116, fxr.now, ⟨x82.2, (hsO.loc0 hq116 (by decide)), (hs.closeM_ft (o := o85) (ρ := (fun l_ => if l_ = 2 then 2 else 0)) f5 (lab_atB hoi rfl) rfl), (hs.closeM_ft (o := o85) (ρ := (fun l_ => if l_ = 2 then 2 else 0)) fg0 (lab_atB hoi rfl) rfl), (hs.closeM_ft (o := o85) (ρ := (fun l_ => if l_ = 2 then 2 else 0)) fg1 (lab_atB hoi rfl) rfl), (hlp88 ▸ H)⟩⟩
  · rintro ds110 w109 o101 a hk fxm ⟨x102, hs, f5, fg0, fg1, H⟩
    rw [wide_Sum_r2] at H
    refine blk_n ?_
    refine then_n ?_
    exact ⟨(fun b_ => (fun l_ => if l_ = 2 then 6 else l_) (o101 b_)), ds110, x102, (by exact Kn.pick (ks := [3]) hk rfl), (hs.relab0 (fun l_ => if l_ = 2 then 6 else l_) rfl), (f5.relab (fun l_ => if l_ = 2 then 6 else l_) rfl), (fg0.relab (fun l_ => if l_ = 2 then 6 else l_) rfl), (fg1.relab (fun l_ => if l_ = 2 then 6 else l_) rfl), (fxm.relab (fun l_ => if l_ = 2 then 6 else l_) rfl), H⟩
  · exact fun _ _ _ _ _ _ _ h_ => h_.elim

/-! tidewrack/tidewrackref06.Fit -/
theorem tidewrackref06_Fit_calls (K : Nat) (p0 : Int) (Ap1 : Option Addr) (cp1 : Nat) (p1 : List Int) (w : World) (o : Nat → Nat) (Lp1 : Nat) (hp1 : Ft (RdC (encInt .i64) Ap1 p1) w o Lp1) (hcp1 : (p1).length ≤ cp1)  (r : Int) (H : tidewrackref06_Fit K p0 p1 = some r) :
    Calls Tryd.prog 11 #[.int .i64 p0, .slice Ap1 (p1).length cp1] w (Ret fun v_ w' => ∃ o' : Nat → Nat, v_ = .int .i64 r ∧ St [] w o w' o') := by
  refine x_enter (vs := [.int .i64 p0, .slice Ap1 (p1).length cp1]) Tryd.func11 rfl rfl rfl fun a hk => ?_
  obtain ⟨o0, hs, h0⟩ := St.start w o
  have f920 := h0 _ _ hp1
  clear h0
  rw [tidewrackref06_Fit] at H
  refine x_seq ?_
  refine wpIn_region_lit ?_
  refine x_run tab hk (k := 1) (lv := []) (ks := [0, 1]) (e' := [(0, .int .i64 p0), (1, .slice Ap1 (p1).length cp1)]) rfl trivial fun a hk => ?_
  refine wpListIn_nil ?_
  refine then_n ?_
  refine x_seq ?_
  refine wpIn_region_lit ?_
  refine x_run tab hk (k := 1) (lv := []) (ks := [0, 1, 5]) (e' := [(0, .int .i64 p0), (1, .slice Ap1 (p1).length cp1), (5, .int .i64 0)]) rfl trivial fun a hk => ?_
  refine wpListIn_nil ?_
  refine then_n ?_
  refine x_mid (fun a_ w_ => ∃ o50 : Nat → Nat, Kn 26 a_ [(1, .slice Ap1 (p1).length cp1)] ∧ St [] w (fun _ => 0) w_ o50 ∧ Ft (RdC (encInt .i64) Ap1 p1) w_ o50 0 ∧ tidewrackref06_Fit_j1 p1 = some r) ?_ ?_
  rotate_left
  · rintro a w51 ⟨o50, hk, hs, f920, H⟩
    rw [tidewrackref06_Fit_j1] at H
    refine x_seq ?_
    refine wpIn_region_lit ?_
    refine x_run tab hk (k := 3) (lv := []) (ks := [4]) (e' := [(4, .int .i64 ((p1).length : Int))]) rfl trivial fun a hk => ?_
    refine wpListIn_nil ?_
    refine then_n ?_
    refine wpIn_ret ?_
    obtain rfl := Option.some.inj H
    exact x_retG hk (rs := [.tmp 4]) (vs := [.int .i64 ((p1).length : Int)]) rfl ⟨rfl, trivial⟩ ⟨fun b_ => if b_ < w.heap.size then o b_ else (fun _ => 0) (o50 b_), rfl, hs.close0 o (fun _ => 0)⟩
  refine x_seq ?_
  refine wpIn_region_lit ?_
  refine x_run tab hk (k := 3) (lv := []) (ks := [0, 1, 5, 8, 9, 10]) (e' := [(0, .int .i64 p0), (1, .slice Ap1 (p1).length cp1), (5, .int .i64 0), (8, .slice Ap1 (p1).length cp1), (9, .int .i64 ((p1).length : Int)), (10, .int .i64 0)]) rfl trivial fun a hk => ?_
  refine wpListIn_nil ?_
  refine then_n ?_
  refine wpIn_block ?_
  refine x_loop (fun j_ a_ w_ => ∃ o67 : Nat → Nat, ∃ x68 : Int, ∃ x69 : Int, Kn 26 a_ [(0, .int .i64 p0), (1, .slice Ap1 (p1).length cp1), (5, .int .i64 x68), (8, .slice Ap1 (p1).length cp1), (9, .int .i64 ((p1).length : Int)), (10, .int .i64 x69)] ∧ St [] w (fun _ => 0) w_ o67 ∧ Ft (RdC (encInt .i64) Ap1 p1) w_ o67 0 ∧ tidewrackref06_Fit_l2 K p0 p1 j_ x68 x69 = some r) (k := K) ⟨o0, 0, 0, (by exact Kn.pick (ks := [0, 1, 5, 8, 9, 10]) hk rfl), hs, f920, H⟩ (by rintro _ _ ⟨_, _, _, _, _, _, H_⟩; exact absurd (show (none : Option Int) = some r from H_) (by simp)) ?_
  rintro k83 a w82 ⟨o67, x68, x69, hk, hs, f920, H⟩
  rw [tidewrackref06_Fit_l2] at H
  obtain ⟨lp84, hlp85⟩ : ∃ lp_, lp_ = tidewrackref06_Fit_l2 K p0 p1 k83 := ⟨_, rfl⟩
  rw [← hlp85] at H
  refine x_seq ?_
  refine wpIn_region_lit ?_
  refine x_run tab hk (k := 1) (lv := []) (ks := [0, 1, 5, 8, 9, 10, 11]) (e' := [(0, .int .i64 p0), (1, .slice Ap1 (p1).length cp1), (5, .int .i64 x68), (8, .slice Ap1 (p1).length cp1), (9, .int .i64 ((p1).length : Int)), (10, .int .i64 x69), (11, .bool (decide (x69 < ((p1).length : Int))))]) rfl trivial fun a hk => ?_
  refine wpListIn_nil ?_
  refine then_n ?_
  refine x_seq ?_
  cases b86 : (decide (x69 < ((p1).length : Int)))
  · rw [b86] at hk H
    replace H := bifF H
    refine x_if hk (b := false) rfl ?_
    refine (show Code.wpIn _ _ _ _ _ _ _ from ?_)
    refine wpIn_exit ?_
    refine then_x ?_
    refine then_x ?_
    refine blk_x ?_
    refine then_n ?_
    exact ⟨o67, (by exact Kn.pick (ks := [1]) hk rfl), hs, f920, H⟩
  · rw [b86] at hk H
    replace H := bifT H
    refine x_if hk (b := true) rfl ?_
    refine (show Code.wpIn _ _ _ _ _ _ _ from ?_)
    refine wpIn_skip ?_
    refine then_n ?_
    refine x_seq ?_
    refine wpIn_block ?_
    refine x_seq ?_
    refine wpIn_region_lit ?_
    obtain ⟨q87, H⟩ := ifS H
    obtain ⟨ad88, hAad88⟩ := RdC.addr f920.now q87
    have hk_C := hk
    have f920_C := f920
    subst hAad88
    have hk := hk_C
    clear hk_C
    have f920 := f920_C
    clear f920_C
    refine x_run tab hk (k := 5) (lv := [.int .i64 (rdD 0 p1 x69)]) (ks := [0, 1, 5, 6, 7, 8, 9, 10]) (e' := [(0, .int .i64 p0), (1, .slice (some ad88) (p1).length cp1), (5, .int .i64 x68), (6, .int .i64 x69), (7, .int .i64 (rdD 0 p1 x69)), (8, .slice (some ad88) (p1).length cp1), (9, .int .i64 ((p1).length : Int)), (10, .int .i64 x69)]) rfl ⟨q87, (load1 tab rfl (RdC.at0 (E := (encInt .i64)) (d := 0) (i := x69) f920.now q87 rfl)), trivial⟩ fun a hk => ?_
    refine wpListIn_nil ?_
    refine then_n ?_
    refine x_seq ?_
    refine wpIn_region_lit ?_
    refine x_run tab hk (k := 2) (lv := []) (ks := [0, 1, 6, 8, 9, 10, 15, 16]) (e' := [(0, .int .i64 p0), (1, .slice (some ad88) (p1).length cp1), (6, .int .i64 x69), (8, .slice (some ad88) (p1).length cp1), (9, .int .i64 ((p1).length : Int)), (10, .int .i64 x69), (15, .int .i64 x68), (16, .int .i64 (rdD 0 p1 x69))]) rfl trivial fun a hk => ?_
    refine x_op hk rfl ?_
    obtain ⟨t92, hc93, H⟩ := bindS H
    refine op_call hk ent_7 (vs := [.int .i64 (rdD 0 p1 x69)]) rfl (tidewrackref06_Of_calls K (rdD 0 p1 x69) _ o67    _ hc93) ?_
    rintro _ w94 ⟨o95, rfl, st96⟩
    replace f920 := f920.st st96 (by decide)
    replace hs := hs.loc0 st96 (by decide)
    have hk := hk.put 17 (.int .i64 t92) rfl
    refine x_run tab hk (k := 2) (lv := []) (ks := [0, 1, 5, 6, 8, 9, 10]) (e' := [(0, .int .i64 p0), (1, .slice (some ad88) (p1).length cp1), (5, .int .i64 (IntKind.wrap .i64 (x68 + t92))), (6, .int .i64 x69), (8, .slice (some ad88) (p1).length cp1), (9, .int .i64 ((p1).length : Int)), (10, .int .i64 x69)]) rfl trivial fun a hk => ?_
    refine wpListIn_nil ?_
    refine then_n ?_
    refine x_seq ?_
    refine wpIn_region_lit ?_
    refine x_run tab hk (k := 3) (lv := []) (ks := [0, 1, 5, 6, 8, 9, 10, 21]) (e' := [(0, .int .i64 p0), (1, .slice (some ad88) (p1).length cp1), (5, .int .i64 (IntKind.wrap .i64 (x68 + t92))), (6, .int .i64 x69), (8, .slice (some ad88) (p1).length cp1), (9, .int .i64 ((p1).length : Int)), (10, .int .i64 x69), (21, .bool (decide ((IntKind.wrap .i64 (x68 + t92)) > p0)))]) rfl trivial fun a hk => ?_
    refine wpListIn_nil ?_
    refine then_n ?_
    cases b97 : (decide ((IntKind.wrap .i64 (x68 + t92)) > p0))
    · rw [b97] at hk H
      replace H := bifF H
      refine x_if hk (b := false) rfl ?_
      refine (show Code.wpIn _ _ _ _ _ _ _ from ?_)
      refine wpIn_skip ?_
      refine blk_n ?_
      refine then_n ?_
      refine wpIn_region_lit ?_
      refine x_run tab hk (k := 2) (lv := []) (ks := [0, 1, 5, 8, 9, 10]) (e' := [(0, .int .i64 p0), (1, .slice (some ad88) (p1).length cp1), (5, .int .i64 (IntKind.wrap .i64 (x68 + t92))), (8, .slice (some ad88) (p1).length cp1), (9, .int .i64 ((p1).length : Int)), (10, .int .i64 (IntKind.wrap .i64 (x69 + 1)))]) rfl trivial fun a hk => ?_
      refine wpListIn_nil ?_
      refine then_n ?_
      exact ⟨k83, Nat.le_refl _, o95, (IntKind.wrap .i64 (x68 + t92)), (IntKind.wrap .i64 (x69 + 1)), (by exact Kn.pick (ks := [0, 1, 5, 8, 9, 10]) hk rfl), hs, f920, (hlp85 ▸ H)⟩
    · rw [b97] at hk H
      replace H := bifT H
      refine x_if hk (b := true) rfl ?_
      refine (show Code.wpIn _ _ _ _ _ _ _ from ?_)
      refine x_seq ?_
      refine wpIn_region_lit ?_
      refine x_run tab hk (k := 2) (lv := []) (ks := [4]) (e' := [(4, .int .i64 x69)]) rfl trivial fun a hk => ?_
      refine wpListIn_nil ?_
      refine then_n ?_
      refine wpIn_ret ?_
      refine blk_r ?_
      refine then_r ?_
      refine then_r ?_
      refine blk_r ?_
      refine then_r ?_
      obtain rfl := Option.some.inj H
      exact x_retG hk (rs := [.tmp 4]) (vs := [.int .i64 x69]) rfl ⟨rfl, trivial⟩ ⟨fun b_ => if b_ < w.heap.size then o b_ else (fun _ => 0) (o95 b_), rfl, hs.close0 o (fun _ => 0)⟩

/-! tidewrack/tidewracklaw06.WideTells -/
theorem tidewracklaw06_WideTells_calls (K : Nat) (Ap0 : Option Addr) (cp0 : Nat) (p0 : List Int) (p1 : Int) (w : World) (o : Nat → Nat) (Lg0 : Nat) (hg0 : Ft (RdC ET36 (some ⟨0, 0, none⟩) glob0) w o Lg0) (Lg1 : Nat) (hg1 : Ft (RdC ET36 (some ⟨1, 0, none⟩) glob1) w o Lg1) (Lp0 : Nat) (hp0 : Ft (RdC (encInt .i32) Ap0 p0) w o Lp0) (hcp0 : (p0).length ≤ cp0)  (r : Bool) (H : tidewracklaw06_WideTells K p0 p1 = some r) :
    Calls Tryd.prog 3 #[.slice Ap0 (p0).length cp0, .int .i64 p1] w (Ret fun v_ w' => ∃ o' : Nat → Nat, v_ = .bool r ∧ St [] w o w' o') := by
  refine x_enter (vs := [.slice Ap0 (p0).length cp0, .int .i64 p1]) Tryd.func3 rfl rfl rfl fun a hk => ?_
  obtain ⟨o0, hs, h0⟩ := St.start w o
  have fg0 := h0 _ _ hg0
  have fg1 := h0 _ _ hg1
  have f900 := h0 _ _ hp0
  clear h0
  rw [tidewracklaw06_WideTells] at H
  refine x_seq ?_
  refine wpIn_region_lit ?_
  refine x_run tab hk (k := 1) (lv := []) (ks := [0, 1]) (e' := [(0, .slice Ap0 (p0).length cp0), (1, .int .i64 p1)]) rfl trivial fun a hk => ?_
  refine wpListIn_nil ?_
  refine then_n ?_
  refine x_seq ?_
  refine x_seq ?_
  refine wpIn_region_lit ?_
  refine x_op hk rfl ?_
  obtain ⟨t4, hc5, H⟩ := bindS H
  refine op_call hk ent_6 (vs := []) rfl (tidewracklaw06_awake_calls K  _ o0 0 fg0 0 fg1   _ hc5) ?_
  rintro _ w6 ⟨o7, rfl, st8⟩
  replace f900 := f900.st st8 (by decide)
  replace fg0 := fg0.st st8 (by decide)
  replace fg1 := fg1.st st8 (by decide)
  replace hs := hs.loc0 st8 (by decide)
  have hk := hk.put 11 (.bool t4) rfl
  refine x_run tab hk (k := 1) (lv := []) (ks := [0, 1, 12]) (e' := [(0, .slice Ap0 (p0).length cp0), (1, .int .i64 p1), (12, .bool (!t4))]) rfl trivial fun a hk => ?_
  refine wpListIn_nil ?_
  refine then_n ?_
  cases b9 : (!t4)
  · rw [b9] at hk H
    replace H := bifF H
    refine x_if hk (b := false) rfl ?_
    refine (show Code.wpIn _ _ _ _ _ _ _ from ?_)
    refine wpIn_skip ?_
    refine then_n ?_
    refine x_seq ?_
    refine wpIn_region_lit ?_
    obtain ⟨q10, H⟩ := ifS H
    obtain ⟨q11, H⟩ := ifS H
    obtain ⟨A12, c13, ak15, f14, hc16⟩ := ask_cut (P := Tryd.prog) tab (t := 22) rfl rfl f900 hcp0 none (some (.int .i64 (mnI ((p0).length : Int) 40))) rfl ⟨q10, (by have := q11; have := hcp0; omega), trivial⟩ (by have := q10; have := q11; omega) (by have := q10; have := q11; omega)
    refine x_run tab hk (k := 6) (lv := [.slice A12 ((List.drop 0 (List.take (Int.toNat (mnI ((p0).length : Int) 40)) p0))).length c13]) (ks := [0, 1]) (e' := [(0, .slice A12 ((List.drop 0 (List.take (Int.toNat (mnI ((p0).length : Int) 40)) p0))).length c13), (1, .int .i64 p1)]) rfl ⟨(ak15 rfl rfl rfl _), trivial⟩ fun a hk => ?_
    refine wpListIn_nil ?_
    refine then_n ?_
    refine x_seq ?_
    refine wpIn_region_lit ?_
    refine x_run tab hk (k := 1) (lv := []) (ks := [0, 1, 5]) (e' := [(0, .slice A12 ((List.drop 0 (List.take (Int.toNat (mnI ((p0).length : Int) 40)) p0))).length c13), (1, .int .i64 p1), (5, .int .i64 0)]) rfl trivial fun a hk => ?_
    refine wpListIn_nil ?_
    refine then_n ?_
    refine x_seq ?_
    refine wpIn_region_lit ?_
    refine x_run tab hk (k := 1) (lv := []) (ks := [0, 1, 5, 6]) (e' := [(0, .slice A12 ((List.drop 0 (List.take (Int.toNat (mnI ((p0).length : Int) 40)) p0))).length c13), (1, .int .i64 p1), (5, .int .i64 0), (6, .slice none 0 0)]) rfl trivial fun a hk => ?_
    refine wpListIn_nil ?_
    refine then_n ?_
    refine x_mid (fun a_ w_ => ∃ o145 : Nat → Nat, ∃ x146 : Int, ∃ A147 : Option Addr, ∃ c148 : Nat, ∃ l149 : List Int, Kn 64 a_ [(0, .slice A12 ((List.drop 0 (List.take (Int.toNat (mnI ((p0).length : Int) 40)) p0))).length c13), (1, .int .i64 p1), (5, .int .i64 x146), (6, .slice A147 (l149).length c148)] ∧ St [] w (fun _ => 0) w_ o145 ∧ Ft (RdC (encInt .i32) A12 (List.drop 0 (List.take (Int.toNat (mnI ((p0).length : Int) 40)) p0))) w_ o145 0 ∧ Ft (Own (encInt .i64) 3 (.slice A147 (l149).length c148) l149) w_ o145 7 ∧ Ft (RdC ET36 (some ⟨0, 0, none⟩) glob0) w_ o145 0 ∧ Ft (RdC ET36 (some ⟨1, 0, none⟩) glob1) w_ o145 0 ∧ (l149).length ≤ c148 ∧ tidewracklaw06_WideTells_j1 K p0 p1 x146 l149 = some r) ?_ ?_
    rotate_left
    · rintro a w152 ⟨o145, x146, A147, c148, l149, hk, hs, f14, f150, fg0, fg1, hc151, H⟩
      rw [tidewracklaw06_WideTells_j1] at H
      refine x_seq ?_
      refine wpIn_region_lit ?_
      refine x_run tab hk (k := 2) (lv := []) (ks := [0, 1, 5, 6, 40, 41]) (e' := [(0, .slice A12 ((List.drop 0 (List.take (Int.toNat (mnI ((p0).length : Int) 40)) p0))).length c13), (1, .int .i64 p1), (5, .int .i64 x146), (6, .slice A147 (l149).length c148), (40, .int .i64 p1), (41, .slice A12 ((List.drop 0 (List.take (Int.toNat (mnI ((p0).length : Int) 40)) p0))).length c13)]) rfl trivial fun a hk => ?_
      refine x_op hk rfl ?_
      obtain ⟨t156, hc157, H⟩ := bindS H
      refine op_call hk ent_9 (vs := [.int .i64 p1, .slice A12 ((List.drop 0 (List.take (Int.toNat (mnI ((p0).length : Int) 40)) p0))).length c13]) rfl (wide_Fit_calls K p1 A12 c13 (List.drop 0 (List.take (Int.toNat (mnI ((p0).length : Int) 40)) p0)) _ o145 0 fg0 0 fg1 _ f14 hc16   _ hc157) ?_
      rintro _ w158 ⟨o159, rfl, st160⟩
      replace f14 := f14.st st160 (by decide)
      replace f150 := f150.st st160 (by decide)
      replace fg0 := fg0.st st160 (by decide)
      replace fg1 := fg1.st st160 (by decide)
      replace hs := hs.loc0 st160 (by decide)
      have hk := hk.put 42 (.int .i64 t156) rfl
      refine x_run tab hk (k := 1) (lv := []) (ks := [0, 1, 5, 6, 10]) (e' := [(0, .slice A12 ((List.drop 0 (List.take (Int.toNat (mnI ((p0).length : Int) 40)) p0))).length c13), (1, .int .i64 p1), (5, .int .i64 x146), (6, .slice A147 (l149).length c148), (10, .int .i64 t156)]) rfl trivial fun a hk => ?_
      refine wpListIn_nil ?_
      refine then_n ?_
      refine x_seq ?_
      refine x_seq ?_
      refine wpIn_region_lit ?_
      refine x_run tab hk (k := 2) (lv := []) (ks := [0, 1, 5, 6, 10, 44]) (e' := [(0, .slice A12 ((List.drop 0 (List.take (Int.toNat (mnI ((p0).length : Int) 40)) p0))).length c13), (1, .int .i64 p1), (5, .int .i64 x146), (6, .slice A147 (l149).length c148), (10, .int .i64 t156), (44, .bool (decide (p1 < (0 : Int))))]) rfl trivial fun a hk => ?_
      refine wpListIn_nil ?_
      refine then_n ?_
      cases b161 : (decide (p1 < (0 : Int)))
      · rw [b161] at hk H
        replace H := bifF H
        refine x_if hk (b := false) rfl ?_
        refine (show Code.wpIn _ _ _ _ _ _ _ from ?_)
        refine wpIn_skip ?_
        refine then_n ?_
        refine x_seq ?_
        refine wpIn_region_lit ?_
        refine x_run tab hk (k := 1) (lv := []) (ks := [1, 5, 6, 10, 53]) (e' := [(1, .int .i64 p1), (5, .int .i64 x146), (6, .slice A147 (l149).length c148), (10, .int .i64 t156), (53, .slice A12 ((List.drop 0 (List.take (Int.toNat (mnI ((p0).length : Int) 40)) p0))).length c13)]) rfl trivial fun a hk => ?_
        refine x_op hk rfl ?_
        obtain ⟨t165, hc166, H⟩ := bindS H
        refine op_call hk ent_10 (vs := [.slice A12 ((List.drop 0 (List.take (Int.toNat (mnI ((p0).length : Int) 40)) p0))).length c13]) rfl (wide_Sum_calls K A12 c13 (List.drop 0 (List.take (Int.toNat (mnI ((p0).length : Int) 40)) p0)) _ o159 0 fg0 0 fg1 _ f14 hc16   _ hc166) ?_
        rintro _ w167 ⟨o168, rfl, st169⟩
        replace f14 := f14.st st169 (by decide)
        replace f150 := f150.st st169 (by decide)
        replace fg0 := fg0.st st169 (by decide)
        replace fg1 := fg1.st st169 (by decide)
        replace hs := hs.loc0 st169 (by decide)
        have hk := hk.put 54 (.int .i64 t165) rfl
        refine x_run tab hk (k := 3) (lv := []) (ks := [1, 6, 10, 57]) (e' := [(1, .int .i64 p1), (6, .slice A147 (l149).length c148), (10, .int .i64 t156), (57, .bool (t165 == x146))]) rfl trivial fun a hk => ?_
        cases b170 : (t165 == x146)
        · rw [b170] at hk H
          replace H := bifF H
          refine x_run tab hk (k := 7) (lv := []) (ks := [4]) (e' := [(4, .bool false)]) rfl trivial fun a hk => ?_
          refine wpListIn_nil ?_
          refine then_n ?_
          refine wpIn_ret ?_
          obtain rfl := Option.some.inj H
          exact x_retG hk (rs := [.tmp 4]) (vs := [.bool false]) rfl ⟨rfl, trivial⟩ ⟨fun b_ => if b_ < w.heap.size then o b_ else (fun _ => 0) (o168 b_), rfl, hs.close0 o (fun _ => 0)⟩
        · rw [b170] at hk H
          replace H := bifT H
          refine x_run tab hk (k := 3) (lv := []) (ks := [57, 58, 59, 60]) (e' := [(57, .bool true), (58, .int .i64 t156), (59, .int .i64 p1), (60, .slice A147 (l149).length c148)]) rfl trivial fun a hk => ?_
          refine x_op hk rfl ?_
          obtain ⟨t174, hc175, H⟩ := bindS H
          refine op_call hk ent_11 (vs := [.int .i64 p1, .slice A147 (l149).length c148]) rfl (tidewrackref06_Fit_calls K p1 A147 c148 l149 _ o168 _ (f150.imp fun _ h_ => Own.rd h_) hc151   _ hc175) ?_
          rintro _ w176 ⟨o177, rfl, st178⟩
          replace f150 := f150.st st178 (by decide)
          replace fg0 := fg0.st st178 (by decide)
          replace fg1 := fg1.st st178 (by decide)
          replace hs := hs.loc0 st178 (by decide)
          have hk := hk.put 61 (.int .i64 t174) rfl
          refine x_run tab hk (k := 3) (lv := []) (ks := [4]) (e' := [(4, .bool (t156 == t174))]) rfl trivial fun a hk => ?_
          refine wpListIn_nil ?_
          refine then_n ?_
          refine wpIn_ret ?_
          obtain rfl := Option.some.inj H
          exact x_retG hk (rs := [.tmp 4]) (vs := [.bool (t156 == t174)]) rfl ⟨rfl, trivial⟩ ⟨fun b_ => if b_ < w.heap.size then o b_ else (fun _ => 0) (o177 b_), rfl, hs.close0 o (fun _ => 0)⟩
      · rw [b161] at hk H
        replace H := bifT H
        refine x_if hk (b := true) rfl ?_
        refine (show Code.wpIn _ _ _ _ _ _ _ from ?_)
        refine x_seq ?_
        refine wpIn_region_lit ?_
        refine x_run tab hk (k := 1) (lv := []) (ks := [5, 10, 45]) (e' := [(5, .int .i64 x146), (10, .int .i64 t156), (45, .slice A12 ((List.drop 0 (List.take (Int.toNat (mnI ((p0).length : Int) 40)) p0))).length c13)]) rfl trivial fun a hk => ?_
        refine x_op hk rfl ?_
        obtain ⟨t182, hc183, H⟩ := bindS H
        refine op_call hk ent_10 (vs := [.slice A12 ((List.drop 0 (List.take (Int.toNat (mnI ((p0).length : Int) 40)) p0))).length c13]) rfl (wide_Sum_calls K A12 c13 (List.drop 0 (List.take (Int.toNat (mnI ((p0).length : Int) 40)) p0)) _ o159 0 fg0 0 fg1 _ f14 hc16   _ hc183) ?_
        rintro _ w184 ⟨o185, rfl, st186⟩
        replace f14 := f14.st st186 (by decide)
        replace fg0 := fg0.st st186 (by decide)
        replace fg1 := fg1.st st186 (by decide)
        replace hs := hs.loc0 st186 (by decide)
        have hk := hk.put 46 (.int .i64 t182) rfl
        refine x_run tab hk (k := 3) (lv := []) (ks := [10, 49]) (e' := [(10, .int .i64 t156), (49, .bool (t182 == x146))]) rfl trivial fun a hk => ?_
        cases b187 : (t182 == x146)
        · rw [b187] at hk H
          replace H := bifF H
          refine x_run tab hk (k := 4) (lv := []) (ks := [4]) (e' := [(4, .bool false)]) rfl trivial fun a hk => ?_
          refine wpListIn_nil ?_
          refine then_n ?_
          refine wpIn_ret ?_
          refine then_r ?_
          obtain rfl := Option.some.inj H
          exact x_retG hk (rs := [.tmp 4]) (vs := [.bool false]) rfl ⟨rfl, trivial⟩ ⟨fun b_ => if b_ < w.heap.size then o b_ else (fun _ => 0) (o185 b_), rfl, hs.close0 o (fun _ => 0)⟩
        · rw [b187] at hk H
          replace H := bifT H
          refine x_run tab hk (k := 4) (lv := []) (ks := [4]) (e' := [(4, .bool (t156 == (0 : Int)))]) rfl trivial fun a hk => ?_
          refine wpListIn_nil ?_
          refine then_n ?_
          refine wpIn_ret ?_
          refine then_r ?_
          obtain rfl := Option.some.inj H
          exact x_retG hk (rs := [.tmp 4]) (vs := [.bool (t156 == (0 : Int))]) rfl ⟨rfl, trivial⟩ ⟨fun b_ => if b_ < w.heap.size then o b_ else (fun _ => 0) (o185 b_), rfl, hs.close0 o (fun _ => 0)⟩
    refine x_seq ?_
    refine wpIn_region_lit ?_
    refine x_run tab hk (k := 3) (lv := []) (ks := [0, 1, 5, 6, 18, 19, 20]) (e' := [(0, .slice A12 ((List.drop 0 (List.take (Int.toNat (mnI ((p0).length : Int) 40)) p0))).length c13), (1, .int .i64 p1), (5, .int .i64 0), (6, .slice none 0 0), (18, .slice A12 ((List.drop 0 (List.take (Int.toNat (mnI ((p0).length : Int) 40)) p0))).length c13), (19, .int .i64 (((List.drop 0 (List.take (Int.toNat (mnI ((p0).length : Int) 40)) p0))).length : Int)), (20, .int .i64 0)]) rfl trivial fun a hk => ?_
    refine wpListIn_nil ?_
    refine then_n ?_
    refine wpIn_block ?_
    refine x_loop (fun j_ a_ w_ => ∃ o225 : Nat → Nat, ∃ x226 : Int, ∃ A227 : Option Addr, ∃ c228 : Nat, ∃ l229 : List Int, ∃ x232 : Int, Kn 64 a_ [(0, .slice A12 ((List.drop 0 (List.take (Int.toNat (mnI ((p0).length : Int) 40)) p0))).length c13), (1, .int .i64 p1), (5, .int .i64 x226), (6, .slice A227 (l229).length c228), (18, .slice A12 ((List.drop 0 (List.take (Int.toNat (mnI ((p0).length : Int) 40)) p0))).length c13), (19, .int .i64 (((List.drop 0 (List.take (Int.toNat (mnI ((p0).length : Int) 40)) p0))).length : Int)), (20, .int .i64 x232)] ∧ St [] w (fun _ => 0) w_ o225 ∧ Ft (RdC (encInt .i32) A12 (List.drop 0 (List.take (Int.toNat (mnI ((p0).length : Int) 40)) p0))) w_ o225 0 ∧ Ft (Own (encInt .i64) 3 (.slice A227 (l229).length c228) l229) w_ o225 10 ∧ Ft (RdC ET36 (some ⟨0, 0, none⟩) glob0) w_ o225 0 ∧ Ft (RdC ET36 (some ⟨1, 0, none⟩) glob1) w_ o225 0 ∧ (l229).length ≤ c228 ∧ tidewracklaw06_WideTells_l2 K p0 p1 j_ x226 l229 x232 = some r) (k := K) ⟨o7, 0, none, 0, ([] : List Int), 0, (by exact Kn.pick (ks := [0, 1, 5, 6, 18, 19, 20]) hk rfl), hs, f14, (Ft.of_all (fun _ => Own.nil _ _ _) _ _ _), fg0, fg1, (by simp), H⟩ (by rintro _ _ ⟨_, _, _, _, _, _, _, _, _, _, _, _, _, H_⟩; exact absurd (show (none : Option Bool) = some r from H_) (by simp)) ?_
    rintro k268 a w267 ⟨o225, x226, A227, c228, l229, x232, hk, hs, f14, f230, fg0, fg1, hc231, H⟩
    rw [tidewracklaw06_WideTells_l2] at H
    obtain ⟨lp269, hlp270⟩ : ∃ lp_, lp_ = tidewracklaw06_WideTells_l2 K p0 p1 k268 := ⟨_, rfl⟩
    rw [← hlp270] at H
    refine x_seq ?_
    refine wpIn_region_lit ?_
    refine x_run tab hk (k := 1) (lv := []) (ks := [0, 1, 5, 6, 18, 19, 20, 21]) (e' := [(0, .slice A12 ((List.drop 0 (List.take (Int.toNat (mnI ((p0).length : Int) 40)) p0))).length c13), (1, .int .i64 p1), (5, .int .i64 x226), (6, .slice A227 (l229).length c228), (18, .slice A12 ((List.drop 0 (List.take (Int.toNat (mnI ((p0).length : Int) 40)) p0))).length c13), (19, .int .i64 (((List.drop 0 (List.take (Int.toNat (mnI ((p0).length : Int) 40)) p0))).length : Int)), (20, .int .i64 x232), (21, .bool (decide (x232 < (((List.drop 0 (List.take (Int.toNat (mnI ((p0).length : Int) 40)) p0))).length : Int))))]) rfl trivial fun a hk => ?_
    refine wpListIn_nil ?_
    refine then_n ?_
    refine x_seq ?_
    cases b271 : (decide (x232 < (((List.drop 0 (List.take (Int.toNat (mnI ((p0).length : Int) 40)) p0))).length : Int)))
    · rw [b271] at hk H
      replace H := bifF H
      refine x_if hk (b := false) rfl ?_
      refine (show Code.wpIn _ _ _ _ _ _ _ from ?_)
      refine wpIn_exit ?_
      refine then_x ?_
      refine then_x ?_
      refine blk_x ?_
      refine then_n ?_
      exact ⟨(fun b_ => (fun l_ => if l_ = 10 then 7 else l_) (o225 b_)), x226, A227, c228, l229, (by exact Kn.pick (ks := [0, 1, 5, 6]) hk rfl), (hs.relab0 (fun l_ => if l_ = 10 then 7 else l_) rfl), (f14.relab (fun l_ => if l_ = 10 then 7 else l_) rfl), (f230.relab (fun l_ => if l_ = 10 then 7 else l_) rfl), (fg0.relab (fun l_ => if l_ = 10 then 7 else l_) rfl), (fg1.relab (fun l_ => if l_ = 10 then 7 else l_) rfl), hc231, H⟩
    · rw [b271] at hk H
      replace H := bifT H
      refine x_if hk (b := true) rfl ?_
      refine (show Code.wpIn _ _ _ _ _ _ _ from ?_)
      refine wpIn_skip ?_
      refine then_n ?_
      refine x_seq ?_
      refine wpIn_block ?_
      refine x_seq ?_
      refine wpIn_region_lit ?_
      obtain ⟨q272, H⟩ := ifS H
      obtain ⟨ad273, hAad273⟩ := RdC.addr f14.now q272
      have hk_C := hk
      have f14_C := f14
      have f230_C := f230
      have fg0_C := fg0
      have fg1_C := fg1
      subst hAad273
      have hk := hk_C
      clear hk_C
      have f14 := f14_C
      clear f14_C
      have f230 := f230_C
      clear f230_C
      have fg0 := fg0_C
      clear fg0_C
      have fg1 := fg1_C
      clear fg1_C
      refine x_run tab hk (k := 3) (lv := [.int .i32 (rdD 0 (List.drop 0 (List.take (Int.toNat (mnI ((p0).length : Int) 40)) p0)) x232)]) (ks := [0, 1, 5, 6, 8, 18, 19, 20]) (e' := [(0, .slice (some ad273) ((List.drop 0 (List.take (Int.toNat (mnI ((p0).length : Int) 40)) p0))).length c13), (1, .int .i64 p1), (5, .int .i64 x226), (6, .slice A227 (l229).length c228), (8, .int .i32 (rdD 0 (List.drop 0 (List.take (Int.toNat (mnI ((p0).length : Int) 40)) p0)) x232)), (18, .slice (some ad273) ((List.drop 0 (List.take (Int.toNat (mnI ((p0).length : Int) 40)) p0))).length c13), (19, .int .i64 (((List.drop 0 (List.take (Int.toNat (mnI ((p0).length : Int) 40)) p0))).length : Int)), (20, .int .i64 x232)]) rfl ⟨q272, (load1 tab rfl (RdC.at0 (E := (encInt .i32)) (d := 0) (i := x232) f14.now q272 rfl)), trivial⟩ fun a hk => ?_
      refine wpListIn_nil ?_
      refine then_n ?_
      refine x_seq ?_
      refine wpIn_region_lit ?_
      refine x_run tab hk (k := 2) (lv := []) (ks := [0, 1, 5, 6, 8, 18, 19, 20, 25]) (e' := [(0, .slice (some ad273) ((List.drop 0 (List.take (Int.toNat (mnI ((p0).length : Int) 40)) p0))).length c13), (1, .int .i64 p1), (5, .int .i64 x226), (6, .slice A227 (l229).length c228), (8, .int .i32 (rdD 0 (List.drop 0 (List.take (Int.toNat (mnI ((p0).length : Int) 40)) p0)) x232)), (18, .slice (some ad273) ((List.drop 0 (List.take (Int.toNat (mnI ((p0).length : Int) 40)) p0))).length c13), (19, .int .i64 (((List.drop 0 (List.take (Int.toNat (mnI ((p0).length : Int) 40)) p0))).length : Int)), (20, .int .i64 x232), (25, .int .i64 (IntKind.wrap .i64 (rdD 0 (List.drop 0 (List.take (Int.toNat (mnI ((p0).length : Int) 40)) p0)) x232)))]) rfl trivial fun a hk => ?_
      refine x_op hk rfl ?_
      obtain ⟨t277, hc278, H⟩ := bindS H
      refine op_call hk ent_7 (vs := [.int .i64 (IntKind.wrap .i64 (rdD 0 (List.drop 0 (List.take (Int.toNat (mnI ((p0).length : Int) 40)) p0)) x232))]) rfl (tidewrackref06_Of_calls K (IntKind.wrap .i64 (rdD 0 (List.drop 0 (List.take (Int.toNat (mnI ((p0).length : Int) 40)) p0)) x232)) _ o225    _ hc278) ?_
      rintro _ w279 ⟨o280, rfl, st281⟩
      replace f14 := f14.st st281 (by decide)
      replace f230 := f230.st st281 (by decide)
      replace fg0 := fg0.st st281 (by decide)
      replace fg1 := fg1.st st281 (by decide)
      replace hs := hs.loc0 st281 (by decide)
      have hk := hk.put 26 (.int .i64 t277) rfl
      refine x_run tab hk (k := 1) (lv := []) (ks := [0, 1, 5, 6, 8, 9, 18, 19, 20]) (e' := [(0, .slice (some ad273) ((List.drop 0 (List.take (Int.toNat (mnI ((p0).length : Int) 40)) p0))).length c13), (1, .int .i64 p1), (5, .int .i64 x226), (6, .slice A227 (l229).length c228), (8, .int .i32 (rdD 0 (List.drop 0 (List.take (Int.toNat (mnI ((p0).length : Int) 40)) p0)) x232)), (9, .int .i64 t277), (18, .slice (some ad273) ((List.drop 0 (List.take (Int.toNat (mnI ((p0).length : Int) 40)) p0))).length c13), (19, .int .i64 (((List.drop 0 (List.take (Int.toNat (mnI ((p0).length : Int) 40)) p0))).length : Int)), (20, .int .i64 x232)]) rfl trivial fun a hk => ?_
      refine wpListIn_nil ?_
      refine then_n ?_
      refine x_seq ?_
      refine x_seq ?_
      refine wpIn_region_lit ?_
      refine x_run tab hk (k := 1) (lv := []) (ks := [0, 1, 5, 6, 8, 9, 18, 19, 20, 27]) (e' := [(0, .slice (some ad273) ((List.drop 0 (List.take (Int.toNat (mnI ((p0).length : Int) 40)) p0))).length c13), (1, .int .i64 p1), (5, .int .i64 x226), (6, .slice A227 (l229).length c228), (8, .int .i32 (rdD 0 (List.drop 0 (List.take (Int.toNat (mnI ((p0).length : Int) 40)) p0)) x232)), (9, .int .i64 t277), (18, .slice (some ad273) ((List.drop 0 (List.take (Int.toNat (mnI ((p0).length : Int) 40)) p0))).length c13), (19, .int .i64 (((List.drop 0 (List.take (Int.toNat (mnI ((p0).length : Int) 40)) p0))).length : Int)), (20, .int .i64 x232), (27, .int .i32 (rdD 0 (List.drop 0 (List.take (Int.toNat (mnI ((p0).length : Int) 40)) p0)) x232))]) rfl trivial fun a hk => ?_
      refine x_op hk rfl ?_
      obtain ⟨t285, hc286, H⟩ := bindS H
      refine op_call hk ent_8 (vs := [.int .i32 (rdD 0 (List.drop 0 (List.take (Int.toNat (mnI ((p0).length : Int) 40)) p0)) x232)]) rfl (wide_Of_calls K (rdD 0 (List.drop 0 (List.take (Int.toNat (mnI ((p0).length : Int) 40)) p0)) x232) _ o280 0 fg0 0 fg1   _ hc286) ?_
      rintro _ w287 ⟨o288, rfl, st289⟩
      replace f14 := f14.st st289 (by decide)
      replace f230 := f230.st st289 (by decide)
      replace fg0 := fg0.st st289 (by decide)
      replace fg1 := fg1.st st289 (by decide)
      replace hs := hs.loc0 st289 (by decide)
      have hk := hk.put 28 (.int .i64 t285) rfl
      refine x_run tab hk (k := 2) (lv := []) (ks := [0, 1, 5, 6, 8, 9, 18, 19, 20, 30]) (e' := [(0, .slice (some ad273) ((List.drop 0 (List.take (Int.toNat (mnI ((p0).length : Int) 40)) p0))).length c13), (1, .int .i64 p1), (5, .int .i64 x226), (6, .slice A227 (l229).length c228), (8, .int .i32 (rdD 0 (List.drop 0 (List.take (Int.toNat (mnI ((p0).length : Int) 40)) p0)) x232)), (9, .int .i64 t277), (18, .slice (some ad273) ((List.drop 0 (List.take (Int.toNat (mnI ((p0).length : Int) 40)) p0))).length c13), (19, .int .i64 (((List.drop 0 (List.take (Int.toNat (mnI ((p0).length : Int) 40)) p0))).length : Int)), (20, .int .i64 x232), (30, .bool (t285 != t277))]) rfl trivial fun a hk => ?_
      refine wpListIn_nil ?_
      refine then_n ?_
      cases b290 : (t285 != t277)
      · rw [b290] at hk H
        replace H := bifF H
        refine x_if hk (b := false) rfl ?_
        refine (show Code.wpIn _ _ _ _ _ _ _ from ?_)
        refine wpIn_skip ?_
        refine then_n ?_
        refine x_seq ?_
        refine wpIn_region_lit ?_
        refine x_run tab hk (k := 4) (lv := []) (ks := [0, 1, 5, 6, 8, 18, 19, 20]) (e' := [(0, .slice (some ad273) ((List.drop 0 (List.take (Int.toNat (mnI ((p0).length : Int) 40)) p0))).length c13), (1, .int .i64 p1), (5, .int .i64 (IntKind.wrap .i64 (x226 + t277))), (6, .slice A227 (l229).length c228), (8, .int .i32 (rdD 0 (List.drop 0 (List.take (Int.toNat (mnI ((p0).length : Int) 40)) p0)) x232)), (18, .slice (some ad273) ((List.drop 0 (List.take (Int.toNat (mnI ((p0).length : Int) 40)) p0))).length c13), (19, .int .i64 (((List.drop 0 (List.take (Int.toNat (mnI ((p0).length : Int) 40)) p0))).length : Int)), (20, .int .i64 x232)]) rfl trivial fun a hk => ?_
        refine wpListIn_nil ?_
        refine then_n ?_
        refine wpIn_region_lit ?_
        refine x_run tab hk (k := 3) (lv := []) (ks := [0, 1, 5, 18, 19, 20, 34, 36]) (e' := [(0, .slice (some ad273) ((List.drop 0 (List.take (Int.toNat (mnI ((p0).length : Int) 40)) p0))).length c13), (1, .int .i64 p1), (5, .int .i64 (IntKind.wrap .i64 (x226 + t277))), (18, .slice (some ad273) ((List.drop 0 (List.take (Int.toNat (mnI ((p0).length : Int) 40)) p0))).length c13), (19, .int .i64 (((List.drop 0 (List.take (Int.toNat (mnI ((p0).length : Int) 40)) p0))).length : Int)), (20, .int .i64 x232), (34, .slice A227 (l229).length c228), (36, .int .i64 (IntKind.wrap .i64 (rdD 0 (List.drop 0 (List.take (Int.toNat (mnI ((p0).length : Int) 40)) p0)) x232)))]) rfl trivial fun a hk => ?_
        refine x_op hk rfl ?_
        refine op_slice (o := o288) tab hk (vs := [.int .i64 (IntKind.wrap .i64 (rdD 0 (List.drop 0 (List.take (Int.toNat (mnI ((p0).length : Int) 40)) p0)) x232))]) (cs := [.int .i64 (IntKind.wrap .i64 (rdD 0 (List.drop 0 (List.take (Int.toNat (mnI ((p0).length : Int) 40)) p0)) x232))]) rfl rfl rfl rfl rfl rfl rfl rfl rfl 12 fun bx294 w291 o292 st293 f295 => ?_
        replace f14 := f14.st st293 (by decide)
        replace f230 := f230.st st293 (by decide)
        replace fg0 := fg0.st st293 (by decide)
        replace fg1 := fg1.st st293 (by decide)
        replace hs := hs.loc0 st293 (by decide)
        have f296 : Ft (Own (encInt .i64) 3 (.slice (some ⟨bx294, 0, none⟩) (([(IntKind.wrap .i64 (rdD 0 (List.drop 0 (List.take (Int.toNat (mnI ((p0).length : Int) 40)) p0)) x232))] : List Int)).length 1) ([(IntKind.wrap .i64 (rdD 0 (List.drop 0 (List.take (Int.toNat (mnI ((p0).length : Int) 40)) p0)) x232))] : List Int)) w291 o292 12 := f295.imp fun _ h_ => Own.of_box h_ rfl (by simp)
        have hk := hk.put 37 (.slice (some ⟨bx294, 0, none⟩) (([(IntKind.wrap .i64 (rdD 0 (List.drop 0 (List.take (Int.toNat (mnI ((p0).length : Int) 40)) p0)) x232))] : List Int)).length 1) rfl
        refine x_op hk rfl ?_
        obtain ⟨q300, H⟩ := ifS H
        refine op_append (o := o292) (E := (encInt .i64)) (xs := l229) (ys := ([(IntKind.wrap .i64 (rdD 0 (List.drop 0 (List.take (Int.toNat (mnI ((p0).length : Int) 40)) p0)) x232))] : List Int)) tab hk rfl rfl rfl rfl rfl rfl rfl f230 (Own.rd f296.now) q300 fun A301 c302 w297 o298 st299 f303 hc304 => ?_
        replace f14 := f14.st st299 (by decide)
        replace f296 := f296.st st299 (by decide)
        replace fg0 := fg0.st st299 (by decide)
        replace fg1 := fg1.st st299 (by decide)
        replace hs := hs.loc0 st299 (by decide)
        have hk := hk.put 38 (.slice A301 ((l229 ++ ([(IntKind.wrap .i64 (rdD 0 (List.drop 0 (List.take (Int.toNat (mnI ((p0).length : Int) 40)) p0)) x232))] : List Int))).length c302) rfl
        refine x_run tab hk (k := 1) (lv := []) (ks := [0, 1, 5, 6, 18, 19, 20]) (e' := [(0, .slice (some ad273) ((List.drop 0 (List.take (Int.toNat (mnI ((p0).length : Int) 40)) p0))).length c13), (1, .int .i64 p1), (5, .int .i64 (IntKind.wrap .i64 (x226 + t277))), (6, .slice A301 ((l229 ++ ([(IntKind.wrap .i64 (rdD 0 (List.drop 0 (List.take (Int.toNat (mnI ((p0).length : Int) 40)) p0)) x232))] : List Int))).length c302), (18, .slice (some ad273) ((List.drop 0 (List.take (Int.toNat (mnI ((p0).length : Int) 40)) p0))).length c13), (19, .int .i64 (((List.drop 0 (List.take (Int.toNat (mnI ((p0).length : Int) 40)) p0))).length : Int)), (20, .int .i64 x232)]) rfl trivial fun a hk => ?_
        refine wpListIn_nil ?_
        refine blk_n ?_
        refine then_n ?_
        refine wpIn_region_lit ?_
        refine x_run tab hk (k := 2) (lv := []) (ks := [0, 1, 5, 6, 18, 19, 20]) (e' := [(0, .slice (some ad273) ((List.drop 0 (List.take (Int.toNat (mnI ((p0).length : Int) 40)) p0))).length c13), (1, .int .i64 p1), (5, .int .i64 (IntKind.wrap .i64 (x226 + t277))), (6, .slice A301 ((l229 ++ ([(IntKind.wrap .i64 (rdD 0 (List.drop 0 (List.take (Int.toNat (mnI ((p0).length : Int) 40)) p0)) x232))] : List Int))).length c302), (18, .slice (some ad273) ((List.drop 0 (List.take (Int.toNat (mnI ((p0).length : Int) 40)) p0))).length c13), (19, .int .i64 (((List.drop 0 (List.take (Int.toNat (mnI ((p0).length : Int) 40)) p0))).length : Int)), (20, .int .i64 (IntKind.wrap .i64 (x232 + 1)))]) rfl trivial fun a hk => ?_
        refine wpListIn_nil ?_
        refine then_n ?_
        exact ⟨k268, Nat.le_refl _, o298, (IntKind.wrap .i64 (x226 + t277)), A301, c302, (l229 ++ ([(IntKind.wrap .i64 (rdD 0 (List.drop 0 (List.take (Int.toNat (mnI ((p0).length : Int) 40)) p0)) x232))] : List Int)), (IntKind.wrap .i64 (x232 + 1)), (by exact Kn.pick (ks := [0, 1, 5, 6, 18, 19, 20]) hk rfl), hs, f14, f303, fg0, fg1, hc304, (hlp270 ▸ H)⟩
      · rw [b290] at hk H
        replace H := bifT H
        refine x_if hk (b := true) rfl ?_
        refine (show Code.wpIn _ _ _ _ _ _ _ from ?_)
        refine x_seq ?_
        refine wpIn_region_lit ?_
        refine x_run tab hk (k := 1) (lv := []) (ks := [4]) (e' := [(4, .bool false)]) rfl trivial fun a hk => ?_
        refine wpListIn_nil ?_
        refine then_n ?_
        refine wpIn_ret ?_
        refine then_r ?_
        refine blk_r ?_
        refine then_r ?_
        refine then_r ?_
        refine blk_r ?_
        refine then_r ?_
        obtain rfl := Option.some.inj H
        exact x_retG hk (rs := [.tmp 4]) (vs := [.bool false]) rfl ⟨rfl, trivial⟩ ⟨fun b_ => if b_ < w.heap.size then o b_ else (fun _ => 0) (o288 b_), rfl, hs.close0 o (fun _ => 0)⟩
  · rw [b9] at hk H
    replace H := bifT H
    refine x_if hk (b := true) rfl ?_
    refine (show Code.wpIn _ _ _ _ _ _ _ from ?_)
    refine x_seq ?_
    refine wpIn_region_lit ?_
    refine x_run tab hk (k := 1) (lv := []) (ks := [4]) (e' := [(4, .bool false)]) rfl trivial fun a hk => ?_
    refine wpListIn_nil ?_
    refine then_n ?_
    refine wpIn_ret ?_
    refine then_r ?_
    obtain rfl := Option.some.inj H
    exact x_retG hk (rs := [.tmp 4]) (vs := [.bool false]) rfl ⟨rfl, trivial⟩ ⟨fun b_ => if b_ < w.heap.size then o b_ else (fun _ => 0) (o7 b_), rfl, hs.close0 o (fun _ => 0)⟩

/-! tidewrack/tidewracklaw06.WideFits -/
theorem tidewracklaw06_WideFits_calls (K : Nat) (Ap0 : Option Addr) (cp0 : Nat) (p0 : List Int) (p1 : Int) (w : World) (o : Nat → Nat) (Lg0 : Nat) (hg0 : Ft (RdC ET36 (some ⟨0, 0, none⟩) glob0) w o Lg0) (Lg1 : Nat) (hg1 : Ft (RdC ET36 (some ⟨1, 0, none⟩) glob1) w o Lg1) (Lp0 : Nat) (hp0 : Ft (RdC (encInt .i32) Ap0 p0) w o Lp0) (hcp0 : (p0).length ≤ cp0)  (r : Bool) (H : tidewracklaw06_WideFits K p0 p1 = some r) :
    Calls Tryd.prog 4 #[.slice Ap0 (p0).length cp0, .int .i64 p1] w (Ret fun v_ w' => ∃ o' : Nat → Nat, v_ = .bool r ∧ St [] w o w' o') := by
  refine x_enter (vs := [.slice Ap0 (p0).length cp0, .int .i64 p1]) Tryd.func4 rfl rfl rfl fun a hk => ?_
  obtain ⟨o0, hs, h0⟩ := St.start w o
  have fg0 := h0 _ _ hg0
  have fg1 := h0 _ _ hg1
  have f900 := h0 _ _ hp0
  clear h0
  rw [tidewracklaw06_WideFits] at H
  refine x_seq ?_
  refine wpIn_region_lit ?_
  refine x_run tab hk (k := 1) (lv := []) (ks := [0, 1]) (e' := [(0, .slice Ap0 (p0).length cp0), (1, .int .i64 p1)]) rfl trivial fun a hk => ?_
  refine wpListIn_nil ?_
  refine then_n ?_
  refine x_seq ?_
  refine x_seq ?_
  refine wpIn_region_lit ?_
  refine x_op hk rfl ?_
  obtain ⟨t4, hc5, H⟩ := bindS H
  refine op_call hk ent_6 (vs := []) rfl (tidewracklaw06_awake_calls K  _ o0 0 fg0 0 fg1   _ hc5) ?_
  rintro _ w6 ⟨o7, rfl, st8⟩
  replace f900 := f900.st st8 (by decide)
  replace fg0 := fg0.st st8 (by decide)
  replace fg1 := fg1.st st8 (by decide)
  replace hs := hs.loc0 st8 (by decide)
  have hk := hk.put 6 (.bool t4) rfl
  refine x_run tab hk (k := 1) (lv := []) (ks := [0, 1, 7]) (e' := [(0, .slice Ap0 (p0).length cp0), (1, .int .i64 p1), (7, .bool (!t4))]) rfl trivial fun a hk => ?_
  refine wpListIn_nil ?_
  refine then_n ?_
  cases b9 : (!t4)
  · rw [b9] at hk H
    replace H := bifF H
    refine x_if hk (b := false) rfl ?_
    refine (show Code.wpIn _ _ _ _ _ _ _ from ?_)
    refine wpIn_skip ?_
    refine then_n ?_
    refine x_seq ?_
    refine wpIn_region_lit ?_
    obtain ⟨q10, H⟩ := ifS H
    obtain ⟨q11, H⟩ := ifS H
    obtain ⟨A12, c13, ak15, f14, hc16⟩ := ask_cut (P := Tryd.prog) tab (t := 22) rfl rfl f900 hcp0 none (some (.int .i64 (mnI ((p0).length : Int) 40))) rfl ⟨q10, (by have := q11; have := hcp0; omega), trivial⟩ (by have := q10; have := q11; omega) (by have := q10; have := q11; omega)
    refine x_run tab hk (k := 6) (lv := [.slice A12 ((List.drop 0 (List.take (Int.toNat (mnI ((p0).length : Int) 40)) p0))).length c13]) (ks := [0, 1]) (e' := [(0, .slice A12 ((List.drop 0 (List.take (Int.toNat (mnI ((p0).length : Int) 40)) p0))).length c13), (1, .int .i64 p1)]) rfl ⟨(ak15 rfl rfl rfl _), trivial⟩ fun a hk => ?_
    refine wpListIn_nil ?_
    refine then_n ?_
    refine x_seq ?_
    refine wpIn_region_lit ?_
    refine x_run tab hk (k := 3) (lv := []) (ks := [0, 1]) (e' := [(0, .slice A12 ((List.drop 0 (List.take (Int.toNat (mnI ((p0).length : Int) 40)) p0))).length c13), (1, .int .i64 (bits .and .i64 p1 127))]) rfl trivial fun a hk => ?_
    refine wpListIn_nil ?_
    refine then_n ?_
    refine x_seq ?_
    refine wpIn_region_lit ?_
    refine x_run tab hk (k := 2) (lv := []) (ks := [0, 1, 15, 16]) (e' := [(0, .slice A12 ((List.drop 0 (List.take (Int.toNat (mnI ((p0).length : Int) 40)) p0))).length c13), (1, .int .i64 (bits .and .i64 p1 127)), (15, .int .i64 (bits .and .i64 p1 127)), (16, .slice A12 ((List.drop 0 (List.take (Int.toNat (mnI ((p0).length : Int) 40)) p0))).length c13)]) rfl trivial fun a hk => ?_
    refine x_op hk rfl ?_
    obtain ⟨t20, hc21, H⟩ := bindS H
    refine op_call hk ent_9 (vs := [.int .i64 (bits .and .i64 p1 127), .slice A12 ((List.drop 0 (List.take (Int.toNat (mnI ((p0).length : Int) 40)) p0))).length c13]) rfl (wide_Fit_calls K (bits .and .i64 p1 127) A12 c13 (List.drop 0 (List.take (Int.toNat (mnI ((p0).length : Int) 40)) p0)) _ o7 0 fg0 0 fg1 _ f14 hc16   _ hc21) ?_
    rintro _ w22 ⟨o23, rfl, st24⟩
    replace f14 := f14.st st24 (by decide)
    replace fg0 := fg0.st st24 (by decide)
    replace fg1 := fg1.st st24 (by decide)
    replace hs := hs.loc0 st24 (by decide)
    have hk := hk.put 17 (.int .i64 t20) rfl
    refine x_run tab hk (k := 1) (lv := []) (ks := [0, 1, 5]) (e' := [(0, .slice A12 ((List.drop 0 (List.take (Int.toNat (mnI ((p0).length : Int) 40)) p0))).length c13), (1, .int .i64 (bits .and .i64 p1 127)), (5, .int .i64 t20)]) rfl trivial fun a hk => ?_
    refine wpListIn_nil ?_
    refine then_n ?_
    refine x_mid (fun a_ w_ => ∃ o46 : Nat → Nat, Kn 55 a_ [(0, .slice A12 ((List.drop 0 (List.take (Int.toNat (mnI ((p0).length : Int) 40)) p0))).length c13), (1, .int .i64 (bits .and .i64 p1 127)), (5, .int .i64 t20)] ∧ St [] w (fun _ => 0) w_ o46 ∧ Ft (RdC (encInt .i32) A12 (List.drop 0 (List.take (Int.toNat (mnI ((p0).length : Int) 40)) p0))) w_ o46 0 ∧ Ft (RdC ET36 (some ⟨0, 0, none⟩) glob0) w_ o46 0 ∧ Ft (RdC ET36 (some ⟨1, 0, none⟩) glob1) w_ o46 0 ∧ tidewracklaw06_WideFits_j1 K p0 p1 t20 = some r) ?_ ?_
    rotate_left
    · rintro a w47 ⟨o46, hk, hs, f14, fg0, fg1, H⟩
      rw [tidewracklaw06_WideFits_j1] at H
      refine x_seq ?_
      refine wpIn_region_lit ?_
      refine x_run tab hk (k := 5) (lv := []) (ks := [0, 1, 5, 38]) (e' := [(0, .slice A12 ((List.drop 0 (List.take (Int.toNat (mnI ((p0).length : Int) 40)) p0))).length c13), (1, .int .i64 (bits .and .i64 p1 127)), (5, .int .i64 t20), (38, .bool (t20 == (((List.drop 0 (List.take (Int.toNat (mnI ((p0).length : Int) 40)) p0))).length : Int)))]) rfl trivial fun a hk => ?_
      cases b48 : (t20 == (((List.drop 0 (List.take (Int.toNat (mnI ((p0).length : Int) 40)) p0))).length : Int))
      · rw [b48] at hk H
        replace H := bifF H
        obtain ⟨q49, H⟩ := ifS H
        obtain ⟨q50, H⟩ := ifS H
        obtain ⟨A51, c52, ak54, f53, hc55⟩ := ask_cut (P := Tryd.prog) tab (t := 22) rfl rfl f14 hc16 none (some (.int .i64 (IntKind.wrap .i64 (t20 + 1)))) rfl ⟨q49, (by have := q50; have := hc16; omega), trivial⟩ (by have := q49; have := q50; omega) (by have := q49; have := q50; omega)
        refine x_run tab hk (k := 4) (lv := [.slice A51 ((List.drop 0 (List.take (Int.toNat (IntKind.wrap .i64 (t20 + 1))) (List.drop 0 (List.take (Int.toNat (mnI ((p0).length : Int) 40)) p0))))).length c52]) (ks := [0, 1, 5, 38, 42]) (e' := [(0, .slice A12 ((List.drop 0 (List.take (Int.toNat (mnI ((p0).length : Int) 40)) p0))).length c13), (1, .int .i64 (bits .and .i64 p1 127)), (5, .int .i64 t20), (38, .bool false), (42, .slice A51 ((List.drop 0 (List.take (Int.toNat (IntKind.wrap .i64 (t20 + 1))) (List.drop 0 (List.take (Int.toNat (mnI ((p0).length : Int) 40)) p0))))).length c52)]) rfl ⟨(ak54 rfl rfl rfl _), trivial⟩ fun a hk => ?_
        refine x_op hk rfl ?_
        obtain ⟨t59, hc60, H⟩ := bindS H
        refine op_call hk ent_10 (vs := [.slice A51 ((List.drop 0 (List.take (Int.toNat (IntKind.wrap .i64 (t20 + 1))) (List.drop 0 (List.take (Int.toNat (mnI ((p0).length : Int) 40)) p0))))).length c52]) rfl (wide_Sum_calls K A51 c52 (List.drop 0 (List.take (Int.toNat (IntKind.wrap .i64 (t20 + 1))) (List.drop 0 (List.take (Int.toNat (mnI ((p0).length : Int) 40)) p0)))) _ o46 0 fg0 0 fg1 _ f53 hc55   _ hc60) ?_
        rintro _ w61 ⟨o62, rfl, st63⟩
        replace f14 := f14.st st63 (by decide)
        replace f53 := f53.st st63 (by decide)
        replace fg0 := fg0.st st63 (by decide)
        replace fg1 := fg1.st st63 (by decide)
        replace hs := hs.loc0 st63 (by decide)
        have hk := hk.put 43 (.int .i64 t59) rfl
        refine x_run tab hk (k := 3) (lv := []) (ks := [0, 5, 38, 46]) (e' := [(0, .slice A12 ((List.drop 0 (List.take (Int.toNat (mnI ((p0).length : Int) 40)) p0))).length c13), (5, .int .i64 t20), (38, .bool false), (46, .bool (decide (t59 > (bits .and .i64 p1 127))))]) rfl trivial fun a hk => ?_
        cases b64 : (decide (t59 > (bits .and .i64 p1 127)))
        · rw [b64] at hk H
          replace H := bifF H
          refine x_run tab hk (k := 9) (lv := []) (ks := [4]) (e' := [(4, .bool false)]) rfl trivial fun a hk => ?_
          refine wpListIn_nil ?_
          refine then_n ?_
          refine wpIn_ret ?_
          obtain rfl := Option.some.inj H
          exact x_retG hk (rs := [.tmp 4]) (vs := [.bool false]) rfl ⟨rfl, trivial⟩ ⟨fun b_ => if b_ < w.heap.size then o b_ else (fun _ => 0) (o62 b_), rfl, hs.close0 o (fun _ => 0)⟩
        · rw [b64] at hk H
          replace H := bifT H
          obtain ⟨q65, H⟩ := ifS H
          obtain ⟨ad66, hAad66⟩ := RdC.addr f14.now q65
          have hk_C := hk
          have f14_C := f14
          have fg0_C := fg0
          have fg1_C := fg1
          subst hAad66
          have hk := hk_C
          clear hk_C
          have f14 := f14_C
          clear f14_C
          have fg0 := fg0_C
          clear fg0_C
          have fg1 := fg1_C
          clear fg1_C
          refine x_run tab hk (k := 4) (lv := [.int .i32 (rdD 0 (List.drop 0 (List.take (Int.toNat (mnI ((p0).length : Int) 40)) p0)) t20)]) (ks := [38, 46, 50]) (e' := [(38, .bool false), (46, .bool true), (50, .int .i32 (rdD 0 (List.drop 0 (List.take (Int.toNat (mnI ((p0).length : Int) 40)) p0)) t20))]) rfl ⟨q65, (load1 tab rfl (RdC.at0 (E := (encInt .i32)) (d := 0) (i := t20) f14.now q65 rfl)), trivial⟩ fun a hk => ?_
          refine x_op hk rfl ?_
          obtain ⟨t70, hc71, H⟩ := bindS H
          refine op_call hk ent_8 (vs := [.int .i32 (rdD 0 (List.drop 0 (List.take (Int.toNat (mnI ((p0).length : Int) 40)) p0)) t20)]) rfl (wide_Of_calls K (rdD 0 (List.drop 0 (List.take (Int.toNat (mnI ((p0).length : Int) 40)) p0)) t20) _ o62 0 fg0 0 fg1   _ hc71) ?_
          rintro _ w72 ⟨o73, rfl, st74⟩
          replace fg0 := fg0.st st74 (by decide)
          replace fg1 := fg1.st st74 (by decide)
          replace hs := hs.loc0 st74 (by decide)
          have hk := hk.put 51 (.int .i64 t70) rfl
          refine x_run tab hk (k := 4) (lv := []) (ks := [4]) (e' := [(4, .bool (decide (t70 > (0 : Int))))]) rfl trivial fun a hk => ?_
          refine wpListIn_nil ?_
          refine then_n ?_
          refine wpIn_ret ?_
          obtain rfl := Option.some.inj H
          exact x_retG hk (rs := [.tmp 4]) (vs := [.bool (decide (t70 > (0 : Int)))]) rfl ⟨rfl, trivial⟩ ⟨fun b_ => if b_ < w.heap.size then o b_ else (fun _ => 0) (o73 b_), rfl, hs.close0 o (fun _ => 0)⟩
      · rw [b48] at hk H
        replace H := bifT H
        refine x_run tab hk (k := 15) (lv := []) (ks := [38, 53]) (e' := [(38, .bool true), (53, undef)]) rfl trivial fun a hk => ?_
        refine x_run tab hk (k := 2) (lv := []) (ks := [4]) (e' := [(4, .bool true)]) rfl trivial fun a hk => ?_
        refine wpListIn_nil ?_
        refine then_n ?_
        refine wpIn_ret ?_
        obtain rfl := Option.some.inj H
        exact x_retG hk (rs := [.tmp 4]) (vs := [.bool true]) rfl ⟨rfl, trivial⟩ ⟨fun b_ => if b_ < w.heap.size then o b_ else (fun _ => 0) (o46 b_), rfl, hs.close0 o (fun _ => 0)⟩
    refine x_seq ?_
    refine wpIn_region_lit ?_
    refine x_run tab hk (k := 3) (lv := []) (ks := [0, 1, 5, 20]) (e' := [(0, .slice A12 ((List.drop 0 (List.take (Int.toNat (mnI ((p0).length : Int) 40)) p0))).length c13), (1, .int .i64 (bits .and .i64 p1 127)), (5, .int .i64 t20), (20, .bool (decide (t20 < (0 : Int))))]) rfl trivial fun a hk => ?_
    cases b75 : (decide (t20 < (0 : Int)))
    · rw [b75] at hk H
      replace H := bifF H
      refine x_run tab hk (k := 6) (lv := []) (ks := [0, 1, 5, 26]) (e' := [(0, .slice A12 ((List.drop 0 (List.take (Int.toNat (mnI ((p0).length : Int) 40)) p0))).length c13), (1, .int .i64 (bits .and .i64 p1 127)), (5, .int .i64 t20), (26, .bool (decide (t20 > (((List.drop 0 (List.take (Int.toNat (mnI ((p0).length : Int) 40)) p0))).length : Int))))]) rfl trivial fun a hk => ?_
      cases b76 : (decide (t20 > (((List.drop 0 (List.take (Int.toNat (mnI ((p0).length : Int) 40)) p0))).length : Int)))
      · rw [b76] at hk H
        replace H := bifF H
        obtain ⟨q77, H⟩ := ifS H
        obtain ⟨q78, H⟩ := ifS H
        obtain ⟨A79, c80, ak82, f81, hc83⟩ := ask_cut (P := Tryd.prog) tab (t := 22) rfl rfl f14 hc16 none (some (.int .i64 t20)) rfl ⟨q77, (by have := q78; have := hc16; omega), trivial⟩ (by have := q77; have := q78; omega) (by have := q77; have := q78; omega)
        refine x_run tab hk (k := 3) (lv := [.slice A79 ((List.drop 0 (List.take (Int.toNat t20) (List.drop 0 (List.take (Int.toNat (mnI ((p0).length : Int) 40)) p0))))).length c80]) (ks := [0, 1, 5, 26, 29]) (e' := [(0, .slice A12 ((List.drop 0 (List.take (Int.toNat (mnI ((p0).length : Int) 40)) p0))).length c13), (1, .int .i64 (bits .and .i64 p1 127)), (5, .int .i64 t20), (26, .bool false), (29, .slice A79 ((List.drop 0 (List.take (Int.toNat t20) (List.drop 0 (List.take (Int.toNat (mnI ((p0).length : Int) 40)) p0))))).length c80)]) rfl ⟨(ak82 rfl rfl rfl _), trivial⟩ fun a hk => ?_
        refine x_op hk rfl ?_
        obtain ⟨t87, hc88, H⟩ := bindS H
        refine op_call hk ent_10 (vs := [.slice A79 ((List.drop 0 (List.take (Int.toNat t20) (List.drop 0 (List.take (Int.toNat (mnI ((p0).length : Int) 40)) p0))))).length c80]) rfl (wide_Sum_calls K A79 c80 (List.drop 0 (List.take (Int.toNat t20) (List.drop 0 (List.take (Int.toNat (mnI ((p0).length : Int) 40)) p0)))) _ o23 0 fg0 0 fg1 _ f81 hc83   _ hc88) ?_
        rintro _ w89 ⟨o90, rfl, st91⟩
        replace f14 := f14.st st91 (by decide)
        replace f81 := f81.st st91 (by decide)
        replace fg0 := fg0.st st91 (by decide)
        replace fg1 := fg1.st st91 (by decide)
        replace hs := hs.loc0 st91 (by decide)
        have hk := hk.put 30 (.int .i64 t87) rfl
        refine x_run tab hk (k := 3) (lv := []) (ks := [0, 1, 5, 33]) (e' := [(0, .slice A12 ((List.drop 0 (List.take (Int.toNat (mnI ((p0).length : Int) 40)) p0))).length c13), (1, .int .i64 (bits .and .i64 p1 127)), (5, .int .i64 t20), (33, .bool (decide (t87 > (bits .and .i64 p1 127))))]) rfl trivial fun a hk => ?_
        refine wpListIn_nil ?_
        refine then_n ?_
        cases b92 : (decide (t87 > (bits .and .i64 p1 127)))
        · rw [b92] at hk H
          replace H := bifF H
          refine x_if hk (b := false) rfl ?_
          refine (show Code.wpIn _ _ _ _ _ _ _ from ?_)
          refine wpIn_skip ?_
          refine then_n ?_
          exact ⟨o90, (by exact Kn.pick (ks := [0, 1, 5]) hk rfl), hs, f14, fg0, fg1, H⟩
        · rw [b92] at hk H
          replace H := bifT H
          refine x_if hk (b := true) rfl ?_
          refine (show Code.wpIn _ _ _ _ _ _ _ from ?_)
          refine x_seq ?_
          refine wpIn_region_lit ?_
          refine x_run tab hk (k := 1) (lv := []) (ks := [4]) (e' := [(4, .bool false)]) rfl trivial fun a hk => ?_
          refine wpListIn_nil ?_
          refine then_n ?_
          refine wpIn_ret ?_
          refine then_r ?_
          obtain rfl := Option.some.inj H
          exact x_retG hk (rs := [.tmp 4]) (vs := [.bool false]) rfl ⟨rfl, trivial⟩ ⟨fun b_ => if b_ < w.heap.size then o b_ else (fun _ => 0) (o90 b_), rfl, hs.close0 o (fun _ => 0)⟩
      · rw [b76] at hk H
        replace H := bifT H
        refine x_run tab hk (k := 7) (lv := []) (ks := [0, 1, 5, 33]) (e' := [(0, .slice A12 ((List.drop 0 (List.take (Int.toNat (mnI ((p0).length : Int) 40)) p0))).length c13), (1, .int .i64 (bits .and .i64 p1 127)), (5, .int .i64 t20), (33, .bool true)]) rfl trivial fun a hk => ?_
        refine wpListIn_nil ?_
        refine then_n ?_
        refine x_if hk (b := true) rfl ?_
        refine (show Code.wpIn _ _ _ _ _ _ _ from ?_)
        refine x_seq ?_
        refine wpIn_region_lit ?_
        refine x_run tab hk (k := 1) (lv := []) (ks := [4]) (e' := [(4, .bool false)]) rfl trivial fun a hk => ?_
        refine wpListIn_nil ?_
        refine then_n ?_
        refine wpIn_ret ?_
        refine then_r ?_
        obtain rfl := Option.some.inj H
        exact x_retG hk (rs := [.tmp 4]) (vs := [.bool false]) rfl ⟨rfl, trivial⟩ ⟨fun b_ => if b_ < w.heap.size then o b_ else (fun _ => 0) (o23 b_), rfl, hs.close0 o (fun _ => 0)⟩
    · rw [b75] at hk H
      replace H := bifT H
      refine x_run tab hk (k := 12) (lv := []) (ks := [0, 1, 5, 26, 32]) (e' := [(0, .slice A12 ((List.drop 0 (List.take (Int.toNat (mnI ((p0).length : Int) 40)) p0))).length c13), (1, .int .i64 (bits .and .i64 p1 127)), (5, .int .i64 t20), (26, .bool true), (32, undef)]) rfl trivial fun a hk => ?_
      refine x_run tab hk (k := 1) (lv := []) (ks := [0, 1, 5, 33]) (e' := [(0, .slice A12 ((List.drop 0 (List.take (Int.toNat (mnI ((p0).length : Int) 40)) p0))).length c13), (1, .int .i64 (bits .and .i64 p1 127)), (5, .int .i64 t20), (33, .bool true)]) rfl trivial fun a hk => ?_
      refine wpListIn_nil ?_
      refine then_n ?_
      refine x_if hk (b := true) rfl ?_
      refine (show Code.wpIn _ _ _ _ _ _ _ from ?_)
      refine x_seq ?_
      refine wpIn_region_lit ?_
      refine x_run tab hk (k := 1) (lv := []) (ks := [4]) (e' := [(4, .bool false)]) rfl trivial fun a hk => ?_
      refine wpListIn_nil ?_
      refine then_n ?_
      refine wpIn_ret ?_
      refine then_r ?_
      obtain rfl := Option.some.inj H
      exact x_retG hk (rs := [.tmp 4]) (vs := [.bool false]) rfl ⟨rfl, trivial⟩ ⟨fun b_ => if b_ < w.heap.size then o b_ else (fun _ => 0) (o23 b_), rfl, hs.close0 o (fun _ => 0)⟩
  · rw [b9] at hk H
    replace H := bifT H
    refine x_if hk (b := true) rfl ?_
    refine (show Code.wpIn _ _ _ _ _ _ _ from ?_)
    refine x_seq ?_
    refine wpIn_region_lit ?_
    refine x_run tab hk (k := 1) (lv := []) (ks := [4]) (e' := [(4, .bool false)]) rfl trivial fun a hk => ?_
    refine wpListIn_nil ?_
    refine then_n ?_
    refine wpIn_ret ?_
    refine then_r ?_
    obtain rfl := Option.some.inj H
    exact x_retG hk (rs := [.tmp 4]) (vs := [.bool false]) rfl ⟨rfl, trivial⟩ ⟨fun b_ => if b_ < w.heap.size then o b_ else (fun _ => 0) (o7 b_), rfl, hs.close0 o (fun _ => 0)⟩

/-! tidewrack/tidewracklaw06.WideAdds -/
theorem tidewracklaw06_WideAdds_calls (K : Nat) (Ap0 : Option Addr) (cp0 : Nat) (p0 : List Int) (Ap1 : Option Addr) (cp1 : Nat) (p1 : List Int) (p2 : Int) (w : World) (o : Nat → Nat) (Lg0 : Nat) (hg0 : Ft (RdC ET36 (some ⟨0, 0, none⟩) glob0) w o Lg0) (Lg1 : Nat) (hg1 : Ft (RdC ET36 (some ⟨1, 0, none⟩) glob1) w o Lg1) (Lp0 : Nat) (hp0 : Ft (RdC (encInt .i32) Ap0 p0) w o Lp0) (hcp0 : (p0).length ≤ cp0) (Lp1 : Nat) (hp1 : Ft (RdC (encInt .i32) Ap1 p1) w o Lp1) (hcp1 : (p1).length ≤ cp1)  (r : Bool) (H : tidewracklaw06_WideAdds K p0 p1 p2 = some r) :
    Calls Tryd.prog 5 #[.slice Ap0 (p0).length cp0, .slice Ap1 (p1).length cp1, .int .i64 p2] w (Ret fun v_ w' => ∃ o' : Nat → Nat, v_ = .bool r ∧ St [] w o w' o') := by
  refine x_enter (vs := [.slice Ap0 (p0).length cp0, .slice Ap1 (p1).length cp1, .int .i64 p2]) Tryd.func5 rfl rfl rfl fun a hk => ?_
  obtain ⟨o0, hs, h0⟩ := St.start w o
  have fg0 := h0 _ _ hg0
  have fg1 := h0 _ _ hg1
  have f900 := h0 _ _ hp0
  have f920 := h0 _ _ hp1
  clear h0
  rw [tidewracklaw06_WideAdds] at H
  refine x_seq ?_
  refine wpIn_region_lit ?_
  refine x_run tab hk (k := 1) (lv := []) (ks := [0, 1, 2]) (e' := [(0, .slice Ap0 (p0).length cp0), (1, .slice Ap1 (p1).length cp1), (2, .int .i64 p2)]) rfl trivial fun a hk => ?_
  refine wpListIn_nil ?_
  refine then_n ?_
  refine x_seq ?_
  refine x_seq ?_
  refine wpIn_region_lit ?_
  refine x_op hk rfl ?_
  obtain ⟨t4, hc5, H⟩ := bindS H
  refine op_call hk ent_6 (vs := []) rfl (tidewracklaw06_awake_calls K  _ o0 0 fg0 0 fg1   _ hc5) ?_
  rintro _ w6 ⟨o7, rfl, st8⟩
  replace f900 := f900.st st8 (by decide)
  replace f920 := f920.st st8 (by decide)
  replace fg0 := fg0.st st8 (by decide)
  replace fg1 := fg1.st st8 (by decide)
  replace hs := hs.loc0 st8 (by decide)
  have hk := hk.put 10 (.bool t4) rfl
  refine x_run tab hk (k := 1) (lv := []) (ks := [0, 1, 2, 11]) (e' := [(0, .slice Ap0 (p0).length cp0), (1, .slice Ap1 (p1).length cp1), (2, .int .i64 p2), (11, .bool (!t4))]) rfl trivial fun a hk => ?_
  refine wpListIn_nil ?_
  refine then_n ?_
  cases b9 : (!t4)
  · rw [b9] at hk H
    replace H := bifF H
    refine x_if hk (b := false) rfl ?_
    refine (show Code.wpIn _ _ _ _ _ _ _ from ?_)
    refine wpIn_skip ?_
    refine then_n ?_
    refine x_seq ?_
    refine xd_begin (o := o7) (fun W_ => True) mixed rfl rfl fun w38 st39 => ?_
    replace f900 := f900.st st39 (by decide)
    replace f920 := f920.st st39 (by decide)
    replace fg0 := fg0.st st39 (by decide)
    replace fg1 := fg1.st st39 (by decide)
    replace hs := hs.loc0 st39 (by decide)
    obtain ⟨q40, H⟩ := ifS H
    obtain ⟨q41, H⟩ := ifS H
    obtain ⟨A42, c43, ak45, f44, hc46⟩ := ask_cut (P := Tryd.prog) tab (t := 22) rfl rfl f900 hcp0 none (some (.int .i64 (mnI ((p0).length : Int) 30))) rfl ⟨q40, (by have := q41; have := hcp0; omega), trivial⟩ (by have := q40; have := q41; omega) (by have := q40; have := q41; omega)
    obtain ⟨q47, H⟩ := ifS H
    obtain ⟨q48, H⟩ := ifS H
    obtain ⟨A49, c50, ak52, f51, hc53⟩ := ask_cut (P := Tryd.prog) tab (t := 22) rfl rfl f920 hcp1 none (some (.int .i64 (mnI ((p1).length : Int) 30))) rfl ⟨q47, (by have := q48; have := hcp1; omega), trivial⟩ (by have := q47; have := q48; omega) (by have := q47; have := q48; omega)
    refine xd_take tab hk (k := 0) (is := [0, 1, 2, 3, 4, 5, 6, 7, 8, 9, 10, 11]) (ls' := #[true, true, true, true, true, true, true, true, true, true, true, true]) (lv := [.slice A42 ((List.drop 0 (List.take (Int.toNat (mnI ((p0).length : Int) 30)) p0))).length c43, .slice A49 ((List.drop 0 (List.take (Int.toNat (mnI ((p1).length : Int) 30)) p1))).length c50]) (ks := [0, 1, 2]) (e' := [(0, .slice A42 ((List.drop 0 (List.take (Int.toNat (mnI ((p0).length : Int) 30)) p0))).length c43), (1, .slice A49 ((List.drop 0 (List.take (Int.toNat (mnI ((p1).length : Int) 30)) p1))).length c50), (2, .int .i64 p2)]) (by kernel_rfl) rfl rfl (by kernel_rfl) (np_then np_body) trivial (fun W_ hS => ⟨(ak45 rfl rfl rfl _), (ak52 rfl rfl rfl _), trivial⟩) fun a hk => ?_
    refine xd_done (by kernel_rfl) ?_
    refine then_n ?_
    refine x_seq ?_
    refine wpIn_region_lit ?_
    refine x_op hk rfl ?_
    refine op_slice (o := o7) tab hk (vs := []) (cs := []) rfl rfl rfl rfl rfl rfl rfl rfl rfl 1 fun bx57 w54 o55 st56 f58 => ?_
    replace f44 := f44.st st56 (by decide)
    replace f51 := f51.st st56 (by decide)
    replace fg0 := fg0.st st56 (by decide)
    replace fg1 := fg1.st st56 (by decide)
    replace hs := hs.loc0 st56 (by decide)
    have f59 : Ft (Own (encInt .i32) 21 (.slice (some ⟨bx57, 0, none⟩) (([] : List Int)).length 0) ([] : List Int)) w54 o55 1 := f58.imp fun _ h_ => Own.of_box h_ rfl (by simp)
    have hk := hk.put 22 (.slice (some ⟨bx57, 0, none⟩) (([] : List Int)).length 0) rfl
    refine x_run tab hk (k := 1) (lv := []) (ks := [0, 1, 2, 22, 23]) (e' := [(0, .slice A42 ((List.drop 0 (List.take (Int.toNat (mnI ((p0).length : Int) 30)) p0))).length c43), (1, .slice A49 ((List.drop 0 (List.take (Int.toNat (mnI ((p1).length : Int) 30)) p1))).length c50), (2, .int .i64 p2), (22, .slice (some ⟨bx57, 0, none⟩) (([] : List Int)).length 0), (23, .slice A42 ((List.drop 0 (List.take (Int.toNat (mnI ((p0).length : Int) 30)) p0))).length c43)]) rfl trivial fun a hk => ?_
    refine x_op hk rfl ?_
    obtain ⟨q63, H⟩ := ifS H
    refine op_append (o := o55) (E := (encInt .i32)) (xs := ([] : List Int)) (ys := (List.drop 0 (List.take (Int.toNat (mnI ((p0).length : Int) 30)) p0))) tab hk rfl rfl rfl rfl rfl rfl rfl f59 f44.now q63 fun A64 c65 w60 o61 st62 f66 hc67 => ?_
    replace f44 := f44.st st62 (by decide)
    replace f51 := f51.st st62 (by decide)
    replace fg0 := fg0.st st62 (by decide)
    replace fg1 := fg1.st st62 (by decide)
    replace hs := hs.loc0 st62 (by decide)
    have hk := hk.put 24 (.slice A64 ((([] : List Int) ++ (List.drop 0 (List.take (Int.toNat (mnI ((p0).length : Int) 30)) p0)))).length c65) rfl
    refine x_run tab hk (k := 1) (lv := []) (ks := [0, 1, 2, 24, 25]) (e' := [(0, .slice A42 ((List.drop 0 (List.take (Int.toNat (mnI ((p0).length : Int) 30)) p0))).length c43), (1, .slice A49 ((List.drop 0 (List.take (Int.toNat (mnI ((p1).length : Int) 30)) p1))).length c50), (2, .int .i64 p2), (24, .slice A64 ((([] : List Int) ++ (List.drop 0 (List.take (Int.toNat (mnI ((p0).length : Int) 30)) p0)))).length c65), (25, .slice A49 ((List.drop 0 (List.take (Int.toNat (mnI ((p1).length : Int) 30)) p1))).length c50)]) rfl trivial fun a hk => ?_
    refine x_op hk rfl ?_
    obtain ⟨q71, H⟩ := ifS H
    refine op_append (o := o61) (E := (encInt .i32)) (xs := (([] : List Int) ++ (List.drop 0 (List.take (Int.toNat (mnI ((p0).length : Int) 30)) p0)))) (ys := (List.drop 0 (List.take (Int.toNat (mnI ((p1).length : Int) 30)) p1))) tab hk rfl rfl rfl rfl rfl rfl rfl f66 f51.now q71 fun A72 c73 w68 o69 st70 f74 hc75 => ?_
    replace f44 := f44.st st70 (by decide)
    replace f51 := f51.st st70 (by decide)
    replace fg0 := fg0.st st70 (by decide)
    replace fg1 := fg1.st st70 (by decide)
    replace hs := hs.loc0 st70 (by decide)
    have hk := hk.put 26 (.slice A72 (((([] : List Int) ++ (List.drop 0 (List.take (Int.toNat (mnI ((p0).length : Int) 30)) p0))) ++ (List.drop 0 (List.take (Int.toNat (mnI ((p1).length : Int) 30)) p1)))).length c73) rfl
    refine x_run tab hk (k := 1) (lv := []) (ks := [0, 1, 2, 7]) (e' := [(0, .slice A42 ((List.drop 0 (List.take (Int.toNat (mnI ((p0).length : Int) 30)) p0))).length c43), (1, .slice A49 ((List.drop 0 (List.take (Int.toNat (mnI ((p1).length : Int) 30)) p1))).length c50), (2, .int .i64 p2), (7, .slice A72 (((([] : List Int) ++ (List.drop 0 (List.take (Int.toNat (mnI ((p0).length : Int) 30)) p0))) ++ (List.drop 0 (List.take (Int.toNat (mnI ((p1).length : Int) 30)) p1)))).length c73)]) rfl trivial fun a hk => ?_
    refine wpListIn_nil ?_
    refine then_n ?_
    refine x_seq ?_
    refine wpIn_region_lit ?_
    refine x_run tab hk (k := 3) (lv := []) (ks := [0, 1, 2, 7]) (e' := [(0, .slice A42 ((List.drop 0 (List.take (Int.toNat (mnI ((p0).length : Int) 30)) p0))).length c43), (1, .slice A49 ((List.drop 0 (List.take (Int.toNat (mnI ((p1).length : Int) 30)) p1))).length c50), (2, .int .i64 (bits .and .i64 p2 63)), (7, .slice A72 (((([] : List Int) ++ (List.drop 0 (List.take (Int.toNat (mnI ((p0).length : Int) 30)) p0))) ++ (List.drop 0 (List.take (Int.toNat (mnI ((p1).length : Int) 30)) p1)))).length c73)]) rfl trivial fun a hk => ?_
    refine wpListIn_nil ?_
    refine then_n ?_
    refine x_seq ?_
    refine wpIn_region_lit ?_
    refine x_run tab hk (k := 2) (lv := []) (ks := [0, 1, 2, 7, 29, 30]) (e' := [(0, .slice A42 ((List.drop 0 (List.take (Int.toNat (mnI ((p0).length : Int) 30)) p0))).length c43), (1, .slice A49 ((List.drop 0 (List.take (Int.toNat (mnI ((p1).length : Int) 30)) p1))).length c50), (2, .int .i64 (bits .and .i64 p2 63)), (7, .slice A72 (((([] : List Int) ++ (List.drop 0 (List.take (Int.toNat (mnI ((p0).length : Int) 30)) p0))) ++ (List.drop 0 (List.take (Int.toNat (mnI ((p1).length : Int) 30)) p1)))).length c73), (29, .int .i64 (bits .and .i64 p2 63)), (30, .slice A72 (((([] : List Int) ++ (List.drop 0 (List.take (Int.toNat (mnI ((p0).length : Int) 30)) p0))) ++ (List.drop 0 (List.take (Int.toNat (mnI ((p1).length : Int) 30)) p1)))).length c73)]) rfl trivial fun a hk => ?_
    refine x_op hk rfl ?_
    obtain ⟨t79, hc80, H⟩ := bindS H
    refine op_call hk ent_9 (vs := [.int .i64 (bits .and .i64 p2 63), .slice A72 (((([] : List Int) ++ (List.drop 0 (List.take (Int.toNat (mnI ((p0).length : Int) 30)) p0))) ++ (List.drop 0 (List.take (Int.toNat (mnI ((p1).length : Int) 30)) p1)))).length c73]) rfl (wide_Fit_calls K (bits .and .i64 p2 63) A72 c73 ((([] : List Int) ++ (List.drop 0 (List.take (Int.toNat (mnI ((p0).length : Int) 30)) p0))) ++ (List.drop 0 (List.take (Int.toNat (mnI ((p1).length : Int) 30)) p1))) _ o69 0 fg0 0 fg1 _ (f74.imp fun _ h_ => Own.rd h_) hc75   _ hc80) ?_
    rintro _ w81 ⟨o82, rfl, st83⟩
    replace f44 := f44.st st83 (by decide)
    replace f51 := f51.st st83 (by decide)
    replace f74 := f74.st st83 (by decide)
    replace fg0 := fg0.st st83 (by decide)
    replace fg1 := fg1.st st83 (by decide)
    replace hs := hs.loc0 st83 (by decide)
    have hk := hk.put 31 (.int .i64 t79) rfl
    refine x_run tab hk (k := 3) (lv := []) (ks := [0, 1, 2, 7, 31, 33, 34]) (e' := [(0, .slice A42 ((List.drop 0 (List.take (Int.toNat (mnI ((p0).length : Int) 30)) p0))).length c43), (1, .slice A49 ((List.drop 0 (List.take (Int.toNat (mnI ((p1).length : Int) 30)) p1))).length c50), (2, .int .i64 (bits .and .i64 p2 63)), (7, .slice A72 (((([] : List Int) ++ (List.drop 0 (List.take (Int.toNat (mnI ((p0).length : Int) 30)) p0))) ++ (List.drop 0 (List.take (Int.toNat (mnI ((p1).length : Int) 30)) p1)))).length c73), (31, .int .i64 t79), (33, .int .i64 (IntKind.wrap .i64 ((bits .and .i64 p2 63) + 1))), (34, .slice A72 (((([] : List Int) ++ (List.drop 0 (List.take (Int.toNat (mnI ((p0).length : Int) 30)) p0))) ++ (List.drop 0 (List.take (Int.toNat (mnI ((p1).length : Int) 30)) p1)))).length c73)]) rfl trivial fun a hk => ?_
    refine x_op hk rfl ?_
    obtain ⟨t87, hc88, H⟩ := bindS H
    refine op_call hk ent_9 (vs := [.int .i64 (IntKind.wrap .i64 ((bits .and .i64 p2 63) + 1)), .slice A72 (((([] : List Int) ++ (List.drop 0 (List.take (Int.toNat (mnI ((p0).length : Int) 30)) p0))) ++ (List.drop 0 (List.take (Int.toNat (mnI ((p1).length : Int) 30)) p1)))).length c73]) rfl (wide_Fit_calls K (IntKind.wrap .i64 ((bits .and .i64 p2 63) + 1)) A72 c73 ((([] : List Int) ++ (List.drop 0 (List.take (Int.toNat (mnI ((p0).length : Int) 30)) p0))) ++ (List.drop 0 (List.take (Int.toNat (mnI ((p1).length : Int) 30)) p1))) _ o82 0 fg0 0 fg1 _ (f74.imp fun _ h_ => Own.rd h_) hc75   _ hc88) ?_
    rintro _ w89 ⟨o90, rfl, st91⟩
    replace f44 := f44.st st91 (by decide)
    replace f51 := f51.st st91 (by decide)
    replace f74 := f74.st st91 (by decide)
    replace fg0 := fg0.st st91 (by decide)
    replace fg1 := fg1.st st91 (by decide)
    replace hs := hs.loc0 st91 (by decide)
    have hk := hk.put 35 (.int .i64 t87) rfl
    refine x_run tab hk (k := 2) (lv := []) (ks := [0, 1, 2, 7, 8, 9]) (e' := [(0, .slice A42 ((List.drop 0 (List.take (Int.toNat (mnI ((p0).length : Int) 30)) p0))).length c43), (1, .slice A49 ((List.drop 0 (List.take (Int.toNat (mnI ((p1).length : Int) 30)) p1))).length c50), (2, .int .i64 (bits .and .i64 p2 63)), (7, .slice A72 (((([] : List Int) ++ (List.drop 0 (List.take (Int.toNat (mnI ((p0).length : Int) 30)) p0))) ++ (List.drop 0 (List.take (Int.toNat (mnI ((p1).length : Int) 30)) p1)))).length c73), (8, .int .i64 t79), (9, .int .i64 t87)]) rfl trivial fun a hk => ?_
    refine wpListIn_nil ?_
    refine then_n ?_
    refine x_seq ?_
    refine wpIn_region_lit ?_
    refine x_run tab hk (k := 1) (lv := []) (ks := [0, 1, 2, 7, 8, 9, 36]) (e' := [(0, .slice A42 ((List.drop 0 (List.take (Int.toNat (mnI ((p0).length : Int) 30)) p0))).length c43), (1, .slice A49 ((List.drop 0 (List.take (Int.toNat (mnI ((p1).length : Int) 30)) p1))).length c50), (2, .int .i64 (bits .and .i64 p2 63)), (7, .slice A72 (((([] : List Int) ++ (List.drop 0 (List.take (Int.toNat (mnI ((p0).length : Int) 30)) p0))) ++ (List.drop 0 (List.take (Int.toNat (mnI ((p1).length : Int) 30)) p1)))).length c73), (8, .int .i64 t79), (9, .int .i64 t87), (36, .slice A72 (((([] : List Int) ++ (List.drop 0 (List.take (Int.toNat (mnI ((p0).length : Int) 30)) p0))) ++ (List.drop 0 (List.take (Int.toNat (mnI ((p1).length : Int) 30)) p1)))).length c73)]) rfl trivial fun a hk => ?_
    refine x_op hk rfl ?_
    obtain ⟨t95, hc96, H⟩ := bindS H
    refine op_call hk ent_10 (vs := [.slice A72 (((([] : List Int) ++ (List.drop 0 (List.take (Int.toNat (mnI ((p0).length : Int) 30)) p0))) ++ (List.drop 0 (List.take (Int.toNat (mnI ((p1).length : Int) 30)) p1)))).length c73]) rfl (wide_Sum_calls K A72 c73 ((([] : List Int) ++ (List.drop 0 (List.take (Int.toNat (mnI ((p0).length : Int) 30)) p0))) ++ (List.drop 0 (List.take (Int.toNat (mnI ((p1).length : Int) 30)) p1))) _ o90 0 fg0 0 fg1 _ (f74.imp fun _ h_ => Own.rd h_) hc75   _ hc96) ?_
    rintro _ w97 ⟨o98, rfl, st99⟩
    replace f44 := f44.st st99 (by decide)
    replace f51 := f51.st st99 (by decide)
    replace f74 := f74.st st99 (by decide)
    replace fg0 := fg0.st st99 (by decide)
    replace fg1 := fg1.st st99 (by decide)
    replace hs := hs.loc0 st99 (by decide)
    have hk := hk.put 37 (.int .i64 t95) rfl
    refine x_run tab hk (k := 1) (lv := []) (ks := [1, 2, 7, 8, 9, 37, 38]) (e' := [(1, .slice A49 ((List.drop 0 (List.take (Int.toNat (mnI ((p1).length : Int) 30)) p1))).length c50), (2, .int .i64 (bits .and .i64 p2 63)), (7, .slice A72 (((([] : List Int) ++ (List.drop 0 (List.take (Int.toNat (mnI ((p0).length : Int) 30)) p0))) ++ (List.drop 0 (List.take (Int.toNat (mnI ((p1).length : Int) 30)) p1)))).length c73), (8, .int .i64 t79), (9, .int .i64 t87), (37, .int .i64 t95), (38, .slice A42 ((List.drop 0 (List.take (Int.toNat (mnI ((p0).length : Int) 30)) p0))).length c43)]) rfl trivial fun a hk => ?_
    refine x_op hk rfl ?_
    obtain ⟨t103, hc104, H⟩ := bindS H
    refine op_call hk ent_10 (vs := [.slice A42 ((List.drop 0 (List.take (Int.toNat (mnI ((p0).length : Int) 30)) p0))).length c43]) rfl (wide_Sum_calls K A42 c43 (List.drop 0 (List.take (Int.toNat (mnI ((p0).length : Int) 30)) p0)) _ o98 0 fg0 0 fg1 _ f44 hc46   _ hc104) ?_
    rintro _ w105 ⟨o106, rfl, st107⟩
    replace f44 := f44.st st107 (by decide)
    replace f51 := f51.st st107 (by decide)
    replace f74 := f74.st st107 (by decide)
    replace fg0 := fg0.st st107 (by decide)
    replace fg1 := fg1.st st107 (by decide)
    replace hs := hs.loc0 st107 (by decide)
    have hk := hk.put 39 (.int .i64 t103) rfl
    refine x_run tab hk (k := 1) (lv := []) (ks := [2, 7, 8, 9, 37, 39, 40]) (e' := [(2, .int .i64 (bits .and .i64 p2 63)), (7, .slice A72 (((([] : List Int) ++ (List.drop 0 (List.take (Int.toNat (mnI ((p0).length : Int) 30)) p0))) ++ (List.drop 0 (List.take (Int.toNat (mnI ((p1).length : Int) 30)) p1)))).length c73), (8, .int .i64 t79), (9, .int .i64 t87), (37, .int .i64 t95), (39, .int .i64 t103), (40, .slice A49 ((List.drop 0 (List.take (Int.toNat (mnI ((p1).length : Int) 30)) p1))).length c50)]) rfl trivial fun a hk => ?_
    refine x_op hk rfl ?_
    obtain ⟨t111, hc112, H⟩ := bindS H
    refine op_call hk ent_10 (vs := [.slice A49 ((List.drop 0 (List.take (Int.toNat (mnI ((p1).length : Int) 30)) p1))).length c50]) rfl (wide_Sum_calls K A49 c50 (List.drop 0 (List.take (Int.toNat (mnI ((p1).length : Int) 30)) p1)) _ o106 0 fg0 0 fg1 _ f51 hc53   _ hc112) ?_
    rintro _ w113 ⟨o114, rfl, st115⟩
    replace f51 := f51.st st115 (by decide)
    replace f74 := f74.st st115 (by decide)
    replace fg0 := fg0.st st115 (by decide)
    replace fg1 := fg1.st st115 (by decide)
    replace hs := hs.loc0 st115 (by decide)
    have hk := hk.put 41 (.int .i64 t111) rfl
    refine x_run tab hk (k := 3) (lv := []) (ks := [2, 7, 8, 9, 44]) (e' := [(2, .int .i64 (bits .and .i64 p2 63)), (7, .slice A72 (((([] : List Int) ++ (List.drop 0 (List.take (Int.toNat (mnI ((p0).length : Int) 30)) p0))) ++ (List.drop 0 (List.take (Int.toNat (mnI ((p1).length : Int) 30)) p1)))).length c73), (8, .int .i64 t79), (9, .int .i64 t87), (44, .bool (t95 == (IntKind.wrap .i64 (t103 + t111))))]) rfl trivial fun a hk => ?_
    cases b116 : (t95 == (IntKind.wrap .i64 (t103 + t111)))
    · rw [b116] at hk H
      replace H := bifF H
      refine x_run tab hk (k := 14) (lv := []) (ks := [49, 58]) (e' := [(49, .bool false), (58, undef)]) rfl trivial fun a hk => ?_
      refine x_run tab hk (k := 2) (lv := []) (ks := [6]) (e' := [(6, .bool false)]) rfl trivial fun a hk => ?_
      refine wpListIn_nil ?_
      refine then_n ?_
      refine wpIn_ret ?_
      obtain rfl := Option.some.inj H
      exact x_retG hk (rs := [.tmp 6]) (vs := [.bool false]) rfl ⟨rfl, trivial⟩ ⟨fun b_ => if b_ < w.heap.size then o b_ else (fun _ => 0) (o114 b_), rfl, hs.close0 o (fun _ => 0)⟩
    · rw [b116] at hk H
      replace H := bifT H
      refine x_run tab hk (k := 5) (lv := []) (ks := [2, 7, 8, 49]) (e' := [(2, .int .i64 (bits .and .i64 p2 63)), (7, .slice A72 (((([] : List Int) ++ (List.drop 0 (List.take (Int.toNat (mnI ((p0).length : Int) 30)) p0))) ++ (List.drop 0 (List.take (Int.toNat (mnI ((p1).length : Int) 30)) p1)))).length c73), (8, .int .i64 t79), (49, .bool (decide (t79 ≤ t87)))]) rfl trivial fun a hk => ?_
      cases b117 : (decide (t79 ≤ t87))
      · rw [b117] at hk H
        replace H := bifF H
        refine x_run tab hk (k := 10) (lv := []) (ks := [59]) (e' := [(59, .bool false)]) rfl trivial fun a hk => ?_
        refine x_run tab hk (k := 1) (lv := []) (ks := [6]) (e' := [(6, .bool false)]) rfl trivial fun a hk => ?_
        refine wpListIn_nil ?_
        refine then_n ?_
        refine wpIn_ret ?_
        obtain rfl := Option.some.inj H
        exact x_retG hk (rs := [.tmp 6]) (vs := [.bool false]) rfl ⟨rfl, trivial⟩ ⟨fun b_ => if b_ < w.heap.size then o b_ else (fun _ => 0) (o114 b_), rfl, hs.close0 o (fun _ => 0)⟩
      · rw [b117] at hk H
        replace H := bifT H
        refine x_run tab hk (k := 1) (lv := []) (ks := [2, 7, 8, 49, 50]) (e' := [(2, .int .i64 (bits .and .i64 p2 63)), (7, .slice A72 (((([] : List Int) ++ (List.drop 0 (List.take (Int.toNat (mnI ((p0).length : Int) 30)) p0))) ++ (List.drop 0 (List.take (Int.toNat (mnI ((p1).length : Int) 30)) p1)))).length c73), (8, .int .i64 t79), (49, .bool true), (50, .slice A72 (((([] : List Int) ++ (List.drop 0 (List.take (Int.toNat (mnI ((p0).length : Int) 30)) p0))) ++ (List.drop 0 (List.take (Int.toNat (mnI ((p1).length : Int) 30)) p1)))).length c73)]) rfl trivial fun a hk => ?_
        refine x_op hk rfl ?_
        obtain ⟨t121, hc122, H⟩ := bindS H
        refine op_call hk ent_10 (vs := [.slice A72 (((([] : List Int) ++ (List.drop 0 (List.take (Int.toNat (mnI ((p0).length : Int) 30)) p0))) ++ (List.drop 0 (List.take (Int.toNat (mnI ((p1).length : Int) 30)) p1)))).length c73]) rfl (wide_Sum_calls K A72 c73 ((([] : List Int) ++ (List.drop 0 (List.take (Int.toNat (mnI ((p0).length : Int) 30)) p0))) ++ (List.drop 0 (List.take (Int.toNat (mnI ((p1).length : Int) 30)) p1))) _ o114 0 fg0 0 fg1 _ (f74.imp fun _ h_ => Own.rd h_) hc75   _ hc122) ?_
        rintro _ w123 ⟨o124, rfl, st125⟩
        replace f74 := f74.st st125 (by decide)
        replace fg0 := fg0.st st125 (by decide)
        replace fg1 := fg1.st st125 (by decide)
        replace hs := hs.loc0 st125 (by decide)
        have hk := hk.put 51 (.int .i64 t121) rfl
        refine x_run tab hk (k := 9) (lv := []) (ks := [6]) (e' := [(6, .bool ((decide (t121 > (bits .and .i64 p2 63))) == (decide (t79 < ((((([] : List Int) ++ (List.drop 0 (List.take (Int.toNat (mnI ((p0).length : Int) 30)) p0))) ++ (List.drop 0 (List.take (Int.toNat (mnI ((p1).length : Int) 30)) p1)))).length : Int)))))]) rfl trivial fun a hk => ?_
        refine wpListIn_nil ?_
        refine then_n ?_
        refine wpIn_ret ?_
        obtain rfl := Option.some.inj H
        exact x_retG hk (rs := [.tmp 6]) (vs := [.bool ((decide (t121 > (bits .and .i64 p2 63))) == (decide (t79 < ((((([] : List Int) ++ (List.drop 0 (List.take (Int.toNat (mnI ((p0).length : Int) 30)) p0))) ++ (List.drop 0 (List.take (Int.toNat (mnI ((p1).length : Int) 30)) p1)))).length : Int))))]) rfl ⟨rfl, trivial⟩ ⟨fun b_ => if b_ < w.heap.size then o b_ else (fun _ => 0) (o124 b_), rfl, hs.close0 o (fun _ => 0)⟩
  · rw [b9] at hk H
    replace H := bifT H
    refine x_if hk (b := true) rfl ?_
    refine (show Code.wpIn _ _ _ _ _ _ _ from ?_)
    refine x_seq ?_
    refine wpIn_region_lit ?_
    refine x_run tab hk (k := 1) (lv := []) (ks := [6]) (e' := [(6, .bool false)]) rfl trivial fun a hk => ?_
    refine wpListIn_nil ?_
    refine then_n ?_
    refine wpIn_ret ?_
    refine then_r ?_
    obtain rfl := Option.some.inj H
    exact x_retG hk (rs := [.tmp 6]) (vs := [.bool false]) rfl ⟨rfl, trivial⟩ ⟨fun b_ => if b_ < w.heap.size then o b_ else (fun _ => 0) (o7 b_), rfl, hs.close0 o (fun _ => 0)⟩

end Go.Proofs.YtbmkbpdgmbdoeaaDoor
