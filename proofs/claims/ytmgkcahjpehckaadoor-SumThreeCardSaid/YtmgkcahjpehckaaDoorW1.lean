/- Walks, printed by an own program: the machine's calls compute the plain functions. -/
import Derived.Test.YtmgkcahjpehckaaDoorW0
set_option linter.unusedVariables false
set_option linter.unusedSimpArgs false
namespace Go.Proofs.YtmgkcahjpehckaaDoor
open Go Go.Proofs.XC
/-! tidewrack/sum.step -/
theorem sum_step_calls (p0 : Int) (p1 : Int) (w : World) (o : Nat → Nat) (Lg0 : Nat) (hg0 : Ft (RdC (encInt .u32) (some ⟨0, 0, none⟩) glob0) w o Lg0)   (r : Int) (H : sum_step p0 p1 = some r) :
    Calls Tryd.prog 18 #[.int .u32 p0, .int .u8 p1] w (Ret fun v_ w' => ∃ o' : Nat → Nat, v_ = .int .u32 r ∧ St [] w o w' o') := by
  refine x_enter (vs := [.int .u32 p0, .int .u8 p1]) Tryd.func18 rfl rfl rfl fun a hk => ?_
  obtain ⟨o0, hs, h0⟩ := St.start w o
  have fg0 := h0 _ _ hg0
  clear h0
  rw [sum_step] at H
  refine x_seq ?_
  refine wp_region_lit ?_
  refine x_run tab hk (k := 1) (lv := []) (ks := [0, 1]) (e' := [(0, .int .u32 p0), (1, .int .u8 p1)]) rfl trivial fun a hk => ?_
  refine wpList_nil ?_
  refine then_n ?_
  refine x_seq ?_
  refine wp_region_lit ?_
  refine x_run tab hk (k := 5) (lv := []) (ks := [0]) (e' := [(0, .int .u32 (bits .xor .u32 p0 (IntKind.wrap .u32 p1)))]) rfl trivial fun a hk => ?_
  refine wpList_nil ?_
  refine then_n ?_
  refine x_seq ?_
  refine wp_region_lit ?_
  obtain ⟨q1, H⟩ := ifS H
  refine x_run tab hk (k := 8) (lv := [.int .u32 (rdD 0 glob0 (bits .and .u32 (bits .xor .u32 p0 (IntKind.wrap .u32 p1)) 15))]) (ks := [0]) (e' := [(0, .int .u32 (bits .xor .u32 (Int.fdiv (bits .xor .u32 p0 (IntKind.wrap .u32 p1)) (2 ^ min (Int.toNat 4) 32)) (rdD 0 glob0 (bits .and .u32 (bits .xor .u32 p0 (IntKind.wrap .u32 p1)) 15))))]) rfl ⟨(show 0 ≤ (4 : Int) from by decide), q1, (load1 tab rfl (RdC.at0 (E := (encInt .u32)) (d := 0) (i := (bits .and .u32 (bits .xor .u32 p0 (IntKind.wrap .u32 p1)) 15)) fg0.now q1 rfl)), trivial⟩ fun a hk => ?_
  refine wpList_nil ?_
  refine then_n ?_
  refine x_seq ?_
  refine wp_region_lit ?_
  obtain ⟨q2, H⟩ := ifS H
  refine x_run tab hk (k := 8) (lv := [.int .u32 (rdD 0 glob0 (bits .and .u32 (bits .xor .u32 (Int.fdiv (bits .xor .u32 p0 (IntKind.wrap .u32 p1)) (2 ^ min (Int.toNat 4) 32)) (rdD 0 glob0 (bits .and .u32 (bits .xor .u32 p0 (IntKind.wrap .u32 p1)) 15))) 15))]) (ks := [4]) (e' := [(4, .int .u32 (bits .xor .u32 (Int.fdiv (bits .xor .u32 (Int.fdiv (bits .xor .u32 p0 (IntKind.wrap .u32 p1)) (2 ^ min (Int.toNat 4) 32)) (rdD 0 glob0 (bits .and .u32 (bits .xor .u32 p0 (IntKind.wrap .u32 p1)) 15))) (2 ^ min (Int.toNat 4) 32)) (rdD 0 glob0 (bits .and .u32 (bits .xor .u32 (Int.fdiv (bits .xor .u32 p0 (IntKind.wrap .u32 p1)) (2 ^ min (Int.toNat 4) 32)) (rdD 0 glob0 (bits .and .u32 (bits .xor .u32 p0 (IntKind.wrap .u32 p1)) 15))) 15))))]) rfl ⟨(show 0 ≤ (4 : Int) from by decide), q2, (load1 tab rfl (RdC.at0 (E := (encInt .u32)) (d := 0) (i := (bits .and .u32 (bits .xor .u32 (Int.fdiv (bits .xor .u32 p0 (IntKind.wrap .u32 p1)) (2 ^ min (Int.toNat 4) 32)) (rdD 0 glob0 (bits .and .u32 (bits .xor .u32 p0 (IntKind.wrap .u32 p1)) 15))) 15)) fg0.now q2 rfl)), trivial⟩ fun a hk => ?_
  refine wpList_nil ?_
  refine then_n ?_
  refine wp_ret ?_
  obtain rfl := Option.some.inj H
  exact x_retG hk (rs := [.tmp 4]) (vs := [.int .u32 (bits .xor .u32 (Int.fdiv (bits .xor .u32 (Int.fdiv (bits .xor .u32 p0 (IntKind.wrap .u32 p1)) (2 ^ min (Int.toNat 4) 32)) (rdD 0 glob0 (bits .and .u32 (bits .xor .u32 p0 (IntKind.wrap .u32 p1)) 15))) (2 ^ min (Int.toNat 4) 32)) (rdD 0 glob0 (bits .and .u32 (bits .xor .u32 (Int.fdiv (bits .xor .u32 p0 (IntKind.wrap .u32 p1)) (2 ^ min (Int.toNat 4) 32)) (rdD 0 glob0 (bits .and .u32 (bits .xor .u32 p0 (IntKind.wrap .u32 p1)) 15))) 15)))]) rfl ⟨rfl, trivial⟩ ⟨fun b_ => if b_ < w.heap.size then o b_ else (fun _ => 0) (o0 b_), rfl, hs.close0 o (fun _ => 0)⟩

/-! tidewrack/sum.Of -/
theorem sum_Of_calls (K : Nat) (Ap0 : Option Addr) (cp0 : Nat) (p0 : List ByteArray) (w : World) (o : Nat → Nat) (Lg0 : Nat) (hg0 : Ft (RdC (encInt .u32) (some ⟨0, 0, none⟩) glob0) w o Lg0) (Lp0 : Nat) (hp0 : Ft (RdC encStr Ap0 p0) w o Lp0) (hcp0 : (p0).length ≤ cp0)  (r : Int) (H : sum_Of K p0 = some r) :
    Calls Tryd.prog 8 #[.slice Ap0 (p0).length cp0] w (Ret fun v_ w' => ∃ o' : Nat → Nat, v_ = .int .u32 r ∧ St [] w o w' o') := by
  refine x_enter (vs := [.slice Ap0 (p0).length cp0]) Tryd.func8 rfl rfl rfl fun a hk => ?_
  obtain ⟨o0, hs, h0⟩ := St.start w o
  have fg0 := h0 _ _ hg0
  have f900 := h0 _ _ hp0
  clear h0
  rw [sum_Of] at H
  refine x_seq ?_
  refine wp_region_lit ?_
  refine x_run tab hk (k := 1) (lv := []) (ks := [0]) (e' := [(0, .slice Ap0 (p0).length cp0)]) rfl trivial fun a hk => ?_
  refine wpList_nil ?_
  refine then_n ?_
  refine x_seq ?_
  refine wp_region_lit ?_
  refine x_run tab hk (k := 1) (lv := []) (ks := [0, 3]) (e' := [(0, .slice Ap0 (p0).length cp0), (3, .int .u32 4294967295)]) rfl trivial fun a hk => ?_
  refine wpList_nil ?_
  refine then_n ?_
  refine x_mid (fun a_ w_ => ∃ o327 : Nat → Nat, ∃ x328 : Int, Kn 27 a_ [(3, .int .u32 x328)] ∧ St [] w (fun _ => 0) w_ o327 ∧ Ft (RdC (encInt .u32) (some ⟨0, 0, none⟩) glob0) w_ o327 0 ∧ sum_Of_j1 x328 = some r) ?_ ?_
  rotate_left
  · rintro a w329 ⟨o327, x328, hk, hs, fg0, H⟩
    rw [sum_Of_j1] at H
    refine x_seq ?_
    refine wp_region_lit ?_
    refine x_run tab hk (k := 3) (lv := []) (ks := [2]) (e' := [(2, .int .u32 (bits .xor .u32 4294967295 x328))]) rfl trivial fun a hk => ?_
    refine wpList_nil ?_
    refine then_n ?_
    refine wp_ret ?_
    obtain rfl := Option.some.inj H
    exact x_retG hk (rs := [.tmp 2]) (vs := [.int .u32 (bits .xor .u32 4294967295 x328)]) rfl ⟨rfl, trivial⟩ ⟨fun b_ => if b_ < w.heap.size then o b_ else (fun _ => 0) (o327 b_), rfl, hs.close0 o (fun _ => 0)⟩
  refine x_seq ?_
  refine wp_region_lit ?_
  refine x_run tab hk (k := 3) (lv := []) (ks := [3, 7, 8, 9]) (e' := [(3, .int .u32 4294967295), (7, .slice Ap0 (p0).length cp0), (8, .int .i64 ((p0).length : Int)), (9, .int .i64 0)]) rfl trivial fun a hk => ?_
  refine wpList_nil ?_
  refine then_n ?_
  refine wp_block ?_
  refine x_loop (fun j_ a_ w_ => ∃ o435 : Nat → Nat, ∃ x436 : Int, ∃ A437 : Option Addr, ∃ c438 : Nat, ∃ x441 : Int, Kn 27 a_ [(3, .int .u32 x436), (7, .slice A437 (p0).length c438), (8, .int .i64 ((p0).length : Int)), (9, .int .i64 x441)] ∧ St [] w (fun _ => 0) w_ o435 ∧ Ft (RdC encStr A437 p0) w_ o435 0 ∧ Ft (RdC (encInt .u32) (some ⟨0, 0, none⟩) glob0) w_ o435 0 ∧ (p0).length ≤ c438 ∧ sum_Of_l2 K p0 j_ x436 x441 = some r) (k := K) ⟨o0, 4294967295, Ap0, cp0, 0, (by exact Kn.pick (ks := [3, 7, 8, 9]) hk rfl), hs, f900, fg0, hcp0, H⟩ (by rintro _ _ ⟨_, _, _, _, _, _, _, _, _, _, H_⟩; exact absurd (show (none : Option Int) = some r from H_) (by simp)) ?_
  rintro k545 a w544 ⟨o435, x436, A437, c438, x441, hk, hs, f439, fg0, hc440, H⟩
  rw [sum_Of_l2] at H
  obtain ⟨lp546, hlp547⟩ : ∃ lp_, lp_ = sum_Of_l2 K p0 k545 := ⟨_, rfl⟩
  rw [← hlp547] at H
  refine x_seq ?_
  refine wp_region_lit ?_
  refine x_run tab hk (k := 1) (lv := []) (ks := [3, 7, 8, 9, 10]) (e' := [(3, .int .u32 x436), (7, .slice A437 (p0).length c438), (8, .int .i64 ((p0).length : Int)), (9, .int .i64 x441), (10, .bool (decide (x441 < ((p0).length : Int))))]) rfl trivial fun a hk => ?_
  refine wpList_nil ?_
  refine then_n ?_
  refine x_seq ?_
  cases b548 : (decide (x441 < ((p0).length : Int)))
  · rw [b548] at hk H
    replace H := bifF H
    refine x_if hk (b := false) rfl ?_
    refine (show Code.wp _ _ _ _ _ from ?_)
    refine wp_exit ?_
    refine then_x ?_
    refine then_x ?_
    refine blk_x ?_
    refine then_n ?_
    exact ⟨o435, x436, (by exact Kn.pick (ks := [3]) hk rfl), hs, fg0, H⟩
  · rw [b548] at hk H
    replace H := bifT H
    refine x_if hk (b := true) rfl ?_
    refine (show Code.wp _ _ _ _ _ from ?_)
    refine wp_skip ?_
    refine then_n ?_
    refine x_mid (fun a_ w_ => ∃ o601 : Nat → Nat, ∃ x602 : Int, ∃ A603 : Option Addr, ∃ c604 : Nat, Kn 27 a_ [(3, .int .u32 x602), (7, .slice A603 (p0).length c604), (8, .int .i64 ((p0).length : Int)), (9, .int .i64 x441)] ∧ St [] w (fun _ => 0) w_ o601 ∧ Ft (RdC encStr A603 p0) w_ o601 0 ∧ Ft (RdC (encInt .u32) (some ⟨0, 0, none⟩) glob0) w_ o601 0 ∧ (p0).length ≤ c604 ∧ sum_Of_j3 x441 lp546 x602 = some r) ?_ ?_
    rotate_left
    · rintro a w607 ⟨o601, x602, A603, c604, hk, hs, f605, fg0, hc606, H⟩
      rw [sum_Of_j3] at H
      refine wp_region_lit ?_
      refine x_run tab hk (k := 2) (lv := []) (ks := [3, 7, 8, 9]) (e' := [(3, .int .u32 x602), (7, .slice A603 (p0).length c604), (8, .int .i64 ((p0).length : Int)), (9, .int .i64 (IntKind.wrap .i64 (x441 + 1)))]) rfl trivial fun a hk => ?_
      refine wpList_nil ?_
      refine then_n ?_
      exact ⟨k545, Nat.le_refl _, o601, x602, A603, c604, (IntKind.wrap .i64 (x441 + 1)), (by exact Kn.pick (ks := [3, 7, 8, 9]) hk rfl), hs, f605, fg0, hc606, (hlp547 ▸ H)⟩
    refine wp_block ?_
    refine x_seq ?_
    refine wp_region_lit ?_
    obtain ⟨q608, H⟩ := ifS H
    obtain ⟨ad609, hAad609⟩ := RdC.addr f439.now q608
    subst hAad609
    refine x_run tab hk (k := 3) (lv := [.string (rdD (⟨#[]⟩ : ByteArray) p0 x441)]) (ks := [3, 5, 7, 8, 9]) (e' := [(3, .int .u32 x436), (5, .string (rdD (⟨#[]⟩ : ByteArray) p0 x441)), (7, .slice (some ad609) (p0).length c438), (8, .int .i64 ((p0).length : Int)), (9, .int .i64 x441)]) rfl ⟨q608, (load1 tab rfl (RdC.at0 (E := encStr) (d := (⟨#[]⟩ : ByteArray)) (i := x441) f439.now q608 rfl)), trivial⟩ fun a hk => ?_
    refine wpList_nil ?_
    refine then_n ?_
    refine x_seq ?_
    refine wp_region_lit ?_
    refine x_run tab hk (k := 3) (lv := []) (ks := [3, 5, 7, 8, 9, 14, 15]) (e' := [(3, .int .u32 x436), (5, .string (rdD (⟨#[]⟩ : ByteArray) p0 x441)), (7, .slice (some ad609) (p0).length c438), (8, .int .i64 ((p0).length : Int)), (9, .int .i64 x441), (14, .int .i64 (((rdD (⟨#[]⟩ : ByteArray) p0 x441)).size : Int)), (15, .int .i64 0)]) rfl trivial fun a hk => ?_
    refine wpList_nil ?_
    refine then_n ?_
    refine wp_block ?_
    refine x_loop (fun j_ a_ w_ => ∃ o623 : Nat → Nat, ∃ x624 : Int, ∃ x625 : Int, Kn 27 a_ [(3, .int .u32 x624), (5, .string (rdD (⟨#[]⟩ : ByteArray) p0 x441)), (7, .slice (some ad609) (p0).length c438), (8, .int .i64 ((p0).length : Int)), (9, .int .i64 x441), (14, .int .i64 (((rdD (⟨#[]⟩ : ByteArray) p0 x441)).size : Int)), (15, .int .i64 x625)] ∧ St [] w (fun _ => 0) w_ o623 ∧ Ft (RdC encStr (some ad609) p0) w_ o623 0 ∧ Ft (RdC (encInt .u32) (some ⟨0, 0, none⟩) glob0) w_ o623 0 ∧ sum_Of_l4 p0 x441 lp546 j_ x624 x625 = some r) (k := K) ⟨o435, x436, 0, (by exact Kn.pick (ks := [3, 5, 7, 8, 9, 14, 15]) hk rfl), hs, f439, fg0, H⟩ (by rintro _ _ ⟨_, _, _, _, _, _, _, H_⟩; exact absurd (show (none : Option Int) = some r from H_) (by simp)) ?_
    rintro k637 a w636 ⟨o623, x624, x625, hk, hs, f439, fg0, H⟩
    rw [sum_Of_l4] at H
    obtain ⟨lp638, hlp639⟩ : ∃ lp_, lp_ = sum_Of_l4 p0 x441 lp546 k637 := ⟨_, rfl⟩
    rw [← hlp639] at H
    refine x_seq ?_
    refine wp_region_lit ?_
    refine x_run tab hk (k := 1) (lv := []) (ks := [3, 5, 7, 8, 9, 14, 15, 16]) (e' := [(3, .int .u32 x624), (5, .string (rdD (⟨#[]⟩ : ByteArray) p0 x441)), (7, .slice (some ad609) (p0).length c438), (8, .int .i64 ((p0).length : Int)), (9, .int .i64 x441), (14, .int .i64 (((rdD (⟨#[]⟩ : ByteArray) p0 x441)).size : Int)), (15, .int .i64 x625), (16, .bool (decide (x625 < (((rdD (⟨#[]⟩ : ByteArray) p0 x441)).size : Int))))]) rfl trivial fun a hk => ?_
    refine wpList_nil ?_
    refine then_n ?_
    refine x_seq ?_
    cases b640 : (decide (x625 < (((rdD (⟨#[]⟩ : ByteArray) p0 x441)).size : Int)))
    · rw [b640] at hk H
      replace H := bifF H
      refine x_if hk (b := false) rfl ?_
      refine (show Code.wp _ _ _ _ _ from ?_)
      refine wp_exit ?_
      refine then_x ?_
      refine then_x ?_
      refine blk_x ?_
      refine blk_n ?_
      refine then_n ?_
      exact ⟨o623, x624, (some ad609), c438, (by exact Kn.pick (ks := [3, 7, 8, 9]) hk rfl), hs, f439, fg0, hc440, H⟩
    · rw [b640] at hk H
      replace H := bifT H
      refine x_if hk (b := true) rfl ?_
      refine (show Code.wp _ _ _ _ _ from ?_)
      refine wp_skip ?_
      refine then_n ?_
      refine x_seq ?_
      refine wp_block ?_
      refine x_seq ?_
      refine wp_region_lit ?_
      refine x_run tab hk (k := 2) (lv := []) (ks := [3, 5, 6, 7, 8, 9, 14, 15]) (e' := [(3, .int .u32 x624), (5, .string (rdD (⟨#[]⟩ : ByteArray) p0 x441)), (6, .int .i64 x625), (7, .slice (some ad609) (p0).length c438), (8, .int .i64 ((p0).length : Int)), (9, .int .i64 x441), (14, .int .i64 (((rdD (⟨#[]⟩ : ByteArray) p0 x441)).size : Int)), (15, .int .i64 x625)]) rfl trivial fun a hk => ?_
      refine wpList_nil ?_
      refine then_n ?_
      refine wp_region_lit ?_
      obtain ⟨q641, H⟩ := ifS H
      refine x_run tab hk (k := 4) (lv := []) (ks := [5, 7, 8, 9, 14, 15, 18, 21]) (e' := [(5, .string (rdD (⟨#[]⟩ : ByteArray) p0 x441)), (7, .slice (some ad609) (p0).length c438), (8, .int .i64 ((p0).length : Int)), (9, .int .i64 x441), (14, .int .i64 (((rdD (⟨#[]⟩ : ByteArray) p0 x441)).size : Int)), (15, .int .i64 x625), (18, .int .u32 x624), (21, .int .u8 (bt (rdD (⟨#[]⟩ : ByteArray) p0 x441) x625))]) rfl ⟨q641, trivial⟩ fun a hk => ?_
      refine x_op hk rfl ?_
      obtain ⟨t645, hc646, H⟩ := bindS H
      refine op_call hk ent_18 (vs := [.int .u32 x624, .int .u8 (bt (rdD (⟨#[]⟩ : ByteArray) p0 x441) x625)]) rfl (sum_step_calls x624 (bt (rdD (⟨#[]⟩ : ByteArray) p0 x441) x625) _ o623 0 fg0   _ hc646) ?_
      rintro _ w647 ⟨o648, rfl, st649⟩
      replace f439 := f439.st st649 (by decide)
      replace fg0 := fg0.st st649 (by decide)
      replace hs := hs.loc0 st649 (by decide)
      have hk := hk.put 22 (.int .u32 t645) rfl
      refine x_run tab hk (k := 1) (lv := []) (ks := [3, 5, 7, 8, 9, 14, 15]) (e' := [(3, .int .u32 t645), (5, .string (rdD (⟨#[]⟩ : ByteArray) p0 x441)), (7, .slice (some ad609) (p0).length c438), (8, .int .i64 ((p0).length : Int)), (9, .int .i64 x441), (14, .int .i64 (((rdD (⟨#[]⟩ : ByteArray) p0 x441)).size : Int)), (15, .int .i64 x625)]) rfl trivial fun a hk => ?_
      refine wpList_nil ?_
      refine blk_n ?_
      refine then_n ?_
      refine wp_region_lit ?_
      refine x_run tab hk (k := 2) (lv := []) (ks := [3, 5, 7, 8, 9, 14, 15]) (e' := [(3, .int .u32 t645), (5, .string (rdD (⟨#[]⟩ : ByteArray) p0 x441)), (7, .slice (some ad609) (p0).length c438), (8, .int .i64 ((p0).length : Int)), (9, .int .i64 x441), (14, .int .i64 (((rdD (⟨#[]⟩ : ByteArray) p0 x441)).size : Int)), (15, .int .i64 (IntKind.wrap .i64 (x625 + 1)))]) rfl trivial fun a hk => ?_
      refine wpList_nil ?_
      refine then_n ?_
      exact ⟨k637, Nat.le_refl _, o648, t645, (IntKind.wrap .i64 (x625 + 1)), (by exact Kn.pick (ks := [3, 5, 7, 8, 9, 14, 15]) hk rfl), hs, f439, fg0, (hlp639 ▸ H)⟩

/-! tidewrack/tidewracklaw02.awake -/
theorem tidewracklaw02_awake_calls (K : Nat)  (w : World) (o : Nat → Nat) (Lg0 : Nat) (hg0 : Ft (RdC (encInt .u32) (some ⟨0, 0, none⟩) glob0) w o Lg0)   (r : Bool) (H : tidewracklaw02_awake K = some r) :
    Calls Tryd.prog 7 #[] w (Ret fun v_ w' => ∃ o' : Nat → Nat, v_ = .bool r ∧ St [] w o w' o') := by
  refine x_enter (vs := []) Tryd.func7 rfl rfl rfl fun a hk => ?_
  obtain ⟨o0, hs, h0⟩ := St.start w o
  have fg0 := h0 _ _ hg0
  clear h0
  rw [tidewracklaw02_awake] at H
  refine x_seq ?_
  refine wp_region_lit ?_
  refine x_run tab hk (k := 1) (lv := []) (ks := []) (e' := []) rfl trivial fun a hk => ?_
  refine wpList_nil ?_
  refine then_n ?_
  refine x_seq ?_
  refine wp_region_lit ?_
  refine x_op hk rfl ?_
  refine op_slice (o := o0) tab hk (vs := [.string (⟨#[49, 50, 51, 52, 53, 54, 55, 56, 57]⟩ : ByteArray)]) (cs := [.string (⟨#[49, 50, 51, 52, 53, 54, 55, 56, 57]⟩ : ByteArray)]) rfl rfl rfl rfl rfl rfl rfl rfl rfl 1 fun bx4 w1 o2 st3 f5 => ?_
  replace fg0 := fg0.st st3 (by decide)
  replace hs := hs.loc0 st3 (by decide)
  have f6 : Ft (Own encStr 9 (.slice (some ⟨bx4, 0, none⟩) (([(⟨#[49, 50, 51, 52, 53, 54, 55, 56, 57]⟩ : ByteArray)] : List ByteArray)).length 1) ([(⟨#[49, 50, 51, 52, 53, 54, 55, 56, 57]⟩ : ByteArray)] : List ByteArray)) w1 o2 1 := f5.imp fun _ h_ => Own.of_box h_ rfl (by simp)
  have hk := hk.put 1 (.slice (some ⟨bx4, 0, none⟩) (([(⟨#[49, 50, 51, 52, 53, 54, 55, 56, 57]⟩ : ByteArray)] : List ByteArray)).length 1) rfl
  refine x_op hk rfl ?_
  obtain ⟨t10, hc11, H⟩ := bindS H
  refine op_call hk ent_8 (vs := [.slice (some ⟨bx4, 0, none⟩) (([(⟨#[49, 50, 51, 52, 53, 54, 55, 56, 57]⟩ : ByteArray)] : List ByteArray)).length 1]) rfl (sum_Of_calls K (some ⟨bx4, 0, none⟩) 1 ([(⟨#[49, 50, 51, 52, 53, 54, 55, 56, 57]⟩ : ByteArray)] : List ByteArray) _ o2 0 fg0 _ (f6.imp fun _ h_ => Own.rd h_) (Nat.le_refl _)   _ hc11) ?_
  rintro _ w12 ⟨o13, rfl, st14⟩
  replace f6 := f6.st st14 (by decide)
  replace fg0 := fg0.st st14 (by decide)
  replace hs := hs.loc0 st14 (by decide)
  have hk := hk.put 2 (.int .u32 t10) rfl
  refine x_run tab hk (k := 2) (lv := []) (ks := [4]) (e' := [(4, .bool (t10 == (3421780262 : Int)))]) rfl trivial fun a hk => ?_
  cases b15 : (t10 == (3421780262 : Int))
  · rw [b15] at hk H
    replace H := bifF H
    refine x_run tab hk (k := 9) (lv := []) (ks := [0]) (e' := [(0, .bool false)]) rfl trivial fun a hk => ?_
    refine wpList_nil ?_
    refine then_n ?_
    refine wp_ret ?_
    obtain rfl := Option.some.inj H
    exact x_retG hk (rs := [.tmp 0]) (vs := [.bool false]) rfl ⟨rfl, trivial⟩ ⟨fun b_ => if b_ < w.heap.size then o b_ else (fun _ => 0) (o13 b_), rfl, hs.close0 o (fun _ => 0)⟩
  · rw [b15] at hk H
    replace H := bifT H
    refine x_op hk rfl ?_
    refine op_slice (o := o13) tab hk (vs := [.string (⟨#[49, 50, 51, 52]⟩ : ByteArray), .string (⟨#[53, 54, 55, 56, 57]⟩ : ByteArray)]) (cs := [.string (⟨#[49, 50, 51, 52]⟩ : ByteArray), .string (⟨#[53, 54, 55, 56, 57]⟩ : ByteArray)]) rfl rfl rfl rfl rfl rfl rfl rfl rfl 2 fun bx19 w16 o17 st18 f20 => ?_
    replace fg0 := fg0.st st18 (by decide)
    replace hs := hs.loc0 st18 (by decide)
    have f21 : Ft (Own encStr 9 (.slice (some ⟨bx19, 0, none⟩) (([(⟨#[49, 50, 51, 52]⟩ : ByteArray), (⟨#[53, 54, 55, 56, 57]⟩ : ByteArray)] : List ByteArray)).length 2) ([(⟨#[49, 50, 51, 52]⟩ : ByteArray), (⟨#[53, 54, 55, 56, 57]⟩ : ByteArray)] : List ByteArray)) w16 o17 2 := f20.imp fun _ h_ => Own.of_box h_ rfl (by simp)
    have hk := hk.put 5 (.slice (some ⟨bx19, 0, none⟩) (([(⟨#[49, 50, 51, 52]⟩ : ByteArray), (⟨#[53, 54, 55, 56, 57]⟩ : ByteArray)] : List ByteArray)).length 2) rfl
    refine x_op hk rfl ?_
    obtain ⟨t25, hc26, H⟩ := bindS H
    refine op_call hk ent_8 (vs := [.slice (some ⟨bx19, 0, none⟩) (([(⟨#[49, 50, 51, 52]⟩ : ByteArray), (⟨#[53, 54, 55, 56, 57]⟩ : ByteArray)] : List ByteArray)).length 2]) rfl (sum_Of_calls K (some ⟨bx19, 0, none⟩) 2 ([(⟨#[49, 50, 51, 52]⟩ : ByteArray), (⟨#[53, 54, 55, 56, 57]⟩ : ByteArray)] : List ByteArray) _ o17 0 fg0 _ (f21.imp fun _ h_ => Own.rd h_) (Nat.le_refl _)   _ hc26) ?_
    rintro _ w27 ⟨o28, rfl, st29⟩
    replace f21 := f21.st st29 (by decide)
    replace fg0 := fg0.st st29 (by decide)
    replace hs := hs.loc0 st29 (by decide)
    have hk := hk.put 6 (.int .u32 t25) rfl
    refine x_run tab hk (k := 3) (lv := []) (ks := [9]) (e' := [(9, .bool (t25 == (3421780262 : Int)))]) rfl trivial fun a hk => ?_
    cases b30 : (t25 == (3421780262 : Int))
    · rw [b30] at hk H
      replace H := bifF H
      refine x_run tab hk (k := 4) (lv := []) (ks := [0]) (e' := [(0, .bool false)]) rfl trivial fun a hk => ?_
      refine wpList_nil ?_
      refine then_n ?_
      refine wp_ret ?_
      obtain rfl := Option.some.inj H
      exact x_retG hk (rs := [.tmp 0]) (vs := [.bool false]) rfl ⟨rfl, trivial⟩ ⟨fun b_ => if b_ < w.heap.size then o b_ else (fun _ => 0) (o28 b_), rfl, hs.close0 o (fun _ => 0)⟩
    · rw [b30] at hk H
      replace H := bifT H
      refine x_op hk rfl ?_
      obtain ⟨t34, hc35, H⟩ := bindS H
      refine op_call hk ent_8 (vs := [.slice none 0 0]) rfl (sum_Of_calls K none 0 ([] : List ByteArray) _ o28 0 fg0 _ (Ft.of_all (fun _ h_ => absurd h_ (by simp)) _ _ 0) (by simp)   _ hc35) ?_
      rintro _ w36 ⟨o37, rfl, st38⟩
      replace fg0 := fg0.st st38 (by decide)
      replace hs := hs.loc0 st38 (by decide)
      have hk := hk.put 10 (.int .u32 t34) rfl
      refine x_run tab hk (k := 3) (lv := []) (ks := [0]) (e' := [(0, .bool (t34 == (0 : Int)))]) rfl trivial fun a hk => ?_
      refine wpList_nil ?_
      refine then_n ?_
      refine wp_ret ?_
      obtain rfl := Option.some.inj H
      exact x_retG hk (rs := [.tmp 0]) (vs := [.bool (t34 == (0 : Int))]) rfl ⟨rfl, trivial⟩ ⟨fun b_ => if b_ < w.heap.size then o b_ else (fun _ => 0) (o37 b_), rfl, hs.close0 o (fun _ => 0)⟩

/-! tidewrack/tidewracklaw02.SumThree -/
set_option maxHeartbeats 4000000 in
theorem tidewracklaw02_SumThree_calls (K : Nat) (p0 : ByteArray) (p1 : ByteArray) (p2 : ByteArray) (w : World) (o : Nat → Nat) (Lg0 : Nat) (hg0 : Ft (RdC (encInt .u32) (some ⟨0, 0, none⟩) glob0) w o Lg0)   (r : Bool) (H : tidewracklaw02_SumThree K p0 p1 p2 = some r) :
    Calls Tryd.prog 3 #[.string p0, .string p1, .string p2] w (Ret fun v_ w' => ∃ o' : Nat → Nat, v_ = .bool r ∧ St [] w o w' o') := by
  refine x_enter (vs := [.string p0, .string p1, .string p2]) Tryd.func3 rfl rfl rfl fun a hk => ?_
  obtain ⟨o0, hs, h0⟩ := St.start w o
  have fg0 := h0 _ _ hg0
  clear h0
  rw [tidewracklaw02_SumThree] at H
  refine x_seq ?_
  refine wp_region_lit ?_
  refine x_run tab hk (k := 1) (lv := []) (ks := [0, 1, 2]) (e' := [(0, .string p0), (1, .string p1), (2, .string p2)]) rfl trivial fun a hk => ?_
  refine wpList_nil ?_
  refine then_n ?_
  refine x_seq ?_
  refine x_seq ?_
  refine wp_region_lit ?_
  refine x_op hk rfl ?_
  obtain ⟨t4, hc5, H⟩ := bindS H
  refine op_call hk ent_7 (vs := []) rfl (tidewracklaw02_awake_calls K  _ o0 0 fg0   _ hc5) ?_
  rintro _ w6 ⟨o7, rfl, st8⟩
  replace fg0 := fg0.st st8 (by decide)
  replace hs := hs.loc0 st8 (by decide)
  have hk := hk.put 10 (.bool t4) rfl
  refine x_run tab hk (k := 1) (lv := []) (ks := [0, 1, 2, 11]) (e' := [(0, .string p0), (1, .string p1), (2, .string p2), (11, .bool (!t4))]) rfl trivial fun a hk => ?_
  refine wpList_nil ?_
  refine then_n ?_
  cases b9 : (!t4)
  · rw [b9] at hk H
    replace H := bifF H
    refine x_if hk (b := false) rfl ?_
    refine (show Code.wp _ _ _ _ _ from ?_)
    refine wp_skip ?_
    refine then_n ?_
    refine x_seq ?_
    refine wp_region_lit ?_
    refine x_run tab hk (k := 8) (lv := []) (ks := [0, 1, 2, 7]) (e' := [(0, .string p0), (1, .string p1), (2, .string p2), (7, .int .i64 (mnI (mnI (mnI ((p0).size : Int) ((p1).size : Int)) ((p2).size : Int)) 60))]) rfl trivial fun a hk => ?_
    refine wpList_nil ?_
    refine then_n ?_
    refine x_seq ?_
    refine wp_region_lit ?_
    refine x_run tab hk (k := 1) (lv := []) (ks := [0, 1, 2, 7, 19]) (e' := [(0, .string p0), (1, .string p1), (2, .string p2), (7, .int .i64 (mnI (mnI (mnI ((p0).size : Int) ((p1).size : Int)) ((p2).size : Int)) 60)), (19, .int .i64 (mnI (mnI (mnI ((p0).size : Int) ((p1).size : Int)) ((p2).size : Int)) 60))]) rfl trivial fun a hk => ?_
    refine x_op hk rfl ?_
    obtain ⟨q13, H⟩ := ifS H
    obtain ⟨q14, H⟩ := ifS H
    refine op_make (o := o7) (E := (encInt .u8)) (zx := 0) tab hk rfl rfl rfl rfl rfl q13 q14 1 fun A15 c16 w10 o11 st12 f17 hc18 => ?_
    replace fg0 := fg0.st st12 (by decide)
    replace hs := hs.loc0 st12 (by decide)
    have hk := hk.put 20 (.slice A15 ((List.replicate (Int.toNat (mnI (mnI (mnI ((p0).size : Int) ((p1).size : Int)) ((p2).size : Int)) 60)) (0 : Int))).length c16) rfl
    refine x_run tab hk (k := 1) (lv := []) (ks := [0, 1, 2, 7, 8]) (e' := [(0, .string p0), (1, .string p1), (2, .string p2), (7, .int .i64 (mnI (mnI (mnI ((p0).size : Int) ((p1).size : Int)) ((p2).size : Int)) 60)), (8, .slice A15 ((List.replicate (Int.toNat (mnI (mnI (mnI ((p0).size : Int) ((p1).size : Int)) ((p2).size : Int)) 60)) (0 : Int))).length c16)]) rfl trivial fun a hk => ?_
    refine wpList_nil ?_
    refine then_n ?_
    refine x_mid (fun a_ w_ => ∃ o133 : Nat → Nat, ∃ A134 : Option Addr, ∃ c135 : Nat, ∃ l136 : List Int, Kn 62 a_ [(0, .string p0), (1, .string p1), (2, .string p2), (7, .int .i64 (mnI (mnI (mnI ((p0).size : Int) ((p1).size : Int)) ((p2).size : Int)) 60)), (8, .slice A134 (l136).length c135)] ∧ St [] w (fun _ => 0) w_ o133 ∧ Ft (Own (encInt .u8) 5 (.slice A134 (l136).length c135) l136) w_ o133 4 ∧ Ft (RdC (encInt .u32) (some ⟨0, 0, none⟩) glob0) w_ o133 0 ∧ (l136).length ≤ c135 ∧ tidewracklaw02_SumThree_j1 K p0 p1 p2 l136 = some r) ?_ ?_
    rotate_left
    · rintro a w139 ⟨o133, A134, c135, l136, hk, hs, f137, fg0, hc138, H⟩
      rw [tidewracklaw02_SumThree_j1] at H
      refine x_seq ?_
      refine x_cut (fun a_ w_ => ∃ o1875 : Nat → Nat, ∃ x1876 : Bool, Kn 62 a_ [(6, .bool x1876)] ∧ St [] w (fun _ => 0) w_ o1875 ∧ Ft (RdC (encInt .u32) (some ⟨0, 0, none⟩) glob0) w_ o1875 0 ∧ tidewracklaw02_SumThree_j2 x1876 = some r) ?_ ?_
      rotate_left
      · rintro a w1877 ⟨o1875, x1876, hk, hs, fg0, H⟩
        rw [tidewracklaw02_SumThree_j2] at H
        refine then_n ?_
        refine wp_ret ?_
        obtain rfl := Option.some.inj H
        exact x_retG hk (rs := [.tmp 6]) (vs := [.bool x1876]) rfl ⟨rfl, trivial⟩ ⟨fun b_ => if b_ < w.heap.size then o b_ else (fun _ => 0) (o1875 b_), rfl, hs.close0 o (fun _ => 0)⟩
      obtain ⟨t1946, hc1947, H⟩ := bindS H
      obtain ⟨q1951, H⟩ := ifS H
      obtain ⟨t1961, hc1962, H⟩ := bindS H
      obtain ⟨q1966, H⟩ := ifS H
      obtain ⟨t1976, hc1977, H⟩ := bindS H
      obtain ⟨q1981, H⟩ := ifS H
      obtain ⟨t1991, hc1992, H⟩ := bindS H
      refine xd_begin (o := o133) (fun W_ => (Own (encInt .u8) 5 (.slice A134 (l136).length c135) l136) W_ ∧ True) mixed rfl rfl fun w2470 st2471 => ?_
      replace f137 := f137.st st2471 (by decide)
      replace fg0 := fg0.st st2471 (by decide)
      replace hs := hs.loc0 st2471 (by decide)
      refine xd_abs fun G hG => ?_
      have N2573 : ∀ (a_ : Act) (w_ : World), (∃ o2571 : Nat → Nat, Kn 62 a_ [(43, .int .u32 t1946), (48, .int .u32 t1961), (53, .int .u32 t1976), (57, .string (ByteArray.extract p2 0 (Int.toNat (mnI (mnI (mnI ((p0).size : Int) ((p1).size : Int)) ((p2).size : Int)) 60))))] ∧ St [] w (fun _ => 0) w_ o2571 ∧ Ft (Own (encInt .u8) 5 (.slice A134 (l136).length c135) l136) w_ o2571 259 ∧ Ft (RdC (encInt .u32) (some ⟨0, 0, none⟩) glob0) w_ o2571 0) → G 6 #[true, true, true, true, true, true, true, true, true, true, true, true, true, true, false, true, true, true, false, false, false, false, false] a_ w_ := by
        rintro a w2572 ⟨o2571, hk, hs, f137, fg0⟩
        refine xd_of hG ?_
        refine xd_take tab hk (k := 5) (is := [14]) (ls' := #[true, true, true, true, true, true, true, true, true, true, true, true, true, true, true, true, true, true, false, false, false, false, false]) (lv := []) (ks := [43, 54, 57]) (e' := [(43, .int .u32 t1946), (54, .int .u32 (bits .xor .u32 t1961 t1976)), (57, .string (ByteArray.extract p2 0 (Int.toNat (mnI (mnI (mnI ((p0).size : Int) ((p1).size : Int)) ((p2).size : Int)) 60))))]) (by kernel_rfl) rfl rfl (by kernel_rfl) (np_then (np_then np_body)) ⟨f137.now, trivial⟩ (fun W_ hS => trivial) fun a hk => ?_
        refine xd_op hk (i := 18) (by kernel_rfl) rfl rfl ?_
        refine op_slice (o := o2571) tab hk (vs := [.string (ByteArray.extract p2 0 (Int.toNat (mnI (mnI (mnI ((p0).size : Int) ((p1).size : Int)) ((p2).size : Int)) 60)))]) (cs := [.string (ByteArray.extract p2 0 (Int.toNat (mnI (mnI (mnI ((p0).size : Int) ((p1).size : Int)) ((p2).size : Int)) 60)))]) rfl rfl rfl rfl rfl rfl rfl rfl rfl 260 fun bx2577 w2574 o2575 st2576 f2578 => ?_
        replace f137 := f137.st st2576 (by decide)
        replace fg0 := fg0.st st2576 (by decide)
        replace hs := hs.loc0 st2576 (by decide)
        have f2579 : Ft (Own encStr 9 (.slice (some ⟨bx2577, 0, none⟩) (([(ByteArray.extract p2 0 (Int.toNat (mnI (mnI (mnI ((p0).size : Int) ((p1).size : Int)) ((p2).size : Int)) 60)))] : List ByteArray)).length 1) ([(ByteArray.extract p2 0 (Int.toNat (mnI (mnI (mnI ((p0).size : Int) ((p1).size : Int)) ((p2).size : Int)) 60)))] : List ByteArray)) w2574 o2575 260 := f2578.imp fun _ h_ => Own.of_box h_ rfl (by simp)
        have hk := hk.put 58 (.slice (some ⟨bx2577, 0, none⟩) (([(ByteArray.extract p2 0 (Int.toNat (mnI (mnI (mnI ((p0).size : Int) ((p1).size : Int)) ((p2).size : Int)) 60)))] : List ByteArray)).length 1) rfl
        refine ⟨.inr ⟨f137.now, trivial⟩, ?_⟩
        refine xd_op hk (i := 19) (by kernel_rfl) rfl rfl ?_
        refine op_call hk ent_8 (vs := [.slice (some ⟨bx2577, 0, none⟩) (([(ByteArray.extract p2 0 (Int.toNat (mnI (mnI (mnI ((p0).size : Int) ((p1).size : Int)) ((p2).size : Int)) 60)))] : List ByteArray)).length 1]) rfl (sum_Of_calls K (some ⟨bx2577, 0, none⟩) 1 ([(ByteArray.extract p2 0 (Int.toNat (mnI (mnI (mnI ((p0).size : Int) ((p1).size : Int)) ((p2).size : Int)) 60)))] : List ByteArray) _ o2575 0 fg0 _ (f2579.imp fun _ h_ => Own.rd h_) (Nat.le_refl _)   _ hc1992) ?_
        rintro _ w2583 ⟨o2584, rfl, st2585⟩
        replace f137 := f137.st st2585 (by decide)
        replace f2579 := f2579.st st2585 (by decide)
        replace fg0 := fg0.st st2585 (by decide)
        replace hs := hs.loc0 st2585 (by decide)
        have hk := hk.put 59 (.int .u32 t1991) rfl
        refine ⟨.inr ⟨f137.now, trivial⟩, ?_⟩
        refine xd_take tab hk (k := 0) (is := [20, 21, 22]) (ls' := #[true, true, true, true, true, true, true, true, true, true, true, true, true, true, true, true, true, true, true, true, true, true, true]) (lv := []) (ks := [6]) (e' := [(6, .bool (t1946 == (bits .xor .u32 (bits .xor .u32 t1961 t1976) t1991)))]) (by kernel_rfl) rfl rfl (by kernel_rfl) (np_then (np_then np_body)) ⟨f137.now, trivial⟩ (fun W_ hS => trivial) fun a hk => ?_
        refine xd_done (by kernel_rfl) ?_
        refine then_n ?_
        exact ⟨o2584, (t1946 == (bits .xor .u32 (bits .xor .u32 t1961 t1976) t1991)), (by exact Kn.pick (ks := [6]) hk rfl), hs, fg0, H⟩
      have N2615 : ∀ (a_ : Act) (w_ : World), (∃ o2605 : Nat → Nat, ∃ A2606 : Option Addr, ∃ c2607 : Nat, ∃ A2610 : Option Addr, ∃ c2611 : Nat, Kn 62 a_ [(43, .int .u32 t1946), (48, .int .u32 t1961), (52, .slice A2606 (([(ByteArray.extract p1 0 (Int.toNat (mnI (mnI (mnI ((p0).size : Int) ((p1).size : Int)) ((p2).size : Int)) 60)))] : List ByteArray)).length c2607), (58, .slice A2610 (([(ByteArray.extract p2 0 (Int.toNat (mnI (mnI (mnI ((p0).size : Int) ((p1).size : Int)) ((p2).size : Int)) 60)))] : List ByteArray)).length c2611)] ∧ St [] w (fun _ => 0) w_ o2605 ∧ Ft (Own (encInt .u8) 5 (.slice A134 (l136).length c135) l136) w_ o2605 262 ∧ Ft (Own encStr 9 (.slice A2606 (([(ByteArray.extract p1 0 (Int.toNat (mnI (mnI (mnI ((p0).size : Int) ((p1).size : Int)) ((p2).size : Int)) 60)))] : List ByteArray)).length c2607) ([(ByteArray.extract p1 0 (Int.toNat (mnI (mnI (mnI ((p0).size : Int) ((p1).size : Int)) ((p2).size : Int)) 60)))] : List ByteArray)) w_ o2605 263 ∧ Ft (Own encStr 9 (.slice A2610 (([(ByteArray.extract p2 0 (Int.toNat (mnI (mnI (mnI ((p0).size : Int) ((p1).size : Int)) ((p2).size : Int)) 60)))] : List ByteArray)).length c2611) ([(ByteArray.extract p2 0 (Int.toNat (mnI (mnI (mnI ((p0).size : Int) ((p1).size : Int)) ((p2).size : Int)) 60)))] : List ByteArray)) w_ o2605 264 ∧ Ft (RdC (encInt .u32) (some ⟨0, 0, none⟩) glob0) w_ o2605 0 ∧ (([(ByteArray.extract p1 0 (Int.toNat (mnI (mnI (mnI ((p0).size : Int) ((p1).size : Int)) ((p2).size : Int)) 60)))] : List ByteArray)).length ≤ c2607 ∧ (([(ByteArray.extract p2 0 (Int.toNat (mnI (mnI (mnI ((p0).size : Int) ((p1).size : Int)) ((p2).size : Int)) 60)))] : List ByteArray)).length ≤ c2611) → G 6 #[true, true, true, true, true, true, true, true, true, true, true, true, true, false, false, true, true, true, true, false, false, false, false] a_ w_ := by
        rintro a w2614 ⟨o2605, A2606, c2607, A2610, c2611, hk, hs, f137, f2608, f2612, fg0, hc2609, hc2613⟩
        refine xd_of hG ?_
        refine xd_op hk (i := 13) (by kernel_rfl) rfl rfl ?_
        refine op_call hk ent_8 (vs := [.slice A2606 (([(ByteArray.extract p1 0 (Int.toNat (mnI (mnI (mnI ((p0).size : Int) ((p1).size : Int)) ((p2).size : Int)) 60)))] : List ByteArray)).length c2607]) rfl (sum_Of_calls K A2606 c2607 ([(ByteArray.extract p1 0 (Int.toNat (mnI (mnI (mnI ((p0).size : Int) ((p1).size : Int)) ((p2).size : Int)) 60)))] : List ByteArray) _ o2605 0 fg0 _ (f2608.imp fun _ h_ => Own.rd h_) hc2609   _ hc1977) ?_
        rintro _ w2619 ⟨o2620, rfl, st2621⟩
        replace f137 := f137.st st2621 (by decide)
        replace f2608 := f2608.st st2621 (by decide)
        replace f2612 := f2612.st st2621 (by decide)
        replace fg0 := fg0.st st2621 (by decide)
        replace hs := hs.loc0 st2621 (by decide)
        have hk := hk.put 53 (.int .u32 t1976) rfl
        refine ⟨.inr ⟨f137.now, trivial⟩, ?_⟩
        refine xd_take tab hk (k := 4) (is := [14]) (ls' := #[true, true, true, true, true, true, true, true, true, true, true, true, true, true, true, true, true, true, true, false, false, false, false]) (lv := []) (ks := [43, 54, 58]) (e' := [(43, .int .u32 t1946), (54, .int .u32 (bits .xor .u32 t1961 t1976)), (58, .slice A2610 (([(ByteArray.extract p2 0 (Int.toNat (mnI (mnI (mnI ((p0).size : Int) ((p1).size : Int)) ((p2).size : Int)) 60)))] : List ByteArray)).length c2611)]) (by kernel_rfl) rfl rfl (by kernel_rfl) (np_then (np_then np_body)) ⟨f137.now, trivial⟩ (fun W_ hS => trivial) fun a hk => ?_
        refine xd_op hk (i := 19) (by kernel_rfl) rfl rfl ?_
        refine op_call hk ent_8 (vs := [.slice A2610 (([(ByteArray.extract p2 0 (Int.toNat (mnI (mnI (mnI ((p0).size : Int) ((p1).size : Int)) ((p2).size : Int)) 60)))] : List ByteArray)).length c2611]) rfl (sum_Of_calls K A2610 c2611 ([(ByteArray.extract p2 0 (Int.toNat (mnI (mnI (mnI ((p0).size : Int) ((p1).size : Int)) ((p2).size : Int)) 60)))] : List ByteArray) _ o2620 0 fg0 _ (f2612.imp fun _ h_ => Own.rd h_) hc2613   _ hc1992) ?_
        rintro _ w2625 ⟨o2626, rfl, st2627⟩
        replace f137 := f137.st st2627 (by decide)
        replace f2608 := f2608.st st2627 (by decide)
        replace f2612 := f2612.st st2627 (by decide)
        replace fg0 := fg0.st st2627 (by decide)
        replace hs := hs.loc0 st2627 (by decide)
        have hk := hk.put 59 (.int .u32 t1991) rfl
        refine ⟨.inr ⟨f137.now, trivial⟩, ?_⟩
        refine xd_take tab hk (k := 0) (is := [20, 21, 22]) (ls' := #[true, true, true, true, true, true, true, true, true, true, true, true, true, true, true, true, true, true, true, true, true, true, true]) (lv := []) (ks := [6]) (e' := [(6, .bool (t1946 == (bits .xor .u32 (bits .xor .u32 t1961 t1976) t1991)))]) (by kernel_rfl) rfl rfl (by kernel_rfl) (np_then (np_then np_body)) ⟨f137.now, trivial⟩ (fun W_ hS => trivial) fun a hk => ?_
        refine xd_done (by kernel_rfl) ?_
        refine then_n ?_
        exact ⟨o2626, (t1946 == (bits .xor .u32 (bits .xor .u32 t1961 t1976) t1991)), (by exact Kn.pick (ks := [6]) hk rfl), hs, fg0, H⟩
      have N2561 : ∀ (a_ : Act) (w_ : World), (∃ o2555 : Nat → Nat, ∃ A2556 : Option Addr, ∃ c2557 : Nat, Kn 62 a_ [(43, .int .u32 t1946), (48, .int .u32 t1961), (52, .slice A2556 (([(ByteArray.extract p1 0 (Int.toNat (mnI (mnI (mnI ((p0).size : Int) ((p1).size : Int)) ((p2).size : Int)) 60)))] : List ByteArray)).length c2557), (57, .string (ByteArray.extract p2 0 (Int.toNat (mnI (mnI (mnI ((p0).size : Int) ((p1).size : Int)) ((p2).size : Int)) 60))))] ∧ St [] w (fun _ => 0) w_ o2555 ∧ Ft (Own (encInt .u8) 5 (.slice A134 (l136).length c135) l136) w_ o2555 257 ∧ Ft (Own encStr 9 (.slice A2556 (([(ByteArray.extract p1 0 (Int.toNat (mnI (mnI (mnI ((p0).size : Int) ((p1).size : Int)) ((p2).size : Int)) 60)))] : List ByteArray)).length c2557) ([(ByteArray.extract p1 0 (Int.toNat (mnI (mnI (mnI ((p0).size : Int) ((p1).size : Int)) ((p2).size : Int)) 60)))] : List ByteArray)) w_ o2555 258 ∧ Ft (RdC (encInt .u32) (some ⟨0, 0, none⟩) glob0) w_ o2555 0 ∧ (([(ByteArray.extract p1 0 (Int.toNat (mnI (mnI (mnI ((p0).size : Int) ((p1).size : Int)) ((p2).size : Int)) 60)))] : List ByteArray)).length ≤ c2557) → G 7 #[true, true, true, true, true, true, true, true, true, true, true, true, true, false, false, true, true, true, false, false, false, false, false] a_ w_ := by
        rintro a w2560 ⟨o2555, A2556, c2557, hk, hs, f137, f2558, fg0, hc2559⟩
        refine xd_of hG ?_
        refine xd_each [13, 18] (by kernel_rfl) rfl ⟨?_, ?_, trivial⟩
        · refine xd_one hk rfl rfl ?_
          refine op_call hk ent_8 (vs := [.slice A2556 (([(ByteArray.extract p1 0 (Int.toNat (mnI (mnI (mnI ((p0).size : Int) ((p1).size : Int)) ((p2).size : Int)) 60)))] : List ByteArray)).length c2557]) rfl (sum_Of_calls K A2556 c2557 ([(ByteArray.extract p1 0 (Int.toNat (mnI (mnI (mnI ((p0).size : Int) ((p1).size : Int)) ((p2).size : Int)) 60)))] : List ByteArray) _ o2555 0 fg0 _ (f2558.imp fun _ h_ => Own.rd h_) hc2559   _ hc1977) ?_
          rintro _ w2565 ⟨o2566, rfl, st2567⟩
          replace f137 := f137.st st2567 (by decide)
          replace f2558 := f2558.st st2567 (by decide)
          replace fg0 := fg0.st st2567 (by decide)
          replace hs := hs.loc0 st2567 (by decide)
          have hk := hk.put 53 (.int .u32 t1976) rfl
          refine ⟨.inr ⟨f137.now, trivial⟩, ?_⟩
          exact xd_to hG rfl (N2573 _ _ ⟨(fun b_ => (fun l_ => if l_ = 257 then 259 else l_) (o2566 b_)), (by exact Kn.pick (ks := [43, 48, 53, 57]) hk rfl), (hs.relab0 (fun l_ => if l_ = 257 then 259 else l_) rfl), (f137.relab (fun l_ => if l_ = 257 then 259 else l_) rfl), (fg0.relab (fun l_ => if l_ = 257 then 259 else l_) rfl)⟩)
        · refine xd_one hk rfl rfl ?_
          refine op_slice (o := o2555) tab hk (vs := [.string (ByteArray.extract p2 0 (Int.toNat (mnI (mnI (mnI ((p0).size : Int) ((p1).size : Int)) ((p2).size : Int)) 60)))]) (cs := [.string (ByteArray.extract p2 0 (Int.toNat (mnI (mnI (mnI ((p0).size : Int) ((p1).size : Int)) ((p2).size : Int)) 60)))]) rfl rfl rfl rfl rfl rfl rfl rfl rfl 261 fun bx2589 w2586 o2587 st2588 f2590 => ?_
          replace f137 := f137.st st2588 (by decide)
          replace f2558 := f2558.st st2588 (by decide)
          replace fg0 := fg0.st st2588 (by decide)
          replace hs := hs.loc0 st2588 (by decide)
          have f2591 : Ft (Own encStr 9 (.slice (some ⟨bx2589, 0, none⟩) (([(ByteArray.extract p2 0 (Int.toNat (mnI (mnI (mnI ((p0).size : Int) ((p1).size : Int)) ((p2).size : Int)) 60)))] : List ByteArray)).length 1) ([(ByteArray.extract p2 0 (Int.toNat (mnI (mnI (mnI ((p0).size : Int) ((p1).size : Int)) ((p2).size : Int)) 60)))] : List ByteArray)) w2586 o2587 261 := f2590.imp fun _ h_ => Own.of_box h_ rfl (by simp)
          have hk := hk.put 58 (.slice (some ⟨bx2589, 0, none⟩) (([(ByteArray.extract p2 0 (Int.toNat (mnI (mnI (mnI ((p0).size : Int) ((p1).size : Int)) ((p2).size : Int)) 60)))] : List ByteArray)).length 1) rfl
          refine ⟨.inr ⟨f137.now, trivial⟩, ?_⟩
          exact xd_to hG rfl (N2615 _ _ ⟨(fun b_ => (fun l_ => if l_ = 257 then 262 else if l_ = 258 then 263 else if l_ = 261 then 264 else l_) (o2587 b_)), A2556, c2557, (some ⟨bx2589, 0, none⟩), 1, (by exact Kn.pick (ks := [43, 48, 52, 58]) hk rfl), (hs.relab0 (fun l_ => if l_ = 257 then 262 else if l_ = 258 then 263 else if l_ = 261 then 264 else l_) rfl), (f137.relab (fun l_ => if l_ = 257 then 262 else if l_ = 258 then 263 else if l_ = 261 then 264 else l_) rfl), (f2558.relab (fun l_ => if l_ = 257 then 262 else if l_ = 258 then 263 else if l_ = 261 then 264 else l_) rfl), (f2591.relab (fun l_ => if l_ = 257 then 262 else if l_ = 258 then 263 else if l_ = 261 then 264 else l_) rfl), (fg0.relab (fun l_ => if l_ = 257 then 262 else if l_ = 258 then 263 else if l_ = 261 then 264 else l_) rfl), hc2559, (Nat.le_refl _)⟩)
      have N2649 : ∀ (a_ : Act) (w_ : World), (∃ o2643 : Nat → Nat, ∃ A2644 : Option Addr, ∃ c2645 : Nat, Kn 62 a_ [(43, .int .u32 t1946), (48, .int .u32 t1961), (51, .string (ByteArray.extract p1 0 (Int.toNat (mnI (mnI (mnI ((p0).size : Int) ((p1).size : Int)) ((p2).size : Int)) 60)))), (58, .slice A2644 (([(ByteArray.extract p2 0 (Int.toNat (mnI (mnI (mnI ((p0).size : Int) ((p1).size : Int)) ((p2).size : Int)) 60)))] : List ByteArray)).length c2645)] ∧ St [] w (fun _ => 0) w_ o2643 ∧ Ft (Own (encInt .u8) 5 (.slice A134 (l136).length c135) l136) w_ o2643 266 ∧ Ft (Own encStr 9 (.slice A2644 (([(ByteArray.extract p2 0 (Int.toNat (mnI (mnI (mnI ((p0).size : Int) ((p1).size : Int)) ((p2).size : Int)) 60)))] : List ByteArray)).length c2645) ([(ByteArray.extract p2 0 (Int.toNat (mnI (mnI (mnI ((p0).size : Int) ((p1).size : Int)) ((p2).size : Int)) 60)))] : List ByteArray)) w_ o2643 267 ∧ Ft (RdC (encInt .u32) (some ⟨0, 0, none⟩) glob0) w_ o2643 0 ∧ (([(ByteArray.extract p2 0 (Int.toNat (mnI (mnI (mnI ((p0).size : Int) ((p1).size : Int)) ((p2).size : Int)) 60)))] : List ByteArray)).length ≤ c2645) → G 7 #[true, true, true, true, true, true, true, true, true, true, true, true, false, false, false, true, true, true, true, false, false, false, false] a_ w_ := by
        rintro a w2648 ⟨o2643, A2644, c2645, hk, hs, f137, f2646, fg0, hc2647⟩
        refine xd_of hG ?_
        refine xd_op hk (i := 12) (by kernel_rfl) rfl rfl ?_
        refine op_slice (o := o2643) tab hk (vs := [.string (ByteArray.extract p1 0 (Int.toNat (mnI (mnI (mnI ((p0).size : Int) ((p1).size : Int)) ((p2).size : Int)) 60)))]) (cs := [.string (ByteArray.extract p1 0 (Int.toNat (mnI (mnI (mnI ((p0).size : Int) ((p1).size : Int)) ((p2).size : Int)) 60)))]) rfl rfl rfl rfl rfl rfl rfl rfl rfl 268 fun bx2653 w2650 o2651 st2652 f2654 => ?_
        replace f137 := f137.st st2652 (by decide)
        replace f2646 := f2646.st st2652 (by decide)
        replace fg0 := fg0.st st2652 (by decide)
        replace hs := hs.loc0 st2652 (by decide)
        have f2655 : Ft (Own encStr 9 (.slice (some ⟨bx2653, 0, none⟩) (([(ByteArray.extract p1 0 (Int.toNat (mnI (mnI (mnI ((p0).size : Int) ((p1).size : Int)) ((p2).size : Int)) 60)))] : List ByteArray)).length 1) ([(ByteArray.extract p1 0 (Int.toNat (mnI (mnI (mnI ((p0).size : Int) ((p1).size : Int)) ((p2).size : Int)) 60)))] : List ByteArray)) w2650 o2651 268 := f2654.imp fun _ h_ => Own.of_box h_ rfl (by simp)
        have hk := hk.put 52 (.slice (some ⟨bx2653, 0, none⟩) (([(ByteArray.extract p1 0 (Int.toNat (mnI (mnI (mnI ((p0).size : Int) ((p1).size : Int)) ((p2).size : Int)) 60)))] : List ByteArray)).length 1) rfl
        refine ⟨.inr ⟨f137.now, trivial⟩, ?_⟩
        refine xd_op hk (i := 13) (by kernel_rfl) rfl rfl ?_
        refine op_call hk ent_8 (vs := [.slice (some ⟨bx2653, 0, none⟩) (([(ByteArray.extract p1 0 (Int.toNat (mnI (mnI (mnI ((p0).size : Int) ((p1).size : Int)) ((p2).size : Int)) 60)))] : List ByteArray)).length 1]) rfl (sum_Of_calls K (some ⟨bx2653, 0, none⟩) 1 ([(ByteArray.extract p1 0 (Int.toNat (mnI (mnI (mnI ((p0).size : Int) ((p1).size : Int)) ((p2).size : Int)) 60)))] : List ByteArray) _ o2651 0 fg0 _ (f2655.imp fun _ h_ => Own.rd h_) (Nat.le_refl _)   _ hc1977) ?_
        rintro _ w2659 ⟨o2660, rfl, st2661⟩
        replace f137 := f137.st st2661 (by decide)
        replace f2646 := f2646.st st2661 (by decide)
        replace f2655 := f2655.st st2661 (by decide)
        replace fg0 := fg0.st st2661 (by decide)
        replace hs := hs.loc0 st2661 (by decide)
        have hk := hk.put 53 (.int .u32 t1976) rfl
        refine ⟨.inr ⟨f137.now, trivial⟩, ?_⟩
        refine xd_take tab hk (k := 4) (is := [14]) (ls' := #[true, true, true, true, true, true, true, true, true, true, true, true, true, true, true, true, true, true, true, false, false, false, false]) (lv := []) (ks := [43, 54, 58]) (e' := [(43, .int .u32 t1946), (54, .int .u32 (bits .xor .u32 t1961 t1976)), (58, .slice A2644 (([(ByteArray.extract p2 0 (Int.toNat (mnI (mnI (mnI ((p0).size : Int) ((p1).size : Int)) ((p2).size : Int)) 60)))] : List ByteArray)).length c2645)]) (by kernel_rfl) rfl rfl (by kernel_rfl) (np_then (np_then np_body)) ⟨f137.now, trivial⟩ (fun W_ hS => trivial) fun a hk => ?_
        refine xd_op hk (i := 19) (by kernel_rfl) rfl rfl ?_
        refine op_call hk ent_8 (vs := [.slice A2644 (([(ByteArray.extract p2 0 (Int.toNat (mnI (mnI (mnI ((p0).size : Int) ((p1).size : Int)) ((p2).size : Int)) 60)))] : List ByteArray)).length c2645]) rfl (sum_Of_calls K A2644 c2645 ([(ByteArray.extract p2 0 (Int.toNat (mnI (mnI (mnI ((p0).size : Int) ((p1).size : Int)) ((p2).size : Int)) 60)))] : List ByteArray) _ o2660 0 fg0 _ (f2646.imp fun _ h_ => Own.rd h_) hc2647   _ hc1992) ?_
        rintro _ w2665 ⟨o2666, rfl, st2667⟩
        replace f137 := f137.st st2667 (by decide)
        replace f2646 := f2646.st st2667 (by decide)
        replace f2655 := f2655.st st2667 (by decide)
        replace fg0 := fg0.st st2667 (by decide)
        replace hs := hs.loc0 st2667 (by decide)
        have hk := hk.put 59 (.int .u32 t1991) rfl
        refine ⟨.inr ⟨f137.now, trivial⟩, ?_⟩
        refine xd_take tab hk (k := 0) (is := [20, 21, 22]) (ls' := #[true, true, true, true, true, true, true, true, true, true, true, true, true, true, true, true, true, true, true, true, true, true, true]) (lv := []) (ks := [6]) (e' := [(6, .bool (t1946 == (bits .xor .u32 (bits .xor .u32 t1961 t1976) t1991)))]) (by kernel_rfl) rfl rfl (by kernel_rfl) (np_then (np_then np_body)) ⟨f137.now, trivial⟩ (fun W_ hS => trivial) fun a hk => ?_
        refine xd_done (by kernel_rfl) ?_
        refine then_n ?_
        exact ⟨o2666, (t1946 == (bits .xor .u32 (bits .xor .u32 t1961 t1976) t1991)), (by exact Kn.pick (ks := [6]) hk rfl), hs, fg0, H⟩
      have N2539 : ∀ (a_ : Act) (w_ : World), (∃ o2537 : Nat → Nat, Kn 62 a_ [(43, .int .u32 t1946), (48, .int .u32 t1961), (51, .string (ByteArray.extract p1 0 (Int.toNat (mnI (mnI (mnI ((p0).size : Int) ((p1).size : Int)) ((p2).size : Int)) 60)))), (57, .string (ByteArray.extract p2 0 (Int.toNat (mnI (mnI (mnI ((p0).size : Int) ((p1).size : Int)) ((p2).size : Int)) 60))))] ∧ St [] w (fun _ => 0) w_ o2537 ∧ Ft (Own (encInt .u8) 5 (.slice A134 (l136).length c135) l136) w_ o2537 255 ∧ Ft (RdC (encInt .u32) (some ⟨0, 0, none⟩) glob0) w_ o2537 0) → G 8 #[true, true, true, true, true, true, true, true, true, true, true, true, false, false, false, true, true, true, false, false, false, false, false] a_ w_ := by
        rintro a w2538 ⟨o2537, hk, hs, f137, fg0⟩
        refine xd_of hG ?_
        refine xd_each [12, 18] (by kernel_rfl) rfl ⟨?_, ?_, trivial⟩
        · refine xd_one hk rfl rfl ?_
          refine op_slice (o := o2537) tab hk (vs := [.string (ByteArray.extract p1 0 (Int.toNat (mnI (mnI (mnI ((p0).size : Int) ((p1).size : Int)) ((p2).size : Int)) 60)))]) (cs := [.string (ByteArray.extract p1 0 (Int.toNat (mnI (mnI (mnI ((p0).size : Int) ((p1).size : Int)) ((p2).size : Int)) 60)))]) rfl rfl rfl rfl rfl rfl rfl rfl rfl 256 fun bx2543 w2540 o2541 st2542 f2544 => ?_
          replace f137 := f137.st st2542 (by decide)
          replace fg0 := fg0.st st2542 (by decide)
          replace hs := hs.loc0 st2542 (by decide)
          have f2545 : Ft (Own encStr 9 (.slice (some ⟨bx2543, 0, none⟩) (([(ByteArray.extract p1 0 (Int.toNat (mnI (mnI (mnI ((p0).size : Int) ((p1).size : Int)) ((p2).size : Int)) 60)))] : List ByteArray)).length 1) ([(ByteArray.extract p1 0 (Int.toNat (mnI (mnI (mnI ((p0).size : Int) ((p1).size : Int)) ((p2).size : Int)) 60)))] : List ByteArray)) w2540 o2541 256 := f2544.imp fun _ h_ => Own.of_box h_ rfl (by simp)
          have hk := hk.put 52 (.slice (some ⟨bx2543, 0, none⟩) (([(ByteArray.extract p1 0 (Int.toNat (mnI (mnI (mnI ((p0).size : Int) ((p1).size : Int)) ((p2).size : Int)) 60)))] : List ByteArray)).length 1) rfl
          refine ⟨.inr ⟨f137.now, trivial⟩, ?_⟩
          exact xd_to hG rfl (N2561 _ _ ⟨(fun b_ => (fun l_ => if l_ = 255 then 257 else if l_ = 256 then 258 else l_) (o2541 b_)), (some ⟨bx2543, 0, none⟩), 1, (by exact Kn.pick (ks := [43, 48, 52, 57]) hk rfl), (hs.relab0 (fun l_ => if l_ = 255 then 257 else if l_ = 256 then 258 else l_) rfl), (f137.relab (fun l_ => if l_ = 255 then 257 else if l_ = 256 then 258 else l_) rfl), (f2545.relab (fun l_ => if l_ = 255 then 257 else if l_ = 256 then 258 else l_) rfl), (fg0.relab (fun l_ => if l_ = 255 then 257 else if l_ = 256 then 258 else l_) rfl), (Nat.le_refl _)⟩)
        · refine xd_one hk rfl rfl ?_
          refine op_slice (o := o2537) tab hk (vs := [.string (ByteArray.extract p2 0 (Int.toNat (mnI (mnI (mnI ((p0).size : Int) ((p1).size : Int)) ((p2).size : Int)) 60)))]) (cs := [.string (ByteArray.extract p2 0 (Int.toNat (mnI (mnI (mnI ((p0).size : Int) ((p1).size : Int)) ((p2).size : Int)) 60)))]) rfl rfl rfl rfl rfl rfl rfl rfl rfl 265 fun bx2631 w2628 o2629 st2630 f2632 => ?_
          replace f137 := f137.st st2630 (by decide)
          replace fg0 := fg0.st st2630 (by decide)
          replace hs := hs.loc0 st2630 (by decide)
          have f2633 : Ft (Own encStr 9 (.slice (some ⟨bx2631, 0, none⟩) (([(ByteArray.extract p2 0 (Int.toNat (mnI (mnI (mnI ((p0).size : Int) ((p1).size : Int)) ((p2).size : Int)) 60)))] : List ByteArray)).length 1) ([(ByteArray.extract p2 0 (Int.toNat (mnI (mnI (mnI ((p0).size : Int) ((p1).size : Int)) ((p2).size : Int)) 60)))] : List ByteArray)) w2628 o2629 265 := f2632.imp fun _ h_ => Own.of_box h_ rfl (by simp)
          have hk := hk.put 58 (.slice (some ⟨bx2631, 0, none⟩) (([(ByteArray.extract p2 0 (Int.toNat (mnI (mnI (mnI ((p0).size : Int) ((p1).size : Int)) ((p2).size : Int)) 60)))] : List ByteArray)).length 1) rfl
          refine ⟨.inr ⟨f137.now, trivial⟩, ?_⟩
          exact xd_to hG rfl (N2649 _ _ ⟨(fun b_ => (fun l_ => if l_ = 255 then 266 else if l_ = 265 then 267 else l_) (o2629 b_)), (some ⟨bx2631, 0, none⟩), 1, (by exact Kn.pick (ks := [43, 48, 51, 58]) hk rfl), (hs.relab0 (fun l_ => if l_ = 255 then 266 else if l_ = 265 then 267 else l_) rfl), (f137.relab (fun l_ => if l_ = 255 then 266 else if l_ = 265 then 267 else l_) rfl), (f2633.relab (fun l_ => if l_ = 255 then 266 else if l_ = 265 then 267 else l_) rfl), (fg0.relab (fun l_ => if l_ = 255 then 266 else if l_ = 265 then 267 else l_) rfl), (Nat.le_refl _)⟩)
      have N2741 : ∀ (a_ : Act) (w_ : World), (∃ o2727 : Nat → Nat, ∃ A2728 : Option Addr, ∃ c2729 : Nat, ∃ A2732 : Option Addr, ∃ c2733 : Nat, ∃ A2736 : Option Addr, ∃ c2737 : Nat, Kn 62 a_ [(43, .int .u32 t1946), (47, .slice A2728 (([(ByteArray.extract p0 0 (Int.toNat (mnI (mnI (mnI ((p0).size : Int) ((p1).size : Int)) ((p2).size : Int)) 60)))] : List ByteArray)).length c2729), (52, .slice A2732 (([(ByteArray.extract p1 0 (Int.toNat (mnI (mnI (mnI ((p0).size : Int) ((p1).size : Int)) ((p2).size : Int)) 60)))] : List ByteArray)).length c2733), (58, .slice A2736 (([(ByteArray.extract p2 0 (Int.toNat (mnI (mnI (mnI ((p0).size : Int) ((p1).size : Int)) ((p2).size : Int)) 60)))] : List ByteArray)).length c2737)] ∧ St [] w (fun _ => 0) w_ o2727 ∧ Ft (Own (encInt .u8) 5 (.slice A134 (l136).length c135) l136) w_ o2727 274 ∧ Ft (Own encStr 9 (.slice A2728 (([(ByteArray.extract p0 0 (Int.toNat (mnI (mnI (mnI ((p0).size : Int) ((p1).size : Int)) ((p2).size : Int)) 60)))] : List ByteArray)).length c2729) ([(ByteArray.extract p0 0 (Int.toNat (mnI (mnI (mnI ((p0).size : Int) ((p1).size : Int)) ((p2).size : Int)) 60)))] : List ByteArray)) w_ o2727 275 ∧ Ft (Own encStr 9 (.slice A2732 (([(ByteArray.extract p1 0 (Int.toNat (mnI (mnI (mnI ((p0).size : Int) ((p1).size : Int)) ((p2).size : Int)) 60)))] : List ByteArray)).length c2733) ([(ByteArray.extract p1 0 (Int.toNat (mnI (mnI (mnI ((p0).size : Int) ((p1).size : Int)) ((p2).size : Int)) 60)))] : List ByteArray)) w_ o2727 276 ∧ Ft (Own encStr 9 (.slice A2736 (([(ByteArray.extract p2 0 (Int.toNat (mnI (mnI (mnI ((p0).size : Int) ((p1).size : Int)) ((p2).size : Int)) 60)))] : List ByteArray)).length c2737) ([(ByteArray.extract p2 0 (Int.toNat (mnI (mnI (mnI ((p0).size : Int) ((p1).size : Int)) ((p2).size : Int)) 60)))] : List ByteArray)) w_ o2727 277 ∧ Ft (RdC (encInt .u32) (some ⟨0, 0, none⟩) glob0) w_ o2727 0 ∧ (([(ByteArray.extract p0 0 (Int.toNat (mnI (mnI (mnI ((p0).size : Int) ((p1).size : Int)) ((p2).size : Int)) 60)))] : List ByteArray)).length ≤ c2729 ∧ (([(ByteArray.extract p1 0 (Int.toNat (mnI (mnI (mnI ((p0).size : Int) ((p1).size : Int)) ((p2).size : Int)) 60)))] : List ByteArray)).length ≤ c2733 ∧ (([(ByteArray.extract p2 0 (Int.toNat (mnI (mnI (mnI ((p0).size : Int) ((p1).size : Int)) ((p2).size : Int)) 60)))] : List ByteArray)).length ≤ c2737) → G 7 #[true, true, true, true, true, true, true, true, false, true, true, true, true, false, false, true, true, true, true, false, false, false, false] a_ w_ := by
        rintro a w2740 ⟨o2727, A2728, c2729, A2732, c2733, A2736, c2737, hk, hs, f137, f2730, f2734, f2738, fg0, hc2731, hc2735, hc2739⟩
        refine xd_of hG ?_
        refine xd_op hk (i := 8) (by kernel_rfl) rfl rfl ?_
        refine op_call hk ent_8 (vs := [.slice A2728 (([(ByteArray.extract p0 0 (Int.toNat (mnI (mnI (mnI ((p0).size : Int) ((p1).size : Int)) ((p2).size : Int)) 60)))] : List ByteArray)).length c2729]) rfl (sum_Of_calls K A2728 c2729 ([(ByteArray.extract p0 0 (Int.toNat (mnI (mnI (mnI ((p0).size : Int) ((p1).size : Int)) ((p2).size : Int)) 60)))] : List ByteArray) _ o2727 0 fg0 _ (f2730.imp fun _ h_ => Own.rd h_) hc2731   _ hc1962) ?_
        rintro _ w2745 ⟨o2746, rfl, st2747⟩
        replace f137 := f137.st st2747 (by decide)
        replace f2730 := f2730.st st2747 (by decide)
        replace f2734 := f2734.st st2747 (by decide)
        replace f2738 := f2738.st st2747 (by decide)
        replace fg0 := fg0.st st2747 (by decide)
        replace hs := hs.loc0 st2747 (by decide)
        have hk := hk.put 48 (.int .u32 t1961) rfl
        refine ⟨.inr ⟨f137.now, trivial⟩, ?_⟩
        refine xd_op hk (i := 13) (by kernel_rfl) rfl rfl ?_
        refine op_call hk ent_8 (vs := [.slice A2732 (([(ByteArray.extract p1 0 (Int.toNat (mnI (mnI (mnI ((p0).size : Int) ((p1).size : Int)) ((p2).size : Int)) 60)))] : List ByteArray)).length c2733]) rfl (sum_Of_calls K A2732 c2733 ([(ByteArray.extract p1 0 (Int.toNat (mnI (mnI (mnI ((p0).size : Int) ((p1).size : Int)) ((p2).size : Int)) 60)))] : List ByteArray) _ o2746 0 fg0 _ (f2734.imp fun _ h_ => Own.rd h_) hc2735   _ hc1977) ?_
        rintro _ w2751 ⟨o2752, rfl, st2753⟩
        replace f137 := f137.st st2753 (by decide)
        replace f2730 := f2730.st st2753 (by decide)
        replace f2734 := f2734.st st2753 (by decide)
        replace f2738 := f2738.st st2753 (by decide)
        replace fg0 := fg0.st st2753 (by decide)
        replace hs := hs.loc0 st2753 (by decide)
        have hk := hk.put 53 (.int .u32 t1976) rfl
        refine ⟨.inr ⟨f137.now, trivial⟩, ?_⟩
        refine xd_take tab hk (k := 4) (is := [14]) (ls' := #[true, true, true, true, true, true, true, true, true, true, true, true, true, true, true, true, true, true, true, false, false, false, false]) (lv := []) (ks := [43, 54, 58]) (e' := [(43, .int .u32 t1946), (54, .int .u32 (bits .xor .u32 t1961 t1976)), (58, .slice A2736 (([(ByteArray.extract p2 0 (Int.toNat (mnI (mnI (mnI ((p0).size : Int) ((p1).size : Int)) ((p2).size : Int)) 60)))] : List ByteArray)).length c2737)]) (by kernel_rfl) rfl rfl (by kernel_rfl) (np_then (np_then np_body)) ⟨f137.now, trivial⟩ (fun W_ hS => trivial) fun a hk => ?_
        refine xd_op hk (i := 19) (by kernel_rfl) rfl rfl ?_
        refine op_call hk ent_8 (vs := [.slice A2736 (([(ByteArray.extract p2 0 (Int.toNat (mnI (mnI (mnI ((p0).size : Int) ((p1).size : Int)) ((p2).size : Int)) 60)))] : List ByteArray)).length c2737]) rfl (sum_Of_calls K A2736 c2737 ([(ByteArray.extract p2 0 (Int.toNat (mnI (mnI (mnI ((p0).size : Int) ((p1).size : Int)) ((p2).size : Int)) 60)))] : List ByteArray) _ o2752 0 fg0 _ (f2738.imp fun _ h_ => Own.rd h_) hc2739   _ hc1992) ?_
        rintro _ w2757 ⟨o2758, rfl, st2759⟩
        replace f137 := f137.st st2759 (by decide)
        replace f2730 := f2730.st st2759 (by decide)
        replace f2734 := f2734.st st2759 (by decide)
        replace f2738 := f2738.st st2759 (by decide)
        replace fg0 := fg0.st st2759 (by decide)
        replace hs := hs.loc0 st2759 (by decide)
        have hk := hk.put 59 (.int .u32 t1991) rfl
        refine ⟨.inr ⟨f137.now, trivial⟩, ?_⟩
        refine xd_take tab hk (k := 0) (is := [20, 21, 22]) (ls' := #[true, true, true, true, true, true, true, true, true, true, true, true, true, true, true, true, true, true, true, true, true, true, true]) (lv := []) (ks := [6]) (e' := [(6, .bool (t1946 == (bits .xor .u32 (bits .xor .u32 t1961 t1976) t1991)))]) (by kernel_rfl) rfl rfl (by kernel_rfl) (np_then (np_then np_body)) ⟨f137.now, trivial⟩ (fun W_ hS => trivial) fun a hk => ?_
        refine xd_done (by kernel_rfl) ?_
        refine then_n ?_
        exact ⟨o2758, (t1946 == (bits .xor .u32 (bits .xor .u32 t1961 t1976) t1991)), (by exact Kn.pick (ks := [6]) hk rfl), hs, fg0, H⟩
      have N2697 : ∀ (a_ : Act) (w_ : World), (∃ o2687 : Nat → Nat, ∃ A2688 : Option Addr, ∃ c2689 : Nat, ∃ A2692 : Option Addr, ∃ c2693 : Nat, Kn 62 a_ [(43, .int .u32 t1946), (47, .slice A2688 (([(ByteArray.extract p0 0 (Int.toNat (mnI (mnI (mnI ((p0).size : Int) ((p1).size : Int)) ((p2).size : Int)) 60)))] : List ByteArray)).length c2689), (52, .slice A2692 (([(ByteArray.extract p1 0 (Int.toNat (mnI (mnI (mnI ((p0).size : Int) ((p1).size : Int)) ((p2).size : Int)) 60)))] : List ByteArray)).length c2693), (57, .string (ByteArray.extract p2 0 (Int.toNat (mnI (mnI (mnI ((p0).size : Int) ((p1).size : Int)) ((p2).size : Int)) 60))))] ∧ St [] w (fun _ => 0) w_ o2687 ∧ Ft (Own (encInt .u8) 5 (.slice A134 (l136).length c135) l136) w_ o2687 270 ∧ Ft (Own encStr 9 (.slice A2688 (([(ByteArray.extract p0 0 (Int.toNat (mnI (mnI (mnI ((p0).size : Int) ((p1).size : Int)) ((p2).size : Int)) 60)))] : List ByteArray)).length c2689) ([(ByteArray.extract p0 0 (Int.toNat (mnI (mnI (mnI ((p0).size : Int) ((p1).size : Int)) ((p2).size : Int)) 60)))] : List ByteArray)) w_ o2687 271 ∧ Ft (Own encStr 9 (.slice A2692 (([(ByteArray.extract p1 0 (Int.toNat (mnI (mnI (mnI ((p0).size : Int) ((p1).size : Int)) ((p2).size : Int)) 60)))] : List ByteArray)).length c2693) ([(ByteArray.extract p1 0 (Int.toNat (mnI (mnI (mnI ((p0).size : Int) ((p1).size : Int)) ((p2).size : Int)) 60)))] : List ByteArray)) w_ o2687 272 ∧ Ft (RdC (encInt .u32) (some ⟨0, 0, none⟩) glob0) w_ o2687 0 ∧ (([(ByteArray.extract p0 0 (Int.toNat (mnI (mnI (mnI ((p0).size : Int) ((p1).size : Int)) ((p2).size : Int)) 60)))] : List ByteArray)).length ≤ c2689 ∧ (([(ByteArray.extract p1 0 (Int.toNat (mnI (mnI (mnI ((p0).size : Int) ((p1).size : Int)) ((p2).size : Int)) 60)))] : List ByteArray)).length ≤ c2693) → G 8 #[true, true, true, true, true, true, true, true, false, true, true, true, true, false, false, true, true, true, false, false, false, false, false] a_ w_ := by
        rintro a w2696 ⟨o2687, A2688, c2689, A2692, c2693, hk, hs, f137, f2690, f2694, fg0, hc2691, hc2695⟩
        refine xd_of hG ?_
        refine xd_each [8, 18] (by kernel_rfl) rfl ⟨?_, ?_, trivial⟩
        · refine xd_one hk rfl rfl ?_
          refine op_call hk ent_8 (vs := [.slice A2688 (([(ByteArray.extract p0 0 (Int.toNat (mnI (mnI (mnI ((p0).size : Int) ((p1).size : Int)) ((p2).size : Int)) 60)))] : List ByteArray)).length c2689]) rfl (sum_Of_calls K A2688 c2689 ([(ByteArray.extract p0 0 (Int.toNat (mnI (mnI (mnI ((p0).size : Int) ((p1).size : Int)) ((p2).size : Int)) 60)))] : List ByteArray) _ o2687 0 fg0 _ (f2690.imp fun _ h_ => Own.rd h_) hc2691   _ hc1962) ?_
          rintro _ w2701 ⟨o2702, rfl, st2703⟩
          replace f137 := f137.st st2703 (by decide)
          replace f2690 := f2690.st st2703 (by decide)
          replace f2694 := f2694.st st2703 (by decide)
          replace fg0 := fg0.st st2703 (by decide)
          replace hs := hs.loc0 st2703 (by decide)
          have hk := hk.put 48 (.int .u32 t1961) rfl
          refine ⟨.inr ⟨f137.now, trivial⟩, ?_⟩
          exact xd_to hG rfl (N2561 _ _ ⟨(fun b_ => (fun l_ => if l_ = 270 then 257 else if l_ = 272 then 258 else l_) (o2702 b_)), A2692, c2693, (by exact Kn.pick (ks := [43, 48, 52, 57]) hk rfl), (hs.relab0 (fun l_ => if l_ = 270 then 257 else if l_ = 272 then 258 else l_) rfl), (f137.relab (fun l_ => if l_ = 270 then 257 else if l_ = 272 then 258 else l_) rfl), (f2694.relab (fun l_ => if l_ = 270 then 257 else if l_ = 272 then 258 else l_) rfl), (fg0.relab (fun l_ => if l_ = 270 then 257 else if l_ = 272 then 258 else l_) rfl), hc2695⟩)
        · refine xd_one hk rfl rfl ?_
          refine op_slice (o := o2687) tab hk (vs := [.string (ByteArray.extract p2 0 (Int.toNat (mnI (mnI (mnI ((p0).size : Int) ((p1).size : Int)) ((p2).size : Int)) 60)))]) (cs := [.string (ByteArray.extract p2 0 (Int.toNat (mnI (mnI (mnI ((p0).size : Int) ((p1).size : Int)) ((p2).size : Int)) 60)))]) rfl rfl rfl rfl rfl rfl rfl rfl rfl 273 fun bx2707 w2704 o2705 st2706 f2708 => ?_
          replace f137 := f137.st st2706 (by decide)
          replace f2690 := f2690.st st2706 (by decide)
          replace f2694 := f2694.st st2706 (by decide)
          replace fg0 := fg0.st st2706 (by decide)
          replace hs := hs.loc0 st2706 (by decide)
          have f2709 : Ft (Own encStr 9 (.slice (some ⟨bx2707, 0, none⟩) (([(ByteArray.extract p2 0 (Int.toNat (mnI (mnI (mnI ((p0).size : Int) ((p1).size : Int)) ((p2).size : Int)) 60)))] : List ByteArray)).length 1) ([(ByteArray.extract p2 0 (Int.toNat (mnI (mnI (mnI ((p0).size : Int) ((p1).size : Int)) ((p2).size : Int)) 60)))] : List ByteArray)) w2704 o2705 273 := f2708.imp fun _ h_ => Own.of_box h_ rfl (by simp)
          have hk := hk.put 58 (.slice (some ⟨bx2707, 0, none⟩) (([(ByteArray.extract p2 0 (Int.toNat (mnI (mnI (mnI ((p0).size : Int) ((p1).size : Int)) ((p2).size : Int)) 60)))] : List ByteArray)).length 1) rfl
          refine ⟨.inr ⟨f137.now, trivial⟩, ?_⟩
          exact xd_to hG rfl (N2741 _ _ ⟨(fun b_ => (fun l_ => if l_ = 270 then 274 else if l_ = 271 then 275 else if l_ = 272 then 276 else if l_ = 273 then 277 else l_) (o2705 b_)), A2688, c2689, A2692, c2693, (some ⟨bx2707, 0, none⟩), 1, (by exact Kn.pick (ks := [43, 47, 52, 58]) hk rfl), (hs.relab0 (fun l_ => if l_ = 270 then 274 else if l_ = 271 then 275 else if l_ = 272 then 276 else if l_ = 273 then 277 else l_) rfl), (f137.relab (fun l_ => if l_ = 270 then 274 else if l_ = 271 then 275 else if l_ = 272 then 276 else if l_ = 273 then 277 else l_) rfl), (f2690.relab (fun l_ => if l_ = 270 then 274 else if l_ = 271 then 275 else if l_ = 272 then 276 else if l_ = 273 then 277 else l_) rfl), (f2694.relab (fun l_ => if l_ = 270 then 274 else if l_ = 271 then 275 else if l_ = 272 then 276 else if l_ = 273 then 277 else l_) rfl), (f2709.relab (fun l_ => if l_ = 270 then 274 else if l_ = 271 then 275 else if l_ = 272 then 276 else if l_ = 273 then 277 else l_) rfl), (fg0.relab (fun l_ => if l_ = 270 then 274 else if l_ = 271 then 275 else if l_ = 272 then 276 else if l_ = 273 then 277 else l_) rfl), hc2691, hc2695, (Nat.le_refl _)⟩)
      have N2789 : ∀ (a_ : Act) (w_ : World), (∃ o2779 : Nat → Nat, ∃ A2780 : Option Addr, ∃ c2781 : Nat, ∃ A2784 : Option Addr, ∃ c2785 : Nat, Kn 62 a_ [(43, .int .u32 t1946), (47, .slice A2780 (([(ByteArray.extract p0 0 (Int.toNat (mnI (mnI (mnI ((p0).size : Int) ((p1).size : Int)) ((p2).size : Int)) 60)))] : List ByteArray)).length c2781), (51, .string (ByteArray.extract p1 0 (Int.toNat (mnI (mnI (mnI ((p0).size : Int) ((p1).size : Int)) ((p2).size : Int)) 60)))), (58, .slice A2784 (([(ByteArray.extract p2 0 (Int.toNat (mnI (mnI (mnI ((p0).size : Int) ((p1).size : Int)) ((p2).size : Int)) 60)))] : List ByteArray)).length c2785)] ∧ St [] w (fun _ => 0) w_ o2779 ∧ Ft (Own (encInt .u8) 5 (.slice A134 (l136).length c135) l136) w_ o2779 279 ∧ Ft (Own encStr 9 (.slice A2780 (([(ByteArray.extract p0 0 (Int.toNat (mnI (mnI (mnI ((p0).size : Int) ((p1).size : Int)) ((p2).size : Int)) 60)))] : List ByteArray)).length c2781) ([(ByteArray.extract p0 0 (Int.toNat (mnI (mnI (mnI ((p0).size : Int) ((p1).size : Int)) ((p2).size : Int)) 60)))] : List ByteArray)) w_ o2779 280 ∧ Ft (Own encStr 9 (.slice A2784 (([(ByteArray.extract p2 0 (Int.toNat (mnI (mnI (mnI ((p0).size : Int) ((p1).size : Int)) ((p2).size : Int)) 60)))] : List ByteArray)).length c2785) ([(ByteArray.extract p2 0 (Int.toNat (mnI (mnI (mnI ((p0).size : Int) ((p1).size : Int)) ((p2).size : Int)) 60)))] : List ByteArray)) w_ o2779 281 ∧ Ft (RdC (encInt .u32) (some ⟨0, 0, none⟩) glob0) w_ o2779 0 ∧ (([(ByteArray.extract p0 0 (Int.toNat (mnI (mnI (mnI ((p0).size : Int) ((p1).size : Int)) ((p2).size : Int)) 60)))] : List ByteArray)).length ≤ c2781 ∧ (([(ByteArray.extract p2 0 (Int.toNat (mnI (mnI (mnI ((p0).size : Int) ((p1).size : Int)) ((p2).size : Int)) 60)))] : List ByteArray)).length ≤ c2785) → G 8 #[true, true, true, true, true, true, true, true, false, true, true, true, false, false, false, true, true, true, true, false, false, false, false] a_ w_ := by
        rintro a w2788 ⟨o2779, A2780, c2781, A2784, c2785, hk, hs, f137, f2782, f2786, fg0, hc2783, hc2787⟩
        refine xd_of hG ?_
        refine xd_each [8, 12] (by kernel_rfl) rfl ⟨?_, ?_, trivial⟩
        · refine xd_one hk rfl rfl ?_
          refine op_call hk ent_8 (vs := [.slice A2780 (([(ByteArray.extract p0 0 (Int.toNat (mnI (mnI (mnI ((p0).size : Int) ((p1).size : Int)) ((p2).size : Int)) 60)))] : List ByteArray)).length c2781]) rfl (sum_Of_calls K A2780 c2781 ([(ByteArray.extract p0 0 (Int.toNat (mnI (mnI (mnI ((p0).size : Int) ((p1).size : Int)) ((p2).size : Int)) 60)))] : List ByteArray) _ o2779 0 fg0 _ (f2782.imp fun _ h_ => Own.rd h_) hc2783   _ hc1962) ?_
          rintro _ w2793 ⟨o2794, rfl, st2795⟩
          replace f137 := f137.st st2795 (by decide)
          replace f2782 := f2782.st st2795 (by decide)
          replace f2786 := f2786.st st2795 (by decide)
          replace fg0 := fg0.st st2795 (by decide)
          replace hs := hs.loc0 st2795 (by decide)
          have hk := hk.put 48 (.int .u32 t1961) rfl
          refine ⟨.inr ⟨f137.now, trivial⟩, ?_⟩
          exact xd_to hG rfl (N2649 _ _ ⟨(fun b_ => (fun l_ => if l_ = 279 then 266 else if l_ = 281 then 267 else l_) (o2794 b_)), A2784, c2785, (by exact Kn.pick (ks := [43, 48, 51, 58]) hk rfl), (hs.relab0 (fun l_ => if l_ = 279 then 266 else if l_ = 281 then 267 else l_) rfl), (f137.relab (fun l_ => if l_ = 279 then 266 else if l_ = 281 then 267 else l_) rfl), (f2786.relab (fun l_ => if l_ = 279 then 266 else if l_ = 281 then 267 else l_) rfl), (fg0.relab (fun l_ => if l_ = 279 then 266 else if l_ = 281 then 267 else l_) rfl), hc2787⟩)
        · refine xd_one hk rfl rfl ?_
          refine op_slice (o := o2779) tab hk (vs := [.string (ByteArray.extract p1 0 (Int.toNat (mnI (mnI (mnI ((p0).size : Int) ((p1).size : Int)) ((p2).size : Int)) 60)))]) (cs := [.string (ByteArray.extract p1 0 (Int.toNat (mnI (mnI (mnI ((p0).size : Int) ((p1).size : Int)) ((p2).size : Int)) 60)))]) rfl rfl rfl rfl rfl rfl rfl rfl rfl 282 fun bx2799 w2796 o2797 st2798 f2800 => ?_
          replace f137 := f137.st st2798 (by decide)
          replace f2782 := f2782.st st2798 (by decide)
          replace f2786 := f2786.st st2798 (by decide)
          replace fg0 := fg0.st st2798 (by decide)
          replace hs := hs.loc0 st2798 (by decide)
          have f2801 : Ft (Own encStr 9 (.slice (some ⟨bx2799, 0, none⟩) (([(ByteArray.extract p1 0 (Int.toNat (mnI (mnI (mnI ((p0).size : Int) ((p1).size : Int)) ((p2).size : Int)) 60)))] : List ByteArray)).length 1) ([(ByteArray.extract p1 0 (Int.toNat (mnI (mnI (mnI ((p0).size : Int) ((p1).size : Int)) ((p2).size : Int)) 60)))] : List ByteArray)) w2796 o2797 282 := f2800.imp fun _ h_ => Own.of_box h_ rfl (by simp)
          have hk := hk.put 52 (.slice (some ⟨bx2799, 0, none⟩) (([(ByteArray.extract p1 0 (Int.toNat (mnI (mnI (mnI ((p0).size : Int) ((p1).size : Int)) ((p2).size : Int)) 60)))] : List ByteArray)).length 1) rfl
          refine ⟨.inr ⟨f137.now, trivial⟩, ?_⟩
          exact xd_to hG rfl (N2741 _ _ ⟨(fun b_ => (fun l_ => if l_ = 279 then 274 else if l_ = 280 then 275 else if l_ = 281 then 277 else if l_ = 282 then 276 else l_) (o2797 b_)), A2780, c2781, (some ⟨bx2799, 0, none⟩), 1, A2784, c2785, (by exact Kn.pick (ks := [43, 47, 52, 58]) hk rfl), (hs.relab0 (fun l_ => if l_ = 279 then 274 else if l_ = 280 then 275 else if l_ = 281 then 277 else if l_ = 282 then 276 else l_) rfl), (f137.relab (fun l_ => if l_ = 279 then 274 else if l_ = 280 then 275 else if l_ = 281 then 277 else if l_ = 282 then 276 else l_) rfl), (f2782.relab (fun l_ => if l_ = 279 then 274 else if l_ = 280 then 275 else if l_ = 281 then 277 else if l_ = 282 then 276 else l_) rfl), (f2801.relab (fun l_ => if l_ = 279 then 274 else if l_ = 280 then 275 else if l_ = 281 then 277 else if l_ = 282 then 276 else l_) rfl), (f2786.relab (fun l_ => if l_ = 279 then 274 else if l_ = 280 then 275 else if l_ = 281 then 277 else if l_ = 282 then 276 else l_) rfl), (fg0.relab (fun l_ => if l_ = 279 then 274 else if l_ = 280 then 275 else if l_ = 281 then 277 else if l_ = 282 then 276 else l_) rfl), hc2783, (Nat.le_refl _), hc2787⟩)
      have N2527 : ∀ (a_ : Act) (w_ : World), (∃ o2521 : Nat → Nat, ∃ A2522 : Option Addr, ∃ c2523 : Nat, Kn 62 a_ [(43, .int .u32 t1946), (47, .slice A2522 (([(ByteArray.extract p0 0 (Int.toNat (mnI (mnI (mnI ((p0).size : Int) ((p1).size : Int)) ((p2).size : Int)) 60)))] : List ByteArray)).length c2523), (51, .string (ByteArray.extract p1 0 (Int.toNat (mnI (mnI (mnI ((p0).size : Int) ((p1).size : Int)) ((p2).size : Int)) 60)))), (57, .string (ByteArray.extract p2 0 (Int.toNat (mnI (mnI (mnI ((p0).size : Int) ((p1).size : Int)) ((p2).size : Int)) 60))))] ∧ St [] w (fun _ => 0) w_ o2521 ∧ Ft (Own (encInt .u8) 5 (.slice A134 (l136).length c135) l136) w_ o2521 253 ∧ Ft (Own encStr 9 (.slice A2522 (([(ByteArray.extract p0 0 (Int.toNat (mnI (mnI (mnI ((p0).size : Int) ((p1).size : Int)) ((p2).size : Int)) 60)))] : List ByteArray)).length c2523) ([(ByteArray.extract p0 0 (Int.toNat (mnI (mnI (mnI ((p0).size : Int) ((p1).size : Int)) ((p2).size : Int)) 60)))] : List ByteArray)) w_ o2521 254 ∧ Ft (RdC (encInt .u32) (some ⟨0, 0, none⟩) glob0) w_ o2521 0 ∧ (([(ByteArray.extract p0 0 (Int.toNat (mnI (mnI (mnI ((p0).size : Int) ((p1).size : Int)) ((p2).size : Int)) 60)))] : List ByteArray)).length ≤ c2523) → G 9 #[true, true, true, true, true, true, true, true, false, true, true, true, false, false, false, true, true, true, false, false, false, false, false] a_ w_ := by
        rintro a w2526 ⟨o2521, A2522, c2523, hk, hs, f137, f2524, fg0, hc2525⟩
        refine xd_of hG ?_
        refine xd_each [8, 12, 18] (by kernel_rfl) rfl ⟨?_, ?_, ?_, trivial⟩
        · refine xd_one hk rfl rfl ?_
          refine op_call hk ent_8 (vs := [.slice A2522 (([(ByteArray.extract p0 0 (Int.toNat (mnI (mnI (mnI ((p0).size : Int) ((p1).size : Int)) ((p2).size : Int)) 60)))] : List ByteArray)).length c2523]) rfl (sum_Of_calls K A2522 c2523 ([(ByteArray.extract p0 0 (Int.toNat (mnI (mnI (mnI ((p0).size : Int) ((p1).size : Int)) ((p2).size : Int)) 60)))] : List ByteArray) _ o2521 0 fg0 _ (f2524.imp fun _ h_ => Own.rd h_) hc2525   _ hc1962) ?_
          rintro _ w2531 ⟨o2532, rfl, st2533⟩
          replace f137 := f137.st st2533 (by decide)
          replace f2524 := f2524.st st2533 (by decide)
          replace fg0 := fg0.st st2533 (by decide)
          replace hs := hs.loc0 st2533 (by decide)
          have hk := hk.put 48 (.int .u32 t1961) rfl
          refine ⟨.inr ⟨f137.now, trivial⟩, ?_⟩
          exact xd_to hG rfl (N2539 _ _ ⟨(fun b_ => (fun l_ => if l_ = 253 then 255 else l_) (o2532 b_)), (by exact Kn.pick (ks := [43, 48, 51, 57]) hk rfl), (hs.relab0 (fun l_ => if l_ = 253 then 255 else l_) rfl), (f137.relab (fun l_ => if l_ = 253 then 255 else l_) rfl), (fg0.relab (fun l_ => if l_ = 253 then 255 else l_) rfl)⟩)
        · refine xd_one hk rfl rfl ?_
          refine op_slice (o := o2521) tab hk (vs := [.string (ByteArray.extract p1 0 (Int.toNat (mnI (mnI (mnI ((p0).size : Int) ((p1).size : Int)) ((p2).size : Int)) 60)))]) (cs := [.string (ByteArray.extract p1 0 (Int.toNat (mnI (mnI (mnI ((p0).size : Int) ((p1).size : Int)) ((p2).size : Int)) 60)))]) rfl rfl rfl rfl rfl rfl rfl rfl rfl 269 fun bx2671 w2668 o2669 st2670 f2672 => ?_
          replace f137 := f137.st st2670 (by decide)
          replace f2524 := f2524.st st2670 (by decide)
          replace fg0 := fg0.st st2670 (by decide)
          replace hs := hs.loc0 st2670 (by decide)
          have f2673 : Ft (Own encStr 9 (.slice (some ⟨bx2671, 0, none⟩) (([(ByteArray.extract p1 0 (Int.toNat (mnI (mnI (mnI ((p0).size : Int) ((p1).size : Int)) ((p2).size : Int)) 60)))] : List ByteArray)).length 1) ([(ByteArray.extract p1 0 (Int.toNat (mnI (mnI (mnI ((p0).size : Int) ((p1).size : Int)) ((p2).size : Int)) 60)))] : List ByteArray)) w2668 o2669 269 := f2672.imp fun _ h_ => Own.of_box h_ rfl (by simp)
          have hk := hk.put 52 (.slice (some ⟨bx2671, 0, none⟩) (([(ByteArray.extract p1 0 (Int.toNat (mnI (mnI (mnI ((p0).size : Int) ((p1).size : Int)) ((p2).size : Int)) 60)))] : List ByteArray)).length 1) rfl
          refine ⟨.inr ⟨f137.now, trivial⟩, ?_⟩
          exact xd_to hG rfl (N2697 _ _ ⟨(fun b_ => (fun l_ => if l_ = 253 then 270 else if l_ = 254 then 271 else if l_ = 269 then 272 else l_) (o2669 b_)), A2522, c2523, (some ⟨bx2671, 0, none⟩), 1, (by exact Kn.pick (ks := [43, 47, 52, 57]) hk rfl), (hs.relab0 (fun l_ => if l_ = 253 then 270 else if l_ = 254 then 271 else if l_ = 269 then 272 else l_) rfl), (f137.relab (fun l_ => if l_ = 253 then 270 else if l_ = 254 then 271 else if l_ = 269 then 272 else l_) rfl), (f2524.relab (fun l_ => if l_ = 253 then 270 else if l_ = 254 then 271 else if l_ = 269 then 272 else l_) rfl), (f2673.relab (fun l_ => if l_ = 253 then 270 else if l_ = 254 then 271 else if l_ = 269 then 272 else l_) rfl), (fg0.relab (fun l_ => if l_ = 253 then 270 else if l_ = 254 then 271 else if l_ = 269 then 272 else l_) rfl), hc2525, (Nat.le_refl _)⟩)
        · refine xd_one hk rfl rfl ?_
          refine op_slice (o := o2521) tab hk (vs := [.string (ByteArray.extract p2 0 (Int.toNat (mnI (mnI (mnI ((p0).size : Int) ((p1).size : Int)) ((p2).size : Int)) 60)))]) (cs := [.string (ByteArray.extract p2 0 (Int.toNat (mnI (mnI (mnI ((p0).size : Int) ((p1).size : Int)) ((p2).size : Int)) 60)))]) rfl rfl rfl rfl rfl rfl rfl rfl rfl 278 fun bx2763 w2760 o2761 st2762 f2764 => ?_
          replace f137 := f137.st st2762 (by decide)
          replace f2524 := f2524.st st2762 (by decide)
          replace fg0 := fg0.st st2762 (by decide)
          replace hs := hs.loc0 st2762 (by decide)
          have f2765 : Ft (Own encStr 9 (.slice (some ⟨bx2763, 0, none⟩) (([(ByteArray.extract p2 0 (Int.toNat (mnI (mnI (mnI ((p0).size : Int) ((p1).size : Int)) ((p2).size : Int)) 60)))] : List ByteArray)).length 1) ([(ByteArray.extract p2 0 (Int.toNat (mnI (mnI (mnI ((p0).size : Int) ((p1).size : Int)) ((p2).size : Int)) 60)))] : List ByteArray)) w2760 o2761 278 := f2764.imp fun _ h_ => Own.of_box h_ rfl (by simp)
          have hk := hk.put 58 (.slice (some ⟨bx2763, 0, none⟩) (([(ByteArray.extract p2 0 (Int.toNat (mnI (mnI (mnI ((p0).size : Int) ((p1).size : Int)) ((p2).size : Int)) 60)))] : List ByteArray)).length 1) rfl
          refine ⟨.inr ⟨f137.now, trivial⟩, ?_⟩
          exact xd_to hG rfl (N2789 _ _ ⟨(fun b_ => (fun l_ => if l_ = 253 then 279 else if l_ = 254 then 280 else if l_ = 278 then 281 else l_) (o2761 b_)), A2522, c2523, (some ⟨bx2763, 0, none⟩), 1, (by exact Kn.pick (ks := [43, 47, 51, 58]) hk rfl), (hs.relab0 (fun l_ => if l_ = 253 then 279 else if l_ = 254 then 280 else if l_ = 278 then 281 else l_) rfl), (f137.relab (fun l_ => if l_ = 253 then 279 else if l_ = 254 then 280 else if l_ = 278 then 281 else l_) rfl), (f2524.relab (fun l_ => if l_ = 253 then 279 else if l_ = 254 then 280 else if l_ = 278 then 281 else l_) rfl), (f2765.relab (fun l_ => if l_ = 253 then 279 else if l_ = 254 then 280 else if l_ = 278 then 281 else l_) rfl), (fg0.relab (fun l_ => if l_ = 253 then 279 else if l_ = 254 then 280 else if l_ = 278 then 281 else l_) rfl), hc2525, (Nat.le_refl _)⟩)
      have N2859 : ∀ (a_ : Act) (w_ : World), (∃ o2849 : Nat → Nat, ∃ A2850 : Option Addr, ∃ c2851 : Nat, ∃ A2854 : Option Addr, ∃ c2855 : Nat, Kn 62 a_ [(43, .int .u32 t1946), (46, .string (ByteArray.extract p0 0 (Int.toNat (mnI (mnI (mnI ((p0).size : Int) ((p1).size : Int)) ((p2).size : Int)) 60)))), (52, .slice A2850 (([(ByteArray.extract p1 0 (Int.toNat (mnI (mnI (mnI ((p0).size : Int) ((p1).size : Int)) ((p2).size : Int)) 60)))] : List ByteArray)).length c2851), (58, .slice A2854 (([(ByteArray.extract p2 0 (Int.toNat (mnI (mnI (mnI ((p0).size : Int) ((p1).size : Int)) ((p2).size : Int)) 60)))] : List ByteArray)).length c2855)] ∧ St [] w (fun _ => 0) w_ o2849 ∧ Ft (Own (encInt .u8) 5 (.slice A134 (l136).length c135) l136) w_ o2849 288 ∧ Ft (Own encStr 9 (.slice A2850 (([(ByteArray.extract p1 0 (Int.toNat (mnI (mnI (mnI ((p0).size : Int) ((p1).size : Int)) ((p2).size : Int)) 60)))] : List ByteArray)).length c2851) ([(ByteArray.extract p1 0 (Int.toNat (mnI (mnI (mnI ((p0).size : Int) ((p1).size : Int)) ((p2).size : Int)) 60)))] : List ByteArray)) w_ o2849 289 ∧ Ft (Own encStr 9 (.slice A2854 (([(ByteArray.extract p2 0 (Int.toNat (mnI (mnI (mnI ((p0).size : Int) ((p1).size : Int)) ((p2).size : Int)) 60)))] : List ByteArray)).length c2855) ([(ByteArray.extract p2 0 (Int.toNat (mnI (mnI (mnI ((p0).size : Int) ((p1).size : Int)) ((p2).size : Int)) 60)))] : List ByteArray)) w_ o2849 290 ∧ Ft (RdC (encInt .u32) (some ⟨0, 0, none⟩) glob0) w_ o2849 0 ∧ (([(ByteArray.extract p1 0 (Int.toNat (mnI (mnI (mnI ((p0).size : Int) ((p1).size : Int)) ((p2).size : Int)) 60)))] : List ByteArray)).length ≤ c2851 ∧ (([(ByteArray.extract p2 0 (Int.toNat (mnI (mnI (mnI ((p0).size : Int) ((p1).size : Int)) ((p2).size : Int)) 60)))] : List ByteArray)).length ≤ c2855) → G 8 #[true, true, true, true, true, true, true, false, false, true, true, true, true, false, false, true, true, true, true, false, false, false, false] a_ w_ := by
        rintro a w2858 ⟨o2849, A2850, c2851, A2854, c2855, hk, hs, f137, f2852, f2856, fg0, hc2853, hc2857⟩
        refine xd_of hG ?_
        refine xd_op hk (i := 7) (by kernel_rfl) rfl rfl ?_
        refine op_slice (o := o2849) tab hk (vs := [.string (ByteArray.extract p0 0 (Int.toNat (mnI (mnI (mnI ((p0).size : Int) ((p1).size : Int)) ((p2).size : Int)) 60)))]) (cs := [.string (ByteArray.extract p0 0 (Int.toNat (mnI (mnI (mnI ((p0).size : Int) ((p1).size : Int)) ((p2).size : Int)) 60)))]) rfl rfl rfl rfl rfl rfl rfl rfl rfl 291 fun bx2863 w2860 o2861 st2862 f2864 => ?_
        replace f137 := f137.st st2862 (by decide)
        replace f2852 := f2852.st st2862 (by decide)
        replace f2856 := f2856.st st2862 (by decide)
        replace fg0 := fg0.st st2862 (by decide)
        replace hs := hs.loc0 st2862 (by decide)
        have f2865 : Ft (Own encStr 9 (.slice (some ⟨bx2863, 0, none⟩) (([(ByteArray.extract p0 0 (Int.toNat (mnI (mnI (mnI ((p0).size : Int) ((p1).size : Int)) ((p2).size : Int)) 60)))] : List ByteArray)).length 1) ([(ByteArray.extract p0 0 (Int.toNat (mnI (mnI (mnI ((p0).size : Int) ((p1).size : Int)) ((p2).size : Int)) 60)))] : List ByteArray)) w2860 o2861 291 := f2864.imp fun _ h_ => Own.of_box h_ rfl (by simp)
        have hk := hk.put 47 (.slice (some ⟨bx2863, 0, none⟩) (([(ByteArray.extract p0 0 (Int.toNat (mnI (mnI (mnI ((p0).size : Int) ((p1).size : Int)) ((p2).size : Int)) 60)))] : List ByteArray)).length 1) rfl
        refine ⟨.inr ⟨f137.now, trivial⟩, ?_⟩
        refine xd_op hk (i := 8) (by kernel_rfl) rfl rfl ?_
        refine op_call hk ent_8 (vs := [.slice (some ⟨bx2863, 0, none⟩) (([(ByteArray.extract p0 0 (Int.toNat (mnI (mnI (mnI ((p0).size : Int) ((p1).size : Int)) ((p2).size : Int)) 60)))] : List ByteArray)).length 1]) rfl (sum_Of_calls K (some ⟨bx2863, 0, none⟩) 1 ([(ByteArray.extract p0 0 (Int.toNat (mnI (mnI (mnI ((p0).size : Int) ((p1).size : Int)) ((p2).size : Int)) 60)))] : List ByteArray) _ o2861 0 fg0 _ (f2865.imp fun _ h_ => Own.rd h_) (Nat.le_refl _)   _ hc1962) ?_
        rintro _ w2869 ⟨o2870, rfl, st2871⟩
        replace f137 := f137.st st2871 (by decide)
        replace f2852 := f2852.st st2871 (by decide)
        replace f2856 := f2856.st st2871 (by decide)
        replace f2865 := f2865.st st2871 (by decide)
        replace fg0 := fg0.st st2871 (by decide)
        replace hs := hs.loc0 st2871 (by decide)
        have hk := hk.put 48 (.int .u32 t1961) rfl
        refine ⟨.inr ⟨f137.now, trivial⟩, ?_⟩
        refine xd_op hk (i := 13) (by kernel_rfl) rfl rfl ?_
        refine op_call hk ent_8 (vs := [.slice A2850 (([(ByteArray.extract p1 0 (Int.toNat (mnI (mnI (mnI ((p0).size : Int) ((p1).size : Int)) ((p2).size : Int)) 60)))] : List ByteArray)).length c2851]) rfl (sum_Of_calls K A2850 c2851 ([(ByteArray.extract p1 0 (Int.toNat (mnI (mnI (mnI ((p0).size : Int) ((p1).size : Int)) ((p2).size : Int)) 60)))] : List ByteArray) _ o2870 0 fg0 _ (f2852.imp fun _ h_ => Own.rd h_) hc2853   _ hc1977) ?_
        rintro _ w2875 ⟨o2876, rfl, st2877⟩
        replace f137 := f137.st st2877 (by decide)
        replace f2852 := f2852.st st2877 (by decide)
        replace f2856 := f2856.st st2877 (by decide)
        replace f2865 := f2865.st st2877 (by decide)
        replace fg0 := fg0.st st2877 (by decide)
        replace hs := hs.loc0 st2877 (by decide)
        have hk := hk.put 53 (.int .u32 t1976) rfl
        refine ⟨.inr ⟨f137.now, trivial⟩, ?_⟩
        refine xd_take tab hk (k := 4) (is := [14]) (ls' := #[true, true, true, true, true, true, true, true, true, true, true, true, true, true, true, true, true, true, true, false, false, false, false]) (lv := []) (ks := [43, 54, 58]) (e' := [(43, .int .u32 t1946), (54, .int .u32 (bits .xor .u32 t1961 t1976)), (58, .slice A2854 (([(ByteArray.extract p2 0 (Int.toNat (mnI (mnI (mnI ((p0).size : Int) ((p1).size : Int)) ((p2).size : Int)) 60)))] : List ByteArray)).length c2855)]) (by kernel_rfl) rfl rfl (by kernel_rfl) (np_then (np_then np_body)) ⟨f137.now, trivial⟩ (fun W_ hS => trivial) fun a hk => ?_
        refine xd_op hk (i := 19) (by kernel_rfl) rfl rfl ?_
        refine op_call hk ent_8 (vs := [.slice A2854 (([(ByteArray.extract p2 0 (Int.toNat (mnI (mnI (mnI ((p0).size : Int) ((p1).size : Int)) ((p2).size : Int)) 60)))] : List ByteArray)).length c2855]) rfl (sum_Of_calls K A2854 c2855 ([(ByteArray.extract p2 0 (Int.toNat (mnI (mnI (mnI ((p0).size : Int) ((p1).size : Int)) ((p2).size : Int)) 60)))] : List ByteArray) _ o2876 0 fg0 _ (f2856.imp fun _ h_ => Own.rd h_) hc2857   _ hc1992) ?_
        rintro _ w2881 ⟨o2882, rfl, st2883⟩
        replace f137 := f137.st st2883 (by decide)
        replace f2852 := f2852.st st2883 (by decide)
        replace f2856 := f2856.st st2883 (by decide)
        replace f2865 := f2865.st st2883 (by decide)
        replace fg0 := fg0.st st2883 (by decide)
        replace hs := hs.loc0 st2883 (by decide)
        have hk := hk.put 59 (.int .u32 t1991) rfl
        refine ⟨.inr ⟨f137.now, trivial⟩, ?_⟩
        refine xd_take tab hk (k := 0) (is := [20, 21, 22]) (ls' := #[true, true, true, true, true, true, true, true, true, true, true, true, true, true, true, true, true, true, true, true, true, true, true]) (lv := []) (ks := [6]) (e' := [(6, .bool (t1946 == (bits .xor .u32 (bits .xor .u32 t1961 t1976) t1991)))]) (by kernel_rfl) rfl rfl (by kernel_rfl) (np_then (np_then np_body)) ⟨f137.now, trivial⟩ (fun W_ hS => trivial) fun a hk => ?_
        refine xd_done (by kernel_rfl) ?_
        refine then_n ?_
        exact ⟨o2882, (t1946 == (bits .xor .u32 (bits .xor .u32 t1961 t1976) t1991)), (by exact Kn.pick (ks := [6]) hk rfl), hs, fg0, H⟩
      have N2823 : ∀ (a_ : Act) (w_ : World), (∃ o2817 : Nat → Nat, ∃ A2818 : Option Addr, ∃ c2819 : Nat, Kn 62 a_ [(43, .int .u32 t1946), (46, .string (ByteArray.extract p0 0 (Int.toNat (mnI (mnI (mnI ((p0).size : Int) ((p1).size : Int)) ((p2).size : Int)) 60)))), (52, .slice A2818 (([(ByteArray.extract p1 0 (Int.toNat (mnI (mnI (mnI ((p0).size : Int) ((p1).size : Int)) ((p2).size : Int)) 60)))] : List ByteArray)).length c2819), (57, .string (ByteArray.extract p2 0 (Int.toNat (mnI (mnI (mnI ((p0).size : Int) ((p1).size : Int)) ((p2).size : Int)) 60))))] ∧ St [] w (fun _ => 0) w_ o2817 ∧ Ft (Own (encInt .u8) 5 (.slice A134 (l136).length c135) l136) w_ o2817 284 ∧ Ft (Own encStr 9 (.slice A2818 (([(ByteArray.extract p1 0 (Int.toNat (mnI (mnI (mnI ((p0).size : Int) ((p1).size : Int)) ((p2).size : Int)) 60)))] : List ByteArray)).length c2819) ([(ByteArray.extract p1 0 (Int.toNat (mnI (mnI (mnI ((p0).size : Int) ((p1).size : Int)) ((p2).size : Int)) 60)))] : List ByteArray)) w_ o2817 285 ∧ Ft (RdC (encInt .u32) (some ⟨0, 0, none⟩) glob0) w_ o2817 0 ∧ (([(ByteArray.extract p1 0 (Int.toNat (mnI (mnI (mnI ((p0).size : Int) ((p1).size : Int)) ((p2).size : Int)) 60)))] : List ByteArray)).length ≤ c2819) → G 9 #[true, true, true, true, true, true, true, false, false, true, true, true, true, false, false, true, true, true, false, false, false, false, false] a_ w_ := by
        rintro a w2822 ⟨o2817, A2818, c2819, hk, hs, f137, f2820, fg0, hc2821⟩
        refine xd_of hG ?_
        refine xd_each [7, 18] (by kernel_rfl) rfl ⟨?_, ?_, trivial⟩
        · refine xd_one hk rfl rfl ?_
          refine op_slice (o := o2817) tab hk (vs := [.string (ByteArray.extract p0 0 (Int.toNat (mnI (mnI (mnI ((p0).size : Int) ((p1).size : Int)) ((p2).size : Int)) 60)))]) (cs := [.string (ByteArray.extract p0 0 (Int.toNat (mnI (mnI (mnI ((p0).size : Int) ((p1).size : Int)) ((p2).size : Int)) 60)))]) rfl rfl rfl rfl rfl rfl rfl rfl rfl 286 fun bx2827 w2824 o2825 st2826 f2828 => ?_
          replace f137 := f137.st st2826 (by decide)
          replace f2820 := f2820.st st2826 (by decide)
          replace fg0 := fg0.st st2826 (by decide)
          replace hs := hs.loc0 st2826 (by decide)
          have f2829 : Ft (Own encStr 9 (.slice (some ⟨bx2827, 0, none⟩) (([(ByteArray.extract p0 0 (Int.toNat (mnI (mnI (mnI ((p0).size : Int) ((p1).size : Int)) ((p2).size : Int)) 60)))] : List ByteArray)).length 1) ([(ByteArray.extract p0 0 (Int.toNat (mnI (mnI (mnI ((p0).size : Int) ((p1).size : Int)) ((p2).size : Int)) 60)))] : List ByteArray)) w2824 o2825 286 := f2828.imp fun _ h_ => Own.of_box h_ rfl (by simp)
          have hk := hk.put 47 (.slice (some ⟨bx2827, 0, none⟩) (([(ByteArray.extract p0 0 (Int.toNat (mnI (mnI (mnI ((p0).size : Int) ((p1).size : Int)) ((p2).size : Int)) 60)))] : List ByteArray)).length 1) rfl
          refine ⟨.inr ⟨f137.now, trivial⟩, ?_⟩
          exact xd_to hG rfl (N2697 _ _ ⟨(fun b_ => (fun l_ => if l_ = 284 then 270 else if l_ = 285 then 272 else if l_ = 286 then 271 else l_) (o2825 b_)), (some ⟨bx2827, 0, none⟩), 1, A2818, c2819, (by exact Kn.pick (ks := [43, 47, 52, 57]) hk rfl), (hs.relab0 (fun l_ => if l_ = 284 then 270 else if l_ = 285 then 272 else if l_ = 286 then 271 else l_) rfl), (f137.relab (fun l_ => if l_ = 284 then 270 else if l_ = 285 then 272 else if l_ = 286 then 271 else l_) rfl), (f2829.relab (fun l_ => if l_ = 284 then 270 else if l_ = 285 then 272 else if l_ = 286 then 271 else l_) rfl), (f2820.relab (fun l_ => if l_ = 284 then 270 else if l_ = 285 then 272 else if l_ = 286 then 271 else l_) rfl), (fg0.relab (fun l_ => if l_ = 284 then 270 else if l_ = 285 then 272 else if l_ = 286 then 271 else l_) rfl), (Nat.le_refl _), hc2821⟩)
        · refine xd_one hk rfl rfl ?_
          refine op_slice (o := o2817) tab hk (vs := [.string (ByteArray.extract p2 0 (Int.toNat (mnI (mnI (mnI ((p0).size : Int) ((p1).size : Int)) ((p2).size : Int)) 60)))]) (cs := [.string (ByteArray.extract p2 0 (Int.toNat (mnI (mnI (mnI ((p0).size : Int) ((p1).size : Int)) ((p2).size : Int)) 60)))]) rfl rfl rfl rfl rfl rfl rfl rfl rfl 287 fun bx2833 w2830 o2831 st2832 f2834 => ?_
          replace f137 := f137.st st2832 (by decide)
          replace f2820 := f2820.st st2832 (by decide)
          replace fg0 := fg0.st st2832 (by decide)
          replace hs := hs.loc0 st2832 (by decide)
          have f2835 : Ft (Own encStr 9 (.slice (some ⟨bx2833, 0, none⟩) (([(ByteArray.extract p2 0 (Int.toNat (mnI (mnI (mnI ((p0).size : Int) ((p1).size : Int)) ((p2).size : Int)) 60)))] : List ByteArray)).length 1) ([(ByteArray.extract p2 0 (Int.toNat (mnI (mnI (mnI ((p0).size : Int) ((p1).size : Int)) ((p2).size : Int)) 60)))] : List ByteArray)) w2830 o2831 287 := f2834.imp fun _ h_ => Own.of_box h_ rfl (by simp)
          have hk := hk.put 58 (.slice (some ⟨bx2833, 0, none⟩) (([(ByteArray.extract p2 0 (Int.toNat (mnI (mnI (mnI ((p0).size : Int) ((p1).size : Int)) ((p2).size : Int)) 60)))] : List ByteArray)).length 1) rfl
          refine ⟨.inr ⟨f137.now, trivial⟩, ?_⟩
          exact xd_to hG rfl (N2859 _ _ ⟨(fun b_ => (fun l_ => if l_ = 284 then 288 else if l_ = 285 then 289 else if l_ = 287 then 290 else l_) (o2831 b_)), A2818, c2819, (some ⟨bx2833, 0, none⟩), 1, (by exact Kn.pick (ks := [43, 46, 52, 58]) hk rfl), (hs.relab0 (fun l_ => if l_ = 284 then 288 else if l_ = 285 then 289 else if l_ = 287 then 290 else l_) rfl), (f137.relab (fun l_ => if l_ = 284 then 288 else if l_ = 285 then 289 else if l_ = 287 then 290 else l_) rfl), (f2820.relab (fun l_ => if l_ = 284 then 288 else if l_ = 285 then 289 else if l_ = 287 then 290 else l_) rfl), (f2835.relab (fun l_ => if l_ = 284 then 288 else if l_ = 285 then 289 else if l_ = 287 then 290 else l_) rfl), (fg0.relab (fun l_ => if l_ = 284 then 288 else if l_ = 285 then 289 else if l_ = 287 then 290 else l_) rfl), hc2821, (Nat.le_refl _)⟩)
      have N2905 : ∀ (a_ : Act) (w_ : World), (∃ o2899 : Nat → Nat, ∃ A2900 : Option Addr, ∃ c2901 : Nat, Kn 62 a_ [(43, .int .u32 t1946), (46, .string (ByteArray.extract p0 0 (Int.toNat (mnI (mnI (mnI ((p0).size : Int) ((p1).size : Int)) ((p2).size : Int)) 60)))), (51, .string (ByteArray.extract p1 0 (Int.toNat (mnI (mnI (mnI ((p0).size : Int) ((p1).size : Int)) ((p2).size : Int)) 60)))), (58, .slice A2900 (([(ByteArray.extract p2 0 (Int.toNat (mnI (mnI (mnI ((p0).size : Int) ((p1).size : Int)) ((p2).size : Int)) 60)))] : List ByteArray)).length c2901)] ∧ St [] w (fun _ => 0) w_ o2899 ∧ Ft (Own (encInt .u8) 5 (.slice A134 (l136).length c135) l136) w_ o2899 293 ∧ Ft (Own encStr 9 (.slice A2900 (([(ByteArray.extract p2 0 (Int.toNat (mnI (mnI (mnI ((p0).size : Int) ((p1).size : Int)) ((p2).size : Int)) 60)))] : List ByteArray)).length c2901) ([(ByteArray.extract p2 0 (Int.toNat (mnI (mnI (mnI ((p0).size : Int) ((p1).size : Int)) ((p2).size : Int)) 60)))] : List ByteArray)) w_ o2899 294 ∧ Ft (RdC (encInt .u32) (some ⟨0, 0, none⟩) glob0) w_ o2899 0 ∧ (([(ByteArray.extract p2 0 (Int.toNat (mnI (mnI (mnI ((p0).size : Int) ((p1).size : Int)) ((p2).size : Int)) 60)))] : List ByteArray)).length ≤ c2901) → G 9 #[true, true, true, true, true, true, true, false, false, true, true, true, false, false, false, true, true, true, true, false, false, false, false] a_ w_ := by
        rintro a w2904 ⟨o2899, A2900, c2901, hk, hs, f137, f2902, fg0, hc2903⟩
        refine xd_of hG ?_
        refine xd_each [7, 12] (by kernel_rfl) rfl ⟨?_, ?_, trivial⟩
        · refine xd_one hk rfl rfl ?_
          refine op_slice (o := o2899) tab hk (vs := [.string (ByteArray.extract p0 0 (Int.toNat (mnI (mnI (mnI ((p0).size : Int) ((p1).size : Int)) ((p2).size : Int)) 60)))]) (cs := [.string (ByteArray.extract p0 0 (Int.toNat (mnI (mnI (mnI ((p0).size : Int) ((p1).size : Int)) ((p2).size : Int)) 60)))]) rfl rfl rfl rfl rfl rfl rfl rfl rfl 295 fun bx2909 w2906 o2907 st2908 f2910 => ?_
          replace f137 := f137.st st2908 (by decide)
          replace f2902 := f2902.st st2908 (by decide)
          replace fg0 := fg0.st st2908 (by decide)
          replace hs := hs.loc0 st2908 (by decide)
          have f2911 : Ft (Own encStr 9 (.slice (some ⟨bx2909, 0, none⟩) (([(ByteArray.extract p0 0 (Int.toNat (mnI (mnI (mnI ((p0).size : Int) ((p1).size : Int)) ((p2).size : Int)) 60)))] : List ByteArray)).length 1) ([(ByteArray.extract p0 0 (Int.toNat (mnI (mnI (mnI ((p0).size : Int) ((p1).size : Int)) ((p2).size : Int)) 60)))] : List ByteArray)) w2906 o2907 295 := f2910.imp fun _ h_ => Own.of_box h_ rfl (by simp)
          have hk := hk.put 47 (.slice (some ⟨bx2909, 0, none⟩) (([(ByteArray.extract p0 0 (Int.toNat (mnI (mnI (mnI ((p0).size : Int) ((p1).size : Int)) ((p2).size : Int)) 60)))] : List ByteArray)).length 1) rfl
          refine ⟨.inr ⟨f137.now, trivial⟩, ?_⟩
          exact xd_to hG rfl (N2789 _ _ ⟨(fun b_ => (fun l_ => if l_ = 293 then 279 else if l_ = 294 then 281 else if l_ = 295 then 280 else l_) (o2907 b_)), (some ⟨bx2909, 0, none⟩), 1, A2900, c2901, (by exact Kn.pick (ks := [43, 47, 51, 58]) hk rfl), (hs.relab0 (fun l_ => if l_ = 293 then 279 else if l_ = 294 then 281 else if l_ = 295 then 280 else l_) rfl), (f137.relab (fun l_ => if l_ = 293 then 279 else if l_ = 294 then 281 else if l_ = 295 then 280 else l_) rfl), (f2911.relab (fun l_ => if l_ = 293 then 279 else if l_ = 294 then 281 else if l_ = 295 then 280 else l_) rfl), (f2902.relab (fun l_ => if l_ = 293 then 279 else if l_ = 294 then 281 else if l_ = 295 then 280 else l_) rfl), (fg0.relab (fun l_ => if l_ = 293 then 279 else if l_ = 294 then 281 else if l_ = 295 then 280 else l_) rfl), (Nat.le_refl _), hc2903⟩)
        · refine xd_one hk rfl rfl ?_
          refine op_slice (o := o2899) tab hk (vs := [.string (ByteArray.extract p1 0 (Int.toNat (mnI (mnI (mnI ((p0).size : Int) ((p1).size : Int)) ((p2).size : Int)) 60)))]) (cs := [.string (ByteArray.extract p1 0 (Int.toNat (mnI (mnI (mnI ((p0).size : Int) ((p1).size : Int)) ((p2).size : Int)) 60)))]) rfl rfl rfl rfl rfl rfl rfl rfl rfl 296 fun bx2915 w2912 o2913 st2914 f2916 => ?_
          replace f137 := f137.st st2914 (by decide)
          replace f2902 := f2902.st st2914 (by decide)
          replace fg0 := fg0.st st2914 (by decide)
          replace hs := hs.loc0 st2914 (by decide)
          have f2917 : Ft (Own encStr 9 (.slice (some ⟨bx2915, 0, none⟩) (([(ByteArray.extract p1 0 (Int.toNat (mnI (mnI (mnI ((p0).size : Int) ((p1).size : Int)) ((p2).size : Int)) 60)))] : List ByteArray)).length 1) ([(ByteArray.extract p1 0 (Int.toNat (mnI (mnI (mnI ((p0).size : Int) ((p1).size : Int)) ((p2).size : Int)) 60)))] : List ByteArray)) w2912 o2913 296 := f2916.imp fun _ h_ => Own.of_box h_ rfl (by simp)
          have hk := hk.put 52 (.slice (some ⟨bx2915, 0, none⟩) (([(ByteArray.extract p1 0 (Int.toNat (mnI (mnI (mnI ((p0).size : Int) ((p1).size : Int)) ((p2).size : Int)) 60)))] : List ByteArray)).length 1) rfl
          refine ⟨.inr ⟨f137.now, trivial⟩, ?_⟩
          exact xd_to hG rfl (N2859 _ _ ⟨(fun b_ => (fun l_ => if l_ = 293 then 288 else if l_ = 294 then 290 else if l_ = 296 then 289 else l_) (o2913 b_)), (some ⟨bx2915, 0, none⟩), 1, A2900, c2901, (by exact Kn.pick (ks := [43, 46, 52, 58]) hk rfl), (hs.relab0 (fun l_ => if l_ = 293 then 288 else if l_ = 294 then 290 else if l_ = 296 then 289 else l_) rfl), (f137.relab (fun l_ => if l_ = 293 then 288 else if l_ = 294 then 290 else if l_ = 296 then 289 else l_) rfl), (f2917.relab (fun l_ => if l_ = 293 then 288 else if l_ = 294 then 290 else if l_ = 296 then 289 else l_) rfl), (f2902.relab (fun l_ => if l_ = 293 then 288 else if l_ = 294 then 290 else if l_ = 296 then 289 else l_) rfl), (fg0.relab (fun l_ => if l_ = 293 then 288 else if l_ = 294 then 290 else if l_ = 296 then 289 else l_) rfl), (Nat.le_refl _), hc2903⟩)
      have N2505 : ∀ (a_ : Act) (w_ : World), (∃ o2503 : Nat → Nat, Kn 62 a_ [(43, .int .u32 t1946), (46, .string (ByteArray.extract p0 0 (Int.toNat (mnI (mnI (mnI ((p0).size : Int) ((p1).size : Int)) ((p2).size : Int)) 60)))), (51, .string (ByteArray.extract p1 0 (Int.toNat (mnI (mnI (mnI ((p0).size : Int) ((p1).size : Int)) ((p2).size : Int)) 60)))), (57, .string (ByteArray.extract p2 0 (Int.toNat (mnI (mnI (mnI ((p0).size : Int) ((p1).size : Int)) ((p2).size : Int)) 60))))] ∧ St [] w (fun _ => 0) w_ o2503 ∧ Ft (Own (encInt .u8) 5 (.slice A134 (l136).length c135) l136) w_ o2503 251 ∧ Ft (RdC (encInt .u32) (some ⟨0, 0, none⟩) glob0) w_ o2503 0) → G 10 #[true, true, true, true, true, true, true, false, false, true, true, true, false, false, false, true, true, true, false, false, false, false, false] a_ w_ := by
        rintro a w2504 ⟨o2503, hk, hs, f137, fg0⟩
        refine xd_of hG ?_
        refine xd_each [7, 12, 18] (by kernel_rfl) rfl ⟨?_, ?_, ?_, trivial⟩
        · refine xd_one hk rfl rfl ?_
          refine op_slice (o := o2503) tab hk (vs := [.string (ByteArray.extract p0 0 (Int.toNat (mnI (mnI (mnI ((p0).size : Int) ((p1).size : Int)) ((p2).size : Int)) 60)))]) (cs := [.string (ByteArray.extract p0 0 (Int.toNat (mnI (mnI (mnI ((p0).size : Int) ((p1).size : Int)) ((p2).size : Int)) 60)))]) rfl rfl rfl rfl rfl rfl rfl rfl rfl 252 fun bx2509 w2506 o2507 st2508 f2510 => ?_
          replace f137 := f137.st st2508 (by decide)
          replace fg0 := fg0.st st2508 (by decide)
          replace hs := hs.loc0 st2508 (by decide)
          have f2511 : Ft (Own encStr 9 (.slice (some ⟨bx2509, 0, none⟩) (([(ByteArray.extract p0 0 (Int.toNat (mnI (mnI (mnI ((p0).size : Int) ((p1).size : Int)) ((p2).size : Int)) 60)))] : List ByteArray)).length 1) ([(ByteArray.extract p0 0 (Int.toNat (mnI (mnI (mnI ((p0).size : Int) ((p1).size : Int)) ((p2).size : Int)) 60)))] : List ByteArray)) w2506 o2507 252 := f2510.imp fun _ h_ => Own.of_box h_ rfl (by simp)
          have hk := hk.put 47 (.slice (some ⟨bx2509, 0, none⟩) (([(ByteArray.extract p0 0 (Int.toNat (mnI (mnI (mnI ((p0).size : Int) ((p1).size : Int)) ((p2).size : Int)) 60)))] : List ByteArray)).length 1) rfl
          refine ⟨.inr ⟨f137.now, trivial⟩, ?_⟩
          exact xd_to hG rfl (N2527 _ _ ⟨(fun b_ => (fun l_ => if l_ = 251 then 253 else if l_ = 252 then 254 else l_) (o2507 b_)), (some ⟨bx2509, 0, none⟩), 1, (by exact Kn.pick (ks := [43, 47, 51, 57]) hk rfl), (hs.relab0 (fun l_ => if l_ = 251 then 253 else if l_ = 252 then 254 else l_) rfl), (f137.relab (fun l_ => if l_ = 251 then 253 else if l_ = 252 then 254 else l_) rfl), (f2511.relab (fun l_ => if l_ = 251 then 253 else if l_ = 252 then 254 else l_) rfl), (fg0.relab (fun l_ => if l_ = 251 then 253 else if l_ = 252 then 254 else l_) rfl), (Nat.le_refl _)⟩)
        · refine xd_one hk rfl rfl ?_
          refine op_slice (o := o2503) tab hk (vs := [.string (ByteArray.extract p1 0 (Int.toNat (mnI (mnI (mnI ((p0).size : Int) ((p1).size : Int)) ((p2).size : Int)) 60)))]) (cs := [.string (ByteArray.extract p1 0 (Int.toNat (mnI (mnI (mnI ((p0).size : Int) ((p1).size : Int)) ((p2).size : Int)) 60)))]) rfl rfl rfl rfl rfl rfl rfl rfl rfl 283 fun bx2805 w2802 o2803 st2804 f2806 => ?_
          replace f137 := f137.st st2804 (by decide)
          replace fg0 := fg0.st st2804 (by decide)
          replace hs := hs.loc0 st2804 (by decide)
          have f2807 : Ft (Own encStr 9 (.slice (some ⟨bx2805, 0, none⟩) (([(ByteArray.extract p1 0 (Int.toNat (mnI (mnI (mnI ((p0).size : Int) ((p1).size : Int)) ((p2).size : Int)) 60)))] : List ByteArray)).length 1) ([(ByteArray.extract p1 0 (Int.toNat (mnI (mnI (mnI ((p0).size : Int) ((p1).size : Int)) ((p2).size : Int)) 60)))] : List ByteArray)) w2802 o2803 283 := f2806.imp fun _ h_ => Own.of_box h_ rfl (by simp)
          have hk := hk.put 52 (.slice (some ⟨bx2805, 0, none⟩) (([(ByteArray.extract p1 0 (Int.toNat (mnI (mnI (mnI ((p0).size : Int) ((p1).size : Int)) ((p2).size : Int)) 60)))] : List ByteArray)).length 1) rfl
          refine ⟨.inr ⟨f137.now, trivial⟩, ?_⟩
          exact xd_to hG rfl (N2823 _ _ ⟨(fun b_ => (fun l_ => if l_ = 251 then 284 else if l_ = 283 then 285 else l_) (o2803 b_)), (some ⟨bx2805, 0, none⟩), 1, (by exact Kn.pick (ks := [43, 46, 52, 57]) hk rfl), (hs.relab0 (fun l_ => if l_ = 251 then 284 else if l_ = 283 then 285 else l_) rfl), (f137.relab (fun l_ => if l_ = 251 then 284 else if l_ = 283 then 285 else l_) rfl), (f2807.relab (fun l_ => if l_ = 251 then 284 else if l_ = 283 then 285 else l_) rfl), (fg0.relab (fun l_ => if l_ = 251 then 284 else if l_ = 283 then 285 else l_) rfl), (Nat.le_refl _)⟩)
        · refine xd_one hk rfl rfl ?_
          refine op_slice (o := o2503) tab hk (vs := [.string (ByteArray.extract p2 0 (Int.toNat (mnI (mnI (mnI ((p0).size : Int) ((p1).size : Int)) ((p2).size : Int)) 60)))]) (cs := [.string (ByteArray.extract p2 0 (Int.toNat (mnI (mnI (mnI ((p0).size : Int) ((p1).size : Int)) ((p2).size : Int)) 60)))]) rfl rfl rfl rfl rfl rfl rfl rfl rfl 292 fun bx2887 w2884 o2885 st2886 f2888 => ?_
          replace f137 := f137.st st2886 (by decide)
          replace fg0 := fg0.st st2886 (by decide)
          replace hs := hs.loc0 st2886 (by decide)
          have f2889 : Ft (Own encStr 9 (.slice (some ⟨bx2887, 0, none⟩) (([(ByteArray.extract p2 0 (Int.toNat (mnI (mnI (mnI ((p0).size : Int) ((p1).size : Int)) ((p2).size : Int)) 60)))] : List ByteArray)).length 1) ([(ByteArray.extract p2 0 (Int.toNat (mnI (mnI (mnI ((p0).size : Int) ((p1).size : Int)) ((p2).size : Int)) 60)))] : List ByteArray)) w2884 o2885 292 := f2888.imp fun _ h_ => Own.of_box h_ rfl (by simp)
          have hk := hk.put 58 (.slice (some ⟨bx2887, 0, none⟩) (([(ByteArray.extract p2 0 (Int.toNat (mnI (mnI (mnI ((p0).size : Int) ((p1).size : Int)) ((p2).size : Int)) 60)))] : List ByteArray)).length 1) rfl
          refine ⟨.inr ⟨f137.now, trivial⟩, ?_⟩
          exact xd_to hG rfl (N2905 _ _ ⟨(fun b_ => (fun l_ => if l_ = 251 then 293 else if l_ = 292 then 294 else l_) (o2885 b_)), (some ⟨bx2887, 0, none⟩), 1, (by exact Kn.pick (ks := [43, 46, 51, 58]) hk rfl), (hs.relab0 (fun l_ => if l_ = 251 then 293 else if l_ = 292 then 294 else l_) rfl), (f137.relab (fun l_ => if l_ = 251 then 293 else if l_ = 292 then 294 else l_) rfl), (f2889.relab (fun l_ => if l_ = 251 then 293 else if l_ = 292 then 294 else l_) rfl), (fg0.relab (fun l_ => if l_ = 251 then 293 else if l_ = 292 then 294 else l_) rfl), (Nat.le_refl _)⟩)
      have N3043 : ∀ (a_ : Act) (w_ : World), (∃ o3025 : Nat → Nat, ∃ A3026 : Option Addr, ∃ c3027 : Nat, ∃ A3030 : Option Addr, ∃ c3031 : Nat, ∃ A3034 : Option Addr, ∃ c3035 : Nat, ∃ A3038 : Option Addr, ∃ c3039 : Nat, Kn 62 a_ [(42, .slice A3026 (([(strOfNums l136)] : List ByteArray)).length c3027), (47, .slice A3030 (([(ByteArray.extract p0 0 (Int.toNat (mnI (mnI (mnI ((p0).size : Int) ((p1).size : Int)) ((p2).size : Int)) 60)))] : List ByteArray)).length c3031), (52, .slice A3034 (([(ByteArray.extract p1 0 (Int.toNat (mnI (mnI (mnI ((p0).size : Int) ((p1).size : Int)) ((p2).size : Int)) 60)))] : List ByteArray)).length c3035), (58, .slice A3038 (([(ByteArray.extract p2 0 (Int.toNat (mnI (mnI (mnI ((p0).size : Int) ((p1).size : Int)) ((p2).size : Int)) 60)))] : List ByteArray)).length c3039)] ∧ St [] w (fun _ => 0) w_ o3025 ∧ Ft (Own (encInt .u8) 5 (.slice A134 (l136).length c135) l136) w_ o3025 307 ∧ Ft (Own encStr 9 (.slice A3026 (([(strOfNums l136)] : List ByteArray)).length c3027) ([(strOfNums l136)] : List ByteArray)) w_ o3025 308 ∧ Ft (Own encStr 9 (.slice A3030 (([(ByteArray.extract p0 0 (Int.toNat (mnI (mnI (mnI ((p0).size : Int) ((p1).size : Int)) ((p2).size : Int)) 60)))] : List ByteArray)).length c3031) ([(ByteArray.extract p0 0 (Int.toNat (mnI (mnI (mnI ((p0).size : Int) ((p1).size : Int)) ((p2).size : Int)) 60)))] : List ByteArray)) w_ o3025 309 ∧ Ft (Own encStr 9 (.slice A3034 (([(ByteArray.extract p1 0 (Int.toNat (mnI (mnI (mnI ((p0).size : Int) ((p1).size : Int)) ((p2).size : Int)) 60)))] : List ByteArray)).length c3035) ([(ByteArray.extract p1 0 (Int.toNat (mnI (mnI (mnI ((p0).size : Int) ((p1).size : Int)) ((p2).size : Int)) 60)))] : List ByteArray)) w_ o3025 310 ∧ Ft (Own encStr 9 (.slice A3038 (([(ByteArray.extract p2 0 (Int.toNat (mnI (mnI (mnI ((p0).size : Int) ((p1).size : Int)) ((p2).size : Int)) 60)))] : List ByteArray)).length c3039) ([(ByteArray.extract p2 0 (Int.toNat (mnI (mnI (mnI ((p0).size : Int) ((p1).size : Int)) ((p2).size : Int)) 60)))] : List ByteArray)) w_ o3025 311 ∧ Ft (RdC (encInt .u32) (some ⟨0, 0, none⟩) glob0) w_ o3025 0 ∧ (([(strOfNums l136)] : List ByteArray)).length ≤ c3027 ∧ (([(ByteArray.extract p0 0 (Int.toNat (mnI (mnI (mnI ((p0).size : Int) ((p1).size : Int)) ((p2).size : Int)) 60)))] : List ByteArray)).length ≤ c3031 ∧ (([(ByteArray.extract p1 0 (Int.toNat (mnI (mnI (mnI ((p0).size : Int) ((p1).size : Int)) ((p2).size : Int)) 60)))] : List ByteArray)).length ≤ c3035 ∧ (([(ByteArray.extract p2 0 (Int.toNat (mnI (mnI (mnI ((p0).size : Int) ((p1).size : Int)) ((p2).size : Int)) 60)))] : List ByteArray)).length ≤ c3039) → G 8 #[true, true, true, false, true, true, true, true, false, true, true, true, true, false, false, true, true, true, true, false, false, false, false] a_ w_ := by
        rintro a w3042 ⟨o3025, A3026, c3027, A3030, c3031, A3034, c3035, A3038, c3039, hk, hs, f137, f3028, f3032, f3036, f3040, fg0, hc3029, hc3033, hc3037, hc3041⟩
        refine xd_of hG ?_
        refine xd_op hk (i := 3) (by kernel_rfl) rfl rfl ?_
        refine op_call hk ent_8 (vs := [.slice A3026 (([(strOfNums l136)] : List ByteArray)).length c3027]) rfl (sum_Of_calls K A3026 c3027 ([(strOfNums l136)] : List ByteArray) _ o3025 0 fg0 _ (f3028.imp fun _ h_ => Own.rd h_) hc3029   _ hc1947) ?_
        rintro _ w3047 ⟨o3048, rfl, st3049⟩
        replace f137 := f137.st st3049 (by decide)
        replace f3028 := f3028.st st3049 (by decide)
        replace f3032 := f3032.st st3049 (by decide)
        replace f3036 := f3036.st st3049 (by decide)
        replace f3040 := f3040.st st3049 (by decide)
        replace fg0 := fg0.st st3049 (by decide)
        replace hs := hs.loc0 st3049 (by decide)
        have hk := hk.put 43 (.int .u32 t1946) rfl
        refine ⟨.inr ⟨f137.now, trivial⟩, ?_⟩
        refine xd_op hk (i := 8) (by kernel_rfl) rfl rfl ?_
        refine op_call hk ent_8 (vs := [.slice A3030 (([(ByteArray.extract p0 0 (Int.toNat (mnI (mnI (mnI ((p0).size : Int) ((p1).size : Int)) ((p2).size : Int)) 60)))] : List ByteArray)).length c3031]) rfl (sum_Of_calls K A3030 c3031 ([(ByteArray.extract p0 0 (Int.toNat (mnI (mnI (mnI ((p0).size : Int) ((p1).size : Int)) ((p2).size : Int)) 60)))] : List ByteArray) _ o3048 0 fg0 _ (f3032.imp fun _ h_ => Own.rd h_) hc3033   _ hc1962) ?_
        rintro _ w3053 ⟨o3054, rfl, st3055⟩
        replace f137 := f137.st st3055 (by decide)
        replace f3028 := f3028.st st3055 (by decide)
        replace f3032 := f3032.st st3055 (by decide)
        replace f3036 := f3036.st st3055 (by decide)
        replace f3040 := f3040.st st3055 (by decide)
        replace fg0 := fg0.st st3055 (by decide)
        replace hs := hs.loc0 st3055 (by decide)
        have hk := hk.put 48 (.int .u32 t1961) rfl
        refine ⟨.inr ⟨f137.now, trivial⟩, ?_⟩
        refine xd_op hk (i := 13) (by kernel_rfl) rfl rfl ?_
        refine op_call hk ent_8 (vs := [.slice A3034 (([(ByteArray.extract p1 0 (Int.toNat (mnI (mnI (mnI ((p0).size : Int) ((p1).size : Int)) ((p2).size : Int)) 60)))] : List ByteArray)).length c3035]) rfl (sum_Of_calls K A3034 c3035 ([(ByteArray.extract p1 0 (Int.toNat (mnI (mnI (mnI ((p0).size : Int) ((p1).size : Int)) ((p2).size : Int)) 60)))] : List ByteArray) _ o3054 0 fg0 _ (f3036.imp fun _ h_ => Own.rd h_) hc3037   _ hc1977) ?_
        rintro _ w3059 ⟨o3060, rfl, st3061⟩
        replace f137 := f137.st st3061 (by decide)
        replace f3028 := f3028.st st3061 (by decide)
        replace f3032 := f3032.st st3061 (by decide)
        replace f3036 := f3036.st st3061 (by decide)
        replace f3040 := f3040.st st3061 (by decide)
        replace fg0 := fg0.st st3061 (by decide)
        replace hs := hs.loc0 st3061 (by decide)
        have hk := hk.put 53 (.int .u32 t1976) rfl
        refine ⟨.inr ⟨f137.now, trivial⟩, ?_⟩
        refine xd_take tab hk (k := 4) (is := [14]) (ls' := #[true, true, true, true, true, true, true, true, true, true, true, true, true, true, true, true, true, true, true, false, false, false, false]) (lv := []) (ks := [43, 54, 58]) (e' := [(43, .int .u32 t1946), (54, .int .u32 (bits .xor .u32 t1961 t1976)), (58, .slice A3038 (([(ByteArray.extract p2 0 (Int.toNat (mnI (mnI (mnI ((p0).size : Int) ((p1).size : Int)) ((p2).size : Int)) 60)))] : List ByteArray)).length c3039)]) (by kernel_rfl) rfl rfl (by kernel_rfl) (np_then (np_then np_body)) ⟨f137.now, trivial⟩ (fun W_ hS => trivial) fun a hk => ?_
        refine xd_op hk (i := 19) (by kernel_rfl) rfl rfl ?_
        refine op_call hk ent_8 (vs := [.slice A3038 (([(ByteArray.extract p2 0 (Int.toNat (mnI (mnI (mnI ((p0).size : Int) ((p1).size : Int)) ((p2).size : Int)) 60)))] : List ByteArray)).length c3039]) rfl (sum_Of_calls K A3038 c3039 ([(ByteArray.extract p2 0 (Int.toNat (mnI (mnI (mnI ((p0).size : Int) ((p1).size : Int)) ((p2).size : Int)) 60)))] : List ByteArray) _ o3060 0 fg0 _ (f3040.imp fun _ h_ => Own.rd h_) hc3041   _ hc1992) ?_
        rintro _ w3065 ⟨o3066, rfl, st3067⟩
        replace f137 := f137.st st3067 (by decide)
        replace f3028 := f3028.st st3067 (by decide)
        replace f3032 := f3032.st st3067 (by decide)
        replace f3036 := f3036.st st3067 (by decide)
        replace f3040 := f3040.st st3067 (by decide)
        replace fg0 := fg0.st st3067 (by decide)
        replace hs := hs.loc0 st3067 (by decide)
        have hk := hk.put 59 (.int .u32 t1991) rfl
        refine ⟨.inr ⟨f137.now, trivial⟩, ?_⟩
        refine xd_take tab hk (k := 0) (is := [20, 21, 22]) (ls' := #[true, true, true, true, true, true, true, true, true, true, true, true, true, true, true, true, true, true, true, true, true, true, true]) (lv := []) (ks := [6]) (e' := [(6, .bool (t1946 == (bits .xor .u32 (bits .xor .u32 t1961 t1976) t1991)))]) (by kernel_rfl) rfl rfl (by kernel_rfl) (np_then (np_then np_body)) ⟨f137.now, trivial⟩ (fun W_ hS => trivial) fun a hk => ?_
        refine xd_done (by kernel_rfl) ?_
        refine then_n ?_
        exact ⟨o3066, (t1946 == (bits .xor .u32 (bits .xor .u32 t1961 t1976) t1991)), (by exact Kn.pick (ks := [6]) hk rfl), hs, fg0, H⟩
      have N2991 : ∀ (a_ : Act) (w_ : World), (∃ o2977 : Nat → Nat, ∃ A2978 : Option Addr, ∃ c2979 : Nat, ∃ A2982 : Option Addr, ∃ c2983 : Nat, ∃ A2986 : Option Addr, ∃ c2987 : Nat, Kn 62 a_ [(42, .slice A2978 (([(strOfNums l136)] : List ByteArray)).length c2979), (47, .slice A2982 (([(ByteArray.extract p0 0 (Int.toNat (mnI (mnI (mnI ((p0).size : Int) ((p1).size : Int)) ((p2).size : Int)) 60)))] : List ByteArray)).length c2983), (52, .slice A2986 (([(ByteArray.extract p1 0 (Int.toNat (mnI (mnI (mnI ((p0).size : Int) ((p1).size : Int)) ((p2).size : Int)) 60)))] : List ByteArray)).length c2987), (57, .string (ByteArray.extract p2 0 (Int.toNat (mnI (mnI (mnI ((p0).size : Int) ((p1).size : Int)) ((p2).size : Int)) 60))))] ∧ St [] w (fun _ => 0) w_ o2977 ∧ Ft (Own (encInt .u8) 5 (.slice A134 (l136).length c135) l136) w_ o2977 302 ∧ Ft (Own encStr 9 (.slice A2978 (([(strOfNums l136)] : List ByteArray)).length c2979) ([(strOfNums l136)] : List ByteArray)) w_ o2977 303 ∧ Ft (Own encStr 9 (.slice A2982 (([(ByteArray.extract p0 0 (Int.toNat (mnI (mnI (mnI ((p0).size : Int) ((p1).size : Int)) ((p2).size : Int)) 60)))] : List ByteArray)).length c2983) ([(ByteArray.extract p0 0 (Int.toNat (mnI (mnI (mnI ((p0).size : Int) ((p1).size : Int)) ((p2).size : Int)) 60)))] : List ByteArray)) w_ o2977 304 ∧ Ft (Own encStr 9 (.slice A2986 (([(ByteArray.extract p1 0 (Int.toNat (mnI (mnI (mnI ((p0).size : Int) ((p1).size : Int)) ((p2).size : Int)) 60)))] : List ByteArray)).length c2987) ([(ByteArray.extract p1 0 (Int.toNat (mnI (mnI (mnI ((p0).size : Int) ((p1).size : Int)) ((p2).size : Int)) 60)))] : List ByteArray)) w_ o2977 305 ∧ Ft (RdC (encInt .u32) (some ⟨0, 0, none⟩) glob0) w_ o2977 0 ∧ (([(strOfNums l136)] : List ByteArray)).length ≤ c2979 ∧ (([(ByteArray.extract p0 0 (Int.toNat (mnI (mnI (mnI ((p0).size : Int) ((p1).size : Int)) ((p2).size : Int)) 60)))] : List ByteArray)).length ≤ c2983 ∧ (([(ByteArray.extract p1 0 (Int.toNat (mnI (mnI (mnI ((p0).size : Int) ((p1).size : Int)) ((p2).size : Int)) 60)))] : List ByteArray)).length ≤ c2987) → G 9 #[true, true, true, false, true, true, true, true, false, true, true, true, true, false, false, true, true, true, false, false, false, false, false] a_ w_ := by
        rintro a w2990 ⟨o2977, A2978, c2979, A2982, c2983, A2986, c2987, hk, hs, f137, f2980, f2984, f2988, fg0, hc2981, hc2985, hc2989⟩
        refine xd_of hG ?_
        refine xd_each [3, 18] (by kernel_rfl) rfl ⟨?_, ?_, trivial⟩
        · refine xd_one hk rfl rfl ?_
          refine op_call hk ent_8 (vs := [.slice A2978 (([(strOfNums l136)] : List ByteArray)).length c2979]) rfl (sum_Of_calls K A2978 c2979 ([(strOfNums l136)] : List ByteArray) _ o2977 0 fg0 _ (f2980.imp fun _ h_ => Own.rd h_) hc2981   _ hc1947) ?_
          rintro _ w2995 ⟨o2996, rfl, st2997⟩
          replace f137 := f137.st st2997 (by decide)
          replace f2980 := f2980.st st2997 (by decide)
          replace f2984 := f2984.st st2997 (by decide)
          replace f2988 := f2988.st st2997 (by decide)
          replace fg0 := fg0.st st2997 (by decide)
          replace hs := hs.loc0 st2997 (by decide)
          have hk := hk.put 43 (.int .u32 t1946) rfl
          refine ⟨.inr ⟨f137.now, trivial⟩, ?_⟩
          exact xd_to hG rfl (N2697 _ _ ⟨(fun b_ => (fun l_ => if l_ = 302 then 270 else if l_ = 304 then 271 else if l_ = 305 then 272 else l_) (o2996 b_)), A2982, c2983, A2986, c2987, (by exact Kn.pick (ks := [43, 47, 52, 57]) hk rfl), (hs.relab0 (fun l_ => if l_ = 302 then 270 else if l_ = 304 then 271 else if l_ = 305 then 272 else l_) rfl), (f137.relab (fun l_ => if l_ = 302 then 270 else if l_ = 304 then 271 else if l_ = 305 then 272 else l_) rfl), (f2984.relab (fun l_ => if l_ = 302 then 270 else if l_ = 304 then 271 else if l_ = 305 then 272 else l_) rfl), (f2988.relab (fun l_ => if l_ = 302 then 270 else if l_ = 304 then 271 else if l_ = 305 then 272 else l_) rfl), (fg0.relab (fun l_ => if l_ = 302 then 270 else if l_ = 304 then 271 else if l_ = 305 then 272 else l_) rfl), hc2985, hc2989⟩)
        · refine xd_one hk rfl rfl ?_
          refine op_slice (o := o2977) tab hk (vs := [.string (ByteArray.extract p2 0 (Int.toNat (mnI (mnI (mnI ((p0).size : Int) ((p1).size : Int)) ((p2).size : Int)) 60)))]) (cs := [.string (ByteArray.extract p2 0 (Int.toNat (mnI (mnI (mnI ((p0).size : Int) ((p1).size : Int)) ((p2).size : Int)) 60)))]) rfl rfl rfl rfl rfl rfl rfl rfl rfl 306 fun bx3001 w2998 o2999 st3000 f3002 => ?_
          replace f137 := f137.st st3000 (by decide)
          replace f2980 := f2980.st st3000 (by decide)
          replace f2984 := f2984.st st3000 (by decide)
          replace f2988 := f2988.st st3000 (by decide)
          replace fg0 := fg0.st st3000 (by decide)
          replace hs := hs.loc0 st3000 (by decide)
          have f3003 : Ft (Own encStr 9 (.slice (some ⟨bx3001, 0, none⟩) (([(ByteArray.extract p2 0 (Int.toNat (mnI (mnI (mnI ((p0).size : Int) ((p1).size : Int)) ((p2).size : Int)) 60)))] : List ByteArray)).length 1) ([(ByteArray.extract p2 0 (Int.toNat (mnI (mnI (mnI ((p0).size : Int) ((p1).size : Int)) ((p2).size : Int)) 60)))] : List ByteArray)) w2998 o2999 306 := f3002.imp fun _ h_ => Own.of_box h_ rfl (by simp)
          have hk := hk.put 58 (.slice (some ⟨bx3001, 0, none⟩) (([(ByteArray.extract p2 0 (Int.toNat (mnI (mnI (mnI ((p0).size : Int) ((p1).size : Int)) ((p2).size : Int)) 60)))] : List ByteArray)).length 1) rfl
          refine ⟨.inr ⟨f137.now, trivial⟩, ?_⟩
          exact xd_to hG rfl (N3043 _ _ ⟨(fun b_ => (fun l_ => if l_ = 302 then 307 else if l_ = 303 then 308 else if l_ = 304 then 309 else if l_ = 305 then 310 else if l_ = 306 then 311 else l_) (o2999 b_)), A2978, c2979, A2982, c2983, A2986, c2987, (some ⟨bx3001, 0, none⟩), 1, (by exact Kn.pick (ks := [42, 47, 52, 58]) hk rfl), (hs.relab0 (fun l_ => if l_ = 302 then 307 else if l_ = 303 then 308 else if l_ = 304 then 309 else if l_ = 305 then 310 else if l_ = 306 then 311 else l_) rfl), (f137.relab (fun l_ => if l_ = 302 then 307 else if l_ = 303 then 308 else if l_ = 304 then 309 else if l_ = 305 then 310 else if l_ = 306 then 311 else l_) rfl), (f2980.relab (fun l_ => if l_ = 302 then 307 else if l_ = 303 then 308 else if l_ = 304 then 309 else if l_ = 305 then 310 else if l_ = 306 then 311 else l_) rfl), (f2984.relab (fun l_ => if l_ = 302 then 307 else if l_ = 303 then 308 else if l_ = 304 then 309 else if l_ = 305 then 310 else if l_ = 306 then 311 else l_) rfl), (f2988.relab (fun l_ => if l_ = 302 then 307 else if l_ = 303 then 308 else if l_ = 304 then 309 else if l_ = 305 then 310 else if l_ = 306 then 311 else l_) rfl), (f3003.relab (fun l_ => if l_ = 302 then 307 else if l_ = 303 then 308 else if l_ = 304 then 309 else if l_ = 305 then 310 else if l_ = 306 then 311 else l_) rfl), (fg0.relab (fun l_ => if l_ = 302 then 307 else if l_ = 303 then 308 else if l_ = 304 then 309 else if l_ = 305 then 310 else if l_ = 306 then 311 else l_) rfl), hc2981, hc2985, hc2989, (Nat.le_refl _)⟩)
      have N3105 : ∀ (a_ : Act) (w_ : World), (∃ o3091 : Nat → Nat, ∃ A3092 : Option Addr, ∃ c3093 : Nat, ∃ A3096 : Option Addr, ∃ c3097 : Nat, ∃ A3100 : Option Addr, ∃ c3101 : Nat, Kn 62 a_ [(42, .slice A3092 (([(strOfNums l136)] : List ByteArray)).length c3093), (47, .slice A3096 (([(ByteArray.extract p0 0 (Int.toNat (mnI (mnI (mnI ((p0).size : Int) ((p1).size : Int)) ((p2).size : Int)) 60)))] : List ByteArray)).length c3097), (51, .string (ByteArray.extract p1 0 (Int.toNat (mnI (mnI (mnI ((p0).size : Int) ((p1).size : Int)) ((p2).size : Int)) 60)))), (58, .slice A3100 (([(ByteArray.extract p2 0 (Int.toNat (mnI (mnI (mnI ((p0).size : Int) ((p1).size : Int)) ((p2).size : Int)) 60)))] : List ByteArray)).length c3101)] ∧ St [] w (fun _ => 0) w_ o3091 ∧ Ft (Own (encInt .u8) 5 (.slice A134 (l136).length c135) l136) w_ o3091 313 ∧ Ft (Own encStr 9 (.slice A3092 (([(strOfNums l136)] : List ByteArray)).length c3093) ([(strOfNums l136)] : List ByteArray)) w_ o3091 314 ∧ Ft (Own encStr 9 (.slice A3096 (([(ByteArray.extract p0 0 (Int.toNat (mnI (mnI (mnI ((p0).size : Int) ((p1).size : Int)) ((p2).size : Int)) 60)))] : List ByteArray)).length c3097) ([(ByteArray.extract p0 0 (Int.toNat (mnI (mnI (mnI ((p0).size : Int) ((p1).size : Int)) ((p2).size : Int)) 60)))] : List ByteArray)) w_ o3091 315 ∧ Ft (Own encStr 9 (.slice A3100 (([(ByteArray.extract p2 0 (Int.toNat (mnI (mnI (mnI ((p0).size : Int) ((p1).size : Int)) ((p2).size : Int)) 60)))] : List ByteArray)).length c3101) ([(ByteArray.extract p2 0 (Int.toNat (mnI (mnI (mnI ((p0).size : Int) ((p1).size : Int)) ((p2).size : Int)) 60)))] : List ByteArray)) w_ o3091 316 ∧ Ft (RdC (encInt .u32) (some ⟨0, 0, none⟩) glob0) w_ o3091 0 ∧ (([(strOfNums l136)] : List ByteArray)).length ≤ c3093 ∧ (([(ByteArray.extract p0 0 (Int.toNat (mnI (mnI (mnI ((p0).size : Int) ((p1).size : Int)) ((p2).size : Int)) 60)))] : List ByteArray)).length ≤ c3097 ∧ (([(ByteArray.extract p2 0 (Int.toNat (mnI (mnI (mnI ((p0).size : Int) ((p1).size : Int)) ((p2).size : Int)) 60)))] : List ByteArray)).length ≤ c3101) → G 9 #[true, true, true, false, true, true, true, true, false, true, true, true, false, false, false, true, true, true, true, false, false, false, false] a_ w_ := by
        rintro a w3104 ⟨o3091, A3092, c3093, A3096, c3097, A3100, c3101, hk, hs, f137, f3094, f3098, f3102, fg0, hc3095, hc3099, hc3103⟩
        refine xd_of hG ?_
        refine xd_each [3, 12] (by kernel_rfl) rfl ⟨?_, ?_, trivial⟩
        · refine xd_one hk rfl rfl ?_
          refine op_call hk ent_8 (vs := [.slice A3092 (([(strOfNums l136)] : List ByteArray)).length c3093]) rfl (sum_Of_calls K A3092 c3093 ([(strOfNums l136)] : List ByteArray) _ o3091 0 fg0 _ (f3094.imp fun _ h_ => Own.rd h_) hc3095   _ hc1947) ?_
          rintro _ w3109 ⟨o3110, rfl, st3111⟩
          replace f137 := f137.st st3111 (by decide)
          replace f3094 := f3094.st st3111 (by decide)
          replace f3098 := f3098.st st3111 (by decide)
          replace f3102 := f3102.st st3111 (by decide)
          replace fg0 := fg0.st st3111 (by decide)
          replace hs := hs.loc0 st3111 (by decide)
          have hk := hk.put 43 (.int .u32 t1946) rfl
          refine ⟨.inr ⟨f137.now, trivial⟩, ?_⟩
          exact xd_to hG rfl (N2789 _ _ ⟨(fun b_ => (fun l_ => if l_ = 313 then 279 else if l_ = 315 then 280 else if l_ = 316 then 281 else l_) (o3110 b_)), A3096, c3097, A3100, c3101, (by exact Kn.pick (ks := [43, 47, 51, 58]) hk rfl), (hs.relab0 (fun l_ => if l_ = 313 then 279 else if l_ = 315 then 280 else if l_ = 316 then 281 else l_) rfl), (f137.relab (fun l_ => if l_ = 313 then 279 else if l_ = 315 then 280 else if l_ = 316 then 281 else l_) rfl), (f3098.relab (fun l_ => if l_ = 313 then 279 else if l_ = 315 then 280 else if l_ = 316 then 281 else l_) rfl), (f3102.relab (fun l_ => if l_ = 313 then 279 else if l_ = 315 then 280 else if l_ = 316 then 281 else l_) rfl), (fg0.relab (fun l_ => if l_ = 313 then 279 else if l_ = 315 then 280 else if l_ = 316 then 281 else l_) rfl), hc3099, hc3103⟩)
        · refine xd_one hk rfl rfl ?_
          refine op_slice (o := o3091) tab hk (vs := [.string (ByteArray.extract p1 0 (Int.toNat (mnI (mnI (mnI ((p0).size : Int) ((p1).size : Int)) ((p2).size : Int)) 60)))]) (cs := [.string (ByteArray.extract p1 0 (Int.toNat (mnI (mnI (mnI ((p0).size : Int) ((p1).size : Int)) ((p2).size : Int)) 60)))]) rfl rfl rfl rfl rfl rfl rfl rfl rfl 317 fun bx3115 w3112 o3113 st3114 f3116 => ?_
          replace f137 := f137.st st3114 (by decide)
          replace f3094 := f3094.st st3114 (by decide)
          replace f3098 := f3098.st st3114 (by decide)
          replace f3102 := f3102.st st3114 (by decide)
          replace fg0 := fg0.st st3114 (by decide)
          replace hs := hs.loc0 st3114 (by decide)
          have f3117 : Ft (Own encStr 9 (.slice (some ⟨bx3115, 0, none⟩) (([(ByteArray.extract p1 0 (Int.toNat (mnI (mnI (mnI ((p0).size : Int) ((p1).size : Int)) ((p2).size : Int)) 60)))] : List ByteArray)).length 1) ([(ByteArray.extract p1 0 (Int.toNat (mnI (mnI (mnI ((p0).size : Int) ((p1).size : Int)) ((p2).size : Int)) 60)))] : List ByteArray)) w3112 o3113 317 := f3116.imp fun _ h_ => Own.of_box h_ rfl (by simp)
          have hk := hk.put 52 (.slice (some ⟨bx3115, 0, none⟩) (([(ByteArray.extract p1 0 (Int.toNat (mnI (mnI (mnI ((p0).size : Int) ((p1).size : Int)) ((p2).size : Int)) 60)))] : List ByteArray)).length 1) rfl
          refine ⟨.inr ⟨f137.now, trivial⟩, ?_⟩
          exact xd_to hG rfl (N3043 _ _ ⟨(fun b_ => (fun l_ => if l_ = 313 then 307 else if l_ = 314 then 308 else if l_ = 315 then 309 else if l_ = 316 then 311 else if l_ = 317 then 310 else l_) (o3113 b_)), A3092, c3093, A3096, c3097, (some ⟨bx3115, 0, none⟩), 1, A3100, c3101, (by exact Kn.pick (ks := [42, 47, 52, 58]) hk rfl), (hs.relab0 (fun l_ => if l_ = 313 then 307 else if l_ = 314 then 308 else if l_ = 315 then 309 else if l_ = 316 then 311 else if l_ = 317 then 310 else l_) rfl), (f137.relab (fun l_ => if l_ = 313 then 307 else if l_ = 314 then 308 else if l_ = 315 then 309 else if l_ = 316 then 311 else if l_ = 317 then 310 else l_) rfl), (f3094.relab (fun l_ => if l_ = 313 then 307 else if l_ = 314 then 308 else if l_ = 315 then 309 else if l_ = 316 then 311 else if l_ = 317 then 310 else l_) rfl), (f3098.relab (fun l_ => if l_ = 313 then 307 else if l_ = 314 then 308 else if l_ = 315 then 309 else if l_ = 316 then 311 else if l_ = 317 then 310 else l_) rfl), (f3117.relab (fun l_ => if l_ = 313 then 307 else if l_ = 314 then 308 else if l_ = 315 then 309 else if l_ = 316 then 311 else if l_ = 317 then 310 else l_) rfl), (f3102.relab (fun l_ => if l_ = 313 then 307 else if l_ = 314 then 308 else if l_ = 315 then 309 else if l_ = 316 then 311 else if l_ = 317 then 310 else l_) rfl), (fg0.relab (fun l_ => if l_ = 313 then 307 else if l_ = 314 then 308 else if l_ = 315 then 309 else if l_ = 316 then 311 else if l_ = 317 then 310 else l_) rfl), hc3095, hc3099, (Nat.le_refl _), hc3103⟩)
      have N2947 : ∀ (a_ : Act) (w_ : World), (∃ o2937 : Nat → Nat, ∃ A2938 : Option Addr, ∃ c2939 : Nat, ∃ A2942 : Option Addr, ∃ c2943 : Nat, Kn 62 a_ [(42, .slice A2938 (([(strOfNums l136)] : List ByteArray)).length c2939), (47, .slice A2942 (([(ByteArray.extract p0 0 (Int.toNat (mnI (mnI (mnI ((p0).size : Int) ((p1).size : Int)) ((p2).size : Int)) 60)))] : List ByteArray)).length c2943), (51, .string (ByteArray.extract p1 0 (Int.toNat (mnI (mnI (mnI ((p0).size : Int) ((p1).size : Int)) ((p2).size : Int)) 60)))), (57, .string (ByteArray.extract p2 0 (Int.toNat (mnI (mnI (mnI ((p0).size : Int) ((p1).size : Int)) ((p2).size : Int)) 60))))] ∧ St [] w (fun _ => 0) w_ o2937 ∧ Ft (Own (encInt .u8) 5 (.slice A134 (l136).length c135) l136) w_ o2937 298 ∧ Ft (Own encStr 9 (.slice A2938 (([(strOfNums l136)] : List ByteArray)).length c2939) ([(strOfNums l136)] : List ByteArray)) w_ o2937 299 ∧ Ft (Own encStr 9 (.slice A2942 (([(ByteArray.extract p0 0 (Int.toNat (mnI (mnI (mnI ((p0).size : Int) ((p1).size : Int)) ((p2).size : Int)) 60)))] : List ByteArray)).length c2943) ([(ByteArray.extract p0 0 (Int.toNat (mnI (mnI (mnI ((p0).size : Int) ((p1).size : Int)) ((p2).size : Int)) 60)))] : List ByteArray)) w_ o2937 300 ∧ Ft (RdC (encInt .u32) (some ⟨0, 0, none⟩) glob0) w_ o2937 0 ∧ (([(strOfNums l136)] : List ByteArray)).length ≤ c2939 ∧ (([(ByteArray.extract p0 0 (Int.toNat (mnI (mnI (mnI ((p0).size : Int) ((p1).size : Int)) ((p2).size : Int)) 60)))] : List ByteArray)).length ≤ c2943) → G 10 #[true, true, true, false, true, true, true, true, false, true, true, true, false, false, false, true, true, true, false, false, false, false, false] a_ w_ := by
        rintro a w2946 ⟨o2937, A2938, c2939, A2942, c2943, hk, hs, f137, f2940, f2944, fg0, hc2941, hc2945⟩
        refine xd_of hG ?_
        refine xd_each [3, 12, 18] (by kernel_rfl) rfl ⟨?_, ?_, ?_, trivial⟩
        · refine xd_one hk rfl rfl ?_
          refine op_call hk ent_8 (vs := [.slice A2938 (([(strOfNums l136)] : List ByteArray)).length c2939]) rfl (sum_Of_calls K A2938 c2939 ([(strOfNums l136)] : List ByteArray) _ o2937 0 fg0 _ (f2940.imp fun _ h_ => Own.rd h_) hc2941   _ hc1947) ?_
          rintro _ w2951 ⟨o2952, rfl, st2953⟩
          replace f137 := f137.st st2953 (by decide)
          replace f2940 := f2940.st st2953 (by decide)
          replace f2944 := f2944.st st2953 (by decide)
          replace fg0 := fg0.st st2953 (by decide)
          replace hs := hs.loc0 st2953 (by decide)
          have hk := hk.put 43 (.int .u32 t1946) rfl
          refine ⟨.inr ⟨f137.now, trivial⟩, ?_⟩
          exact xd_to hG rfl (N2527 _ _ ⟨(fun b_ => (fun l_ => if l_ = 298 then 253 else if l_ = 300 then 254 else l_) (o2952 b_)), A2942, c2943, (by exact Kn.pick (ks := [43, 47, 51, 57]) hk rfl), (hs.relab0 (fun l_ => if l_ = 298 then 253 else if l_ = 300 then 254 else l_) rfl), (f137.relab (fun l_ => if l_ = 298 then 253 else if l_ = 300 then 254 else l_) rfl), (f2944.relab (fun l_ => if l_ = 298 then 253 else if l_ = 300 then 254 else l_) rfl), (fg0.relab (fun l_ => if l_ = 298 then 253 else if l_ = 300 then 254 else l_) rfl), hc2945⟩)
        · refine xd_one hk rfl rfl ?_
          refine op_slice (o := o2937) tab hk (vs := [.string (ByteArray.extract p1 0 (Int.toNat (mnI (mnI (mnI ((p0).size : Int) ((p1).size : Int)) ((p2).size : Int)) 60)))]) (cs := [.string (ByteArray.extract p1 0 (Int.toNat (mnI (mnI (mnI ((p0).size : Int) ((p1).size : Int)) ((p2).size : Int)) 60)))]) rfl rfl rfl rfl rfl rfl rfl rfl rfl 301 fun bx2957 w2954 o2955 st2956 f2958 => ?_
          replace f137 := f137.st st2956 (by decide)
          replace f2940 := f2940.st st2956 (by decide)
          replace f2944 := f2944.st st2956 (by decide)
          replace fg0 := fg0.st st2956 (by decide)
          replace hs := hs.loc0 st2956 (by decide)
          have f2959 : Ft (Own encStr 9 (.slice (some ⟨bx2957, 0, none⟩) (([(ByteArray.extract p1 0 (Int.toNat (mnI (mnI (mnI ((p0).size : Int) ((p1).size : Int)) ((p2).size : Int)) 60)))] : List ByteArray)).length 1) ([(ByteArray.extract p1 0 (Int.toNat (mnI (mnI (mnI ((p0).size : Int) ((p1).size : Int)) ((p2).size : Int)) 60)))] : List ByteArray)) w2954 o2955 301 := f2958.imp fun _ h_ => Own.of_box h_ rfl (by simp)
          have hk := hk.put 52 (.slice (some ⟨bx2957, 0, none⟩) (([(ByteArray.extract p1 0 (Int.toNat (mnI (mnI (mnI ((p0).size : Int) ((p1).size : Int)) ((p2).size : Int)) 60)))] : List ByteArray)).length 1) rfl
          refine ⟨.inr ⟨f137.now, trivial⟩, ?_⟩
          exact xd_to hG rfl (N2991 _ _ ⟨(fun b_ => (fun l_ => if l_ = 298 then 302 else if l_ = 299 then 303 else if l_ = 300 then 304 else if l_ = 301 then 305 else l_) (o2955 b_)), A2938, c2939, A2942, c2943, (some ⟨bx2957, 0, none⟩), 1, (by exact Kn.pick (ks := [42, 47, 52, 57]) hk rfl), (hs.relab0 (fun l_ => if l_ = 298 then 302 else if l_ = 299 then 303 else if l_ = 300 then 304 else if l_ = 301 then 305 else l_) rfl), (f137.relab (fun l_ => if l_ = 298 then 302 else if l_ = 299 then 303 else if l_ = 300 then 304 else if l_ = 301 then 305 else l_) rfl), (f2940.relab (fun l_ => if l_ = 298 then 302 else if l_ = 299 then 303 else if l_ = 300 then 304 else if l_ = 301 then 305 else l_) rfl), (f2944.relab (fun l_ => if l_ = 298 then 302 else if l_ = 299 then 303 else if l_ = 300 then 304 else if l_ = 301 then 305 else l_) rfl), (f2959.relab (fun l_ => if l_ = 298 then 302 else if l_ = 299 then 303 else if l_ = 300 then 304 else if l_ = 301 then 305 else l_) rfl), (fg0.relab (fun l_ => if l_ = 298 then 302 else if l_ = 299 then 303 else if l_ = 300 then 304 else if l_ = 301 then 305 else l_) rfl), hc2941, hc2945, (Nat.le_refl _)⟩)
        · refine xd_one hk rfl rfl ?_
          refine op_slice (o := o2937) tab hk (vs := [.string (ByteArray.extract p2 0 (Int.toNat (mnI (mnI (mnI ((p0).size : Int) ((p1).size : Int)) ((p2).size : Int)) 60)))]) (cs := [.string (ByteArray.extract p2 0 (Int.toNat (mnI (mnI (mnI ((p0).size : Int) ((p1).size : Int)) ((p2).size : Int)) 60)))]) rfl rfl rfl rfl rfl rfl rfl rfl rfl 312 fun bx3071 w3068 o3069 st3070 f3072 => ?_
          replace f137 := f137.st st3070 (by decide)
          replace f2940 := f2940.st st3070 (by decide)
          replace f2944 := f2944.st st3070 (by decide)
          replace fg0 := fg0.st st3070 (by decide)
          replace hs := hs.loc0 st3070 (by decide)
          have f3073 : Ft (Own encStr 9 (.slice (some ⟨bx3071, 0, none⟩) (([(ByteArray.extract p2 0 (Int.toNat (mnI (mnI (mnI ((p0).size : Int) ((p1).size : Int)) ((p2).size : Int)) 60)))] : List ByteArray)).length 1) ([(ByteArray.extract p2 0 (Int.toNat (mnI (mnI (mnI ((p0).size : Int) ((p1).size : Int)) ((p2).size : Int)) 60)))] : List ByteArray)) w3068 o3069 312 := f3072.imp fun _ h_ => Own.of_box h_ rfl (by simp)
          have hk := hk.put 58 (.slice (some ⟨bx3071, 0, none⟩) (([(ByteArray.extract p2 0 (Int.toNat (mnI (mnI (mnI ((p0).size : Int) ((p1).size : Int)) ((p2).size : Int)) 60)))] : List ByteArray)).length 1) rfl
          refine ⟨.inr ⟨f137.now, trivial⟩, ?_⟩
          exact xd_to hG rfl (N3105 _ _ ⟨(fun b_ => (fun l_ => if l_ = 298 then 313 else if l_ = 299 then 314 else if l_ = 300 then 315 else if l_ = 312 then 316 else l_) (o3069 b_)), A2938, c2939, A2942, c2943, (some ⟨bx3071, 0, none⟩), 1, (by exact Kn.pick (ks := [42, 47, 51, 58]) hk rfl), (hs.relab0 (fun l_ => if l_ = 298 then 313 else if l_ = 299 then 314 else if l_ = 300 then 315 else if l_ = 312 then 316 else l_) rfl), (f137.relab (fun l_ => if l_ = 298 then 313 else if l_ = 299 then 314 else if l_ = 300 then 315 else if l_ = 312 then 316 else l_) rfl), (f2940.relab (fun l_ => if l_ = 298 then 313 else if l_ = 299 then 314 else if l_ = 300 then 315 else if l_ = 312 then 316 else l_) rfl), (f2944.relab (fun l_ => if l_ = 298 then 313 else if l_ = 299 then 314 else if l_ = 300 then 315 else if l_ = 312 then 316 else l_) rfl), (f3073.relab (fun l_ => if l_ = 298 then 313 else if l_ = 299 then 314 else if l_ = 300 then 315 else if l_ = 312 then 316 else l_) rfl), (fg0.relab (fun l_ => if l_ = 298 then 313 else if l_ = 299 then 314 else if l_ = 300 then 315 else if l_ = 312 then 316 else l_) rfl), hc2941, hc2945, (Nat.le_refl _)⟩)
      have N3197 : ∀ (a_ : Act) (w_ : World), (∃ o3183 : Nat → Nat, ∃ A3184 : Option Addr, ∃ c3185 : Nat, ∃ A3188 : Option Addr, ∃ c3189 : Nat, ∃ A3192 : Option Addr, ∃ c3193 : Nat, Kn 62 a_ [(42, .slice A3184 (([(strOfNums l136)] : List ByteArray)).length c3185), (46, .string (ByteArray.extract p0 0 (Int.toNat (mnI (mnI (mnI ((p0).size : Int) ((p1).size : Int)) ((p2).size : Int)) 60)))), (52, .slice A3188 (([(ByteArray.extract p1 0 (Int.toNat (mnI (mnI (mnI ((p0).size : Int) ((p1).size : Int)) ((p2).size : Int)) 60)))] : List ByteArray)).length c3189), (58, .slice A3192 (([(ByteArray.extract p2 0 (Int.toNat (mnI (mnI (mnI ((p0).size : Int) ((p1).size : Int)) ((p2).size : Int)) 60)))] : List ByteArray)).length c3193)] ∧ St [] w (fun _ => 0) w_ o3183 ∧ Ft (Own (encInt .u8) 5 (.slice A134 (l136).length c135) l136) w_ o3183 324 ∧ Ft (Own encStr 9 (.slice A3184 (([(strOfNums l136)] : List ByteArray)).length c3185) ([(strOfNums l136)] : List ByteArray)) w_ o3183 325 ∧ Ft (Own encStr 9 (.slice A3188 (([(ByteArray.extract p1 0 (Int.toNat (mnI (mnI (mnI ((p0).size : Int) ((p1).size : Int)) ((p2).size : Int)) 60)))] : List ByteArray)).length c3189) ([(ByteArray.extract p1 0 (Int.toNat (mnI (mnI (mnI ((p0).size : Int) ((p1).size : Int)) ((p2).size : Int)) 60)))] : List ByteArray)) w_ o3183 326 ∧ Ft (Own encStr 9 (.slice A3192 (([(ByteArray.extract p2 0 (Int.toNat (mnI (mnI (mnI ((p0).size : Int) ((p1).size : Int)) ((p2).size : Int)) 60)))] : List ByteArray)).length c3193) ([(ByteArray.extract p2 0 (Int.toNat (mnI (mnI (mnI ((p0).size : Int) ((p1).size : Int)) ((p2).size : Int)) 60)))] : List ByteArray)) w_ o3183 327 ∧ Ft (RdC (encInt .u32) (some ⟨0, 0, none⟩) glob0) w_ o3183 0 ∧ (([(strOfNums l136)] : List ByteArray)).length ≤ c3185 ∧ (([(ByteArray.extract p1 0 (Int.toNat (mnI (mnI (mnI ((p0).size : Int) ((p1).size : Int)) ((p2).size : Int)) 60)))] : List ByteArray)).length ≤ c3189 ∧ (([(ByteArray.extract p2 0 (Int.toNat (mnI (mnI (mnI ((p0).size : Int) ((p1).size : Int)) ((p2).size : Int)) 60)))] : List ByteArray)).length ≤ c3193) → G 9 #[true, true, true, false, true, true, true, false, false, true, true, true, true, false, false, true, true, true, true, false, false, false, false] a_ w_ := by
        rintro a w3196 ⟨o3183, A3184, c3185, A3188, c3189, A3192, c3193, hk, hs, f137, f3186, f3190, f3194, fg0, hc3187, hc3191, hc3195⟩
        refine xd_of hG ?_
        refine xd_each [3, 7] (by kernel_rfl) rfl ⟨?_, ?_, trivial⟩
        · refine xd_one hk rfl rfl ?_
          refine op_call hk ent_8 (vs := [.slice A3184 (([(strOfNums l136)] : List ByteArray)).length c3185]) rfl (sum_Of_calls K A3184 c3185 ([(strOfNums l136)] : List ByteArray) _ o3183 0 fg0 _ (f3186.imp fun _ h_ => Own.rd h_) hc3187   _ hc1947) ?_
          rintro _ w3201 ⟨o3202, rfl, st3203⟩
          replace f137 := f137.st st3203 (by decide)
          replace f3186 := f3186.st st3203 (by decide)
          replace f3190 := f3190.st st3203 (by decide)
          replace f3194 := f3194.st st3203 (by decide)
          replace fg0 := fg0.st st3203 (by decide)
          replace hs := hs.loc0 st3203 (by decide)
          have hk := hk.put 43 (.int .u32 t1946) rfl
          refine ⟨.inr ⟨f137.now, trivial⟩, ?_⟩
          exact xd_to hG rfl (N2859 _ _ ⟨(fun b_ => (fun l_ => if l_ = 324 then 288 else if l_ = 326 then 289 else if l_ = 327 then 290 else l_) (o3202 b_)), A3188, c3189, A3192, c3193, (by exact Kn.pick (ks := [43, 46, 52, 58]) hk rfl), (hs.relab0 (fun l_ => if l_ = 324 then 288 else if l_ = 326 then 289 else if l_ = 327 then 290 else l_) rfl), (f137.relab (fun l_ => if l_ = 324 then 288 else if l_ = 326 then 289 else if l_ = 327 then 290 else l_) rfl), (f3190.relab (fun l_ => if l_ = 324 then 288 else if l_ = 326 then 289 else if l_ = 327 then 290 else l_) rfl), (f3194.relab (fun l_ => if l_ = 324 then 288 else if l_ = 326 then 289 else if l_ = 327 then 290 else l_) rfl), (fg0.relab (fun l_ => if l_ = 324 then 288 else if l_ = 326 then 289 else if l_ = 327 then 290 else l_) rfl), hc3191, hc3195⟩)
        · refine xd_one hk rfl rfl ?_
          refine op_slice (o := o3183) tab hk (vs := [.string (ByteArray.extract p0 0 (Int.toNat (mnI (mnI (mnI ((p0).size : Int) ((p1).size : Int)) ((p2).size : Int)) 60)))]) (cs := [.string (ByteArray.extract p0 0 (Int.toNat (mnI (mnI (mnI ((p0).size : Int) ((p1).size : Int)) ((p2).size : Int)) 60)))]) rfl rfl rfl rfl rfl rfl rfl rfl rfl 328 fun bx3207 w3204 o3205 st3206 f3208 => ?_
          replace f137 := f137.st st3206 (by decide)
          replace f3186 := f3186.st st3206 (by decide)
          replace f3190 := f3190.st st3206 (by decide)
          replace f3194 := f3194.st st3206 (by decide)
          replace fg0 := fg0.st st3206 (by decide)
          replace hs := hs.loc0 st3206 (by decide)
          have f3209 : Ft (Own encStr 9 (.slice (some ⟨bx3207, 0, none⟩) (([(ByteArray.extract p0 0 (Int.toNat (mnI (mnI (mnI ((p0).size : Int) ((p1).size : Int)) ((p2).size : Int)) 60)))] : List ByteArray)).length 1) ([(ByteArray.extract p0 0 (Int.toNat (mnI (mnI (mnI ((p0).size : Int) ((p1).size : Int)) ((p2).size : Int)) 60)))] : List ByteArray)) w3204 o3205 328 := f3208.imp fun _ h_ => Own.of_box h_ rfl (by simp)
          have hk := hk.put 47 (.slice (some ⟨bx3207, 0, none⟩) (([(ByteArray.extract p0 0 (Int.toNat (mnI (mnI (mnI ((p0).size : Int) ((p1).size : Int)) ((p2).size : Int)) 60)))] : List ByteArray)).length 1) rfl
          refine ⟨.inr ⟨f137.now, trivial⟩, ?_⟩
          exact xd_to hG rfl (N3043 _ _ ⟨(fun b_ => (fun l_ => if l_ = 324 then 307 else if l_ = 325 then 308 else if l_ = 326 then 310 else if l_ = 327 then 311 else if l_ = 328 then 309 else l_) (o3205 b_)), A3184, c3185, (some ⟨bx3207, 0, none⟩), 1, A3188, c3189, A3192, c3193, (by exact Kn.pick (ks := [42, 47, 52, 58]) hk rfl), (hs.relab0 (fun l_ => if l_ = 324 then 307 else if l_ = 325 then 308 else if l_ = 326 then 310 else if l_ = 327 then 311 else if l_ = 328 then 309 else l_) rfl), (f137.relab (fun l_ => if l_ = 324 then 307 else if l_ = 325 then 308 else if l_ = 326 then 310 else if l_ = 327 then 311 else if l_ = 328 then 309 else l_) rfl), (f3186.relab (fun l_ => if l_ = 324 then 307 else if l_ = 325 then 308 else if l_ = 326 then 310 else if l_ = 327 then 311 else if l_ = 328 then 309 else l_) rfl), (f3209.relab (fun l_ => if l_ = 324 then 307 else if l_ = 325 then 308 else if l_ = 326 then 310 else if l_ = 327 then 311 else if l_ = 328 then 309 else l_) rfl), (f3190.relab (fun l_ => if l_ = 324 then 307 else if l_ = 325 then 308 else if l_ = 326 then 310 else if l_ = 327 then 311 else if l_ = 328 then 309 else l_) rfl), (f3194.relab (fun l_ => if l_ = 324 then 307 else if l_ = 325 then 308 else if l_ = 326 then 310 else if l_ = 327 then 311 else if l_ = 328 then 309 else l_) rfl), (fg0.relab (fun l_ => if l_ = 324 then 307 else if l_ = 325 then 308 else if l_ = 326 then 310 else if l_ = 327 then 311 else if l_ = 328 then 309 else l_) rfl), hc3187, (Nat.le_refl _), hc3191, hc3195⟩)
      have N3147 : ∀ (a_ : Act) (w_ : World), (∃ o3137 : Nat → Nat, ∃ A3138 : Option Addr, ∃ c3139 : Nat, ∃ A3142 : Option Addr, ∃ c3143 : Nat, Kn 62 a_ [(42, .slice A3138 (([(strOfNums l136)] : List ByteArray)).length c3139), (46, .string (ByteArray.extract p0 0 (Int.toNat (mnI (mnI (mnI ((p0).size : Int) ((p1).size : Int)) ((p2).size : Int)) 60)))), (52, .slice A3142 (([(ByteArray.extract p1 0 (Int.toNat (mnI (mnI (mnI ((p0).size : Int) ((p1).size : Int)) ((p2).size : Int)) 60)))] : List ByteArray)).length c3143), (57, .string (ByteArray.extract p2 0 (Int.toNat (mnI (mnI (mnI ((p0).size : Int) ((p1).size : Int)) ((p2).size : Int)) 60))))] ∧ St [] w (fun _ => 0) w_ o3137 ∧ Ft (Own (encInt .u8) 5 (.slice A134 (l136).length c135) l136) w_ o3137 319 ∧ Ft (Own encStr 9 (.slice A3138 (([(strOfNums l136)] : List ByteArray)).length c3139) ([(strOfNums l136)] : List ByteArray)) w_ o3137 320 ∧ Ft (Own encStr 9 (.slice A3142 (([(ByteArray.extract p1 0 (Int.toNat (mnI (mnI (mnI ((p0).size : Int) ((p1).size : Int)) ((p2).size : Int)) 60)))] : List ByteArray)).length c3143) ([(ByteArray.extract p1 0 (Int.toNat (mnI (mnI (mnI ((p0).size : Int) ((p1).size : Int)) ((p2).size : Int)) 60)))] : List ByteArray)) w_ o3137 321 ∧ Ft (RdC (encInt .u32) (some ⟨0, 0, none⟩) glob0) w_ o3137 0 ∧ (([(strOfNums l136)] : List ByteArray)).length ≤ c3139 ∧ (([(ByteArray.extract p1 0 (Int.toNat (mnI (mnI (mnI ((p0).size : Int) ((p1).size : Int)) ((p2).size : Int)) 60)))] : List ByteArray)).length ≤ c3143) → G 10 #[true, true, true, false, true, true, true, false, false, true, true, true, true, false, false, true, true, true, false, false, false, false, false] a_ w_ := by
        rintro a w3146 ⟨o3137, A3138, c3139, A3142, c3143, hk, hs, f137, f3140, f3144, fg0, hc3141, hc3145⟩
        refine xd_of hG ?_
        refine xd_each [3, 7, 18] (by kernel_rfl) rfl ⟨?_, ?_, ?_, trivial⟩
        · refine xd_one hk rfl rfl ?_
          refine op_call hk ent_8 (vs := [.slice A3138 (([(strOfNums l136)] : List ByteArray)).length c3139]) rfl (sum_Of_calls K A3138 c3139 ([(strOfNums l136)] : List ByteArray) _ o3137 0 fg0 _ (f3140.imp fun _ h_ => Own.rd h_) hc3141   _ hc1947) ?_
          rintro _ w3151 ⟨o3152, rfl, st3153⟩
          replace f137 := f137.st st3153 (by decide)
          replace f3140 := f3140.st st3153 (by decide)
          replace f3144 := f3144.st st3153 (by decide)
          replace fg0 := fg0.st st3153 (by decide)
          replace hs := hs.loc0 st3153 (by decide)
          have hk := hk.put 43 (.int .u32 t1946) rfl
          refine ⟨.inr ⟨f137.now, trivial⟩, ?_⟩
          exact xd_to hG rfl (N2823 _ _ ⟨(fun b_ => (fun l_ => if l_ = 319 then 284 else if l_ = 321 then 285 else l_) (o3152 b_)), A3142, c3143, (by exact Kn.pick (ks := [43, 46, 52, 57]) hk rfl), (hs.relab0 (fun l_ => if l_ = 319 then 284 else if l_ = 321 then 285 else l_) rfl), (f137.relab (fun l_ => if l_ = 319 then 284 else if l_ = 321 then 285 else l_) rfl), (f3144.relab (fun l_ => if l_ = 319 then 284 else if l_ = 321 then 285 else l_) rfl), (fg0.relab (fun l_ => if l_ = 319 then 284 else if l_ = 321 then 285 else l_) rfl), hc3145⟩)
        · refine xd_one hk rfl rfl ?_
          refine op_slice (o := o3137) tab hk (vs := [.string (ByteArray.extract p0 0 (Int.toNat (mnI (mnI (mnI ((p0).size : Int) ((p1).size : Int)) ((p2).size : Int)) 60)))]) (cs := [.string (ByteArray.extract p0 0 (Int.toNat (mnI (mnI (mnI ((p0).size : Int) ((p1).size : Int)) ((p2).size : Int)) 60)))]) rfl rfl rfl rfl rfl rfl rfl rfl rfl 322 fun bx3157 w3154 o3155 st3156 f3158 => ?_
          replace f137 := f137.st st3156 (by decide)
          replace f3140 := f3140.st st3156 (by decide)
          replace f3144 := f3144.st st3156 (by decide)
          replace fg0 := fg0.st st3156 (by decide)
          replace hs := hs.loc0 st3156 (by decide)
          have f3159 : Ft (Own encStr 9 (.slice (some ⟨bx3157, 0, none⟩) (([(ByteArray.extract p0 0 (Int.toNat (mnI (mnI (mnI ((p0).size : Int) ((p1).size : Int)) ((p2).size : Int)) 60)))] : List ByteArray)).length 1) ([(ByteArray.extract p0 0 (Int.toNat (mnI (mnI (mnI ((p0).size : Int) ((p1).size : Int)) ((p2).size : Int)) 60)))] : List ByteArray)) w3154 o3155 322 := f3158.imp fun _ h_ => Own.of_box h_ rfl (by simp)
          have hk := hk.put 47 (.slice (some ⟨bx3157, 0, none⟩) (([(ByteArray.extract p0 0 (Int.toNat (mnI (mnI (mnI ((p0).size : Int) ((p1).size : Int)) ((p2).size : Int)) 60)))] : List ByteArray)).length 1) rfl
          refine ⟨.inr ⟨f137.now, trivial⟩, ?_⟩
          exact xd_to hG rfl (N2991 _ _ ⟨(fun b_ => (fun l_ => if l_ = 319 then 302 else if l_ = 320 then 303 else if l_ = 321 then 305 else if l_ = 322 then 304 else l_) (o3155 b_)), A3138, c3139, (some ⟨bx3157, 0, none⟩), 1, A3142, c3143, (by exact Kn.pick (ks := [42, 47, 52, 57]) hk rfl), (hs.relab0 (fun l_ => if l_ = 319 then 302 else if l_ = 320 then 303 else if l_ = 321 then 305 else if l_ = 322 then 304 else l_) rfl), (f137.relab (fun l_ => if l_ = 319 then 302 else if l_ = 320 then 303 else if l_ = 321 then 305 else if l_ = 322 then 304 else l_) rfl), (f3140.relab (fun l_ => if l_ = 319 then 302 else if l_ = 320 then 303 else if l_ = 321 then 305 else if l_ = 322 then 304 else l_) rfl), (f3159.relab (fun l_ => if l_ = 319 then 302 else if l_ = 320 then 303 else if l_ = 321 then 305 else if l_ = 322 then 304 else l_) rfl), (f3144.relab (fun l_ => if l_ = 319 then 302 else if l_ = 320 then 303 else if l_ = 321 then 305 else if l_ = 322 then 304 else l_) rfl), (fg0.relab (fun l_ => if l_ = 319 then 302 else if l_ = 320 then 303 else if l_ = 321 then 305 else if l_ = 322 then 304 else l_) rfl), hc3141, (Nat.le_refl _), hc3145⟩)
        · refine xd_one hk rfl rfl ?_
          refine op_slice (o := o3137) tab hk (vs := [.string (ByteArray.extract p2 0 (Int.toNat (mnI (mnI (mnI ((p0).size : Int) ((p1).size : Int)) ((p2).size : Int)) 60)))]) (cs := [.string (ByteArray.extract p2 0 (Int.toNat (mnI (mnI (mnI ((p0).size : Int) ((p1).size : Int)) ((p2).size : Int)) 60)))]) rfl rfl rfl rfl rfl rfl rfl rfl rfl 323 fun bx3163 w3160 o3161 st3162 f3164 => ?_
          replace f137 := f137.st st3162 (by decide)
          replace f3140 := f3140.st st3162 (by decide)
          replace f3144 := f3144.st st3162 (by decide)
          replace fg0 := fg0.st st3162 (by decide)
          replace hs := hs.loc0 st3162 (by decide)
          have f3165 : Ft (Own encStr 9 (.slice (some ⟨bx3163, 0, none⟩) (([(ByteArray.extract p2 0 (Int.toNat (mnI (mnI (mnI ((p0).size : Int) ((p1).size : Int)) ((p2).size : Int)) 60)))] : List ByteArray)).length 1) ([(ByteArray.extract p2 0 (Int.toNat (mnI (mnI (mnI ((p0).size : Int) ((p1).size : Int)) ((p2).size : Int)) 60)))] : List ByteArray)) w3160 o3161 323 := f3164.imp fun _ h_ => Own.of_box h_ rfl (by simp)
          have hk := hk.put 58 (.slice (some ⟨bx3163, 0, none⟩) (([(ByteArray.extract p2 0 (Int.toNat (mnI (mnI (mnI ((p0).size : Int) ((p1).size : Int)) ((p2).size : Int)) 60)))] : List ByteArray)).length 1) rfl
          refine ⟨.inr ⟨f137.now, trivial⟩, ?_⟩
          exact xd_to hG rfl (N3197 _ _ ⟨(fun b_ => (fun l_ => if l_ = 319 then 324 else if l_ = 320 then 325 else if l_ = 321 then 326 else if l_ = 323 then 327 else l_) (o3161 b_)), A3138, c3139, A3142, c3143, (some ⟨bx3163, 0, none⟩), 1, (by exact Kn.pick (ks := [42, 46, 52, 58]) hk rfl), (hs.relab0 (fun l_ => if l_ = 319 then 324 else if l_ = 320 then 325 else if l_ = 321 then 326 else if l_ = 323 then 327 else l_) rfl), (f137.relab (fun l_ => if l_ = 319 then 324 else if l_ = 320 then 325 else if l_ = 321 then 326 else if l_ = 323 then 327 else l_) rfl), (f3140.relab (fun l_ => if l_ = 319 then 324 else if l_ = 320 then 325 else if l_ = 321 then 326 else if l_ = 323 then 327 else l_) rfl), (f3144.relab (fun l_ => if l_ = 319 then 324 else if l_ = 320 then 325 else if l_ = 321 then 326 else if l_ = 323 then 327 else l_) rfl), (f3165.relab (fun l_ => if l_ = 319 then 324 else if l_ = 320 then 325 else if l_ = 321 then 326 else if l_ = 323 then 327 else l_) rfl), (fg0.relab (fun l_ => if l_ = 319 then 324 else if l_ = 320 then 325 else if l_ = 321 then 326 else if l_ = 323 then 327 else l_) rfl), hc3141, hc3145, (Nat.le_refl _)⟩)
      have N3239 : ∀ (a_ : Act) (w_ : World), (∃ o3229 : Nat → Nat, ∃ A3230 : Option Addr, ∃ c3231 : Nat, ∃ A3234 : Option Addr, ∃ c3235 : Nat, Kn 62 a_ [(42, .slice A3230 (([(strOfNums l136)] : List ByteArray)).length c3231), (46, .string (ByteArray.extract p0 0 (Int.toNat (mnI (mnI (mnI ((p0).size : Int) ((p1).size : Int)) ((p2).size : Int)) 60)))), (51, .string (ByteArray.extract p1 0 (Int.toNat (mnI (mnI (mnI ((p0).size : Int) ((p1).size : Int)) ((p2).size : Int)) 60)))), (58, .slice A3234 (([(ByteArray.extract p2 0 (Int.toNat (mnI (mnI (mnI ((p0).size : Int) ((p1).size : Int)) ((p2).size : Int)) 60)))] : List ByteArray)).length c3235)] ∧ St [] w (fun _ => 0) w_ o3229 ∧ Ft (Own (encInt .u8) 5 (.slice A134 (l136).length c135) l136) w_ o3229 330 ∧ Ft (Own encStr 9 (.slice A3230 (([(strOfNums l136)] : List ByteArray)).length c3231) ([(strOfNums l136)] : List ByteArray)) w_ o3229 331 ∧ Ft (Own encStr 9 (.slice A3234 (([(ByteArray.extract p2 0 (Int.toNat (mnI (mnI (mnI ((p0).size : Int) ((p1).size : Int)) ((p2).size : Int)) 60)))] : List ByteArray)).length c3235) ([(ByteArray.extract p2 0 (Int.toNat (mnI (mnI (mnI ((p0).size : Int) ((p1).size : Int)) ((p2).size : Int)) 60)))] : List ByteArray)) w_ o3229 332 ∧ Ft (RdC (encInt .u32) (some ⟨0, 0, none⟩) glob0) w_ o3229 0 ∧ (([(strOfNums l136)] : List ByteArray)).length ≤ c3231 ∧ (([(ByteArray.extract p2 0 (Int.toNat (mnI (mnI (mnI ((p0).size : Int) ((p1).size : Int)) ((p2).size : Int)) 60)))] : List ByteArray)).length ≤ c3235) → G 10 #[true, true, true, false, true, true, true, false, false, true, true, true, false, false, false, true, true, true, true, false, false, false, false] a_ w_ := by
        rintro a w3238 ⟨o3229, A3230, c3231, A3234, c3235, hk, hs, f137, f3232, f3236, fg0, hc3233, hc3237⟩
        refine xd_of hG ?_
        refine xd_each [3, 7, 12] (by kernel_rfl) rfl ⟨?_, ?_, ?_, trivial⟩
        · refine xd_one hk rfl rfl ?_
          refine op_call hk ent_8 (vs := [.slice A3230 (([(strOfNums l136)] : List ByteArray)).length c3231]) rfl (sum_Of_calls K A3230 c3231 ([(strOfNums l136)] : List ByteArray) _ o3229 0 fg0 _ (f3232.imp fun _ h_ => Own.rd h_) hc3233   _ hc1947) ?_
          rintro _ w3243 ⟨o3244, rfl, st3245⟩
          replace f137 := f137.st st3245 (by decide)
          replace f3232 := f3232.st st3245 (by decide)
          replace f3236 := f3236.st st3245 (by decide)
          replace fg0 := fg0.st st3245 (by decide)
          replace hs := hs.loc0 st3245 (by decide)
          have hk := hk.put 43 (.int .u32 t1946) rfl
          refine ⟨.inr ⟨f137.now, trivial⟩, ?_⟩
          exact xd_to hG rfl (N2905 _ _ ⟨(fun b_ => (fun l_ => if l_ = 330 then 293 else if l_ = 332 then 294 else l_) (o3244 b_)), A3234, c3235, (by exact Kn.pick (ks := [43, 46, 51, 58]) hk rfl), (hs.relab0 (fun l_ => if l_ = 330 then 293 else if l_ = 332 then 294 else l_) rfl), (f137.relab (fun l_ => if l_ = 330 then 293 else if l_ = 332 then 294 else l_) rfl), (f3236.relab (fun l_ => if l_ = 330 then 293 else if l_ = 332 then 294 else l_) rfl), (fg0.relab (fun l_ => if l_ = 330 then 293 else if l_ = 332 then 294 else l_) rfl), hc3237⟩)
        · refine xd_one hk rfl rfl ?_
          refine op_slice (o := o3229) tab hk (vs := [.string (ByteArray.extract p0 0 (Int.toNat (mnI (mnI (mnI ((p0).size : Int) ((p1).size : Int)) ((p2).size : Int)) 60)))]) (cs := [.string (ByteArray.extract p0 0 (Int.toNat (mnI (mnI (mnI ((p0).size : Int) ((p1).size : Int)) ((p2).size : Int)) 60)))]) rfl rfl rfl rfl rfl rfl rfl rfl rfl 333 fun bx3249 w3246 o3247 st3248 f3250 => ?_
          replace f137 := f137.st st3248 (by decide)
          replace f3232 := f3232.st st3248 (by decide)
          replace f3236 := f3236.st st3248 (by decide)
          replace fg0 := fg0.st st3248 (by decide)
          replace hs := hs.loc0 st3248 (by decide)
          have f3251 : Ft (Own encStr 9 (.slice (some ⟨bx3249, 0, none⟩) (([(ByteArray.extract p0 0 (Int.toNat (mnI (mnI (mnI ((p0).size : Int) ((p1).size : Int)) ((p2).size : Int)) 60)))] : List ByteArray)).length 1) ([(ByteArray.extract p0 0 (Int.toNat (mnI (mnI (mnI ((p0).size : Int) ((p1).size : Int)) ((p2).size : Int)) 60)))] : List ByteArray)) w3246 o3247 333 := f3250.imp fun _ h_ => Own.of_box h_ rfl (by simp)
          have hk := hk.put 47 (.slice (some ⟨bx3249, 0, none⟩) (([(ByteArray.extract p0 0 (Int.toNat (mnI (mnI (mnI ((p0).size : Int) ((p1).size : Int)) ((p2).size : Int)) 60)))] : List ByteArray)).length 1) rfl
          refine ⟨.inr ⟨f137.now, trivial⟩, ?_⟩
          exact xd_to hG rfl (N3105 _ _ ⟨(fun b_ => (fun l_ => if l_ = 330 then 313 else if l_ = 331 then 314 else if l_ = 332 then 316 else if l_ = 333 then 315 else l_) (o3247 b_)), A3230, c3231, (some ⟨bx3249, 0, none⟩), 1, A3234, c3235, (by exact Kn.pick (ks := [42, 47, 51, 58]) hk rfl), (hs.relab0 (fun l_ => if l_ = 330 then 313 else if l_ = 331 then 314 else if l_ = 332 then 316 else if l_ = 333 then 315 else l_) rfl), (f137.relab (fun l_ => if l_ = 330 then 313 else if l_ = 331 then 314 else if l_ = 332 then 316 else if l_ = 333 then 315 else l_) rfl), (f3232.relab (fun l_ => if l_ = 330 then 313 else if l_ = 331 then 314 else if l_ = 332 then 316 else if l_ = 333 then 315 else l_) rfl), (f3251.relab (fun l_ => if l_ = 330 then 313 else if l_ = 331 then 314 else if l_ = 332 then 316 else if l_ = 333 then 315 else l_) rfl), (f3236.relab (fun l_ => if l_ = 330 then 313 else if l_ = 331 then 314 else if l_ = 332 then 316 else if l_ = 333 then 315 else l_) rfl), (fg0.relab (fun l_ => if l_ = 330 then 313 else if l_ = 331 then 314 else if l_ = 332 then 316 else if l_ = 333 then 315 else l_) rfl), hc3233, (Nat.le_refl _), hc3237⟩)
        · refine xd_one hk rfl rfl ?_
          refine op_slice (o := o3229) tab hk (vs := [.string (ByteArray.extract p1 0 (Int.toNat (mnI (mnI (mnI ((p0).size : Int) ((p1).size : Int)) ((p2).size : Int)) 60)))]) (cs := [.string (ByteArray.extract p1 0 (Int.toNat (mnI (mnI (mnI ((p0).size : Int) ((p1).size : Int)) ((p2).size : Int)) 60)))]) rfl rfl rfl rfl rfl rfl rfl rfl rfl 334 fun bx3255 w3252 o3253 st3254 f3256 => ?_
          replace f137 := f137.st st3254 (by decide)
          replace f3232 := f3232.st st3254 (by decide)
          replace f3236 := f3236.st st3254 (by decide)
          replace fg0 := fg0.st st3254 (by decide)
          replace hs := hs.loc0 st3254 (by decide)
          have f3257 : Ft (Own encStr 9 (.slice (some ⟨bx3255, 0, none⟩) (([(ByteArray.extract p1 0 (Int.toNat (mnI (mnI (mnI ((p0).size : Int) ((p1).size : Int)) ((p2).size : Int)) 60)))] : List ByteArray)).length 1) ([(ByteArray.extract p1 0 (Int.toNat (mnI (mnI (mnI ((p0).size : Int) ((p1).size : Int)) ((p2).size : Int)) 60)))] : List ByteArray)) w3252 o3253 334 := f3256.imp fun _ h_ => Own.of_box h_ rfl (by simp)
          have hk := hk.put 52 (.slice (some ⟨bx3255, 0, none⟩) (([(ByteArray.extract p1 0 (Int.toNat (mnI (mnI (mnI ((p0).size : Int) ((p1).size : Int)) ((p2).size : Int)) 60)))] : List ByteArray)).length 1) rfl
          refine ⟨.inr ⟨f137.now, trivial⟩, ?_⟩
          exact xd_to hG rfl (N3197 _ _ ⟨(fun b_ => (fun l_ => if l_ = 330 then 324 else if l_ = 331 then 325 else if l_ = 332 then 327 else if l_ = 334 then 326 else l_) (o3253 b_)), A3230, c3231, (some ⟨bx3255, 0, none⟩), 1, A3234, c3235, (by exact Kn.pick (ks := [42, 46, 52, 58]) hk rfl), (hs.relab0 (fun l_ => if l_ = 330 then 324 else if l_ = 331 then 325 else if l_ = 332 then 327 else if l_ = 334 then 326 else l_) rfl), (f137.relab (fun l_ => if l_ = 330 then 324 else if l_ = 331 then 325 else if l_ = 332 then 327 else if l_ = 334 then 326 else l_) rfl), (f3232.relab (fun l_ => if l_ = 330 then 324 else if l_ = 331 then 325 else if l_ = 332 then 327 else if l_ = 334 then 326 else l_) rfl), (f3257.relab (fun l_ => if l_ = 330 then 324 else if l_ = 331 then 325 else if l_ = 332 then 327 else if l_ = 334 then 326 else l_) rfl), (f3236.relab (fun l_ => if l_ = 330 then 324 else if l_ = 331 then 325 else if l_ = 332 then 327 else if l_ = 334 then 326 else l_) rfl), (fg0.relab (fun l_ => if l_ = 330 then 324 else if l_ = 331 then 325 else if l_ = 332 then 327 else if l_ = 334 then 326 else l_) rfl), hc3233, (Nat.le_refl _), hc3237⟩)
      have N2493 : ∀ (a_ : Act) (w_ : World), (∃ o2487 : Nat → Nat, ∃ A2488 : Option Addr, ∃ c2489 : Nat, Kn 62 a_ [(42, .slice A2488 (([(strOfNums l136)] : List ByteArray)).length c2489), (46, .string (ByteArray.extract p0 0 (Int.toNat (mnI (mnI (mnI ((p0).size : Int) ((p1).size : Int)) ((p2).size : Int)) 60)))), (51, .string (ByteArray.extract p1 0 (Int.toNat (mnI (mnI (mnI ((p0).size : Int) ((p1).size : Int)) ((p2).size : Int)) 60)))), (57, .string (ByteArray.extract p2 0 (Int.toNat (mnI (mnI (mnI ((p0).size : Int) ((p1).size : Int)) ((p2).size : Int)) 60))))] ∧ St [] w (fun _ => 0) w_ o2487 ∧ Ft (Own (encInt .u8) 5 (.slice A134 (l136).length c135) l136) w_ o2487 249 ∧ Ft (Own encStr 9 (.slice A2488 (([(strOfNums l136)] : List ByteArray)).length c2489) ([(strOfNums l136)] : List ByteArray)) w_ o2487 250 ∧ Ft (RdC (encInt .u32) (some ⟨0, 0, none⟩) glob0) w_ o2487 0 ∧ (([(strOfNums l136)] : List ByteArray)).length ≤ c2489) → G 11 #[true, true, true, false, true, true, true, false, false, true, true, true, false, false, false, true, true, true, false, false, false, false, false] a_ w_ := by
        rintro a w2492 ⟨o2487, A2488, c2489, hk, hs, f137, f2490, fg0, hc2491⟩
        refine xd_of hG ?_
        refine xd_each [3, 7, 12, 18] (by kernel_rfl) rfl ⟨?_, ?_, ?_, ?_, trivial⟩
        · refine xd_one hk rfl rfl ?_
          refine op_call hk ent_8 (vs := [.slice A2488 (([(strOfNums l136)] : List ByteArray)).length c2489]) rfl (sum_Of_calls K A2488 c2489 ([(strOfNums l136)] : List ByteArray) _ o2487 0 fg0 _ (f2490.imp fun _ h_ => Own.rd h_) hc2491   _ hc1947) ?_
          rintro _ w2497 ⟨o2498, rfl, st2499⟩
          replace f137 := f137.st st2499 (by decide)
          replace f2490 := f2490.st st2499 (by decide)
          replace fg0 := fg0.st st2499 (by decide)
          replace hs := hs.loc0 st2499 (by decide)
          have hk := hk.put 43 (.int .u32 t1946) rfl
          refine ⟨.inr ⟨f137.now, trivial⟩, ?_⟩
          exact xd_to hG rfl (N2505 _ _ ⟨(fun b_ => (fun l_ => if l_ = 249 then 251 else l_) (o2498 b_)), (by exact Kn.pick (ks := [43, 46, 51, 57]) hk rfl), (hs.relab0 (fun l_ => if l_ = 249 then 251 else l_) rfl), (f137.relab (fun l_ => if l_ = 249 then 251 else l_) rfl), (fg0.relab (fun l_ => if l_ = 249 then 251 else l_) rfl)⟩)
        · refine xd_one hk rfl rfl ?_
          refine op_slice (o := o2487) tab hk (vs := [.string (ByteArray.extract p0 0 (Int.toNat (mnI (mnI (mnI ((p0).size : Int) ((p1).size : Int)) ((p2).size : Int)) 60)))]) (cs := [.string (ByteArray.extract p0 0 (Int.toNat (mnI (mnI (mnI ((p0).size : Int) ((p1).size : Int)) ((p2).size : Int)) 60)))]) rfl rfl rfl rfl rfl rfl rfl rfl rfl 297 fun bx2921 w2918 o2919 st2920 f2922 => ?_
          replace f137 := f137.st st2920 (by decide)
          replace f2490 := f2490.st st2920 (by decide)
          replace fg0 := fg0.st st2920 (by decide)
          replace hs := hs.loc0 st2920 (by decide)
          have f2923 : Ft (Own encStr 9 (.slice (some ⟨bx2921, 0, none⟩) (([(ByteArray.extract p0 0 (Int.toNat (mnI (mnI (mnI ((p0).size : Int) ((p1).size : Int)) ((p2).size : Int)) 60)))] : List ByteArray)).length 1) ([(ByteArray.extract p0 0 (Int.toNat (mnI (mnI (mnI ((p0).size : Int) ((p1).size : Int)) ((p2).size : Int)) 60)))] : List ByteArray)) w2918 o2919 297 := f2922.imp fun _ h_ => Own.of_box h_ rfl (by simp)
          have hk := hk.put 47 (.slice (some ⟨bx2921, 0, none⟩) (([(ByteArray.extract p0 0 (Int.toNat (mnI (mnI (mnI ((p0).size : Int) ((p1).size : Int)) ((p2).size : Int)) 60)))] : List ByteArray)).length 1) rfl
          refine ⟨.inr ⟨f137.now, trivial⟩, ?_⟩
          exact xd_to hG rfl (N2947 _ _ ⟨(fun b_ => (fun l_ => if l_ = 249 then 298 else if l_ = 250 then 299 else if l_ = 297 then 300 else l_) (o2919 b_)), A2488, c2489, (some ⟨bx2921, 0, none⟩), 1, (by exact Kn.pick (ks := [42, 47, 51, 57]) hk rfl), (hs.relab0 (fun l_ => if l_ = 249 then 298 else if l_ = 250 then 299 else if l_ = 297 then 300 else l_) rfl), (f137.relab (fun l_ => if l_ = 249 then 298 else if l_ = 250 then 299 else if l_ = 297 then 300 else l_) rfl), (f2490.relab (fun l_ => if l_ = 249 then 298 else if l_ = 250 then 299 else if l_ = 297 then 300 else l_) rfl), (f2923.relab (fun l_ => if l_ = 249 then 298 else if l_ = 250 then 299 else if l_ = 297 then 300 else l_) rfl), (fg0.relab (fun l_ => if l_ = 249 then 298 else if l_ = 250 then 299 else if l_ = 297 then 300 else l_) rfl), hc2491, (Nat.le_refl _)⟩)
        · refine xd_one hk rfl rfl ?_
          refine op_slice (o := o2487) tab hk (vs := [.string (ByteArray.extract p1 0 (Int.toNat (mnI (mnI (mnI ((p0).size : Int) ((p1).size : Int)) ((p2).size : Int)) 60)))]) (cs := [.string (ByteArray.extract p1 0 (Int.toNat (mnI (mnI (mnI ((p0).size : Int) ((p1).size : Int)) ((p2).size : Int)) 60)))]) rfl rfl rfl rfl rfl rfl rfl rfl rfl 318 fun bx3121 w3118 o3119 st3120 f3122 => ?_
          replace f137 := f137.st st3120 (by decide)
          replace f2490 := f2490.st st3120 (by decide)
          replace fg0 := fg0.st st3120 (by decide)
          replace hs := hs.loc0 st3120 (by decide)
          have f3123 : Ft (Own encStr 9 (.slice (some ⟨bx3121, 0, none⟩) (([(ByteArray.extract p1 0 (Int.toNat (mnI (mnI (mnI ((p0).size : Int) ((p1).size : Int)) ((p2).size : Int)) 60)))] : List ByteArray)).length 1) ([(ByteArray.extract p1 0 (Int.toNat (mnI (mnI (mnI ((p0).size : Int) ((p1).size : Int)) ((p2).size : Int)) 60)))] : List ByteArray)) w3118 o3119 318 := f3122.imp fun _ h_ => Own.of_box h_ rfl (by simp)
          have hk := hk.put 52 (.slice (some ⟨bx3121, 0, none⟩) (([(ByteArray.extract p1 0 (Int.toNat (mnI (mnI (mnI ((p0).size : Int) ((p1).size : Int)) ((p2).size : Int)) 60)))] : List ByteArray)).length 1) rfl
          refine ⟨.inr ⟨f137.now, trivial⟩, ?_⟩
          exact xd_to hG rfl (N3147 _ _ ⟨(fun b_ => (fun l_ => if l_ = 249 then 319 else if l_ = 250 then 320 else if l_ = 318 then 321 else l_) (o3119 b_)), A2488, c2489, (some ⟨bx3121, 0, none⟩), 1, (by exact Kn.pick (ks := [42, 46, 52, 57]) hk rfl), (hs.relab0 (fun l_ => if l_ = 249 then 319 else if l_ = 250 then 320 else if l_ = 318 then 321 else l_) rfl), (f137.relab (fun l_ => if l_ = 249 then 319 else if l_ = 250 then 320 else if l_ = 318 then 321 else l_) rfl), (f2490.relab (fun l_ => if l_ = 249 then 319 else if l_ = 250 then 320 else if l_ = 318 then 321 else l_) rfl), (f3123.relab (fun l_ => if l_ = 249 then 319 else if l_ = 250 then 320 else if l_ = 318 then 321 else l_) rfl), (fg0.relab (fun l_ => if l_ = 249 then 319 else if l_ = 250 then 320 else if l_ = 318 then 321 else l_) rfl), hc2491, (Nat.le_refl _)⟩)
        · refine xd_one hk rfl rfl ?_
          refine op_slice (o := o2487) tab hk (vs := [.string (ByteArray.extract p2 0 (Int.toNat (mnI (mnI (mnI ((p0).size : Int) ((p1).size : Int)) ((p2).size : Int)) 60)))]) (cs := [.string (ByteArray.extract p2 0 (Int.toNat (mnI (mnI (mnI ((p0).size : Int) ((p1).size : Int)) ((p2).size : Int)) 60)))]) rfl rfl rfl rfl rfl rfl rfl rfl rfl 329 fun bx3213 w3210 o3211 st3212 f3214 => ?_
          replace f137 := f137.st st3212 (by decide)
          replace f2490 := f2490.st st3212 (by decide)
          replace fg0 := fg0.st st3212 (by decide)
          replace hs := hs.loc0 st3212 (by decide)
          have f3215 : Ft (Own encStr 9 (.slice (some ⟨bx3213, 0, none⟩) (([(ByteArray.extract p2 0 (Int.toNat (mnI (mnI (mnI ((p0).size : Int) ((p1).size : Int)) ((p2).size : Int)) 60)))] : List ByteArray)).length 1) ([(ByteArray.extract p2 0 (Int.toNat (mnI (mnI (mnI ((p0).size : Int) ((p1).size : Int)) ((p2).size : Int)) 60)))] : List ByteArray)) w3210 o3211 329 := f3214.imp fun _ h_ => Own.of_box h_ rfl (by simp)
          have hk := hk.put 58 (.slice (some ⟨bx3213, 0, none⟩) (([(ByteArray.extract p2 0 (Int.toNat (mnI (mnI (mnI ((p0).size : Int) ((p1).size : Int)) ((p2).size : Int)) 60)))] : List ByteArray)).length 1) rfl
          refine ⟨.inr ⟨f137.now, trivial⟩, ?_⟩
          exact xd_to hG rfl (N3239 _ _ ⟨(fun b_ => (fun l_ => if l_ = 249 then 330 else if l_ = 250 then 331 else if l_ = 329 then 332 else l_) (o3211 b_)), A2488, c2489, (some ⟨bx3213, 0, none⟩), 1, (by exact Kn.pick (ks := [42, 46, 51, 58]) hk rfl), (hs.relab0 (fun l_ => if l_ = 249 then 330 else if l_ = 250 then 331 else if l_ = 329 then 332 else l_) rfl), (f137.relab (fun l_ => if l_ = 249 then 330 else if l_ = 250 then 331 else if l_ = 329 then 332 else l_) rfl), (f2490.relab (fun l_ => if l_ = 249 then 330 else if l_ = 250 then 331 else if l_ = 329 then 332 else l_) rfl), (f3215.relab (fun l_ => if l_ = 249 then 330 else if l_ = 250 then 331 else if l_ = 329 then 332 else l_) rfl), (fg0.relab (fun l_ => if l_ = 249 then 330 else if l_ = 250 then 331 else if l_ = 329 then 332 else l_) rfl), hc2491, (Nat.le_refl _)⟩)
      have N3359 : ∀ (a_ : Act) (w_ : World), (∃ o3345 : Nat → Nat, ∃ A3346 : Option Addr, ∃ c3347 : Nat, ∃ A3350 : Option Addr, ∃ c3351 : Nat, ∃ A3354 : Option Addr, ∃ c3355 : Nat, Kn 62 a_ [(41, .string (strOfNums l136)), (47, .slice A3346 (([(ByteArray.extract p0 0 (Int.toNat (mnI (mnI (mnI ((p0).size : Int) ((p1).size : Int)) ((p2).size : Int)) 60)))] : List ByteArray)).length c3347), (52, .slice A3350 (([(ByteArray.extract p1 0 (Int.toNat (mnI (mnI (mnI ((p0).size : Int) ((p1).size : Int)) ((p2).size : Int)) 60)))] : List ByteArray)).length c3351), (58, .slice A3354 (([(ByteArray.extract p2 0 (Int.toNat (mnI (mnI (mnI ((p0).size : Int) ((p1).size : Int)) ((p2).size : Int)) 60)))] : List ByteArray)).length c3355)] ∧ St [] w (fun _ => 0) w_ o3345 ∧ Ft (Own (encInt .u8) 5 (.slice A134 (l136).length c135) l136) w_ o3345 345 ∧ Ft (Own encStr 9 (.slice A3346 (([(ByteArray.extract p0 0 (Int.toNat (mnI (mnI (mnI ((p0).size : Int) ((p1).size : Int)) ((p2).size : Int)) 60)))] : List ByteArray)).length c3347) ([(ByteArray.extract p0 0 (Int.toNat (mnI (mnI (mnI ((p0).size : Int) ((p1).size : Int)) ((p2).size : Int)) 60)))] : List ByteArray)) w_ o3345 346 ∧ Ft (Own encStr 9 (.slice A3350 (([(ByteArray.extract p1 0 (Int.toNat (mnI (mnI (mnI ((p0).size : Int) ((p1).size : Int)) ((p2).size : Int)) 60)))] : List ByteArray)).length c3351) ([(ByteArray.extract p1 0 (Int.toNat (mnI (mnI (mnI ((p0).size : Int) ((p1).size : Int)) ((p2).size : Int)) 60)))] : List ByteArray)) w_ o3345 347 ∧ Ft (Own encStr 9 (.slice A3354 (([(ByteArray.extract p2 0 (Int.toNat (mnI (mnI (mnI ((p0).size : Int) ((p1).size : Int)) ((p2).size : Int)) 60)))] : List ByteArray)).length c3355) ([(ByteArray.extract p2 0 (Int.toNat (mnI (mnI (mnI ((p0).size : Int) ((p1).size : Int)) ((p2).size : Int)) 60)))] : List ByteArray)) w_ o3345 348 ∧ Ft (RdC (encInt .u32) (some ⟨0, 0, none⟩) glob0) w_ o3345 0 ∧ (([(ByteArray.extract p0 0 (Int.toNat (mnI (mnI (mnI ((p0).size : Int) ((p1).size : Int)) ((p2).size : Int)) 60)))] : List ByteArray)).length ≤ c3347 ∧ (([(ByteArray.extract p1 0 (Int.toNat (mnI (mnI (mnI ((p0).size : Int) ((p1).size : Int)) ((p2).size : Int)) 60)))] : List ByteArray)).length ≤ c3351 ∧ (([(ByteArray.extract p2 0 (Int.toNat (mnI (mnI (mnI ((p0).size : Int) ((p1).size : Int)) ((p2).size : Int)) 60)))] : List ByteArray)).length ≤ c3355) → G 9 #[true, true, false, false, true, true, true, true, false, true, true, true, true, false, false, true, true, true, true, false, false, false, false] a_ w_ := by
        rintro a w3358 ⟨o3345, A3346, c3347, A3350, c3351, A3354, c3355, hk, hs, f137, f3348, f3352, f3356, fg0, hc3349, hc3353, hc3357⟩
        refine xd_of hG ?_
        refine xd_op hk (i := 2) (by kernel_rfl) rfl rfl ?_
        refine op_slice (o := o3345) tab hk (vs := [.string (strOfNums l136)]) (cs := [.string (strOfNums l136)]) rfl rfl rfl rfl rfl rfl rfl rfl rfl 349 fun bx3363 w3360 o3361 st3362 f3364 => ?_
        replace f137 := f137.st st3362 (by decide)
        replace f3348 := f3348.st st3362 (by decide)
        replace f3352 := f3352.st st3362 (by decide)
        replace f3356 := f3356.st st3362 (by decide)
        replace fg0 := fg0.st st3362 (by decide)
        replace hs := hs.loc0 st3362 (by decide)
        have f3365 : Ft (Own encStr 9 (.slice (some ⟨bx3363, 0, none⟩) (([(strOfNums l136)] : List ByteArray)).length 1) ([(strOfNums l136)] : List ByteArray)) w3360 o3361 349 := f3364.imp fun _ h_ => Own.of_box h_ rfl (by simp)
        have hk := hk.put 42 (.slice (some ⟨bx3363, 0, none⟩) (([(strOfNums l136)] : List ByteArray)).length 1) rfl
        refine ⟨.inr ⟨f137.now, trivial⟩, ?_⟩
        refine xd_op hk (i := 3) (by kernel_rfl) rfl rfl ?_
        refine op_call hk ent_8 (vs := [.slice (some ⟨bx3363, 0, none⟩) (([(strOfNums l136)] : List ByteArray)).length 1]) rfl (sum_Of_calls K (some ⟨bx3363, 0, none⟩) 1 ([(strOfNums l136)] : List ByteArray) _ o3361 0 fg0 _ (f3365.imp fun _ h_ => Own.rd h_) (Nat.le_refl _)   _ hc1947) ?_
        rintro _ w3369 ⟨o3370, rfl, st3371⟩
        replace f137 := f137.st st3371 (by decide)
        replace f3348 := f3348.st st3371 (by decide)
        replace f3352 := f3352.st st3371 (by decide)
        replace f3356 := f3356.st st3371 (by decide)
        replace f3365 := f3365.st st3371 (by decide)
        replace fg0 := fg0.st st3371 (by decide)
        replace hs := hs.loc0 st3371 (by decide)
        have hk := hk.put 43 (.int .u32 t1946) rfl
        refine ⟨.inr ⟨f137.now, trivial⟩, ?_⟩
        refine xd_op hk (i := 8) (by kernel_rfl) rfl rfl ?_
        refine op_call hk ent_8 (vs := [.slice A3346 (([(ByteArray.extract p0 0 (Int.toNat (mnI (mnI (mnI ((p0).size : Int) ((p1).size : Int)) ((p2).size : Int)) 60)))] : List ByteArray)).length c3347]) rfl (sum_Of_calls K A3346 c3347 ([(ByteArray.extract p0 0 (Int.toNat (mnI (mnI (mnI ((p0).size : Int) ((p1).size : Int)) ((p2).size : Int)) 60)))] : List ByteArray) _ o3370 0 fg0 _ (f3348.imp fun _ h_ => Own.rd h_) hc3349   _ hc1962) ?_
        rintro _ w3375 ⟨o3376, rfl, st3377⟩
        replace f137 := f137.st st3377 (by decide)
        replace f3348 := f3348.st st3377 (by decide)
        replace f3352 := f3352.st st3377 (by decide)
        replace f3356 := f3356.st st3377 (by decide)
        replace f3365 := f3365.st st3377 (by decide)
        replace fg0 := fg0.st st3377 (by decide)
        replace hs := hs.loc0 st3377 (by decide)
        have hk := hk.put 48 (.int .u32 t1961) rfl
        refine ⟨.inr ⟨f137.now, trivial⟩, ?_⟩
        refine xd_op hk (i := 13) (by kernel_rfl) rfl rfl ?_
        refine op_call hk ent_8 (vs := [.slice A3350 (([(ByteArray.extract p1 0 (Int.toNat (mnI (mnI (mnI ((p0).size : Int) ((p1).size : Int)) ((p2).size : Int)) 60)))] : List ByteArray)).length c3351]) rfl (sum_Of_calls K A3350 c3351 ([(ByteArray.extract p1 0 (Int.toNat (mnI (mnI (mnI ((p0).size : Int) ((p1).size : Int)) ((p2).size : Int)) 60)))] : List ByteArray) _ o3376 0 fg0 _ (f3352.imp fun _ h_ => Own.rd h_) hc3353   _ hc1977) ?_
        rintro _ w3381 ⟨o3382, rfl, st3383⟩
        replace f137 := f137.st st3383 (by decide)
        replace f3348 := f3348.st st3383 (by decide)
        replace f3352 := f3352.st st3383 (by decide)
        replace f3356 := f3356.st st3383 (by decide)
        replace f3365 := f3365.st st3383 (by decide)
        replace fg0 := fg0.st st3383 (by decide)
        replace hs := hs.loc0 st3383 (by decide)
        have hk := hk.put 53 (.int .u32 t1976) rfl
        refine ⟨.inr ⟨f137.now, trivial⟩, ?_⟩
        refine xd_take tab hk (k := 4) (is := [14]) (ls' := #[true, true, true, true, true, true, true, true, true, true, true, true, true, true, true, true, true, true, true, false, false, false, false]) (lv := []) (ks := [43, 54, 58]) (e' := [(43, .int .u32 t1946), (54, .int .u32 (bits .xor .u32 t1961 t1976)), (58, .slice A3354 (([(ByteArray.extract p2 0 (Int.toNat (mnI (mnI (mnI ((p0).size : Int) ((p1).size : Int)) ((p2).size : Int)) 60)))] : List ByteArray)).length c3355)]) (by kernel_rfl) rfl rfl (by kernel_rfl) (np_then (np_then np_body)) ⟨f137.now, trivial⟩ (fun W_ hS => trivial) fun a hk => ?_
        refine xd_op hk (i := 19) (by kernel_rfl) rfl rfl ?_
        refine op_call hk ent_8 (vs := [.slice A3354 (([(ByteArray.extract p2 0 (Int.toNat (mnI (mnI (mnI ((p0).size : Int) ((p1).size : Int)) ((p2).size : Int)) 60)))] : List ByteArray)).length c3355]) rfl (sum_Of_calls K A3354 c3355 ([(ByteArray.extract p2 0 (Int.toNat (mnI (mnI (mnI ((p0).size : Int) ((p1).size : Int)) ((p2).size : Int)) 60)))] : List ByteArray) _ o3382 0 fg0 _ (f3356.imp fun _ h_ => Own.rd h_) hc3357   _ hc1992) ?_
        rintro _ w3387 ⟨o3388, rfl, st3389⟩
        replace f137 := f137.st st3389 (by decide)
        replace f3348 := f3348.st st3389 (by decide)
        replace f3352 := f3352.st st3389 (by decide)
        replace f3356 := f3356.st st3389 (by decide)
        replace f3365 := f3365.st st3389 (by decide)
        replace fg0 := fg0.st st3389 (by decide)
        replace hs := hs.loc0 st3389 (by decide)
        have hk := hk.put 59 (.int .u32 t1991) rfl
        refine ⟨.inr ⟨f137.now, trivial⟩, ?_⟩
        refine xd_take tab hk (k := 0) (is := [20, 21, 22]) (ls' := #[true, true, true, true, true, true, true, true, true, true, true, true, true, true, true, true, true, true, true, true, true, true, true]) (lv := []) (ks := [6]) (e' := [(6, .bool (t1946 == (bits .xor .u32 (bits .xor .u32 t1961 t1976) t1991)))]) (by kernel_rfl) rfl rfl (by kernel_rfl) (np_then (np_then np_body)) ⟨f137.now, trivial⟩ (fun W_ hS => trivial) fun a hk => ?_
        refine xd_done (by kernel_rfl) ?_
        refine then_n ?_
        exact ⟨o3388, (t1946 == (bits .xor .u32 (bits .xor .u32 t1961 t1976) t1991)), (by exact Kn.pick (ks := [6]) hk rfl), hs, fg0, H⟩
      have N3315 : ∀ (a_ : Act) (w_ : World), (∃ o3305 : Nat → Nat, ∃ A3306 : Option Addr, ∃ c3307 : Nat, ∃ A3310 : Option Addr, ∃ c3311 : Nat, Kn 62 a_ [(41, .string (strOfNums l136)), (47, .slice A3306 (([(ByteArray.extract p0 0 (Int.toNat (mnI (mnI (mnI ((p0).size : Int) ((p1).size : Int)) ((p2).size : Int)) 60)))] : List ByteArray)).length c3307), (52, .slice A3310 (([(ByteArray.extract p1 0 (Int.toNat (mnI (mnI (mnI ((p0).size : Int) ((p1).size : Int)) ((p2).size : Int)) 60)))] : List ByteArray)).length c3311), (57, .string (ByteArray.extract p2 0 (Int.toNat (mnI (mnI (mnI ((p0).size : Int) ((p1).size : Int)) ((p2).size : Int)) 60))))] ∧ St [] w (fun _ => 0) w_ o3305 ∧ Ft (Own (encInt .u8) 5 (.slice A134 (l136).length c135) l136) w_ o3305 340 ∧ Ft (Own encStr 9 (.slice A3306 (([(ByteArray.extract p0 0 (Int.toNat (mnI (mnI (mnI ((p0).size : Int) ((p1).size : Int)) ((p2).size : Int)) 60)))] : List ByteArray)).length c3307) ([(ByteArray.extract p0 0 (Int.toNat (mnI (mnI (mnI ((p0).size : Int) ((p1).size : Int)) ((p2).size : Int)) 60)))] : List ByteArray)) w_ o3305 341 ∧ Ft (Own encStr 9 (.slice A3310 (([(ByteArray.extract p1 0 (Int.toNat (mnI (mnI (mnI ((p0).size : Int) ((p1).size : Int)) ((p2).size : Int)) 60)))] : List ByteArray)).length c3311) ([(ByteArray.extract p1 0 (Int.toNat (mnI (mnI (mnI ((p0).size : Int) ((p1).size : Int)) ((p2).size : Int)) 60)))] : List ByteArray)) w_ o3305 342 ∧ Ft (RdC (encInt .u32) (some ⟨0, 0, none⟩) glob0) w_ o3305 0 ∧ (([(ByteArray.extract p0 0 (Int.toNat (mnI (mnI (mnI ((p0).size : Int) ((p1).size : Int)) ((p2).size : Int)) 60)))] : List ByteArray)).length ≤ c3307 ∧ (([(ByteArray.extract p1 0 (Int.toNat (mnI (mnI (mnI ((p0).size : Int) ((p1).size : Int)) ((p2).size : Int)) 60)))] : List ByteArray)).length ≤ c3311) → G 10 #[true, true, false, false, true, true, true, true, false, true, true, true, true, false, false, true, true, true, false, false, false, false, false] a_ w_ := by
        rintro a w3314 ⟨o3305, A3306, c3307, A3310, c3311, hk, hs, f137, f3308, f3312, fg0, hc3309, hc3313⟩
        refine xd_of hG ?_
        refine xd_each [2, 18] (by kernel_rfl) rfl ⟨?_, ?_, trivial⟩
        · refine xd_one hk rfl rfl ?_
          refine op_slice (o := o3305) tab hk (vs := [.string (strOfNums l136)]) (cs := [.string (strOfNums l136)]) rfl rfl rfl rfl rfl rfl rfl rfl rfl 343 fun bx3319 w3316 o3317 st3318 f3320 => ?_
          replace f137 := f137.st st3318 (by decide)
          replace f3308 := f3308.st st3318 (by decide)
          replace f3312 := f3312.st st3318 (by decide)
          replace fg0 := fg0.st st3318 (by decide)
          replace hs := hs.loc0 st3318 (by decide)
          have f3321 : Ft (Own encStr 9 (.slice (some ⟨bx3319, 0, none⟩) (([(strOfNums l136)] : List ByteArray)).length 1) ([(strOfNums l136)] : List ByteArray)) w3316 o3317 343 := f3320.imp fun _ h_ => Own.of_box h_ rfl (by simp)
          have hk := hk.put 42 (.slice (some ⟨bx3319, 0, none⟩) (([(strOfNums l136)] : List ByteArray)).length 1) rfl
          refine ⟨.inr ⟨f137.now, trivial⟩, ?_⟩
          exact xd_to hG rfl (N2991 _ _ ⟨(fun b_ => (fun l_ => if l_ = 340 then 302 else if l_ = 341 then 304 else if l_ = 342 then 305 else if l_ = 343 then 303 else l_) (o3317 b_)), (some ⟨bx3319, 0, none⟩), 1, A3306, c3307, A3310, c3311, (by exact Kn.pick (ks := [42, 47, 52, 57]) hk rfl), (hs.relab0 (fun l_ => if l_ = 340 then 302 else if l_ = 341 then 304 else if l_ = 342 then 305 else if l_ = 343 then 303 else l_) rfl), (f137.relab (fun l_ => if l_ = 340 then 302 else if l_ = 341 then 304 else if l_ = 342 then 305 else if l_ = 343 then 303 else l_) rfl), (f3321.relab (fun l_ => if l_ = 340 then 302 else if l_ = 341 then 304 else if l_ = 342 then 305 else if l_ = 343 then 303 else l_) rfl), (f3308.relab (fun l_ => if l_ = 340 then 302 else if l_ = 341 then 304 else if l_ = 342 then 305 else if l_ = 343 then 303 else l_) rfl), (f3312.relab (fun l_ => if l_ = 340 then 302 else if l_ = 341 then 304 else if l_ = 342 then 305 else if l_ = 343 then 303 else l_) rfl), (fg0.relab (fun l_ => if l_ = 340 then 302 else if l_ = 341 then 304 else if l_ = 342 then 305 else if l_ = 343 then 303 else l_) rfl), (Nat.le_refl _), hc3309, hc3313⟩)
        · refine xd_one hk rfl rfl ?_
          refine op_slice (o := o3305) tab hk (vs := [.string (ByteArray.extract p2 0 (Int.toNat (mnI (mnI (mnI ((p0).size : Int) ((p1).size : Int)) ((p2).size : Int)) 60)))]) (cs := [.string (ByteArray.extract p2 0 (Int.toNat (mnI (mnI (mnI ((p0).size : Int) ((p1).size : Int)) ((p2).size : Int)) 60)))]) rfl rfl rfl rfl rfl rfl rfl rfl rfl 344 fun bx3325 w3322 o3323 st3324 f3326 => ?_
          replace f137 := f137.st st3324 (by decide)
          replace f3308 := f3308.st st3324 (by decide)
          replace f3312 := f3312.st st3324 (by decide)
          replace fg0 := fg0.st st3324 (by decide)
          replace hs := hs.loc0 st3324 (by decide)
          have f3327 : Ft (Own encStr 9 (.slice (some ⟨bx3325, 0, none⟩) (([(ByteArray.extract p2 0 (Int.toNat (mnI (mnI (mnI ((p0).size : Int) ((p1).size : Int)) ((p2).size : Int)) 60)))] : List ByteArray)).length 1) ([(ByteArray.extract p2 0 (Int.toNat (mnI (mnI (mnI ((p0).size : Int) ((p1).size : Int)) ((p2).size : Int)) 60)))] : List ByteArray)) w3322 o3323 344 := f3326.imp fun _ h_ => Own.of_box h_ rfl (by simp)
          have hk := hk.put 58 (.slice (some ⟨bx3325, 0, none⟩) (([(ByteArray.extract p2 0 (Int.toNat (mnI (mnI (mnI ((p0).size : Int) ((p1).size : Int)) ((p2).size : Int)) 60)))] : List ByteArray)).length 1) rfl
          refine ⟨.inr ⟨f137.now, trivial⟩, ?_⟩
          exact xd_to hG rfl (N3359 _ _ ⟨(fun b_ => (fun l_ => if l_ = 340 then 345 else if l_ = 341 then 346 else if l_ = 342 then 347 else if l_ = 344 then 348 else l_) (o3323 b_)), A3306, c3307, A3310, c3311, (some ⟨bx3325, 0, none⟩), 1, (by exact Kn.pick (ks := [41, 47, 52, 58]) hk rfl), (hs.relab0 (fun l_ => if l_ = 340 then 345 else if l_ = 341 then 346 else if l_ = 342 then 347 else if l_ = 344 then 348 else l_) rfl), (f137.relab (fun l_ => if l_ = 340 then 345 else if l_ = 341 then 346 else if l_ = 342 then 347 else if l_ = 344 then 348 else l_) rfl), (f3308.relab (fun l_ => if l_ = 340 then 345 else if l_ = 341 then 346 else if l_ = 342 then 347 else if l_ = 344 then 348 else l_) rfl), (f3312.relab (fun l_ => if l_ = 340 then 345 else if l_ = 341 then 346 else if l_ = 342 then 347 else if l_ = 344 then 348 else l_) rfl), (f3327.relab (fun l_ => if l_ = 340 then 345 else if l_ = 341 then 346 else if l_ = 342 then 347 else if l_ = 344 then 348 else l_) rfl), (fg0.relab (fun l_ => if l_ = 340 then 345 else if l_ = 341 then 346 else if l_ = 342 then 347 else if l_ = 344 then 348 else l_) rfl), hc3309, hc3313, (Nat.le_refl _)⟩)
      have N3419 : ∀ (a_ : Act) (w_ : World), (∃ o3409 : Nat → Nat, ∃ A3410 : Option Addr, ∃ c3411 : Nat, ∃ A3414 : Option Addr, ∃ c3415 : Nat, Kn 62 a_ [(41, .string (strOfNums l136)), (47, .slice A3410 (([(ByteArray.extract p0 0 (Int.toNat (mnI (mnI (mnI ((p0).size : Int) ((p1).size : Int)) ((p2).size : Int)) 60)))] : List ByteArray)).length c3411), (51, .string (ByteArray.extract p1 0 (Int.toNat (mnI (mnI (mnI ((p0).size : Int) ((p1).size : Int)) ((p2).size : Int)) 60)))), (58, .slice A3414 (([(ByteArray.extract p2 0 (Int.toNat (mnI (mnI (mnI ((p0).size : Int) ((p1).size : Int)) ((p2).size : Int)) 60)))] : List ByteArray)).length c3415)] ∧ St [] w (fun _ => 0) w_ o3409 ∧ Ft (Own (encInt .u8) 5 (.slice A134 (l136).length c135) l136) w_ o3409 351 ∧ Ft (Own encStr 9 (.slice A3410 (([(ByteArray.extract p0 0 (Int.toNat (mnI (mnI (mnI ((p0).size : Int) ((p1).size : Int)) ((p2).size : Int)) 60)))] : List ByteArray)).length c3411) ([(ByteArray.extract p0 0 (Int.toNat (mnI (mnI (mnI ((p0).size : Int) ((p1).size : Int)) ((p2).size : Int)) 60)))] : List ByteArray)) w_ o3409 352 ∧ Ft (Own encStr 9 (.slice A3414 (([(ByteArray.extract p2 0 (Int.toNat (mnI (mnI (mnI ((p0).size : Int) ((p1).size : Int)) ((p2).size : Int)) 60)))] : List ByteArray)).length c3415) ([(ByteArray.extract p2 0 (Int.toNat (mnI (mnI (mnI ((p0).size : Int) ((p1).size : Int)) ((p2).size : Int)) 60)))] : List ByteArray)) w_ o3409 353 ∧ Ft (RdC (encInt .u32) (some ⟨0, 0, none⟩) glob0) w_ o3409 0 ∧ (([(ByteArray.extract p0 0 (Int.toNat (mnI (mnI (mnI ((p0).size : Int) ((p1).size : Int)) ((p2).size : Int)) 60)))] : List ByteArray)).length ≤ c3411 ∧ (([(ByteArray.extract p2 0 (Int.toNat (mnI (mnI (mnI ((p0).size : Int) ((p1).size : Int)) ((p2).size : Int)) 60)))] : List ByteArray)).length ≤ c3415) → G 10 #[true, true, false, false, true, true, true, true, false, true, true, true, false, false, false, true, true, true, true, false, false, false, false] a_ w_ := by
        rintro a w3418 ⟨o3409, A3410, c3411, A3414, c3415, hk, hs, f137, f3412, f3416, fg0, hc3413, hc3417⟩
        refine xd_of hG ?_
        refine xd_each [2, 12] (by kernel_rfl) rfl ⟨?_, ?_, trivial⟩
        · refine xd_one hk rfl rfl ?_
          refine op_slice (o := o3409) tab hk (vs := [.string (strOfNums l136)]) (cs := [.string (strOfNums l136)]) rfl rfl rfl rfl rfl rfl rfl rfl rfl 354 fun bx3423 w3420 o3421 st3422 f3424 => ?_
          replace f137 := f137.st st3422 (by decide)
          replace f3412 := f3412.st st3422 (by decide)
          replace f3416 := f3416.st st3422 (by decide)
          replace fg0 := fg0.st st3422 (by decide)
          replace hs := hs.loc0 st3422 (by decide)
          have f3425 : Ft (Own encStr 9 (.slice (some ⟨bx3423, 0, none⟩) (([(strOfNums l136)] : List ByteArray)).length 1) ([(strOfNums l136)] : List ByteArray)) w3420 o3421 354 := f3424.imp fun _ h_ => Own.of_box h_ rfl (by simp)
          have hk := hk.put 42 (.slice (some ⟨bx3423, 0, none⟩) (([(strOfNums l136)] : List ByteArray)).length 1) rfl
          refine ⟨.inr ⟨f137.now, trivial⟩, ?_⟩
          exact xd_to hG rfl (N3105 _ _ ⟨(fun b_ => (fun l_ => if l_ = 351 then 313 else if l_ = 352 then 315 else if l_ = 353 then 316 else if l_ = 354 then 314 else l_) (o3421 b_)), (some ⟨bx3423, 0, none⟩), 1, A3410, c3411, A3414, c3415, (by exact Kn.pick (ks := [42, 47, 51, 58]) hk rfl), (hs.relab0 (fun l_ => if l_ = 351 then 313 else if l_ = 352 then 315 else if l_ = 353 then 316 else if l_ = 354 then 314 else l_) rfl), (f137.relab (fun l_ => if l_ = 351 then 313 else if l_ = 352 then 315 else if l_ = 353 then 316 else if l_ = 354 then 314 else l_) rfl), (f3425.relab (fun l_ => if l_ = 351 then 313 else if l_ = 352 then 315 else if l_ = 353 then 316 else if l_ = 354 then 314 else l_) rfl), (f3412.relab (fun l_ => if l_ = 351 then 313 else if l_ = 352 then 315 else if l_ = 353 then 316 else if l_ = 354 then 314 else l_) rfl), (f3416.relab (fun l_ => if l_ = 351 then 313 else if l_ = 352 then 315 else if l_ = 353 then 316 else if l_ = 354 then 314 else l_) rfl), (fg0.relab (fun l_ => if l_ = 351 then 313 else if l_ = 352 then 315 else if l_ = 353 then 316 else if l_ = 354 then 314 else l_) rfl), (Nat.le_refl _), hc3413, hc3417⟩)
        · refine xd_one hk rfl rfl ?_
          refine op_slice (o := o3409) tab hk (vs := [.string (ByteArray.extract p1 0 (Int.toNat (mnI (mnI (mnI ((p0).size : Int) ((p1).size : Int)) ((p2).size : Int)) 60)))]) (cs := [.string (ByteArray.extract p1 0 (Int.toNat (mnI (mnI (mnI ((p0).size : Int) ((p1).size : Int)) ((p2).size : Int)) 60)))]) rfl rfl rfl rfl rfl rfl rfl rfl rfl 355 fun bx3429 w3426 o3427 st3428 f3430 => ?_
          replace f137 := f137.st st3428 (by decide)
          replace f3412 := f3412.st st3428 (by decide)
          replace f3416 := f3416.st st3428 (by decide)
          replace fg0 := fg0.st st3428 (by decide)
          replace hs := hs.loc0 st3428 (by decide)
          have f3431 : Ft (Own encStr 9 (.slice (some ⟨bx3429, 0, none⟩) (([(ByteArray.extract p1 0 (Int.toNat (mnI (mnI (mnI ((p0).size : Int) ((p1).size : Int)) ((p2).size : Int)) 60)))] : List ByteArray)).length 1) ([(ByteArray.extract p1 0 (Int.toNat (mnI (mnI (mnI ((p0).size : Int) ((p1).size : Int)) ((p2).size : Int)) 60)))] : List ByteArray)) w3426 o3427 355 := f3430.imp fun _ h_ => Own.of_box h_ rfl (by simp)
          have hk := hk.put 52 (.slice (some ⟨bx3429, 0, none⟩) (([(ByteArray.extract p1 0 (Int.toNat (mnI (mnI (mnI ((p0).size : Int) ((p1).size : Int)) ((p2).size : Int)) 60)))] : List ByteArray)).length 1) rfl
          refine ⟨.inr ⟨f137.now, trivial⟩, ?_⟩
          exact xd_to hG rfl (N3359 _ _ ⟨(fun b_ => (fun l_ => if l_ = 351 then 345 else if l_ = 352 then 346 else if l_ = 353 then 348 else if l_ = 355 then 347 else l_) (o3427 b_)), A3410, c3411, (some ⟨bx3429, 0, none⟩), 1, A3414, c3415, (by exact Kn.pick (ks := [41, 47, 52, 58]) hk rfl), (hs.relab0 (fun l_ => if l_ = 351 then 345 else if l_ = 352 then 346 else if l_ = 353 then 348 else if l_ = 355 then 347 else l_) rfl), (f137.relab (fun l_ => if l_ = 351 then 345 else if l_ = 352 then 346 else if l_ = 353 then 348 else if l_ = 355 then 347 else l_) rfl), (f3412.relab (fun l_ => if l_ = 351 then 345 else if l_ = 352 then 346 else if l_ = 353 then 348 else if l_ = 355 then 347 else l_) rfl), (f3431.relab (fun l_ => if l_ = 351 then 345 else if l_ = 352 then 346 else if l_ = 353 then 348 else if l_ = 355 then 347 else l_) rfl), (f3416.relab (fun l_ => if l_ = 351 then 345 else if l_ = 352 then 346 else if l_ = 353 then 348 else if l_ = 355 then 347 else l_) rfl), (fg0.relab (fun l_ => if l_ = 351 then 345 else if l_ = 352 then 346 else if l_ = 353 then 348 else if l_ = 355 then 347 else l_) rfl), hc3413, (Nat.le_refl _), hc3417⟩)
      have N3279 : ∀ (a_ : Act) (w_ : World), (∃ o3273 : Nat → Nat, ∃ A3274 : Option Addr, ∃ c3275 : Nat, Kn 62 a_ [(41, .string (strOfNums l136)), (47, .slice A3274 (([(ByteArray.extract p0 0 (Int.toNat (mnI (mnI (mnI ((p0).size : Int) ((p1).size : Int)) ((p2).size : Int)) 60)))] : List ByteArray)).length c3275), (51, .string (ByteArray.extract p1 0 (Int.toNat (mnI (mnI (mnI ((p0).size : Int) ((p1).size : Int)) ((p2).size : Int)) 60)))), (57, .string (ByteArray.extract p2 0 (Int.toNat (mnI (mnI (mnI ((p0).size : Int) ((p1).size : Int)) ((p2).size : Int)) 60))))] ∧ St [] w (fun _ => 0) w_ o3273 ∧ Ft (Own (encInt .u8) 5 (.slice A134 (l136).length c135) l136) w_ o3273 336 ∧ Ft (Own encStr 9 (.slice A3274 (([(ByteArray.extract p0 0 (Int.toNat (mnI (mnI (mnI ((p0).size : Int) ((p1).size : Int)) ((p2).size : Int)) 60)))] : List ByteArray)).length c3275) ([(ByteArray.extract p0 0 (Int.toNat (mnI (mnI (mnI ((p0).size : Int) ((p1).size : Int)) ((p2).size : Int)) 60)))] : List ByteArray)) w_ o3273 337 ∧ Ft (RdC (encInt .u32) (some ⟨0, 0, none⟩) glob0) w_ o3273 0 ∧ (([(ByteArray.extract p0 0 (Int.toNat (mnI (mnI (mnI ((p0).size : Int) ((p1).size : Int)) ((p2).size : Int)) 60)))] : List ByteArray)).length ≤ c3275) → G 11 #[true, true, false, false, true, true, true, true, false, true, true, true, false, false, false, true, true, true, false, false, false, false, false] a_ w_ := by
        rintro a w3278 ⟨o3273, A3274, c3275, hk, hs, f137, f3276, fg0, hc3277⟩
        refine xd_of hG ?_
        refine xd_each [2, 12, 18] (by kernel_rfl) rfl ⟨?_, ?_, ?_, trivial⟩
        · refine xd_one hk rfl rfl ?_
          refine op_slice (o := o3273) tab hk (vs := [.string (strOfNums l136)]) (cs := [.string (strOfNums l136)]) rfl rfl rfl rfl rfl rfl rfl rfl rfl 338 fun bx3283 w3280 o3281 st3282 f3284 => ?_
          replace f137 := f137.st st3282 (by decide)
          replace f3276 := f3276.st st3282 (by decide)
          replace fg0 := fg0.st st3282 (by decide)
          replace hs := hs.loc0 st3282 (by decide)
          have f3285 : Ft (Own encStr 9 (.slice (some ⟨bx3283, 0, none⟩) (([(strOfNums l136)] : List ByteArray)).length 1) ([(strOfNums l136)] : List ByteArray)) w3280 o3281 338 := f3284.imp fun _ h_ => Own.of_box h_ rfl (by simp)
          have hk := hk.put 42 (.slice (some ⟨bx3283, 0, none⟩) (([(strOfNums l136)] : List ByteArray)).length 1) rfl
          refine ⟨.inr ⟨f137.now, trivial⟩, ?_⟩
          exact xd_to hG rfl (N2947 _ _ ⟨(fun b_ => (fun l_ => if l_ = 336 then 298 else if l_ = 337 then 300 else if l_ = 338 then 299 else l_) (o3281 b_)), (some ⟨bx3283, 0, none⟩), 1, A3274, c3275, (by exact Kn.pick (ks := [42, 47, 51, 57]) hk rfl), (hs.relab0 (fun l_ => if l_ = 336 then 298 else if l_ = 337 then 300 else if l_ = 338 then 299 else l_) rfl), (f137.relab (fun l_ => if l_ = 336 then 298 else if l_ = 337 then 300 else if l_ = 338 then 299 else l_) rfl), (f3285.relab (fun l_ => if l_ = 336 then 298 else if l_ = 337 then 300 else if l_ = 338 then 299 else l_) rfl), (f3276.relab (fun l_ => if l_ = 336 then 298 else if l_ = 337 then 300 else if l_ = 338 then 299 else l_) rfl), (fg0.relab (fun l_ => if l_ = 336 then 298 else if l_ = 337 then 300 else if l_ = 338 then 299 else l_) rfl), (Nat.le_refl _), hc3277⟩)
        · refine xd_one hk rfl rfl ?_
          refine op_slice (o := o3273) tab hk (vs := [.string (ByteArray.extract p1 0 (Int.toNat (mnI (mnI (mnI ((p0).size : Int) ((p1).size : Int)) ((p2).size : Int)) 60)))]) (cs := [.string (ByteArray.extract p1 0 (Int.toNat (mnI (mnI (mnI ((p0).size : Int) ((p1).size : Int)) ((p2).size : Int)) 60)))]) rfl rfl rfl rfl rfl rfl rfl rfl rfl 339 fun bx3289 w3286 o3287 st3288 f3290 => ?_
          replace f137 := f137.st st3288 (by decide)
          replace f3276 := f3276.st st3288 (by decide)
          replace fg0 := fg0.st st3288 (by decide)
          replace hs := hs.loc0 st3288 (by decide)
          have f3291 : Ft (Own encStr 9 (.slice (some ⟨bx3289, 0, none⟩) (([(ByteArray.extract p1 0 (Int.toNat (mnI (mnI (mnI ((p0).size : Int) ((p1).size : Int)) ((p2).size : Int)) 60)))] : List ByteArray)).length 1) ([(ByteArray.extract p1 0 (Int.toNat (mnI (mnI (mnI ((p0).size : Int) ((p1).size : Int)) ((p2).size : Int)) 60)))] : List ByteArray)) w3286 o3287 339 := f3290.imp fun _ h_ => Own.of_box h_ rfl (by simp)
          have hk := hk.put 52 (.slice (some ⟨bx3289, 0, none⟩) (([(ByteArray.extract p1 0 (Int.toNat (mnI (mnI (mnI ((p0).size : Int) ((p1).size : Int)) ((p2).size : Int)) 60)))] : List ByteArray)).length 1) rfl
          refine ⟨.inr ⟨f137.now, trivial⟩, ?_⟩
          exact xd_to hG rfl (N3315 _ _ ⟨(fun b_ => (fun l_ => if l_ = 336 then 340 else if l_ = 337 then 341 else if l_ = 339 then 342 else l_) (o3287 b_)), A3274, c3275, (some ⟨bx3289, 0, none⟩), 1, (by exact Kn.pick (ks := [41, 47, 52, 57]) hk rfl), (hs.relab0 (fun l_ => if l_ = 336 then 340 else if l_ = 337 then 341 else if l_ = 339 then 342 else l_) rfl), (f137.relab (fun l_ => if l_ = 336 then 340 else if l_ = 337 then 341 else if l_ = 339 then 342 else l_) rfl), (f3276.relab (fun l_ => if l_ = 336 then 340 else if l_ = 337 then 341 else if l_ = 339 then 342 else l_) rfl), (f3291.relab (fun l_ => if l_ = 336 then 340 else if l_ = 337 then 341 else if l_ = 339 then 342 else l_) rfl), (fg0.relab (fun l_ => if l_ = 336 then 340 else if l_ = 337 then 341 else if l_ = 339 then 342 else l_) rfl), hc3277, (Nat.le_refl _)⟩)
        · refine xd_one hk rfl rfl ?_
          refine op_slice (o := o3273) tab hk (vs := [.string (ByteArray.extract p2 0 (Int.toNat (mnI (mnI (mnI ((p0).size : Int) ((p1).size : Int)) ((p2).size : Int)) 60)))]) (cs := [.string (ByteArray.extract p2 0 (Int.toNat (mnI (mnI (mnI ((p0).size : Int) ((p1).size : Int)) ((p2).size : Int)) 60)))]) rfl rfl rfl rfl rfl rfl rfl rfl rfl 350 fun bx3393 w3390 o3391 st3392 f3394 => ?_
          replace f137 := f137.st st3392 (by decide)
          replace f3276 := f3276.st st3392 (by decide)
          replace fg0 := fg0.st st3392 (by decide)
          replace hs := hs.loc0 st3392 (by decide)
          have f3395 : Ft (Own encStr 9 (.slice (some ⟨bx3393, 0, none⟩) (([(ByteArray.extract p2 0 (Int.toNat (mnI (mnI (mnI ((p0).size : Int) ((p1).size : Int)) ((p2).size : Int)) 60)))] : List ByteArray)).length 1) ([(ByteArray.extract p2 0 (Int.toNat (mnI (mnI (mnI ((p0).size : Int) ((p1).size : Int)) ((p2).size : Int)) 60)))] : List ByteArray)) w3390 o3391 350 := f3394.imp fun _ h_ => Own.of_box h_ rfl (by simp)
          have hk := hk.put 58 (.slice (some ⟨bx3393, 0, none⟩) (([(ByteArray.extract p2 0 (Int.toNat (mnI (mnI (mnI ((p0).size : Int) ((p1).size : Int)) ((p2).size : Int)) 60)))] : List ByteArray)).length 1) rfl
          refine ⟨.inr ⟨f137.now, trivial⟩, ?_⟩
          exact xd_to hG rfl (N3419 _ _ ⟨(fun b_ => (fun l_ => if l_ = 336 then 351 else if l_ = 337 then 352 else if l_ = 350 then 353 else l_) (o3391 b_)), A3274, c3275, (some ⟨bx3393, 0, none⟩), 1, (by exact Kn.pick (ks := [41, 47, 51, 58]) hk rfl), (hs.relab0 (fun l_ => if l_ = 336 then 351 else if l_ = 337 then 352 else if l_ = 350 then 353 else l_) rfl), (f137.relab (fun l_ => if l_ = 336 then 351 else if l_ = 337 then 352 else if l_ = 350 then 353 else l_) rfl), (f3276.relab (fun l_ => if l_ = 336 then 351 else if l_ = 337 then 352 else if l_ = 350 then 353 else l_) rfl), (f3395.relab (fun l_ => if l_ = 336 then 351 else if l_ = 337 then 352 else if l_ = 350 then 353 else l_) rfl), (fg0.relab (fun l_ => if l_ = 336 then 351 else if l_ = 337 then 352 else if l_ = 350 then 353 else l_) rfl), hc3277, (Nat.le_refl _)⟩)
      have N3495 : ∀ (a_ : Act) (w_ : World), (∃ o3485 : Nat → Nat, ∃ A3486 : Option Addr, ∃ c3487 : Nat, ∃ A3490 : Option Addr, ∃ c3491 : Nat, Kn 62 a_ [(41, .string (strOfNums l136)), (46, .string (ByteArray.extract p0 0 (Int.toNat (mnI (mnI (mnI ((p0).size : Int) ((p1).size : Int)) ((p2).size : Int)) 60)))), (52, .slice A3486 (([(ByteArray.extract p1 0 (Int.toNat (mnI (mnI (mnI ((p0).size : Int) ((p1).size : Int)) ((p2).size : Int)) 60)))] : List ByteArray)).length c3487), (58, .slice A3490 (([(ByteArray.extract p2 0 (Int.toNat (mnI (mnI (mnI ((p0).size : Int) ((p1).size : Int)) ((p2).size : Int)) 60)))] : List ByteArray)).length c3491)] ∧ St [] w (fun _ => 0) w_ o3485 ∧ Ft (Own (encInt .u8) 5 (.slice A134 (l136).length c135) l136) w_ o3485 362 ∧ Ft (Own encStr 9 (.slice A3486 (([(ByteArray.extract p1 0 (Int.toNat (mnI (mnI (mnI ((p0).size : Int) ((p1).size : Int)) ((p2).size : Int)) 60)))] : List ByteArray)).length c3487) ([(ByteArray.extract p1 0 (Int.toNat (mnI (mnI (mnI ((p0).size : Int) ((p1).size : Int)) ((p2).size : Int)) 60)))] : List ByteArray)) w_ o3485 363 ∧ Ft (Own encStr 9 (.slice A3490 (([(ByteArray.extract p2 0 (Int.toNat (mnI (mnI (mnI ((p0).size : Int) ((p1).size : Int)) ((p2).size : Int)) 60)))] : List ByteArray)).length c3491) ([(ByteArray.extract p2 0 (Int.toNat (mnI (mnI (mnI ((p0).size : Int) ((p1).size : Int)) ((p2).size : Int)) 60)))] : List ByteArray)) w_ o3485 364 ∧ Ft (RdC (encInt .u32) (some ⟨0, 0, none⟩) glob0) w_ o3485 0 ∧ (([(ByteArray.extract p1 0 (Int.toNat (mnI (mnI (mnI ((p0).size : Int) ((p1).size : Int)) ((p2).size : Int)) 60)))] : List ByteArray)).length ≤ c3487 ∧ (([(ByteArray.extract p2 0 (Int.toNat (mnI (mnI (mnI ((p0).size : Int) ((p1).size : Int)) ((p2).size : Int)) 60)))] : List ByteArray)).length ≤ c3491) → G 10 #[true, true, false, false, true, true, true, false, false, true, true, true, true, false, false, true, true, true, true, false, false, false, false] a_ w_ := by
        rintro a w3494 ⟨o3485, A3486, c3487, A3490, c3491, hk, hs, f137, f3488, f3492, fg0, hc3489, hc3493⟩
        refine xd_of hG ?_
        refine xd_each [2, 7] (by kernel_rfl) rfl ⟨?_, ?_, trivial⟩
        · refine xd_one hk rfl rfl ?_
          refine op_slice (o := o3485) tab hk (vs := [.string (strOfNums l136)]) (cs := [.string (strOfNums l136)]) rfl rfl rfl rfl rfl rfl rfl rfl rfl 365 fun bx3499 w3496 o3497 st3498 f3500 => ?_
          replace f137 := f137.st st3498 (by decide)
          replace f3488 := f3488.st st3498 (by decide)
          replace f3492 := f3492.st st3498 (by decide)
          replace fg0 := fg0.st st3498 (by decide)
          replace hs := hs.loc0 st3498 (by decide)
          have f3501 : Ft (Own encStr 9 (.slice (some ⟨bx3499, 0, none⟩) (([(strOfNums l136)] : List ByteArray)).length 1) ([(strOfNums l136)] : List ByteArray)) w3496 o3497 365 := f3500.imp fun _ h_ => Own.of_box h_ rfl (by simp)
          have hk := hk.put 42 (.slice (some ⟨bx3499, 0, none⟩) (([(strOfNums l136)] : List ByteArray)).length 1) rfl
          refine ⟨.inr ⟨f137.now, trivial⟩, ?_⟩
          exact xd_to hG rfl (N3197 _ _ ⟨(fun b_ => (fun l_ => if l_ = 362 then 324 else if l_ = 363 then 326 else if l_ = 364 then 327 else if l_ = 365 then 325 else l_) (o3497 b_)), (some ⟨bx3499, 0, none⟩), 1, A3486, c3487, A3490, c3491, (by exact Kn.pick (ks := [42, 46, 52, 58]) hk rfl), (hs.relab0 (fun l_ => if l_ = 362 then 324 else if l_ = 363 then 326 else if l_ = 364 then 327 else if l_ = 365 then 325 else l_) rfl), (f137.relab (fun l_ => if l_ = 362 then 324 else if l_ = 363 then 326 else if l_ = 364 then 327 else if l_ = 365 then 325 else l_) rfl), (f3501.relab (fun l_ => if l_ = 362 then 324 else if l_ = 363 then 326 else if l_ = 364 then 327 else if l_ = 365 then 325 else l_) rfl), (f3488.relab (fun l_ => if l_ = 362 then 324 else if l_ = 363 then 326 else if l_ = 364 then 327 else if l_ = 365 then 325 else l_) rfl), (f3492.relab (fun l_ => if l_ = 362 then 324 else if l_ = 363 then 326 else if l_ = 364 then 327 else if l_ = 365 then 325 else l_) rfl), (fg0.relab (fun l_ => if l_ = 362 then 324 else if l_ = 363 then 326 else if l_ = 364 then 327 else if l_ = 365 then 325 else l_) rfl), (Nat.le_refl _), hc3489, hc3493⟩)
        · refine xd_one hk rfl rfl ?_
          refine op_slice (o := o3485) tab hk (vs := [.string (ByteArray.extract p0 0 (Int.toNat (mnI (mnI (mnI ((p0).size : Int) ((p1).size : Int)) ((p2).size : Int)) 60)))]) (cs := [.string (ByteArray.extract p0 0 (Int.toNat (mnI (mnI (mnI ((p0).size : Int) ((p1).size : Int)) ((p2).size : Int)) 60)))]) rfl rfl rfl rfl rfl rfl rfl rfl rfl 366 fun bx3505 w3502 o3503 st3504 f3506 => ?_
          replace f137 := f137.st st3504 (by decide)
          replace f3488 := f3488.st st3504 (by decide)
          replace f3492 := f3492.st st3504 (by decide)
          replace fg0 := fg0.st st3504 (by decide)
          replace hs := hs.loc0 st3504 (by decide)
          have f3507 : Ft (Own encStr 9 (.slice (some ⟨bx3505, 0, none⟩) (([(ByteArray.extract p0 0 (Int.toNat (mnI (mnI (mnI ((p0).size : Int) ((p1).size : Int)) ((p2).size : Int)) 60)))] : List ByteArray)).length 1) ([(ByteArray.extract p0 0 (Int.toNat (mnI (mnI (mnI ((p0).size : Int) ((p1).size : Int)) ((p2).size : Int)) 60)))] : List ByteArray)) w3502 o3503 366 := f3506.imp fun _ h_ => Own.of_box h_ rfl (by simp)
          have hk := hk.put 47 (.slice (some ⟨bx3505, 0, none⟩) (([(ByteArray.extract p0 0 (Int.toNat (mnI (mnI (mnI ((p0).size : Int) ((p1).size : Int)) ((p2).size : Int)) 60)))] : List ByteArray)).length 1) rfl
          refine ⟨.inr ⟨f137.now, trivial⟩, ?_⟩
          exact xd_to hG rfl (N3359 _ _ ⟨(fun b_ => (fun l_ => if l_ = 362 then 345 else if l_ = 363 then 347 else if l_ = 364 then 348 else if l_ = 366 then 346 else l_) (o3503 b_)), (some ⟨bx3505, 0, none⟩), 1, A3486, c3487, A3490, c3491, (by exact Kn.pick (ks := [41, 47, 52, 58]) hk rfl), (hs.relab0 (fun l_ => if l_ = 362 then 345 else if l_ = 363 then 347 else if l_ = 364 then 348 else if l_ = 366 then 346 else l_) rfl), (f137.relab (fun l_ => if l_ = 362 then 345 else if l_ = 363 then 347 else if l_ = 364 then 348 else if l_ = 366 then 346 else l_) rfl), (f3507.relab (fun l_ => if l_ = 362 then 345 else if l_ = 363 then 347 else if l_ = 364 then 348 else if l_ = 366 then 346 else l_) rfl), (f3488.relab (fun l_ => if l_ = 362 then 345 else if l_ = 363 then 347 else if l_ = 364 then 348 else if l_ = 366 then 346 else l_) rfl), (f3492.relab (fun l_ => if l_ = 362 then 345 else if l_ = 363 then 347 else if l_ = 364 then 348 else if l_ = 366 then 346 else l_) rfl), (fg0.relab (fun l_ => if l_ = 362 then 345 else if l_ = 363 then 347 else if l_ = 364 then 348 else if l_ = 366 then 346 else l_) rfl), (Nat.le_refl _), hc3489, hc3493⟩)
      have N3453 : ∀ (a_ : Act) (w_ : World), (∃ o3447 : Nat → Nat, ∃ A3448 : Option Addr, ∃ c3449 : Nat, Kn 62 a_ [(41, .string (strOfNums l136)), (46, .string (ByteArray.extract p0 0 (Int.toNat (mnI (mnI (mnI ((p0).size : Int) ((p1).size : Int)) ((p2).size : Int)) 60)))), (52, .slice A3448 (([(ByteArray.extract p1 0 (Int.toNat (mnI (mnI (mnI ((p0).size : Int) ((p1).size : Int)) ((p2).size : Int)) 60)))] : List ByteArray)).length c3449), (57, .string (ByteArray.extract p2 0 (Int.toNat (mnI (mnI (mnI ((p0).size : Int) ((p1).size : Int)) ((p2).size : Int)) 60))))] ∧ St [] w (fun _ => 0) w_ o3447 ∧ Ft (Own (encInt .u8) 5 (.slice A134 (l136).length c135) l136) w_ o3447 357 ∧ Ft (Own encStr 9 (.slice A3448 (([(ByteArray.extract p1 0 (Int.toNat (mnI (mnI (mnI ((p0).size : Int) ((p1).size : Int)) ((p2).size : Int)) 60)))] : List ByteArray)).length c3449) ([(ByteArray.extract p1 0 (Int.toNat (mnI (mnI (mnI ((p0).size : Int) ((p1).size : Int)) ((p2).size : Int)) 60)))] : List ByteArray)) w_ o3447 358 ∧ Ft (RdC (encInt .u32) (some ⟨0, 0, none⟩) glob0) w_ o3447 0 ∧ (([(ByteArray.extract p1 0 (Int.toNat (mnI (mnI (mnI ((p0).size : Int) ((p1).size : Int)) ((p2).size : Int)) 60)))] : List ByteArray)).length ≤ c3449) → G 11 #[true, true, false, false, true, true, true, false, false, true, true, true, true, false, false, true, true, true, false, false, false, false, false] a_ w_ := by
        rintro a w3452 ⟨o3447, A3448, c3449, hk, hs, f137, f3450, fg0, hc3451⟩
        refine xd_of hG ?_
        refine xd_each [2, 7, 18] (by kernel_rfl) rfl ⟨?_, ?_, ?_, trivial⟩
        · refine xd_one hk rfl rfl ?_
          refine op_slice (o := o3447) tab hk (vs := [.string (strOfNums l136)]) (cs := [.string (strOfNums l136)]) rfl rfl rfl rfl rfl rfl rfl rfl rfl 359 fun bx3457 w3454 o3455 st3456 f3458 => ?_
          replace f137 := f137.st st3456 (by decide)
          replace f3450 := f3450.st st3456 (by decide)
          replace fg0 := fg0.st st3456 (by decide)
          replace hs := hs.loc0 st3456 (by decide)
          have f3459 : Ft (Own encStr 9 (.slice (some ⟨bx3457, 0, none⟩) (([(strOfNums l136)] : List ByteArray)).length 1) ([(strOfNums l136)] : List ByteArray)) w3454 o3455 359 := f3458.imp fun _ h_ => Own.of_box h_ rfl (by simp)
          have hk := hk.put 42 (.slice (some ⟨bx3457, 0, none⟩) (([(strOfNums l136)] : List ByteArray)).length 1) rfl
          refine ⟨.inr ⟨f137.now, trivial⟩, ?_⟩
          exact xd_to hG rfl (N3147 _ _ ⟨(fun b_ => (fun l_ => if l_ = 357 then 319 else if l_ = 358 then 321 else if l_ = 359 then 320 else l_) (o3455 b_)), (some ⟨bx3457, 0, none⟩), 1, A3448, c3449, (by exact Kn.pick (ks := [42, 46, 52, 57]) hk rfl), (hs.relab0 (fun l_ => if l_ = 357 then 319 else if l_ = 358 then 321 else if l_ = 359 then 320 else l_) rfl), (f137.relab (fun l_ => if l_ = 357 then 319 else if l_ = 358 then 321 else if l_ = 359 then 320 else l_) rfl), (f3459.relab (fun l_ => if l_ = 357 then 319 else if l_ = 358 then 321 else if l_ = 359 then 320 else l_) rfl), (f3450.relab (fun l_ => if l_ = 357 then 319 else if l_ = 358 then 321 else if l_ = 359 then 320 else l_) rfl), (fg0.relab (fun l_ => if l_ = 357 then 319 else if l_ = 358 then 321 else if l_ = 359 then 320 else l_) rfl), (Nat.le_refl _), hc3451⟩)
        · refine xd_one hk rfl rfl ?_
          refine op_slice (o := o3447) tab hk (vs := [.string (ByteArray.extract p0 0 (Int.toNat (mnI (mnI (mnI ((p0).size : Int) ((p1).size : Int)) ((p2).size : Int)) 60)))]) (cs := [.string (ByteArray.extract p0 0 (Int.toNat (mnI (mnI (mnI ((p0).size : Int) ((p1).size : Int)) ((p2).size : Int)) 60)))]) rfl rfl rfl rfl rfl rfl rfl rfl rfl 360 fun bx3463 w3460 o3461 st3462 f3464 => ?_
          replace f137 := f137.st st3462 (by decide)
          replace f3450 := f3450.st st3462 (by decide)
          replace fg0 := fg0.st st3462 (by decide)
          replace hs := hs.loc0 st3462 (by decide)
          have f3465 : Ft (Own encStr 9 (.slice (some ⟨bx3463, 0, none⟩) (([(ByteArray.extract p0 0 (Int.toNat (mnI (mnI (mnI ((p0).size : Int) ((p1).size : Int)) ((p2).size : Int)) 60)))] : List ByteArray)).length 1) ([(ByteArray.extract p0 0 (Int.toNat (mnI (mnI (mnI ((p0).size : Int) ((p1).size : Int)) ((p2).size : Int)) 60)))] : List ByteArray)) w3460 o3461 360 := f3464.imp fun _ h_ => Own.of_box h_ rfl (by simp)
          have hk := hk.put 47 (.slice (some ⟨bx3463, 0, none⟩) (([(ByteArray.extract p0 0 (Int.toNat (mnI (mnI (mnI ((p0).size : Int) ((p1).size : Int)) ((p2).size : Int)) 60)))] : List ByteArray)).length 1) rfl
          refine ⟨.inr ⟨f137.now, trivial⟩, ?_⟩
          exact xd_to hG rfl (N3315 _ _ ⟨(fun b_ => (fun l_ => if l_ = 357 then 340 else if l_ = 358 then 342 else if l_ = 360 then 341 else l_) (o3461 b_)), (some ⟨bx3463, 0, none⟩), 1, A3448, c3449, (by exact Kn.pick (ks := [41, 47, 52, 57]) hk rfl), (hs.relab0 (fun l_ => if l_ = 357 then 340 else if l_ = 358 then 342 else if l_ = 360 then 341 else l_) rfl), (f137.relab (fun l_ => if l_ = 357 then 340 else if l_ = 358 then 342 else if l_ = 360 then 341 else l_) rfl), (f3465.relab (fun l_ => if l_ = 357 then 340 else if l_ = 358 then 342 else if l_ = 360 then 341 else l_) rfl), (f3450.relab (fun l_ => if l_ = 357 then 340 else if l_ = 358 then 342 else if l_ = 360 then 341 else l_) rfl), (fg0.relab (fun l_ => if l_ = 357 then 340 else if l_ = 358 then 342 else if l_ = 360 then 341 else l_) rfl), (Nat.le_refl _), hc3451⟩)
        · refine xd_one hk rfl rfl ?_
          refine op_slice (o := o3447) tab hk (vs := [.string (ByteArray.extract p2 0 (Int.toNat (mnI (mnI (mnI ((p0).size : Int) ((p1).size : Int)) ((p2).size : Int)) 60)))]) (cs := [.string (ByteArray.extract p2 0 (Int.toNat (mnI (mnI (mnI ((p0).size : Int) ((p1).size : Int)) ((p2).size : Int)) 60)))]) rfl rfl rfl rfl rfl rfl rfl rfl rfl 361 fun bx3469 w3466 o3467 st3468 f3470 => ?_
          replace f137 := f137.st st3468 (by decide)
          replace f3450 := f3450.st st3468 (by decide)
          replace fg0 := fg0.st st3468 (by decide)
          replace hs := hs.loc0 st3468 (by decide)
          have f3471 : Ft (Own encStr 9 (.slice (some ⟨bx3469, 0, none⟩) (([(ByteArray.extract p2 0 (Int.toNat (mnI (mnI (mnI ((p0).size : Int) ((p1).size : Int)) ((p2).size : Int)) 60)))] : List ByteArray)).length 1) ([(ByteArray.extract p2 0 (Int.toNat (mnI (mnI (mnI ((p0).size : Int) ((p1).size : Int)) ((p2).size : Int)) 60)))] : List ByteArray)) w3466 o3467 361 := f3470.imp fun _ h_ => Own.of_box h_ rfl (by simp)
          have hk := hk.put 58 (.slice (some ⟨bx3469, 0, none⟩) (([(ByteArray.extract p2 0 (Int.toNat (mnI (mnI (mnI ((p0).size : Int) ((p1).size : Int)) ((p2).size : Int)) 60)))] : List ByteArray)).length 1) rfl
          refine ⟨.inr ⟨f137.now, trivial⟩, ?_⟩
          exact xd_to hG rfl (N3495 _ _ ⟨(fun b_ => (fun l_ => if l_ = 357 then 362 else if l_ = 358 then 363 else if l_ = 361 then 364 else l_) (o3467 b_)), A3448, c3449, (some ⟨bx3469, 0, none⟩), 1, (by exact Kn.pick (ks := [41, 46, 52, 58]) hk rfl), (hs.relab0 (fun l_ => if l_ = 357 then 362 else if l_ = 358 then 363 else if l_ = 361 then 364 else l_) rfl), (f137.relab (fun l_ => if l_ = 357 then 362 else if l_ = 358 then 363 else if l_ = 361 then 364 else l_) rfl), (f3450.relab (fun l_ => if l_ = 357 then 362 else if l_ = 358 then 363 else if l_ = 361 then 364 else l_) rfl), (f3471.relab (fun l_ => if l_ = 357 then 362 else if l_ = 358 then 363 else if l_ = 361 then 364 else l_) rfl), (fg0.relab (fun l_ => if l_ = 357 then 362 else if l_ = 358 then 363 else if l_ = 361 then 364 else l_) rfl), hc3451, (Nat.le_refl _)⟩)
      have N3529 : ∀ (a_ : Act) (w_ : World), (∃ o3523 : Nat → Nat, ∃ A3524 : Option Addr, ∃ c3525 : Nat, Kn 62 a_ [(41, .string (strOfNums l136)), (46, .string (ByteArray.extract p0 0 (Int.toNat (mnI (mnI (mnI ((p0).size : Int) ((p1).size : Int)) ((p2).size : Int)) 60)))), (51, .string (ByteArray.extract p1 0 (Int.toNat (mnI (mnI (mnI ((p0).size : Int) ((p1).size : Int)) ((p2).size : Int)) 60)))), (58, .slice A3524 (([(ByteArray.extract p2 0 (Int.toNat (mnI (mnI (mnI ((p0).size : Int) ((p1).size : Int)) ((p2).size : Int)) 60)))] : List ByteArray)).length c3525)] ∧ St [] w (fun _ => 0) w_ o3523 ∧ Ft (Own (encInt .u8) 5 (.slice A134 (l136).length c135) l136) w_ o3523 368 ∧ Ft (Own encStr 9 (.slice A3524 (([(ByteArray.extract p2 0 (Int.toNat (mnI (mnI (mnI ((p0).size : Int) ((p1).size : Int)) ((p2).size : Int)) 60)))] : List ByteArray)).length c3525) ([(ByteArray.extract p2 0 (Int.toNat (mnI (mnI (mnI ((p0).size : Int) ((p1).size : Int)) ((p2).size : Int)) 60)))] : List ByteArray)) w_ o3523 369 ∧ Ft (RdC (encInt .u32) (some ⟨0, 0, none⟩) glob0) w_ o3523 0 ∧ (([(ByteArray.extract p2 0 (Int.toNat (mnI (mnI (mnI ((p0).size : Int) ((p1).size : Int)) ((p2).size : Int)) 60)))] : List ByteArray)).length ≤ c3525) → G 11 #[true, true, false, false, true, true, true, false, false, true, true, true, false, false, false, true, true, true, true, false, false, false, false] a_ w_ := by
        rintro a w3528 ⟨o3523, A3524, c3525, hk, hs, f137, f3526, fg0, hc3527⟩
        refine xd_of hG ?_
        refine xd_each [2, 7, 12] (by kernel_rfl) rfl ⟨?_, ?_, ?_, trivial⟩
        · refine xd_one hk rfl rfl ?_
          refine op_slice (o := o3523) tab hk (vs := [.string (strOfNums l136)]) (cs := [.string (strOfNums l136)]) rfl rfl rfl rfl rfl rfl rfl rfl rfl 370 fun bx3533 w3530 o3531 st3532 f3534 => ?_
          replace f137 := f137.st st3532 (by decide)
          replace f3526 := f3526.st st3532 (by decide)
          replace fg0 := fg0.st st3532 (by decide)
          replace hs := hs.loc0 st3532 (by decide)
          have f3535 : Ft (Own encStr 9 (.slice (some ⟨bx3533, 0, none⟩) (([(strOfNums l136)] : List ByteArray)).length 1) ([(strOfNums l136)] : List ByteArray)) w3530 o3531 370 := f3534.imp fun _ h_ => Own.of_box h_ rfl (by simp)
          have hk := hk.put 42 (.slice (some ⟨bx3533, 0, none⟩) (([(strOfNums l136)] : List ByteArray)).length 1) rfl
          refine ⟨.inr ⟨f137.now, trivial⟩, ?_⟩
          exact xd_to hG rfl (N3239 _ _ ⟨(fun b_ => (fun l_ => if l_ = 368 then 330 else if l_ = 369 then 332 else if l_ = 370 then 331 else l_) (o3531 b_)), (some ⟨bx3533, 0, none⟩), 1, A3524, c3525, (by exact Kn.pick (ks := [42, 46, 51, 58]) hk rfl), (hs.relab0 (fun l_ => if l_ = 368 then 330 else if l_ = 369 then 332 else if l_ = 370 then 331 else l_) rfl), (f137.relab (fun l_ => if l_ = 368 then 330 else if l_ = 369 then 332 else if l_ = 370 then 331 else l_) rfl), (f3535.relab (fun l_ => if l_ = 368 then 330 else if l_ = 369 then 332 else if l_ = 370 then 331 else l_) rfl), (f3526.relab (fun l_ => if l_ = 368 then 330 else if l_ = 369 then 332 else if l_ = 370 then 331 else l_) rfl), (fg0.relab (fun l_ => if l_ = 368 then 330 else if l_ = 369 then 332 else if l_ = 370 then 331 else l_) rfl), (Nat.le_refl _), hc3527⟩)
        · refine xd_one hk rfl rfl ?_
          refine op_slice (o := o3523) tab hk (vs := [.string (ByteArray.extract p0 0 (Int.toNat (mnI (mnI (mnI ((p0).size : Int) ((p1).size : Int)) ((p2).size : Int)) 60)))]) (cs := [.string (ByteArray.extract p0 0 (Int.toNat (mnI (mnI (mnI ((p0).size : Int) ((p1).size : Int)) ((p2).size : Int)) 60)))]) rfl rfl rfl rfl rfl rfl rfl rfl rfl 371 fun bx3539 w3536 o3537 st3538 f3540 => ?_
          replace f137 := f137.st st3538 (by decide)
          replace f3526 := f3526.st st3538 (by decide)
          replace fg0 := fg0.st st3538 (by decide)
          replace hs := hs.loc0 st3538 (by decide)
          have f3541 : Ft (Own encStr 9 (.slice (some ⟨bx3539, 0, none⟩) (([(ByteArray.extract p0 0 (Int.toNat (mnI (mnI (mnI ((p0).size : Int) ((p1).size : Int)) ((p2).size : Int)) 60)))] : List ByteArray)).length 1) ([(ByteArray.extract p0 0 (Int.toNat (mnI (mnI (mnI ((p0).size : Int) ((p1).size : Int)) ((p2).size : Int)) 60)))] : List ByteArray)) w3536 o3537 371 := f3540.imp fun _ h_ => Own.of_box h_ rfl (by simp)
          have hk := hk.put 47 (.slice (some ⟨bx3539, 0, none⟩) (([(ByteArray.extract p0 0 (Int.toNat (mnI (mnI (mnI ((p0).size : Int) ((p1).size : Int)) ((p2).size : Int)) 60)))] : List ByteArray)).length 1) rfl
          refine ⟨.inr ⟨f137.now, trivial⟩, ?_⟩
          exact xd_to hG rfl (N3419 _ _ ⟨(fun b_ => (fun l_ => if l_ = 368 then 351 else if l_ = 369 then 353 else if l_ = 371 then 352 else l_) (o3537 b_)), (some ⟨bx3539, 0, none⟩), 1, A3524, c3525, (by exact Kn.pick (ks := [41, 47, 51, 58]) hk rfl), (hs.relab0 (fun l_ => if l_ = 368 then 351 else if l_ = 369 then 353 else if l_ = 371 then 352 else l_) rfl), (f137.relab (fun l_ => if l_ = 368 then 351 else if l_ = 369 then 353 else if l_ = 371 then 352 else l_) rfl), (f3541.relab (fun l_ => if l_ = 368 then 351 else if l_ = 369 then 353 else if l_ = 371 then 352 else l_) rfl), (f3526.relab (fun l_ => if l_ = 368 then 351 else if l_ = 369 then 353 else if l_ = 371 then 352 else l_) rfl), (fg0.relab (fun l_ => if l_ = 368 then 351 else if l_ = 369 then 353 else if l_ = 371 then 352 else l_) rfl), (Nat.le_refl _), hc3527⟩)
        · refine xd_one hk rfl rfl ?_
          refine op_slice (o := o3523) tab hk (vs := [.string (ByteArray.extract p1 0 (Int.toNat (mnI (mnI (mnI ((p0).size : Int) ((p1).size : Int)) ((p2).size : Int)) 60)))]) (cs := [.string (ByteArray.extract p1 0 (Int.toNat (mnI (mnI (mnI ((p0).size : Int) ((p1).size : Int)) ((p2).size : Int)) 60)))]) rfl rfl rfl rfl rfl rfl rfl rfl rfl 372 fun bx3545 w3542 o3543 st3544 f3546 => ?_
          replace f137 := f137.st st3544 (by decide)
          replace f3526 := f3526.st st3544 (by decide)
          replace fg0 := fg0.st st3544 (by decide)
          replace hs := hs.loc0 st3544 (by decide)
          have f3547 : Ft (Own encStr 9 (.slice (some ⟨bx3545, 0, none⟩) (([(ByteArray.extract p1 0 (Int.toNat (mnI (mnI (mnI ((p0).size : Int) ((p1).size : Int)) ((p2).size : Int)) 60)))] : List ByteArray)).length 1) ([(ByteArray.extract p1 0 (Int.toNat (mnI (mnI (mnI ((p0).size : Int) ((p1).size : Int)) ((p2).size : Int)) 60)))] : List ByteArray)) w3542 o3543 372 := f3546.imp fun _ h_ => Own.of_box h_ rfl (by simp)
          have hk := hk.put 52 (.slice (some ⟨bx3545, 0, none⟩) (([(ByteArray.extract p1 0 (Int.toNat (mnI (mnI (mnI ((p0).size : Int) ((p1).size : Int)) ((p2).size : Int)) 60)))] : List ByteArray)).length 1) rfl
          refine ⟨.inr ⟨f137.now, trivial⟩, ?_⟩
          exact xd_to hG rfl (N3495 _ _ ⟨(fun b_ => (fun l_ => if l_ = 368 then 362 else if l_ = 369 then 364 else if l_ = 372 then 363 else l_) (o3543 b_)), (some ⟨bx3545, 0, none⟩), 1, A3524, c3525, (by exact Kn.pick (ks := [41, 46, 52, 58]) hk rfl), (hs.relab0 (fun l_ => if l_ = 368 then 362 else if l_ = 369 then 364 else if l_ = 372 then 363 else l_) rfl), (f137.relab (fun l_ => if l_ = 368 then 362 else if l_ = 369 then 364 else if l_ = 372 then 363 else l_) rfl), (f3547.relab (fun l_ => if l_ = 368 then 362 else if l_ = 369 then 364 else if l_ = 372 then 363 else l_) rfl), (f3526.relab (fun l_ => if l_ = 368 then 362 else if l_ = 369 then 364 else if l_ = 372 then 363 else l_) rfl), (fg0.relab (fun l_ => if l_ = 368 then 362 else if l_ = 369 then 364 else if l_ = 372 then 363 else l_) rfl), (Nat.le_refl _), hc3527⟩)
      refine xd_of hG ?_
      refine xd_take tab hk (k := 12) (is := [0, 1, 4, 5, 6, 9, 10, 11, 15, 16, 17]) (ls' := #[true, true, false, false, true, true, true, false, false, true, true, true, false, false, false, true, true, true, false, false, false, false, false]) (lv := [.string (strOfNums l136)]) (ks := [41, 46, 51, 57]) (e' := [(41, .string (strOfNums l136)), (46, .string (ByteArray.extract p0 0 (Int.toNat (mnI (mnI (mnI ((p0).size : Int) ((p1).size : Int)) ((p2).size : Int)) 60)))), (51, .string (ByteArray.extract p1 0 (Int.toNat (mnI (mnI (mnI ((p0).size : Int) ((p1).size : Int)) ((p2).size : Int)) 60)))), (57, .string (ByteArray.extract p2 0 (Int.toNat (mnI (mnI (mnI ((p0).size : Int) ((p1).size : Int)) ((p2).size : Int)) 60))))]) (by kernel_rfl) rfl rfl (by kernel_rfl) (np_then (np_then np_body)) ⟨f137.now, trivial⟩ (fun W_ hS => ⟨(ask_str tab rfl rfl rfl rfl (Own.rd hS.1) (Own.plain hS.1 _ _ _ rfl)), q13, q1951, q13, q1966, q13, q1981, trivial⟩) fun a hk => ?_
      refine xd_each [2, 7, 12, 18] (by kernel_rfl) rfl ⟨?_, ?_, ?_, ?_, trivial⟩
      · refine xd_one hk rfl rfl ?_
        refine op_slice (o := o133) tab hk (vs := [.string (strOfNums l136)]) (cs := [.string (strOfNums l136)]) rfl rfl rfl rfl rfl rfl rfl rfl rfl 248 fun bx2475 w2472 o2473 st2474 f2476 => ?_
        replace f137 := f137.st st2474 (by decide)
        replace fg0 := fg0.st st2474 (by decide)
        replace hs := hs.loc0 st2474 (by decide)
        have f2477 : Ft (Own encStr 9 (.slice (some ⟨bx2475, 0, none⟩) (([(strOfNums l136)] : List ByteArray)).length 1) ([(strOfNums l136)] : List ByteArray)) w2472 o2473 248 := f2476.imp fun _ h_ => Own.of_box h_ rfl (by simp)
        have hk := hk.put 42 (.slice (some ⟨bx2475, 0, none⟩) (([(strOfNums l136)] : List ByteArray)).length 1) rfl
        refine ⟨.inr ⟨f137.now, trivial⟩, ?_⟩
        exact xd_to hG rfl (N2493 _ _ ⟨(fun b_ => (fun l_ => if l_ = 4 then 249 else if l_ = 248 then 250 else l_) (o2473 b_)), (some ⟨bx2475, 0, none⟩), 1, (by exact Kn.pick (ks := [42, 46, 51, 57]) hk rfl), (hs.relab0 (fun l_ => if l_ = 4 then 249 else if l_ = 248 then 250 else l_) rfl), (f137.relab (fun l_ => if l_ = 4 then 249 else if l_ = 248 then 250 else l_) rfl), (f2477.relab (fun l_ => if l_ = 4 then 249 else if l_ = 248 then 250 else l_) rfl), (fg0.relab (fun l_ => if l_ = 4 then 249 else if l_ = 248 then 250 else l_) rfl), (Nat.le_refl _)⟩)
      · refine xd_one hk rfl rfl ?_
        refine op_slice (o := o133) tab hk (vs := [.string (ByteArray.extract p0 0 (Int.toNat (mnI (mnI (mnI ((p0).size : Int) ((p1).size : Int)) ((p2).size : Int)) 60)))]) (cs := [.string (ByteArray.extract p0 0 (Int.toNat (mnI (mnI (mnI ((p0).size : Int) ((p1).size : Int)) ((p2).size : Int)) 60)))]) rfl rfl rfl rfl rfl rfl rfl rfl rfl 335 fun bx3261 w3258 o3259 st3260 f3262 => ?_
        replace f137 := f137.st st3260 (by decide)
        replace fg0 := fg0.st st3260 (by decide)
        replace hs := hs.loc0 st3260 (by decide)
        have f3263 : Ft (Own encStr 9 (.slice (some ⟨bx3261, 0, none⟩) (([(ByteArray.extract p0 0 (Int.toNat (mnI (mnI (mnI ((p0).size : Int) ((p1).size : Int)) ((p2).size : Int)) 60)))] : List ByteArray)).length 1) ([(ByteArray.extract p0 0 (Int.toNat (mnI (mnI (mnI ((p0).size : Int) ((p1).size : Int)) ((p2).size : Int)) 60)))] : List ByteArray)) w3258 o3259 335 := f3262.imp fun _ h_ => Own.of_box h_ rfl (by simp)
        have hk := hk.put 47 (.slice (some ⟨bx3261, 0, none⟩) (([(ByteArray.extract p0 0 (Int.toNat (mnI (mnI (mnI ((p0).size : Int) ((p1).size : Int)) ((p2).size : Int)) 60)))] : List ByteArray)).length 1) rfl
        refine ⟨.inr ⟨f137.now, trivial⟩, ?_⟩
        exact xd_to hG rfl (N3279 _ _ ⟨(fun b_ => (fun l_ => if l_ = 4 then 336 else if l_ = 335 then 337 else l_) (o3259 b_)), (some ⟨bx3261, 0, none⟩), 1, (by exact Kn.pick (ks := [41, 47, 51, 57]) hk rfl), (hs.relab0 (fun l_ => if l_ = 4 then 336 else if l_ = 335 then 337 else l_) rfl), (f137.relab (fun l_ => if l_ = 4 then 336 else if l_ = 335 then 337 else l_) rfl), (f3263.relab (fun l_ => if l_ = 4 then 336 else if l_ = 335 then 337 else l_) rfl), (fg0.relab (fun l_ => if l_ = 4 then 336 else if l_ = 335 then 337 else l_) rfl), (Nat.le_refl _)⟩)
      · refine xd_one hk rfl rfl ?_
        refine op_slice (o := o133) tab hk (vs := [.string (ByteArray.extract p1 0 (Int.toNat (mnI (mnI (mnI ((p0).size : Int) ((p1).size : Int)) ((p2).size : Int)) 60)))]) (cs := [.string (ByteArray.extract p1 0 (Int.toNat (mnI (mnI (mnI ((p0).size : Int) ((p1).size : Int)) ((p2).size : Int)) 60)))]) rfl rfl rfl rfl rfl rfl rfl rfl rfl 356 fun bx3435 w3432 o3433 st3434 f3436 => ?_
        replace f137 := f137.st st3434 (by decide)
        replace fg0 := fg0.st st3434 (by decide)
        replace hs := hs.loc0 st3434 (by decide)
        have f3437 : Ft (Own encStr 9 (.slice (some ⟨bx3435, 0, none⟩) (([(ByteArray.extract p1 0 (Int.toNat (mnI (mnI (mnI ((p0).size : Int) ((p1).size : Int)) ((p2).size : Int)) 60)))] : List ByteArray)).length 1) ([(ByteArray.extract p1 0 (Int.toNat (mnI (mnI (mnI ((p0).size : Int) ((p1).size : Int)) ((p2).size : Int)) 60)))] : List ByteArray)) w3432 o3433 356 := f3436.imp fun _ h_ => Own.of_box h_ rfl (by simp)
        have hk := hk.put 52 (.slice (some ⟨bx3435, 0, none⟩) (([(ByteArray.extract p1 0 (Int.toNat (mnI (mnI (mnI ((p0).size : Int) ((p1).size : Int)) ((p2).size : Int)) 60)))] : List ByteArray)).length 1) rfl
        refine ⟨.inr ⟨f137.now, trivial⟩, ?_⟩
        exact xd_to hG rfl (N3453 _ _ ⟨(fun b_ => (fun l_ => if l_ = 4 then 357 else if l_ = 356 then 358 else l_) (o3433 b_)), (some ⟨bx3435, 0, none⟩), 1, (by exact Kn.pick (ks := [41, 46, 52, 57]) hk rfl), (hs.relab0 (fun l_ => if l_ = 4 then 357 else if l_ = 356 then 358 else l_) rfl), (f137.relab (fun l_ => if l_ = 4 then 357 else if l_ = 356 then 358 else l_) rfl), (f3437.relab (fun l_ => if l_ = 4 then 357 else if l_ = 356 then 358 else l_) rfl), (fg0.relab (fun l_ => if l_ = 4 then 357 else if l_ = 356 then 358 else l_) rfl), (Nat.le_refl _)⟩)
      · refine xd_one hk rfl rfl ?_
        refine op_slice (o := o133) tab hk (vs := [.string (ByteArray.extract p2 0 (Int.toNat (mnI (mnI (mnI ((p0).size : Int) ((p1).size : Int)) ((p2).size : Int)) 60)))]) (cs := [.string (ByteArray.extract p2 0 (Int.toNat (mnI (mnI (mnI ((p0).size : Int) ((p1).size : Int)) ((p2).size : Int)) 60)))]) rfl rfl rfl rfl rfl rfl rfl rfl rfl 367 fun bx3511 w3508 o3509 st3510 f3512 => ?_
        replace f137 := f137.st st3510 (by decide)
        replace fg0 := fg0.st st3510 (by decide)
        replace hs := hs.loc0 st3510 (by decide)
        have f3513 : Ft (Own encStr 9 (.slice (some ⟨bx3511, 0, none⟩) (([(ByteArray.extract p2 0 (Int.toNat (mnI (mnI (mnI ((p0).size : Int) ((p1).size : Int)) ((p2).size : Int)) 60)))] : List ByteArray)).length 1) ([(ByteArray.extract p2 0 (Int.toNat (mnI (mnI (mnI ((p0).size : Int) ((p1).size : Int)) ((p2).size : Int)) 60)))] : List ByteArray)) w3508 o3509 367 := f3512.imp fun _ h_ => Own.of_box h_ rfl (by simp)
        have hk := hk.put 58 (.slice (some ⟨bx3511, 0, none⟩) (([(ByteArray.extract p2 0 (Int.toNat (mnI (mnI (mnI ((p0).size : Int) ((p1).size : Int)) ((p2).size : Int)) 60)))] : List ByteArray)).length 1) rfl
        refine ⟨.inr ⟨f137.now, trivial⟩, ?_⟩
        exact xd_to hG rfl (N3529 _ _ ⟨(fun b_ => (fun l_ => if l_ = 4 then 368 else if l_ = 367 then 369 else l_) (o3509 b_)), (some ⟨bx3511, 0, none⟩), 1, (by exact Kn.pick (ks := [41, 46, 51, 58]) hk rfl), (hs.relab0 (fun l_ => if l_ = 4 then 368 else if l_ = 367 then 369 else l_) rfl), (f137.relab (fun l_ => if l_ = 4 then 368 else if l_ = 367 then 369 else l_) rfl), (f3513.relab (fun l_ => if l_ = 4 then 368 else if l_ = 367 then 369 else l_) rfl), (fg0.relab (fun l_ => if l_ = 4 then 368 else if l_ = 367 then 369 else l_) rfl), (Nat.le_refl _)⟩)
    refine x_seq ?_
    refine wp_region_lit ?_
    refine x_run tab hk (k := 2) (lv := []) (ks := [0, 1, 2, 7, 8, 21, 22]) (e' := [(0, .string p0), (1, .string p1), (2, .string p2), (7, .int .i64 (mnI (mnI (mnI ((p0).size : Int) ((p1).size : Int)) ((p2).size : Int)) 60)), (8, .slice A15 ((List.replicate (Int.toNat (mnI (mnI (mnI ((p0).size : Int) ((p1).size : Int)) ((p2).size : Int)) 60)) (0 : Int))).length c16), (21, .int .i64 (mnI (mnI (mnI ((p0).size : Int) ((p1).size : Int)) ((p2).size : Int)) 60)), (22, .int .i64 0)]) rfl trivial fun a hk => ?_
    refine wpList_nil ?_
    refine then_n ?_
    refine wp_block ?_
    refine x_loop (fun j_ a_ w_ => ∃ o3581 : Nat → Nat, ∃ A3582 : Option Addr, ∃ c3583 : Nat, ∃ l3584 : List Int, ∃ x3587 : Int, Kn 62 a_ [(0, .string p0), (1, .string p1), (2, .string p2), (7, .int .i64 (mnI (mnI (mnI ((p0).size : Int) ((p1).size : Int)) ((p2).size : Int)) 60)), (8, .slice A3582 (l3584).length c3583), (21, .int .i64 (mnI (mnI (mnI ((p0).size : Int) ((p1).size : Int)) ((p2).size : Int)) 60)), (22, .int .i64 x3587)] ∧ St [] w (fun _ => 0) w_ o3581 ∧ Ft (Own (encInt .u8) 5 (.slice A3582 (l3584).length c3583) l3584) w_ o3581 374 ∧ Ft (RdC (encInt .u32) (some ⟨0, 0, none⟩) glob0) w_ o3581 0 ∧ (l3584).length ≤ c3583 ∧ tidewracklaw02_SumThree_l3 K p0 p1 p2 j_ l3584 x3587 = some r) (k := K) ⟨(fun b_ => (fun l_ => if l_ = 1 then 374 else l_) (o11 b_)), A15, c16, (List.replicate (Int.toNat (mnI (mnI (mnI ((p0).size : Int) ((p1).size : Int)) ((p2).size : Int)) 60)) (0 : Int)), 0, (by exact Kn.pick (ks := [0, 1, 2, 7, 8, 21, 22]) hk rfl), (hs.relab0 (fun l_ => if l_ = 1 then 374 else l_) rfl), (f17.relab (fun l_ => if l_ = 1 then 374 else l_) rfl), (fg0.relab (fun l_ => if l_ = 1 then 374 else l_) rfl), hc18, H⟩ (by rintro _ _ ⟨_, _, _, _, _, _, _, _, _, _, H_⟩; exact absurd (show (none : Option Bool) = some r from H_) (by simp)) ?_
    rintro k3619 a w3618 ⟨o3581, A3582, c3583, l3584, x3587, hk, hs, f3585, fg0, hc3586, H⟩
    rw [tidewracklaw02_SumThree_l3] at H
    obtain ⟨lp3620, hlp3621⟩ : ∃ lp_, lp_ = tidewracklaw02_SumThree_l3 K p0 p1 p2 k3619 := ⟨_, rfl⟩
    rw [← hlp3621] at H
    refine x_seq ?_
    refine wp_region_lit ?_
    refine x_run tab hk (k := 1) (lv := []) (ks := [0, 1, 2, 7, 8, 21, 22, 23]) (e' := [(0, .string p0), (1, .string p1), (2, .string p2), (7, .int .i64 (mnI (mnI (mnI ((p0).size : Int) ((p1).size : Int)) ((p2).size : Int)) 60)), (8, .slice A3582 (l3584).length c3583), (21, .int .i64 (mnI (mnI (mnI ((p0).size : Int) ((p1).size : Int)) ((p2).size : Int)) 60)), (22, .int .i64 x3587), (23, .bool (decide (x3587 < (mnI (mnI (mnI ((p0).size : Int) ((p1).size : Int)) ((p2).size : Int)) 60))))]) rfl trivial fun a hk => ?_
    refine wpList_nil ?_
    refine then_n ?_
    refine x_seq ?_
    cases b3622 : (decide (x3587 < (mnI (mnI (mnI ((p0).size : Int) ((p1).size : Int)) ((p2).size : Int)) 60)))
    · rw [b3622] at hk H
      replace H := bifF H
      refine x_if hk (b := false) rfl ?_
      refine (show Code.wp _ _ _ _ _ from ?_)
      refine wp_exit ?_
      refine then_x ?_
      refine then_x ?_
      refine blk_x ?_
      refine then_n ?_
      exact ⟨(fun b_ => (fun l_ => if l_ = 374 then 4 else l_) (o3581 b_)), A3582, c3583, l3584, (by exact Kn.pick (ks := [0, 1, 2, 7, 8]) hk rfl), (hs.relab0 (fun l_ => if l_ = 374 then 4 else l_) rfl), (f3585.relab (fun l_ => if l_ = 374 then 4 else l_) rfl), (fg0.relab (fun l_ => if l_ = 374 then 4 else l_) rfl), hc3586, H⟩
    · rw [b3622] at hk H
      replace H := bifT H
      refine x_if hk (b := true) rfl ?_
      refine (show Code.wp _ _ _ _ _ from ?_)
      refine wp_skip ?_
      refine then_n ?_
      refine x_seq ?_
      refine wp_block ?_
      refine x_seq ?_
      refine wp_region_lit ?_
      refine x_run tab hk (k := 2) (lv := []) (ks := [0, 1, 2, 7, 8, 9, 21, 22]) (e' := [(0, .string p0), (1, .string p1), (2, .string p2), (7, .int .i64 (mnI (mnI (mnI ((p0).size : Int) ((p1).size : Int)) ((p2).size : Int)) 60)), (8, .slice A3582 (l3584).length c3583), (9, .int .i64 x3587), (21, .int .i64 (mnI (mnI (mnI ((p0).size : Int) ((p1).size : Int)) ((p2).size : Int)) 60)), (22, .int .i64 x3587)]) rfl trivial fun a hk => ?_
      refine wpList_nil ?_
      refine then_n ?_
      refine xd_begin (o := o3581) (fun W_ => True) mixed rfl rfl fun w3641 st3642 => ?_
      replace f3585 := f3585.st st3642 (by decide)
      replace fg0 := fg0.st st3642 (by decide)
      replace hs := hs.loc0 st3642 (by decide)
      obtain ⟨q3643, H⟩ := ifS H
      obtain ⟨q3644, H⟩ := ifS H
      obtain ⟨q3645, H⟩ := ifS H
      obtain ⟨q3646, H⟩ := ifS H
      obtain ⟨ad3647, hAad3647⟩ := RdC.addr (Own.rd f3585.now) q3646
      subst hAad3647
      refine xd_take tab hk (k := 1) (is := [0, 1, 2, 3, 4, 5, 6, 7, 8, 9, 10, 11, 12, 13]) (ls' := #[true, true, true, true, true, true, true, true, true, true, true, true, true, true, false]) (lv := []) (ks := [0, 1, 2, 7, 8, 21, 22, 37, 38]) (e' := [(0, .string p0), (1, .string p1), (2, .string p2), (7, .int .i64 (mnI (mnI (mnI ((p0).size : Int) ((p1).size : Int)) ((p2).size : Int)) 60)), (8, .slice (some ad3647) (l3584).length c3583), (21, .int .i64 (mnI (mnI (mnI ((p0).size : Int) ((p1).size : Int)) ((p2).size : Int)) 60)), (22, .int .i64 x3587), (37, .int .u8 (bits .xor .u8 (bits .xor .u8 (bt p0 x3587) (bt p1 x3587)) (bt p2 x3587))), (38, .pointer (some (ad3647.add (Int.toNat x3587 * 1))))]) (by kernel_rfl) rfl rfl (by kernel_rfl) (np_blk (np_then (np_then (np_blk (np_then np_body))))) trivial (fun W_ hS => ⟨q3643, q3644, q3645, q3646, trivial⟩) fun a hk => ?_
      refine xd_op hk (i := 14) (by kernel_rfl) rfl rfl ?_
      refine op_storeO tab hk (E := (encInt .u8)) (i := x3587) (j := 0) (dx := 0) (y' := (bits .xor .u8 (bits .xor .u8 (bt p0 x3587) (bt p1 x3587)) (bt p2 x3587))) rfl rfl rfl f3585 rfl q3646 rfl rfl rfl rfl fun w3648 o3649 st3650 f3585_ => ?_
      replace fg0 := fg0.st st3650 (by decide)
      replace hs := hs.loc0 st3650 (by decide)
      replace f3585 := f3585_
      have hl3651 : (List.set l3584 (Int.toNat x3587) (bits .xor .u8 (bits .xor .u8 (bt p0 x3587) (bt p1 x3587)) (bt p2 x3587))).length = (l3584).length := List.length_set
      replace hk := Kn.re hk [0, 1, 2, 7, 8, 21, 22, 37] (e2 := [(0, .string p0), (1, .string p1), (2, .string p2), (7, .int .i64 (mnI (mnI (mnI ((p0).size : Int) ((p1).size : Int)) ((p2).size : Int)) 60)), (8, .slice (some ad3647) ((List.set l3584 (Int.toNat x3587) (bits .xor .u8 (bits .xor .u8 (bt p0 x3587) (bt p1 x3587)) (bt p2 x3587)))).length c3583), (21, .int .i64 (mnI (mnI (mnI ((p0).size : Int) ((p1).size : Int)) ((p2).size : Int)) 60)), (22, .int .i64 x3587), (37, .int .u8 (bits .xor .u8 (bits .xor .u8 (bt p0 x3587) (bt p1 x3587)) (bt p2 x3587)))]) rfl (by rw [hl3651])
      refine ⟨.inl (by kernel_rfl), ?_⟩
      refine xd_done (by kernel_rfl) ?_
      refine blk_n ?_
      refine then_n ?_
      refine wp_region_lit ?_
      refine x_run tab hk (k := 2) (lv := []) (ks := [0, 1, 2, 7, 8, 21, 22]) (e' := [(0, .string p0), (1, .string p1), (2, .string p2), (7, .int .i64 (mnI (mnI (mnI ((p0).size : Int) ((p1).size : Int)) ((p2).size : Int)) 60)), (8, .slice (some ad3647) ((List.set l3584 (Int.toNat x3587) (bits .xor .u8 (bits .xor .u8 (bt p0 x3587) (bt p1 x3587)) (bt p2 x3587)))).length c3583), (21, .int .i64 (mnI (mnI (mnI ((p0).size : Int) ((p1).size : Int)) ((p2).size : Int)) 60)), (22, .int .i64 (IntKind.wrap .i64 (x3587 + 1)))]) rfl trivial fun a hk => ?_
      refine wpList_nil ?_
      refine then_n ?_
      exact ⟨k3619, Nat.le_refl _, o3649, (some ad3647), c3583, (List.set l3584 (Int.toNat x3587) (bits .xor .u8 (bits .xor .u8 (bt p0 x3587) (bt p1 x3587)) (bt p2 x3587))), (IntKind.wrap .i64 (x3587 + 1)), (by exact Kn.pick (ks := [0, 1, 2, 7, 8, 21, 22]) hk rfl), hs, f3585, fg0, (by rw [List.length_set]; exact hc3586), (hlp3621 ▸ H)⟩
  · rw [b9] at hk H
    replace H := bifT H
    refine x_if hk (b := true) rfl ?_
    refine (show Code.wp _ _ _ _ _ from ?_)
    refine x_seq ?_
    refine wp_region_lit ?_
    refine x_run tab hk (k := 1) (lv := []) (ks := [6]) (e' := [(6, .bool false)]) rfl trivial fun a hk => ?_
    refine wpList_nil ?_
    refine then_n ?_
    refine wp_ret ?_
    refine then_r ?_
    obtain rfl := Option.some.inj H
    exact x_retG hk (rs := [.tmp 6]) (vs := [.bool false]) rfl ⟨rfl, trivial⟩ ⟨fun b_ => if b_ < w.heap.size then o b_ else (fun _ => 0) (o7 b_), rfl, hs.close0 o (fun _ => 0)⟩

end Go.Proofs.YtmgkcahjpehckaaDoor
