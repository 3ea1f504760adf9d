/- Walks, printed by an own program: the machine's calls compute the plain functions. -/
import Derived.Test.YtpciioffkjpieaaDoorW0
set_option linter.unusedVariables false
set_option linter.unusedSimpArgs false
namespace Go.Proofs.YtpciioffkjpieaaDoor
open Go Go.Proofs.XC
/-! tidewrack/sum.step -/
theorem sum_step_calls (p0 : Int) (p1 : Int) (w : World) (o : Nat → Nat) (Lg2 : Nat) (hg2 : Ft (RdC (encInt .u32) (some ⟨2, 0, none⟩) glob2) w o Lg2)   (r : Int) (H : sum_step p0 p1 = some r) :
    Calls Tryd.prog 111 #[.int .u32 p0, .int .u8 p1] w (Ret fun v_ w' => ∃ o' : Nat → Nat, v_ = .int .u32 r ∧ St [] w o w' o') := by
  refine x_enter (vs := [.int .u32 p0, .int .u8 p1]) Tryd.func111 rfl rfl rfl fun a hk => ?_
  obtain ⟨o0, hs, h0⟩ := St.start w o
  have fg2 := h0 _ _ hg2
  clear h0
  rw [sum_step] at H
  refine x_seq ?_
  refine wpIn_region_lit ?_
  refine x_run tab hk (k := 1) (lv := []) (ks := [0, 1]) (e' := [(0, .int .u32 p0), (1, .int .u8 p1)]) rfl trivial fun a hk => ?_
  refine wpListIn_nil ?_
  refine then_n ?_
  refine x_seq ?_
  refine wpIn_region_lit ?_
  refine x_run tab hk (k := 5) (lv := []) (ks := [0]) (e' := [(0, .int .u32 (bits .xor .u32 p0 (IntKind.wrap .u32 p1)))]) rfl trivial fun a hk => ?_
  refine wpListIn_nil ?_
  refine then_n ?_
  refine x_seq ?_
  refine wpIn_region_lit ?_
  obtain ⟨q1, H⟩ := ifS H
  refine x_run tab hk (k := 8) (lv := [.int .u32 (rdD 0 glob2 (bits .and .u32 (bits .xor .u32 p0 (IntKind.wrap .u32 p1)) 15))]) (ks := [0]) (e' := [(0, .int .u32 (bits .xor .u32 (Int.fdiv (bits .xor .u32 p0 (IntKind.wrap .u32 p1)) (2 ^ min (Int.toNat 4) 32)) (rdD 0 glob2 (bits .and .u32 (bits .xor .u32 p0 (IntKind.wrap .u32 p1)) 15))))]) rfl ⟨(show 0 ≤ (4 : Int) from by decide), q1, (load1 tab rfl (RdC.at0 (E := (encInt .u32)) (d := 0) (i := (bits .and .u32 (bits .xor .u32 p0 (IntKind.wrap .u32 p1)) 15)) fg2.now q1 rfl)), trivial⟩ fun a hk => ?_
  refine wpListIn_nil ?_
  refine then_n ?_
  refine x_seq ?_
  refine wpIn_region_lit ?_
  obtain ⟨q2, H⟩ := ifS H
  refine x_run tab hk (k := 8) (lv := [.int .u32 (rdD 0 glob2 (bits .and .u32 (bits .xor .u32 (Int.fdiv (bits .xor .u32 p0 (IntKind.wrap .u32 p1)) (2 ^ min (Int.toNat 4) 32)) (rdD 0 glob2 (bits .and .u32 (bits .xor .u32 p0 (IntKind.wrap .u32 p1)) 15))) 15))]) (ks := [4]) (e' := [(4, .int .u32 (bits .xor .u32 (Int.fdiv (bits .xor .u32 (Int.fdiv (bits .xor .u32 p0 (IntKind.wrap .u32 p1)) (2 ^ min (Int.toNat 4) 32)) (rdD 0 glob2 (bits .and .u32 (bits .xor .u32 p0 (IntKind.wrap .u32 p1)) 15))) (2 ^ min (Int.toNat 4) 32)) (rdD 0 glob2 (bits .and .u32 (bits .xor .u32 (Int.fdiv (bits .xor .u32 p0 (IntKind.wrap .u32 p1)) (2 ^ min (Int.toNat 4) 32)) (rdD 0 glob2 (bits .and .u32 (bits .xor .u32 p0 (IntKind.wrap .u32 p1)) 15))) 15))))]) rfl ⟨(show 0 ≤ (4 : Int) from by decide), q2, (load1 tab rfl (RdC.at0 (E := (encInt .u32)) (d := 0) (i := (bits .and .u32 (bits .xor .u32 (Int.fdiv (bits .xor .u32 p0 (IntKind.wrap .u32 p1)) (2 ^ min (Int.toNat 4) 32)) (rdD 0 glob2 (bits .and .u32 (bits .xor .u32 p0 (IntKind.wrap .u32 p1)) 15))) 15)) fg2.now q2 rfl)), trivial⟩ fun a hk => ?_
  refine wpListIn_nil ?_
  refine then_n ?_
  refine wpIn_ret ?_
  obtain rfl := Option.some.inj H
  exact x_retG hk (rs := [.tmp 4]) (vs := [.int .u32 (bits .xor .u32 (Int.fdiv (bits .xor .u32 (Int.fdiv (bits .xor .u32 p0 (IntKind.wrap .u32 p1)) (2 ^ min (Int.toNat 4) 32)) (rdD 0 glob2 (bits .and .u32 (bits .xor .u32 p0 (IntKind.wrap .u32 p1)) 15))) (2 ^ min (Int.toNat 4) 32)) (rdD 0 glob2 (bits .and .u32 (bits .xor .u32 (Int.fdiv (bits .xor .u32 p0 (IntKind.wrap .u32 p1)) (2 ^ min (Int.toNat 4) 32)) (rdD 0 glob2 (bits .and .u32 (bits .xor .u32 p0 (IntKind.wrap .u32 p1)) 15))) 15)))]) rfl ⟨rfl, trivial⟩ ⟨fun b_ => if b_ < w.heap.size then o b_ else (fun _ => 0) (o0 b_), rfl, hs.close0 o (fun _ => 0)⟩

/-! tidewrack/sum.Of -/
theorem sum_Of_calls (K : Nat) (Ap0 : Option Addr) (cp0 : Nat) (p0 : List ByteArray) (w : World) (o : Nat → Nat) (Lg2 : Nat) (hg2 : Ft (RdC (encInt .u32) (some ⟨2, 0, none⟩) glob2) w o Lg2) (Lp0 : Nat) (hp0 : Ft (RdC encStr Ap0 p0) w o Lp0) (hcp0 : (p0).length ≤ cp0)  (r : Int) (H : sum_Of K p0 = some r) :
    Calls Tryd.prog 92 #[.slice Ap0 (p0).length cp0] w (Ret fun v_ w' => ∃ o' : Nat → Nat, v_ = .int .u32 r ∧ St [] w o w' o') := by
  refine x_enter (vs := [.slice Ap0 (p0).length cp0]) Tryd.func92 rfl rfl rfl fun a hk => ?_
  obtain ⟨o0, hs, h0⟩ := St.start w o
  have fg2 := h0 _ _ hg2
  have f900000 := h0 _ _ hp0
  clear h0
  rw [sum_Of] at H
  refine x_seq ?_
  refine wpIn_region_lit ?_
  refine x_run tab hk (k := 1) (lv := []) (ks := [0]) (e' := [(0, .slice Ap0 (p0).length cp0)]) rfl trivial fun a hk => ?_
  refine wpListIn_nil ?_
  refine then_n ?_
  refine x_seq ?_
  refine wpIn_region_lit ?_
  refine x_run tab hk (k := 1) (lv := []) (ks := [0, 3]) (e' := [(0, .slice Ap0 (p0).length cp0), (3, .int .u32 4294967295)]) rfl trivial fun a hk => ?_
  refine wpListIn_nil ?_
  refine then_n ?_
  refine x_mid (fun a_ w_ => ∃ o327 : Nat → Nat, ∃ x328 : Int, Kn 27 a_ [(3, .int .u32 x328)] ∧ St [] w (fun _ => 0) w_ o327 ∧ Ft (RdC (encInt .u32) (some ⟨2, 0, none⟩) glob2) w_ o327 0 ∧ sum_Of_j1 x328 = some r) ?_ ?_
  rotate_left
  · rintro a w329 ⟨o327, x328, hk, hs, fg2, H⟩
    rw [sum_Of_j1] at H
    refine x_seq ?_
    refine wpIn_region_lit ?_
    refine x_run tab hk (k := 3) (lv := []) (ks := [2]) (e' := [(2, .int .u32 (bits .xor .u32 4294967295 x328))]) rfl trivial fun a hk => ?_
    refine wpListIn_nil ?_
    refine then_n ?_
    refine wpIn_ret ?_
    obtain rfl := Option.some.inj H
    exact x_retG hk (rs := [.tmp 2]) (vs := [.int .u32 (bits .xor .u32 4294967295 x328)]) rfl ⟨rfl, trivial⟩ ⟨fun b_ => if b_ < w.heap.size then o b_ else (fun _ => 0) (o327 b_), rfl, hs.close0 o (fun _ => 0)⟩
  refine x_seq ?_
  refine wpIn_region_lit ?_
  refine x_run tab hk (k := 3) (lv := []) (ks := [3, 7, 8, 9]) (e' := [(3, .int .u32 4294967295), (7, .slice Ap0 (p0).length cp0), (8, .int .i64 ((p0).length : Int)), (9, .int .i64 0)]) rfl trivial fun a hk => ?_
  refine wpListIn_nil ?_
  refine then_n ?_
  refine wpIn_block ?_
  refine x_loop (fun j_ a_ w_ => ∃ o435 : Nat → Nat, ∃ x436 : Int, ∃ A437 : Option Addr, ∃ c438 : Nat, ∃ x441 : Int, Kn 27 a_ [(3, .int .u32 x436), (7, .slice A437 (p0).length c438), (8, .int .i64 ((p0).length : Int)), (9, .int .i64 x441)] ∧ St [] w (fun _ => 0) w_ o435 ∧ Ft (RdC encStr A437 p0) w_ o435 0 ∧ Ft (RdC (encInt .u32) (some ⟨2, 0, none⟩) glob2) w_ o435 0 ∧ (p0).length ≤ c438 ∧ sum_Of_l2 K p0 j_ x436 x441 = some r) (k := K) ⟨o0, 4294967295, Ap0, cp0, 0, (by exact Kn.pick (ks := [3, 7, 8, 9]) hk rfl), hs, f900000, fg2, hcp0, H⟩ (by rintro _ _ ⟨_, _, _, _, _, _, _, _, _, _, H_⟩; exact absurd (show (none : Option Int) = some r from H_) (by simp)) ?_
  rintro k545 a w544 ⟨o435, x436, A437, c438, x441, hk, hs, f439, fg2, hc440, H⟩
  rw [sum_Of_l2] at H
  obtain ⟨lp546, hlp547⟩ : ∃ lp_, lp_ = sum_Of_l2 K p0 k545 := ⟨_, rfl⟩
  rw [← hlp547] at H
  refine x_seq ?_
  refine wpIn_region_lit ?_
  refine x_run tab hk (k := 1) (lv := []) (ks := [3, 7, 8, 9, 10]) (e' := [(3, .int .u32 x436), (7, .slice A437 (p0).length c438), (8, .int .i64 ((p0).length : Int)), (9, .int .i64 x441), (10, .bool (decide (x441 < ((p0).length : Int))))]) rfl trivial fun a hk => ?_
  refine wpListIn_nil ?_
  refine then_n ?_
  refine x_seq ?_
  cases b548 : (decide (x441 < ((p0).length : Int)))
  · rw [b548] at hk H
    replace H := bifF H
    refine x_if hk (b := false) rfl ?_
    refine (show Code.wpIn _ _ _ _ _ _ _ from ?_)
    refine wpIn_exit ?_
    refine then_x ?_
    refine then_x ?_
    refine blk_x ?_
    refine then_n ?_
    exact ⟨o435, x436, (by exact Kn.pick (ks := [3]) hk rfl), hs, fg2, H⟩
  · rw [b548] at hk H
    replace H := bifT H
    refine x_if hk (b := true) rfl ?_
    refine (show Code.wpIn _ _ _ _ _ _ _ from ?_)
    refine wpIn_skip ?_
    refine then_n ?_
    refine x_mid (fun a_ w_ => ∃ o601 : Nat → Nat, ∃ x602 : Int, ∃ A603 : Option Addr, ∃ c604 : Nat, Kn 27 a_ [(3, .int .u32 x602), (7, .slice A603 (p0).length c604), (8, .int .i64 ((p0).length : Int)), (9, .int .i64 x441)] ∧ St [] w (fun _ => 0) w_ o601 ∧ Ft (RdC encStr A603 p0) w_ o601 0 ∧ Ft (RdC (encInt .u32) (some ⟨2, 0, none⟩) glob2) w_ o601 0 ∧ (p0).length ≤ c604 ∧ sum_Of_j3 x441 lp546 x602 = some r) ?_ ?_
    rotate_left
    · rintro a w607 ⟨o601, x602, A603, c604, hk, hs, f605, fg2, hc606, H⟩
      rw [sum_Of_j3] at H
      refine wpIn_region_lit ?_
      refine x_run tab hk (k := 2) (lv := []) (ks := [3, 7, 8, 9]) (e' := [(3, .int .u32 x602), (7, .slice A603 (p0).length c604), (8, .int .i64 ((p0).length : Int)), (9, .int .i64 (IntKind.wrap .i64 (x441 + 1)))]) rfl trivial fun a hk => ?_
      refine wpListIn_nil ?_
      refine then_n ?_
      exact ⟨k545, Nat.le_refl _, o601, x602, A603, c604, (IntKind.wrap .i64 (x441 + 1)), (by exact Kn.pick (ks := [3, 7, 8, 9]) hk rfl), hs, f605, fg2, hc606, (hlp547 ▸ H)⟩
    refine wpIn_block ?_
    refine x_seq ?_
    refine wpIn_region_lit ?_
    obtain ⟨q608, H⟩ := ifS H
    obtain ⟨ad609, hAad609⟩ := RdC.addr f439.now q608
    have hk_C := hk
    have f439_C := f439
    have fg2_C := fg2
    subst hAad609
    have hk := hk_C
    clear hk_C
    have f439 := f439_C
    clear f439_C
    have fg2 := fg2_C
    clear fg2_C
    refine x_run tab hk (k := 3) (lv := [.string (rdD (⟨#[]⟩ : ByteArray) p0 x441)]) (ks := [3, 5, 7, 8, 9]) (e' := [(3, .int .u32 x436), (5, .string (rdD (⟨#[]⟩ : ByteArray) p0 x441)), (7, .slice (some ad609) (p0).length c438), (8, .int .i64 ((p0).length : Int)), (9, .int .i64 x441)]) rfl ⟨q608, (load1 tab rfl (RdC.at0 (E := encStr) (d := (⟨#[]⟩ : ByteArray)) (i := x441) f439.now q608 rfl)), trivial⟩ fun a hk => ?_
    refine wpListIn_nil ?_
    refine then_n ?_
    refine x_seq ?_
    refine wpIn_region_lit ?_
    refine x_run tab hk (k := 3) (lv := []) (ks := [3, 5, 7, 8, 9, 14, 15]) (e' := [(3, .int .u32 x436), (5, .string (rdD (⟨#[]⟩ : ByteArray) p0 x441)), (7, .slice (some ad609) (p0).length c438), (8, .int .i64 ((p0).length : Int)), (9, .int .i64 x441), (14, .int .i64 (((rdD (⟨#[]⟩ : ByteArray) p0 x441)).size : Int)), (15, .int .i64 0)]) rfl trivial fun a hk => ?_
    refine wpListIn_nil ?_
    refine then_n ?_
    refine wpIn_block ?_
    refine x_loop (fun j_ a_ w_ => ∃ o623 : Nat → Nat, ∃ x624 : Int, ∃ x625 : Int, Kn 27 a_ [(3, .int .u32 x624), (5, .string (rdD (⟨#[]⟩ : ByteArray) p0 x441)), (7, .slice (some ad609) (p0).length c438), (8, .int .i64 ((p0).length : Int)), (9, .int .i64 x441), (14, .int .i64 (((rdD (⟨#[]⟩ : ByteArray) p0 x441)).size : Int)), (15, .int .i64 x625)] ∧ St [] w (fun _ => 0) w_ o623 ∧ Ft (RdC encStr (some ad609) p0) w_ o623 0 ∧ Ft (RdC (encInt .u32) (some ⟨2, 0, none⟩) glob2) w_ o623 0 ∧ sum_Of_l4 p0 x441 lp546 j_ x624 x625 = some r) (k := K) ⟨o435, x436, 0, (by exact Kn.pick (ks := [3, 5, 7, 8, 9, 14, 15]) hk rfl), hs, f439, fg2, H⟩ (by rintro _ _ ⟨_, _, _, _, _, _, _, H_⟩; exact absurd (show (none : Option Int) = some r from H_) (by simp)) ?_
    rintro k637 a w636 ⟨o623, x624, x625, hk, hs, f439, fg2, H⟩
    rw [sum_Of_l4] at H
    obtain ⟨lp638, hlp639⟩ : ∃ lp_, lp_ = sum_Of_l4 p0 x441 lp546 k637 := ⟨_, rfl⟩
    rw [← hlp639] at H
    refine x_seq ?_
    refine wpIn_region_lit ?_
    refine x_run tab hk (k := 1) (lv := []) (ks := [3, 5, 7, 8, 9, 14, 15, 16]) (e' := [(3, .int .u32 x624), (5, .string (rdD (⟨#[]⟩ : ByteArray) p0 x441)), (7, .slice (some ad609) (p0).length c438), (8, .int .i64 ((p0).length : Int)), (9, .int .i64 x441), (14, .int .i64 (((rdD (⟨#[]⟩ : ByteArray) p0 x441)).size : Int)), (15, .int .i64 x625), (16, .bool (decide (x625 < (((rdD (⟨#[]⟩ : ByteArray) p0 x441)).size : Int))))]) rfl trivial fun a hk => ?_
    refine wpListIn_nil ?_
    refine then_n ?_
    refine x_seq ?_
    cases b640 : (decide (x625 < (((rdD (⟨#[]⟩ : ByteArray) p0 x441)).size : Int)))
    · rw [b640] at hk H
      replace H := bifF H
      refine x_if hk (b := false) rfl ?_
      refine (show Code.wpIn _ _ _ _ _ _ _ from ?_)
      refine wpIn_exit ?_
      refine then_x ?_
      refine then_x ?_
      refine blk_x ?_
      refine blk_n ?_
      refine then_n ?_
      exact ⟨o623, x624, (some ad609), c438, (by exact Kn.pick (ks := [3, 7, 8, 9]) hk rfl), hs, f439, fg2, hc440, H⟩
    · rw [b640] at hk H
      replace H := bifT H
      refine x_if hk (b := true) rfl ?_
      refine (show Code.wpIn _ _ _ _ _ _ _ from ?_)
      refine wpIn_skip ?_
      refine then_n ?_
      refine x_seq ?_
      refine wpIn_block ?_
      refine x_seq ?_
      refine wpIn_region_lit ?_
      refine x_run tab hk (k := 2) (lv := []) (ks := [3, 5, 6, 7, 8, 9, 14, 15]) (e' := [(3, .int .u32 x624), (5, .string (rdD (⟨#[]⟩ : ByteArray) p0 x441)), (6, .int .i64 x625), (7, .slice (some ad609) (p0).length c438), (8, .int .i64 ((p0).length : Int)), (9, .int .i64 x441), (14, .int .i64 (((rdD (⟨#[]⟩ : ByteArray) p0 x441)).size : Int)), (15, .int .i64 x625)]) rfl trivial fun a hk => ?_
      refine wpListIn_nil ?_
      refine then_n ?_
      refine wpIn_region_lit ?_
      obtain ⟨q641, H⟩ := ifS H
      refine x_run tab hk (k := 4) (lv := []) (ks := [5, 7, 8, 9, 14, 15, 18, 21]) (e' := [(5, .string (rdD (⟨#[]⟩ : ByteArray) p0 x441)), (7, .slice (some ad609) (p0).length c438), (8, .int .i64 ((p0).length : Int)), (9, .int .i64 x441), (14, .int .i64 (((rdD (⟨#[]⟩ : ByteArray) p0 x441)).size : Int)), (15, .int .i64 x625), (18, .int .u32 x624), (21, .int .u8 (bt (rdD (⟨#[]⟩ : ByteArray) p0 x441) x625))]) rfl ⟨q641, trivial⟩ fun a hk => ?_
      refine x_op hk rfl ?_
      obtain ⟨t645, hc646, H⟩ := bindS H
      refine op_call hk ent_111 (vs := [.int .u32 x624, .int .u8 (bt (rdD (⟨#[]⟩ : ByteArray) p0 x441) x625)]) rfl (sum_step_calls x624 (bt (rdD (⟨#[]⟩ : ByteArray) p0 x441) x625) _ o623 0 fg2   _ hc646) ?_
      rintro _ w647 ⟨o648, rfl, st649⟩
      replace f439 := f439.st st649 (by decide)
      replace fg2 := fg2.st st649 (by decide)
      replace hs := hs.loc0 st649 (by decide)
      have hk := hk.put 22 (.int .u32 t645) rfl
      refine x_run tab hk (k := 1) (lv := []) (ks := [3, 5, 7, 8, 9, 14, 15]) (e' := [(3, .int .u32 t645), (5, .string (rdD (⟨#[]⟩ : ByteArray) p0 x441)), (7, .slice (some ad609) (p0).length c438), (8, .int .i64 ((p0).length : Int)), (9, .int .i64 x441), (14, .int .i64 (((rdD (⟨#[]⟩ : ByteArray) p0 x441)).size : Int)), (15, .int .i64 x625)]) rfl trivial fun a hk => ?_
      refine wpListIn_nil ?_
      refine blk_n ?_
      refine then_n ?_
      refine wpIn_region_lit ?_
      refine x_run tab hk (k := 2) (lv := []) (ks := [3, 5, 7, 8, 9, 14, 15]) (e' := [(3, .int .u32 t645), (5, .string (rdD (⟨#[]⟩ : ByteArray) p0 x441)), (7, .slice (some ad609) (p0).length c438), (8, .int .i64 ((p0).length : Int)), (9, .int .i64 x441), (14, .int .i64 (((rdD (⟨#[]⟩ : ByteArray) p0 x441)).size : Int)), (15, .int .i64 (IntKind.wrap .i64 (x625 + 1)))]) rfl trivial fun a hk => ?_
      refine wpListIn_nil ?_
      refine then_n ?_
      exact ⟨k637, Nat.le_refl _, o648, t645, (IntKind.wrap .i64 (x625 + 1)), (by exact Kn.pick (ks := [3, 5, 7, 8, 9, 14, 15]) hk rfl), hs, f439, fg2, (hlp639 ▸ H)⟩

/-! tidewrack/sum.tail -/
theorem sum_tail_calls (p0 : Int) (w : World) (o : Nat → Nat)   (r : ByteArray) (H : sum_tail p0 = some r) :
    Calls Tryd.prog 91 #[.int .u32 p0] w (Ret fun v_ w' => ∃ o' : Nat → Nat, v_ = .string r ∧ St [] w o w' o') := by
  refine x_enter (vs := [.int .u32 p0]) Tryd.func91 rfl rfl rfl fun a hk => ?_
  obtain ⟨o0, hs, h0⟩ := St.start w o
  clear h0
  rw [sum_tail] at H
  refine x_seq ?_
  refine wpIn_region_lit ?_
  refine x_run tab hk (k := 1) (lv := []) (ks := [0]) (e' := [(0, .int .u32 p0)]) rfl trivial fun a hk => ?_
  refine wpListIn_nil ?_
  refine then_n ?_
  refine x_seq ?_
  refine wpIn_region_lit ?_
  refine x_run tab hk (k := 10) (lv := []) (ks := [4, 7, 10, 12]) (e' := [(4, .int .u8 (IntKind.wrap .u8 p0)), (7, .int .u8 (IntKind.wrap .u8 (Int.fdiv p0 (2 ^ min (Int.toNat 8) 32)))), (10, .int .u8 (IntKind.wrap .u8 (Int.fdiv p0 (2 ^ min (Int.toNat 16) 32)))), (12, .int .u32 (Int.fdiv p0 (2 ^ min (Int.toNat 24) 32)))]) rfl ⟨(show 0 ≤ (8 : Int) from by decide), (show 0 ≤ (16 : Int) from by decide), (show 0 ≤ (24 : Int) from by decide), trivial⟩ fun a hk => ?_
  refine x_run tab hk (k := 1) (lv := []) (ks := [4, 7, 10, 13]) (e' := [(4, .int .u8 (IntKind.wrap .u8 p0)), (7, .int .u8 (IntKind.wrap .u8 (Int.fdiv p0 (2 ^ min (Int.toNat 8) 32)))), (10, .int .u8 (IntKind.wrap .u8 (Int.fdiv p0 (2 ^ min (Int.toNat 16) 32)))), (13, .int .u8 (IntKind.wrap .u8 (Int.fdiv p0 (2 ^ min (Int.toNat 24) 32))))]) rfl trivial fun a hk => ?_
  refine x_op hk rfl ?_
  refine op_slice (o := o0) tab hk (vs := [.int .u8 (IntKind.wrap .u8 p0), .int .u8 (IntKind.wrap .u8 (Int.fdiv p0 (2 ^ min (Int.toNat 8) 32))), .int .u8 (IntKind.wrap .u8 (Int.fdiv p0 (2 ^ min (Int.toNat 16) 32))), .int .u8 (IntKind.wrap .u8 (Int.fdiv p0 (2 ^ min (Int.toNat 24) 32)))]) (cs := [.int .u8 (IntKind.wrap .u8 p0), .int .u8 (IntKind.wrap .u8 (Int.fdiv p0 (2 ^ min (Int.toNat 8) 32))), .int .u8 (IntKind.wrap .u8 (Int.fdiv p0 (2 ^ min (Int.toNat 16) 32))), .int .u8 (IntKind.wrap .u8 (Int.fdiv p0 (2 ^ min (Int.toNat 24) 32)))]) rfl rfl rfl rfl rfl rfl rfl rfl rfl 1 fun bx4 w1 o2 st3 f5 => ?_
  replace hs := hs.loc0 st3 (by decide)
  have f6 : Ft (Own (encInt .u8) 5 (.slice (some ⟨bx4, 0, none⟩) (([(IntKind.wrap .u8 p0), (IntKind.wrap .u8 (Int.fdiv p0 (2 ^ min (Int.toNat 8) 32))), (IntKind.wrap .u8 (Int.fdiv p0 (2 ^ min (Int.toNat 16) 32))), (IntKind.wrap .u8 (Int.fdiv p0 (2 ^ min (Int.toNat 24) 32)))] : List Int)).length 4) ([(IntKind.wrap .u8 p0), (IntKind.wrap .u8 (Int.fdiv p0 (2 ^ min (Int.toNat 8) 32))), (IntKind.wrap .u8 (Int.fdiv p0 (2 ^ min (Int.toNat 16) 32))), (IntKind.wrap .u8 (Int.fdiv p0 (2 ^ min (Int.toNat 24) 32)))] : List Int)) w1 o2 1 := f5.imp fun _ h_ => Own.of_box h_ rfl (by simp)
  have hk := hk.put 14 (.slice (some ⟨bx4, 0, none⟩) (([(IntKind.wrap .u8 p0), (IntKind.wrap .u8 (Int.fdiv p0 (2 ^ min (Int.toNat 8) 32))), (IntKind.wrap .u8 (Int.fdiv p0 (2 ^ min (Int.toNat 16) 32))), (IntKind.wrap .u8 (Int.fdiv p0 (2 ^ min (Int.toNat 24) 32)))] : List Int)).length 4) rfl
  refine x_run tab hk (k := 2) (lv := [.string (strOfNums ([(IntKind.wrap .u8 p0), (IntKind.wrap .u8 (Int.fdiv p0 (2 ^ min (Int.toNat 8) 32))), (IntKind.wrap .u8 (Int.fdiv p0 (2 ^ min (Int.toNat 16) 32))), (IntKind.wrap .u8 (Int.fdiv p0 (2 ^ min (Int.toNat 24) 32)))] : List Int))]) (ks := [2]) (e' := [(2, .string (strOfNums ([(IntKind.wrap .u8 p0), (IntKind.wrap .u8 (Int.fdiv p0 (2 ^ min (Int.toNat 8) 32))), (IntKind.wrap .u8 (Int.fdiv p0 (2 ^ min (Int.toNat 16) 32))), (IntKind.wrap .u8 (Int.fdiv p0 (2 ^ min (Int.toNat 24) 32)))] : List Int)))]) rfl ⟨(ask_str tab rfl rfl rfl rfl (Own.rd f6.now) (Own.plain f6.now _ _ _ rfl)), trivial⟩ fun a hk => ?_
  refine wpListIn_nil ?_
  refine then_n ?_
  refine wpIn_ret ?_
  obtain rfl := Option.some.inj H
  exact x_retG hk (rs := [.tmp 2]) (vs := [.string (strOfNums ([(IntKind.wrap .u8 p0), (IntKind.wrap .u8 (Int.fdiv p0 (2 ^ min (Int.toNat 8) 32))), (IntKind.wrap .u8 (Int.fdiv p0 (2 ^ min (Int.toNat 16) 32))), (IntKind.wrap .u8 (Int.fdiv p0 (2 ^ min (Int.toNat 24) 32)))] : List Int))]) rfl ⟨rfl, trivial⟩ ⟨fun b_ => if b_ < w.heap.size then o b_ else (fun _ => 0) (o2 b_), rfl, hs.close0 o (fun _ => 0)⟩

/-! tidewrack/sum.Open -/
theorem sum_Open_calls (K : Nat) (p0 : ByteArray) (w : World) (o : Nat → Nat) (Lg2 : Nat) (hg2 : Ft (RdC (encInt .u32) (some ⟨2, 0, none⟩) glob2) w o Lg2)   (r : ByteArray × Bool) (H : sum_Open K p0 = some r) :
    Calls Tryd.prog 61 #[.string p0] w (Ret fun v_ w' => ∃ o' : Nat → Nat, v_ = .tuple #[.string r.1, .bool r.2] ∧ St [] w o w' o') := by
  refine x_enter (vs := [.string p0]) Tryd.func61 rfl rfl rfl fun a hk => ?_
  obtain ⟨o0, hs, h0⟩ := St.start w o
  have fg2 := h0 _ _ hg2
  clear h0
  rw [sum_Open] at H
  refine x_seq ?_
  refine wpIn_region_lit ?_
  refine x_run tab hk (k := 2) (lv := []) (ks := [0]) (e' := [(0, .string p0)]) rfl trivial fun a hk => ?_
  refine wpListIn_nil ?_
  refine then_n ?_
  refine x_seq ?_
  refine wpIn_region_lit ?_
  refine x_run tab hk (k := 4) (lv := []) (ks := [0, 4]) (e' := [(0, .string p0), (4, .int .i64 (IntKind.wrap .i64 (((p0).size : Int) - 4)))]) rfl trivial fun a hk => ?_
  refine wpListIn_nil ?_
  refine then_n ?_
  refine x_seq ?_
  refine x_mid (fun a_ w_ => ∃ o84 : Nat → Nat, ∃ x85 : Bool, Kn 25 a_ [(0, .string p0), (4, .int .i64 (IntKind.wrap .i64 (((p0).size : Int) - 4))), (21, .bool x85)] ∧ St [] w (fun _ => 0) w_ o84 ∧ Ft (RdC (encInt .u32) (some ⟨2, 0, none⟩) glob2) w_ o84 0 ∧ sum_Open_j1 p0 x85 = some r) ?_ ?_
  rotate_left
  · rintro a w86 ⟨o84, x85, hk, hs, fg2, H⟩
    rw [sum_Open_j1] at H
    cases b87 : x85
    · rw [b87] at hk H
      replace H := bifF H
      refine x_if hk (b := false) rfl ?_
      refine (show Code.wpIn _ _ _ _ _ _ _ from ?_)
      refine wpIn_skip ?_
      refine then_n ?_
      refine x_seq ?_
      refine wpIn_region_lit ?_
      obtain ⟨q88, H⟩ := ifS H
      obtain ⟨q89, H⟩ := ifS H
      refine x_run tab hk (k := 5) (lv := []) (ks := [2, 3]) (e' := [(2, .string (ByteArray.extract p0 0 (Int.toNat (IntKind.wrap .i64 (((p0).size : Int) - 4))))), (3, .bool true)]) rfl ⟨q88, q89, trivial⟩ fun a hk => ?_
      refine wpListIn_nil ?_
      refine then_n ?_
      refine wpIn_ret ?_
      obtain rfl := Option.some.inj H
      exact x_retG hk (rs := [.tmp 2, .tmp 3]) (vs := [.string (ByteArray.extract p0 0 (Int.toNat (IntKind.wrap .i64 (((p0).size : Int) - 4)))), .bool true]) rfl ⟨rfl, rfl, trivial⟩ ⟨fun b_ => if b_ < w.heap.size then o b_ else (fun _ => 0) (o84 b_), rfl, hs.close0 o (fun _ => 0)⟩
    · rw [b87] at hk H
      replace H := bifT H
      refine x_if hk (b := true) rfl ?_
      refine (show Code.wpIn _ _ _ _ _ _ _ from ?_)
      refine x_seq ?_
      refine wpIn_region_lit ?_
      refine x_run tab hk (k := 2) (lv := []) (ks := [2, 3]) (e' := [(2, .string (⟨#[]⟩ : ByteArray)), (3, .bool false)]) rfl trivial fun a hk => ?_
      refine wpListIn_nil ?_
      refine then_n ?_
      refine wpIn_ret ?_
      refine then_r ?_
      obtain rfl := Option.some.inj H
      exact x_retG hk (rs := [.tmp 2, .tmp 3]) (vs := [.string (⟨#[]⟩ : ByteArray), .bool false]) rfl ⟨rfl, rfl, trivial⟩ ⟨fun b_ => if b_ < w.heap.size then o b_ else (fun _ => 0) (o84 b_), rfl, hs.close0 o (fun _ => 0)⟩
  refine xd_begin (o := o0) (fun W_ => True) mixed rfl rfl fun w140 st141 => ?_
  replace fg2 := fg2.st st141 (by decide)
  replace hs := hs.loc0 st141 (by decide)
  refine xd_take tab hk (k := 11) (is := [0, 1, 2]) (ls' := #[true, true, true, false, false, false, false, false, false, false, false, false, false, false]) (lv := []) (ks := [0, 4, 10]) (e' := [(0, .string p0), (4, .int .i64 (IntKind.wrap .i64 (((p0).size : Int) - 4))), (10, .bool (decide ((IntKind.wrap .i64 (((p0).size : Int) - 4)) < (0 : Int))))]) (by kernel_rfl) rfl rfl (by kernel_rfl) (np_then (np_then np_body)) trivial (fun W_ hS => trivial) fun a hk => ?_
  cases b142 : (decide ((IntKind.wrap .i64 (((p0).size : Int) - 4)) < (0 : Int)))
  · rw [b142] at hk H
    replace H := bifF H
    obtain ⟨q143, H⟩ := ifS H
    obtain ⟨q144, H⟩ := ifS H
    refine xd_take tab hk (k := 5) (is := [3, 4, 5, 6, 7, 8]) (ls' := #[true, true, true, true, true, true, true, true, true, false, false, false, false, false]) (lv := []) (ks := [0, 4, 10, 13, 16]) (e' := [(0, .string p0), (4, .int .i64 (IntKind.wrap .i64 (((p0).size : Int) - 4))), (10, .bool false), (13, .string (ByteArray.extract p0 (Int.toNat (IntKind.wrap .i64 (((p0).size : Int) - 4))) (p0).size)), (16, .string (ByteArray.extract p0 0 (Int.toNat (IntKind.wrap .i64 (((p0).size : Int) - 4)))))]) (by kernel_rfl) rfl rfl (by kernel_rfl) (np_then (np_then np_body)) trivial (fun W_ hS => ⟨q143, q144, q143, q144, trivial⟩) fun a hk => ?_
    refine xd_op hk (i := 9) (by kernel_rfl) rfl rfl ?_
    refine op_slice (o := o0) tab hk (vs := [.string (ByteArray.extract p0 0 (Int.toNat (IntKind.wrap .i64 (((p0).size : Int) - 4))))]) (cs := [.string (ByteArray.extract p0 0 (Int.toNat (IntKind.wrap .i64 (((p0).size : Int) - 4))))]) rfl rfl rfl rfl rfl rfl rfl rfl rfl 6 fun bx148 w145 o146 st147 f149 => ?_
    replace fg2 := fg2.st st147 (by decide)
    replace hs := hs.loc0 st147 (by decide)
    have f150 : Ft (Own encStr 9 (.slice (some ⟨bx148, 0, none⟩) (([(ByteArray.extract p0 0 (Int.toNat (IntKind.wrap .i64 (((p0).size : Int) - 4))))] : List ByteArray)).length 1) ([(ByteArray.extract p0 0 (Int.toNat (IntKind.wrap .i64 (((p0).size : Int) - 4))))] : List ByteArray)) w145 o146 6 := f149.imp fun _ h_ => Own.of_box h_ rfl (by simp)
    have hk := hk.put 17 (.slice (some ⟨bx148, 0, none⟩) (([(ByteArray.extract p0 0 (Int.toNat (IntKind.wrap .i64 (((p0).size : Int) - 4))))] : List ByteArray)).length 1) rfl
    refine ⟨.inr trivial, ?_⟩
    refine xd_op hk (i := 10) (by kernel_rfl) rfl rfl ?_
    obtain ⟨t154, hc155, H⟩ := bindS H
    refine op_call hk ent_92 (vs := [.slice (some ⟨bx148, 0, none⟩) (([(ByteArray.extract p0 0 (Int.toNat (IntKind.wrap .i64 (((p0).size : Int) - 4))))] : List ByteArray)).length 1]) rfl (sum_Of_calls K (some ⟨bx148, 0, none⟩) 1 ([(ByteArray.extract p0 0 (Int.toNat (IntKind.wrap .i64 (((p0).size : Int) - 4))))] : List ByteArray) _ o146 0 fg2 _ (f150.imp fun _ h_ => Own.rd h_) (Nat.le_refl _)   _ hc155) ?_
    rintro _ w156 ⟨o157, rfl, st158⟩
    replace f150 := f150.st st158 (by decide)
    replace fg2 := fg2.st st158 (by decide)
    replace hs := hs.loc0 st158 (by decide)
    have hk := hk.put 18 (.int .u32 t154) rfl
    refine ⟨.inr trivial, ?_⟩
    refine xd_op hk (i := 11) (by kernel_rfl) rfl rfl ?_
    obtain ⟨t162, hc163, H⟩ := bindS H
    refine op_call hk ent_91 (vs := [.int .u32 t154]) rfl (sum_tail_calls t154 _ o157    _ hc163) ?_
    rintro _ w164 ⟨o165, rfl, st166⟩
    replace f150 := f150.st st166 (by decide)
    replace fg2 := fg2.st st166 (by decide)
    replace hs := hs.loc0 st166 (by decide)
    have hk := hk.put 19 (.string t162) rfl
    refine ⟨.inr trivial, ?_⟩
    refine xd_take tab hk (k := 0) (is := [12, 13]) (ls' := #[true, true, true, true, true, true, true, true, true, true, true, true, true, true]) (lv := []) (ks := [0, 4, 21]) (e' := [(0, .string p0), (4, .int .i64 (IntKind.wrap .i64 (((p0).size : Int) - 4))), (21, .bool (!(ByteArray.toList (ByteArray.extract p0 (Int.toNat (IntKind.wrap .i64 (((p0).size : Int) - 4))) (p0).size) == ByteArray.toList t162)))]) (by kernel_rfl) rfl rfl (by kernel_rfl) (np_then (np_then np_body)) trivial (fun W_ hS => trivial) fun a hk => ?_
    refine xd_done (by kernel_rfl) ?_
    refine then_n ?_
    exact ⟨o165, (!(ByteArray.toList (ByteArray.extract p0 (Int.toNat (IntKind.wrap .i64 (((p0).size : Int) - 4))) (p0).size) == ByteArray.toList t162)), (by exact Kn.pick (ks := [0, 4, 21]) hk rfl), hs, fg2, H⟩
  · rw [b142] at hk H
    replace H := bifT H
    refine xd_take tab hk (k := 0) (is := [3, 4, 5, 6, 7, 8, 9, 10, 11, 12, 13]) (ls' := #[true, true, true, true, true, true, true, true, true, true, true, true, true, true]) (lv := []) (ks := [0, 4, 21]) (e' := [(0, .string p0), (4, .int .i64 (IntKind.wrap .i64 (((p0).size : Int) - 4))), (21, .bool true)]) (by kernel_rfl) rfl rfl (by kernel_rfl) (np_then (np_then np_body)) trivial (fun W_ hS => trivial) fun a hk => ?_
    refine xd_done (by kernel_rfl) ?_
    refine then_n ?_
    exact ⟨o0, true, (by exact Kn.pick (ks := [0, 4, 21]) hk rfl), hs, fg2, H⟩

/-! tidewrack/num.Of -/
theorem num_Of_calls (p0 : ByteArray) (w : World) (o : Nat → Nat)   (R0 : Nat) (r : T169) (H : num_Of p0 = some r) :
    Calls Tryd.prog 62 #[.string p0] w (Ret fun v_ w' => ∃ o' : Nat → Nat, ∃ b0 : Nat, v_ = .pointer (some ⟨b0, 0, none⟩) ∧ St [] w o w' o' ∧ Ft (Bx b0 170 [.string r.s, .int .i64 r.e]) w' o' R0) := by
  refine x_enter (vs := [.string p0]) Tryd.func62 rfl rfl rfl fun a hk => ?_
  obtain ⟨o0, hs, h0⟩ := St.start w o
  clear h0
  rw [num_Of] at H
  refine x_seq ?_
  refine wpIn_region_lit ?_
  refine x_run tab hk (k := 1) (lv := []) (ks := [0]) (e' := [(0, .string p0)]) rfl trivial fun a hk => ?_
  refine wpListIn_nil ?_
  refine then_n ?_
  refine x_seq ?_
  refine wpIn_region_lit ?_
  refine x_run tab hk (k := 2) (lv := []) (ks := [4]) (e' := [(4, .agg #[.string p0, .int .i64 0])]) rfl trivial fun a hk => ?_
  refine x_op hk rfl ?_
  refine op_box (o := o0) (t := 170) (v := .agg #[.string p0, .int .i64 0]) (cs := [.string p0, .int .i64 0]) hk rfl rfl 1 fun bx4 w1 o2 st3 f5 => ?_
  replace hs := hs.loc0 st3 (by decide)
  have hk := hk.put 5 (.pointer (some ⟨bx4, 0, none⟩)) rfl
  refine x_run tab hk (k := 1) (lv := []) (ks := [2]) (e' := [(2, .pointer (some ⟨bx4, 0, none⟩))]) rfl trivial fun a hk => ?_
  refine wpListIn_nil ?_
  refine then_n ?_
  refine wpIn_ret ?_
  obtain rfl := Option.some.inj H
  exact x_retG hk (rs := [.tmp 2]) (vs := [.pointer (some ⟨bx4, 0, none⟩)]) rfl ⟨rfl, trivial⟩ ⟨fun b_ => if b_ < w.heap.size then o b_ else (fun _ => R0) (o2 b_), bx4, rfl, hs.close0 o (fun _ => R0), hs.close_ft (o := o) (ρ := fun _ => R0) f5 (by decide) rfl⟩

/-! (*tidewrack/num.In).Fail -/
theorem num_In_Fail_calls (bp0 : Nat) (p0 : T169) (p1 : Int) (w : World) (o : Nat → Nat) (Lp0 : Nat) (hp0 : Ft (Bx bp0 170 [.string p0.s, .int .i64 p0.e]) w o Lp0) (hd0 : ([Lp0] : List Nat).Nodup) (r : T169) (H : num_In_Fail p0 p1 = some r) :
    Calls Tryd.prog 94 #[.pointer (some ⟨bp0, 0, none⟩), .int .i64 p1] w (Ret fun v_ w' => ∃ o' : Nat → Nat, v_ = .tuple #[] ∧ St [Lp0] w o w' o' ∧ Ft (Bx bp0 170 [.string r.s, .int .i64 r.e]) w' o' Lp0) := by
  refine x_enter (vs := [.pointer (some ⟨bp0, 0, none⟩), .int .i64 p1]) Tryd.func94 rfl rfl rfl fun a hk => ?_
  obtain ⟨oi, hs0, h0, h1, hob, hoz, hoa⟩ := St.startM2 w o (m := 1) hd0 rfl
  have hs := hs0 [1]
  have hom := lab_in hob (MM := [1]) (by decide)
  have f900019 := h1 0 1 hp0 rfl rfl
  clear h0 h1 hs0
  rw [num_In_Fail] at H
  refine x_mid (fun a_ w_ => ∃ o8 : Nat → Nat, ∃ x9 : Bool, Kn 20 a_ [(0, .pointer (some ⟨bp0, 0, none⟩)), (1, .int .i64 p1), (12, .bool x9)] ∧ St [1] w oi w_ o8 ∧ Ft (Bx bp0 170 [.string p0.s, .int .i64 p0.e]) w_ o8 1 ∧ num_In_Fail_j1 p0 p1 x9 = some r) ?_ ?_
  rotate_left
  · rintro a w10 ⟨o8, x9, hk, hs, f900019, H⟩
    rw [num_In_Fail_j1] at H
    cases b11 : x9
    · rw [b11] at hk H
      replace H := bifF H
      refine x_if hk (b := false) rfl ?_
      refine (show Code.wpIn _ _ _ _ _ _ _ from ?_)
      refine wpIn_skip ?_
      obtain rfl := Option.some.inj H
      exact x_endG hk (rs := []) (vs := []) rfl trivial ⟨cl w oi o [1] (fun l_ => if l_ = 1 then Lp0 else 0) o8, rfl, hs.closeM hoz (by decide) (fun l_ => if l_ = 1 then Lp0 else 0), hs.closeM_ft (o := o) (ρ := fun l_ => if l_ = 1 then Lp0 else 0) f900019 (lab_at hoa (i := 0) rfl) rfl⟩
    · rw [b11] at hk H
      replace H := bifT H
      refine x_if hk (b := true) rfl ?_
      refine (show Code.wpIn _ _ _ _ _ _ _ from ?_)
      refine wpIn_region_lit ?_
      refine x_run tab hk (k := 5) (lv := []) (ks := [14, 15, 17]) (e' := [(14, .pointer (some ⟨bp0, 0, none⟩)), (15, .int .i64 p1), (17, .pointer (some ⟨bp0, 0, none⟩))]) rfl trivial fun a hk => ?_
      refine x_op hk rfl ?_
      refine op_store tab hk (t := 9) (v := .string (⟨#[]⟩ : ByteArray)) (b := bp0) (k := 0) (cs' := [.string (⟨#[]⟩ : ByteArray), .int .i64 p0.e]) rfl rfl rfl rfl rfl rfl f900019 rfl rfl fun w12 o13 st14 f900019_ => ?_
      replace hs := hs.locM st14 (by decide) hom
      replace f900019 := f900019_
      refine x_run tab hk (k := 2) (lv := []) (ks := [15, 19]) (e' := [(15, .int .i64 p1), (19, .pointer (some ((⟨bp0, 0, none⟩ : Addr).add 1)))]) rfl trivial fun a hk => ?_
      refine x_op hk rfl ?_
      refine op_store tab hk (t := 78) (v := .int .i64 p1) (b := bp0) (k := 1) (cs' := [.string (⟨#[]⟩ : ByteArray), .int .i64 p1]) rfl rfl rfl rfl rfl rfl f900019 rfl rfl fun w15 o16 st17 f900019_ => ?_
      replace hs := hs.locM st17 (by decide) hom
      replace f900019 := f900019_
      refine wpListIn_nil ?_
      obtain rfl := Option.some.inj H
      exact x_endG hk (rs := []) (vs := []) rfl trivial ⟨cl w oi o [1] (fun l_ => if l_ = 1 then Lp0 else 0) o16, rfl, hs.closeM hoz (by decide) (fun l_ => if l_ = 1 then Lp0 else 0), hs.closeM_ft (o := o) (ρ := fun l_ => if l_ = 1 then Lp0 else 0) f900019 (lab_at hoa (i := 0) rfl) rfl⟩
  refine wpIn_region_lit ?_
  refine x_run tab hk (k := 6) (lv := [.int .i64 p0.e]) (ks := [0, 1, 9]) (e' := [(0, .pointer (some ⟨bp0, 0, none⟩)), (1, .int .i64 p1), (9, .bool (p0.e == (0 : Int)))]) rfl ⟨(load1 tab rfl ((Bx.cell f900019.now 1).trans rfl)), trivial⟩ fun a hk => ?_
  cases b18 : (p0.e == (0 : Int))
  · rw [b18] at hk H
    replace H := bifF H
    refine x_run tab hk (k := 3) (lv := []) (ks := [0, 1, 12]) (e' := [(0, .pointer (some ⟨bp0, 0, none⟩)), (1, .int .i64 p1), (12, .bool false)]) rfl trivial fun a hk => ?_
    refine wpListIn_nil ?_
    refine then_n ?_
    exact ⟨oi, false, (by exact Kn.pick (ks := [0, 1, 12]) hk rfl), hs, f900019, H⟩
  · rw [b18] at hk H
    replace H := bifT H
    refine x_run tab hk (k := 3) (lv := []) (ks := [0, 1, 12]) (e' := [(0, .pointer (some ⟨bp0, 0, none⟩)), (1, .int .i64 p1), (12, .bool (p1 != (0 : Int)))]) rfl trivial fun a hk => ?_
    refine wpListIn_nil ?_
    refine then_n ?_
    exact ⟨oi, (p1 != (0 : Int)), (by exact Kn.pick (ks := [0, 1, 12]) hk rfl), hs, f900019, H⟩

/-! (*tidewrack/num.In).Num -/
theorem num_In_Num_calls (K : Nat) (bp0 : Nat) (p0 : T169) (w : World) (o : Nat → Nat) (Lp0 : Nat) (hp0 : Ft (Bx bp0 170 [.string p0.s, .int .i64 p0.e]) w o Lp0) (hd0 : ([Lp0] : List Nat).Nodup) (r : Int × T169) (H : num_In_Num K p0 = some r) :
    Calls Tryd.prog 93 #[.pointer (some ⟨bp0, 0, none⟩)] w (Ret fun v_ w' => ∃ o' : Nat → Nat, v_ = .int .i64 r.1 ∧ St [Lp0] w o w' o' ∧ Ft (Bx bp0 170 [.string r.2.s, .int .i64 r.2.e]) w' o' Lp0) := by
  refine x_enter (vs := [.pointer (some ⟨bp0, 0, none⟩)]) Tryd.func93 rfl rfl rfl fun a hk => ?_
  obtain ⟨oi, hs0, h0, h1, hob, hoz, hoa⟩ := St.startM2 w o (m := 1) hd0 rfl
  have hs := hs0 [1]
  have hom := lab_in hob (MM := [1]) (by decide)
  have f900019 := h1 0 1 hp0 rfl rfl
  clear h0 h1 hs0
  rw [num_In_Num] at H
  refine x_seq ?_
  refine wpIn_region_lit ?_
  refine x_run tab hk (k := 1) (lv := []) (ks := [0]) (e' := [(0, .pointer (some ⟨bp0, 0, none⟩))]) rfl trivial fun a hk => ?_
  refine wpListIn_nil ?_
  refine then_n ?_
  refine x_seq ?_
  refine wpIn_region_lit ?_
  refine x_run tab hk (k := 1) (lv := []) (ks := [0, 3]) (e' := [(0, .pointer (some ⟨bp0, 0, none⟩)), (3, .int .i64 0)]) rfl trivial fun a hk => ?_
  refine wpListIn_nil ?_
  refine then_n ?_
  refine x_mid (fun a_ w_ => ∃ o194 : Nat → Nat, Kn 65 a_ [(0, .pointer (some ⟨bp0, 0, none⟩))] ∧ St [1] w oi w_ o194 ∧ Ft (Bx bp0 170 [.string p0.s, .int .i64 p0.e]) w_ o194 1 ∧ num_In_Num_j1 p0 = some r) ?_ ?_
  rotate_left
  · rintro a w195 ⟨o194, hk, hs, f900019, H⟩
    rw [num_In_Num_j1] at H
    refine x_seq ?_
    refine x_seq ?_
    refine wpIn_region_lit ?_
    refine x_run tab hk (k := 6) (lv := [.string p0.s]) (ks := [0, 60]) (e' := [(0, .pointer (some ⟨bp0, 0, none⟩)), (60, .bool (decide (((p0.s).size : Int) ≥ (9 : Int))))]) rfl ⟨(load1 tab rfl ((Bx.cell f900019.now 0).trans rfl)), trivial⟩ fun a hk => ?_
    refine wpListIn_nil ?_
    refine then_n ?_
    cases b196 : (decide (((p0.s).size : Int) ≥ (9 : Int)))
    · rw [b196] at hk H
      replace H := bifF H
      refine x_if hk (b := false) rfl ?_
      refine (show Code.wpIn _ _ _ _ _ _ _ from ?_)
      refine wpIn_skip ?_
      refine then_n ?_
      refine x_seq ?_
      refine wpIn_region_lit ?_
      refine x_run tab hk (k := 1) (lv := []) (ks := [63]) (e' := [(63, .pointer (some ⟨bp0, 0, none⟩))]) rfl trivial fun a hk => ?_
      refine x_op hk rfl ?_
      obtain ⟨t200, hc201, H⟩ := bindS H
      refine op_call hk ent_94 (vs := [.pointer (some ⟨bp0, 0, none⟩), .int .i64 2]) rfl (num_In_Fail_calls bp0 p0 2 _ o194 1 f900019 (by decide)   _ hc201) ?_
      rintro _ w202 ⟨o203, rfl, st204, f205⟩
      replace hs := hs.locM st204 (by decide) hom
      have hk := hk.put 64 (.tuple #[]) rfl
      refine wpListIn_nil ?_
      refine then_n ?_
      refine x_seq ?_
      refine wpIn_region_lit ?_
      refine x_run tab hk (k := 1) (lv := []) (ks := [2]) (e' := [(2, .int .i64 0)]) rfl trivial fun a hk => ?_
      refine wpListIn_nil ?_
      refine then_n ?_
      refine wpIn_ret ?_
      obtain rfl := Option.some.inj H
      exact x_retG hk (rs := [.tmp 2]) (vs := [.int .i64 0]) rfl ⟨rfl, trivial⟩ ⟨cl w oi o [1] (fun l_ => if l_ = 1 then Lp0 else 0) o203, rfl, hs.closeM hoz (by decide) (fun l_ => if l_ = 1 then Lp0 else 0), hs.closeM_ft (o := o) (ρ := fun l_ => if l_ = 1 then Lp0 else 0) f205 (lab_at hoa (i := 0) rfl) rfl⟩
    · rw [b196] at hk H
      replace H := bifT H
      refine x_if hk (b := true) rfl ?_
      refine (show Code.wpIn _ _ _ _ _ _ _ from ?_)
      refine wpIn_region_lit ?_
      refine x_run tab hk (k := 1) (lv := []) (ks := [0, 61]) (e' := [(0, .pointer (some ⟨bp0, 0, none⟩)), (61, .pointer (some ⟨bp0, 0, none⟩))]) rfl trivial fun a hk => ?_
      refine x_op hk rfl ?_
      obtain ⟨t209, hc210, H⟩ := bindS H
      refine op_call hk ent_94 (vs := [.pointer (some ⟨bp0, 0, none⟩), .int .i64 1]) rfl (num_In_Fail_calls bp0 p0 1 _ o194 1 f900019 (by decide)   _ hc210) ?_
      rintro _ w211 ⟨o212, rfl, st213, f214⟩
      replace hs := hs.locM st213 (by decide) hom
      have hk := hk.put 62 (.tuple #[]) rfl
      refine wpListIn_nil ?_
      refine then_n ?_
      refine x_seq ?_
      refine wpIn_region_lit ?_
      refine x_run tab hk (k := 1) (lv := []) (ks := [63]) (e' := [(63, .pointer (some ⟨bp0, 0, none⟩))]) rfl trivial fun a hk => ?_
      refine x_op hk rfl ?_
      obtain ⟨t218, hc219, H⟩ := bindS H
      refine op_call hk ent_94 (vs := [.pointer (some ⟨bp0, 0, none⟩), .int .i64 2]) rfl (num_In_Fail_calls bp0 t209 2 _ o212 1 f214 (by decide)   _ hc219) ?_
      rintro _ w220 ⟨o221, rfl, st222, f223⟩
      replace hs := hs.locM st222 (by decide) hom
      have hk := hk.put 64 (.tuple #[]) rfl
      refine wpListIn_nil ?_
      refine then_n ?_
      refine x_seq ?_
      refine wpIn_region_lit ?_
      refine x_run tab hk (k := 1) (lv := []) (ks := [2]) (e' := [(2, .int .i64 0)]) rfl trivial fun a hk => ?_
      refine wpListIn_nil ?_
      refine then_n ?_
      refine wpIn_ret ?_
      obtain rfl := Option.some.inj H
      exact x_retG hk (rs := [.tmp 2]) (vs := [.int .i64 0]) rfl ⟨rfl, trivial⟩ ⟨cl w oi o [1] (fun l_ => if l_ = 1 then Lp0 else 0) o221, rfl, hs.closeM hoz (by decide) (fun l_ => if l_ = 1 then Lp0 else 0), hs.closeM_ft (o := o) (ρ := fun l_ => if l_ = 1 then Lp0 else 0) f223 (lab_at hoa (i := 0) rfl) rfl⟩
  refine x_seq ?_
  refine wpIn_region_lit ?_
  refine x_run tab hk (k := 7) (lv := [.string p0.s]) (ks := [0, 3, 11, 12]) (e' := [(0, .pointer (some ⟨bp0, 0, none⟩)), (3, .int .i64 0), (11, .int .i64 (mnI ((p0.s).size : Int) 9)), (12, .int .i64 0)]) rfl ⟨(load1 tab rfl ((Bx.cell f900019.now 0).trans rfl)), trivial⟩ fun a hk => ?_
  refine wpListIn_nil ?_
  refine then_n ?_
  refine wpIn_block ?_
  refine x_loop (fun j_ a_ w_ => ∃ o287 : Nat → Nat, ∃ x288 : Int, ∃ x289 : Int, Kn 65 a_ [(0, .pointer (some ⟨bp0, 0, none⟩)), (3, .int .i64 x288), (11, .int .i64 (mnI ((p0.s).size : Int) 9)), (12, .int .i64 x289)] ∧ St [1] w oi w_ o287 ∧ Ft (Bx bp0 170 [.string p0.s, .int .i64 p0.e]) w_ o287 1 ∧ num_In_Num_l2 p0 j_ x288 x289 = some r) (k := K) ⟨oi, 0, 0, (by exact Kn.pick (ks := [0, 3, 11, 12]) hk rfl), hs, f900019, H⟩ (by rintro _ _ ⟨_, _, _, _, _, _, H_⟩; exact absurd (show (none : Option (Int × T169)) = some r from H_) (by simp)) ?_
  rintro k351 a w350 ⟨o287, x288, x289, hk, hs, f900019, H⟩
  rw [num_In_Num_l2] at H
  obtain ⟨lp352, hlp353⟩ : ∃ lp_, lp_ = num_In_Num_l2 p0 k351 := ⟨_, rfl⟩
  rw [← hlp353] at H
  refine x_seq ?_
  refine wpIn_region_lit ?_
  refine x_run tab hk (k := 1) (lv := []) (ks := [0, 3, 11, 12, 13]) (e' := [(0, .pointer (some ⟨bp0, 0, none⟩)), (3, .int .i64 x288), (11, .int .i64 (mnI ((p0.s).size : Int) 9)), (12, .int .i64 x289), (13, .bool (decide (x289 < (mnI ((p0.s).size : Int) 9))))]) rfl trivial fun a hk => ?_
  refine wpListIn_nil ?_
  refine then_n ?_
  refine x_seq ?_
  cases b354 : (decide (x289 < (mnI ((p0.s).size : Int) 9)))
  · rw [b354] at hk H
    replace H := bifF H
    refine x_if hk (b := false) rfl ?_
    refine (show Code.wpIn _ _ _ _ _ _ _ from ?_)
    refine wpIn_exit ?_
    refine then_x ?_
    refine then_x ?_
    refine blk_x ?_
    refine then_n ?_
    exact ⟨o287, (by exact Kn.pick (ks := [0]) hk rfl), hs, f900019, H⟩
  · rw [b354] at hk H
    replace H := bifT H
    refine x_if hk (b := true) rfl ?_
    refine (show Code.wpIn _ _ _ _ _ _ _ from ?_)
    refine wpIn_skip ?_
    refine then_n ?_
    refine x_seq ?_
    refine wpIn_block ?_
    refine x_seq ?_
    refine wpIn_region_lit ?_
    refine x_run tab hk (k := 2) (lv := []) (ks := [0, 3, 4, 11, 12]) (e' := [(0, .pointer (some ⟨bp0, 0, none⟩)), (3, .int .i64 x288), (4, .int .i64 x289), (11, .int .i64 (mnI ((p0.s).size : Int) 9)), (12, .int .i64 x289)]) rfl trivial fun a hk => ?_
    refine wpListIn_nil ?_
    refine then_n ?_
    refine x_seq ?_
    refine wpIn_region_lit ?_
    obtain ⟨q355, H⟩ := ifS H
    refine x_run tab hk (k := 7) (lv := [.string p0.s]) (ks := [0, 3, 4, 5, 11, 12]) (e' := [(0, .pointer (some ⟨bp0, 0, none⟩)), (3, .int .i64 x288), (4, .int .i64 x289), (5, .int .u8 (bt p0.s x289)), (11, .int .i64 (mnI ((p0.s).size : Int) 9)), (12, .int .i64 x289)]) rfl ⟨(load1 tab rfl ((Bx.cell f900019.now 0).trans rfl)), q355, trivial⟩ fun a hk => ?_
    refine wpListIn_nil ?_
    refine then_n ?_
    refine x_seq ?_
    refine wpIn_region_lit ?_
    obtain ⟨q356, H⟩ := ifS H
    refine x_run tab hk (k := 9) (lv := []) (ks := [0, 3, 4, 5, 11, 12]) (e' := [(0, .pointer (some ⟨bp0, 0, none⟩)), (3, .int .i64 (bits .or .i64 x288 (IntKind.wrap .i64 ((IntKind.wrap .i64 (bits .and .u8 (bt p0.s x289) 127)) * 2 ^ min (Int.toNat (IntKind.wrap .i64 (7 * x289))) 64)))), (4, .int .i64 x289), (5, .int .u8 (bt p0.s x289)), (11, .int .i64 (mnI ((p0.s).size : Int) 9)), (12, .int .i64 x289)]) rfl ⟨q356, trivial⟩ fun a hk => ?_
    refine wpListIn_nil ?_
    refine then_n ?_
    refine x_seq ?_
    refine x_seq ?_
    refine wpIn_region_lit ?_
    refine x_run tab hk (k := 2) (lv := []) (ks := [0, 3, 4, 5, 11, 12, 30]) (e' := [(0, .pointer (some ⟨bp0, 0, none⟩)), (3, .int .i64 (bits .or .i64 x288 (IntKind.wrap .i64 ((IntKind.wrap .i64 (bits .and .u8 (bt p0.s x289) 127)) * 2 ^ min (Int.toNat (IntKind.wrap .i64 (7 * x289))) 64)))), (4, .int .i64 x289), (5, .int .u8 (bt p0.s x289)), (11, .int .i64 (mnI ((p0.s).size : Int) 9)), (12, .int .i64 x289), (30, .bool (decide ((bt p0.s x289) ≥ (128 : Int))))]) rfl trivial fun a hk => ?_
    refine wpListIn_nil ?_
    refine then_n ?_
    cases b357 : (decide ((bt p0.s x289) ≥ (128 : Int)))
    · rw [b357] at hk H
      replace H := bifF H
      refine x_if hk (b := false) rfl ?_
      refine (show Code.wpIn _ _ _ _ _ _ _ from ?_)
      refine wpIn_skip ?_
      refine then_n ?_
      refine x_mid (fun a_ w_ => ∃ o384 : Nat → Nat, Kn 65 a_ [(0, .pointer (some ⟨bp0, 0, none⟩)), (3, .int .i64 (bits .or .i64 x288 (IntKind.wrap .i64 ((IntKind.wrap .i64 (bits .and .u8 (bt p0.s x289) 127)) * 2 ^ min (Int.toNat (IntKind.wrap .i64 (7 * x289))) 64)))), (4, .int .i64 x289)] ∧ St [1] w oi w_ o384 ∧ Ft (Bx bp0 170 [.string p0.s, .int .i64 p0.e]) w_ o384 1 ∧ num_In_Num_j3 p0 x288 x289 = some r) ?_ ?_
      rotate_left
      · rintro a w385 ⟨o384, hk, hs, f900019, H⟩
        rw [num_In_Num_j3] at H
        refine x_seq ?_
        refine wpIn_region_lit ?_
        obtain ⟨q386, H⟩ := ifS H
        obtain ⟨q387, H⟩ := ifS H
        refine x_run tab hk (k := 10) (lv := [.string p0.s]) (ks := [3, 50, 52]) (e' := [(3, .int .i64 (bits .or .i64 x288 (IntKind.wrap .i64 ((IntKind.wrap .i64 (bits .and .u8 (bt p0.s x289) 127)) * 2 ^ min (Int.toNat (IntKind.wrap .i64 (7 * x289))) 64)))), (50, .string (ByteArray.extract p0.s (Int.toNat (IntKind.wrap .i64 (x289 + 1))) (p0.s).size)), (52, .pointer (some ⟨bp0, 0, none⟩))]) rfl ⟨(load1 tab rfl ((Bx.cell f900019.now 0).trans rfl)), q386, q387, trivial⟩ fun a hk => ?_
        refine x_op hk rfl ?_
        refine op_store tab hk (t := 9) (v := .string (ByteArray.extract p0.s (Int.toNat (IntKind.wrap .i64 (x289 + 1))) (p0.s).size)) (b := bp0) (k := 0) (cs' := [.string (ByteArray.extract p0.s (Int.toNat (IntKind.wrap .i64 (x289 + 1))) (p0.s).size), .int .i64 p0.e]) rfl rfl rfl rfl rfl rfl f900019 rfl rfl fun w388 o389 st390 f900019_ => ?_
        replace hs := hs.locM st390 (by decide) hom
        replace f900019 := f900019_
        refine wpListIn_nil ?_
        refine then_n ?_
        refine x_seq ?_
        refine wpIn_region_lit ?_
        refine x_run tab hk (k := 2) (lv := []) (ks := [2]) (e' := [(2, .int .i64 (bits .or .i64 x288 (IntKind.wrap .i64 ((IntKind.wrap .i64 (bits .and .u8 (bt p0.s x289) 127)) * 2 ^ min (Int.toNat (IntKind.wrap .i64 (7 * x289))) 64))))]) rfl trivial fun a hk => ?_
        refine wpListIn_nil ?_
        refine then_n ?_
        refine wpIn_ret ?_
        refine blk_r ?_
        refine then_r ?_
        refine then_r ?_
        refine blk_r ?_
        refine then_r ?_
        obtain rfl := Option.some.inj H
        exact x_retG hk (rs := [.tmp 2]) (vs := [.int .i64 (bits .or .i64 x288 (IntKind.wrap .i64 ((IntKind.wrap .i64 (bits .and .u8 (bt p0.s x289) 127)) * 2 ^ min (Int.toNat (IntKind.wrap .i64 (7 * x289))) 64)))]) rfl ⟨rfl, trivial⟩ ⟨cl w oi o [1] (fun l_ => if l_ = 1 then Lp0 else 0) o389, rfl, hs.closeM hoz (by decide) (fun l_ => if l_ = 1 then Lp0 else 0), hs.closeM_ft (o := o) (ρ := fun l_ => if l_ = 1 then Lp0 else 0) f900019 (lab_at hoa (i := 0) rfl) rfl⟩
      refine x_mid (fun a_ w_ => ∃ o399 : Nat → Nat, ∃ x400 : Bool, Kn 65 a_ [(0, .pointer (some ⟨bp0, 0, none⟩)), (3, .int .i64 (bits .or .i64 x288 (IntKind.wrap .i64 ((IntKind.wrap .i64 (bits .and .u8 (bt p0.s x289) 127)) * 2 ^ min (Int.toNat (IntKind.wrap .i64 (7 * x289))) 64)))), (4, .int .i64 x289), (40, .bool x400)] ∧ St [1] w oi w_ o399 ∧ Ft (Bx bp0 170 [.string p0.s, .int .i64 p0.e]) w_ o399 1 ∧ num_In_Num_j4 p0 x288 x289 x400 = some r) ?_ ?_
      rotate_left
      · rintro a w401 ⟨o399, x400, hk, hs, f900019, H⟩
        rw [num_In_Num_j4] at H
        cases b402 : x400
        · rw [b402] at hk H
          replace H := bifF H
          refine x_if hk (b := false) rfl ?_
          refine (show Code.wpIn _ _ _ _ _ _ _ from ?_)
          refine wpIn_skip ?_
          refine then_n ?_
          exact ⟨o399, (by exact Kn.pick (ks := [0, 3, 4]) hk rfl), hs, f900019, H⟩
        · rw [b402] at hk H
          replace H := bifT H
          refine x_if hk (b := true) rfl ?_
          refine (show Code.wpIn _ _ _ _ _ _ _ from ?_)
          refine x_seq ?_
          refine wpIn_region_lit ?_
          refine x_run tab hk (k := 1) (lv := []) (ks := [41]) (e' := [(41, .pointer (some ⟨bp0, 0, none⟩))]) rfl trivial fun a hk => ?_
          refine x_op hk rfl ?_
          obtain ⟨t406, hc407, H⟩ := bindS H
          refine op_call hk ent_94 (vs := [.pointer (some ⟨bp0, 0, none⟩), .int .i64 1]) rfl (num_In_Fail_calls bp0 p0 1 _ o399 1 f900019 (by decide)   _ hc407) ?_
          rintro _ w408 ⟨o409, rfl, st410, f411⟩
          replace hs := hs.locM st410 (by decide) hom
          have hk := hk.put 42 (.tuple #[]) rfl
          refine wpListIn_nil ?_
          refine then_n ?_
          refine x_seq ?_
          refine wpIn_region_lit ?_
          refine x_run tab hk (k := 1) (lv := []) (ks := [2]) (e' := [(2, .int .i64 0)]) rfl trivial fun a hk => ?_
          refine wpListIn_nil ?_
          refine then_n ?_
          refine wpIn_ret ?_
          refine then_r ?_
          refine blk_r ?_
          refine then_r ?_
          refine then_r ?_
          refine blk_r ?_
          refine then_r ?_
          obtain rfl := Option.some.inj H
          exact x_retG hk (rs := [.tmp 2]) (vs := [.int .i64 0]) rfl ⟨rfl, trivial⟩ ⟨cl w oi o [1] (fun l_ => if l_ = 1 then Lp0 else 0) o409, rfl, hs.closeM hoz (by decide) (fun l_ => if l_ = 1 then Lp0 else 0), hs.closeM_ft (o := o) (ρ := fun l_ => if l_ = 1 then Lp0 else 0) f411 (lab_at hoa (i := 0) rfl) rfl⟩
      refine wpIn_region_lit ?_
      refine x_run tab hk (k := 3) (lv := []) (ks := [0, 3, 4, 5, 33]) (e' := [(0, .pointer (some ⟨bp0, 0, none⟩)), (3, .int .i64 (bits .or .i64 x288 (IntKind.wrap .i64 ((IntKind.wrap .i64 (bits .and .u8 (bt p0.s x289) 127)) * 2 ^ min (Int.toNat (IntKind.wrap .i64 (7 * x289))) 64)))), (4, .int .i64 x289), (5, .int .u8 (bt p0.s x289)), (33, .bool (decide (x289 > (0 : Int))))]) rfl trivial fun a hk => ?_
      cases b412 : (decide (x289 > (0 : Int)))
      · rw [b412] at hk H
        replace H := bifF H
        refine x_run tab hk (k := 7) (lv := []) (ks := [0, 3, 4, 40]) (e' := [(0, .pointer (some ⟨bp0, 0, none⟩)), (3, .int .i64 (bits .or .i64 x288 (IntKind.wrap .i64 ((IntKind.wrap .i64 (bits .and .u8 (bt p0.s x289) 127)) * 2 ^ min (Int.toNat (IntKind.wrap .i64 (7 * x289))) 64)))), (4, .int .i64 x289), (40, .bool (decide ((bits .or .i64 x288 (IntKind.wrap .i64 ((IntKind.wrap .i64 (bits .and .u8 (bt p0.s x289) 127)) * 2 ^ min (Int.toNat (IntKind.wrap .i64 (7 * x289))) 64))) > (4611686018427387904 : Int))))]) rfl trivial fun a hk => ?_
        refine wpListIn_nil ?_
        refine then_n ?_
        exact ⟨o287, (decide ((bits .or .i64 x288 (IntKind.wrap .i64 ((IntKind.wrap .i64 (bits .and .u8 (bt p0.s x289) 127)) * 2 ^ min (Int.toNat (IntKind.wrap .i64 (7 * x289))) 64))) > (4611686018427387904 : Int))), (by exact Kn.pick (ks := [0, 3, 4, 40]) hk rfl), hs, f900019, H⟩
      · rw [b412] at hk H
        replace H := bifT H
        refine x_run tab hk (k := 4) (lv := []) (ks := [0, 3, 4, 37]) (e' := [(0, .pointer (some ⟨bp0, 0, none⟩)), (3, .int .i64 (bits .or .i64 x288 (IntKind.wrap .i64 ((IntKind.wrap .i64 (bits .and .u8 (bt p0.s x289) 127)) * 2 ^ min (Int.toNat (IntKind.wrap .i64 (7 * x289))) 64)))), (4, .int .i64 x289), (37, .bool ((bt p0.s x289) == (0 : Int)))]) rfl trivial fun a hk => ?_
        cases b413 : ((bt p0.s x289) == (0 : Int))
        · rw [b413] at hk H
          replace H := bifF H
          refine x_run tab hk (k := 3) (lv := []) (ks := [0, 3, 4, 40]) (e' := [(0, .pointer (some ⟨bp0, 0, none⟩)), (3, .int .i64 (bits .or .i64 x288 (IntKind.wrap .i64 ((IntKind.wrap .i64 (bits .and .u8 (bt p0.s x289) 127)) * 2 ^ min (Int.toNat (IntKind.wrap .i64 (7 * x289))) 64)))), (4, .int .i64 x289), (40, .bool (decide ((bits .or .i64 x288 (IntKind.wrap .i64 ((IntKind.wrap .i64 (bits .and .u8 (bt p0.s x289) 127)) * 2 ^ min (Int.toNat (IntKind.wrap .i64 (7 * x289))) 64))) > (4611686018427387904 : Int))))]) rfl trivial fun a hk => ?_
          refine wpListIn_nil ?_
          refine then_n ?_
          exact ⟨o287, (decide ((bits .or .i64 x288 (IntKind.wrap .i64 ((IntKind.wrap .i64 (bits .and .u8 (bt p0.s x289) 127)) * 2 ^ min (Int.toNat (IntKind.wrap .i64 (7 * x289))) 64))) > (4611686018427387904 : Int))), (by exact Kn.pick (ks := [0, 3, 4, 40]) hk rfl), hs, f900019, H⟩
        · rw [b413] at hk H
          replace H := bifT H
          refine x_run tab hk (k := 3) (lv := []) (ks := [0, 3, 4, 40]) (e' := [(0, .pointer (some ⟨bp0, 0, none⟩)), (3, .int .i64 (bits .or .i64 x288 (IntKind.wrap .i64 ((IntKind.wrap .i64 (bits .and .u8 (bt p0.s x289) 127)) * 2 ^ min (Int.toNat (IntKind.wrap .i64 (7 * x289))) 64)))), (4, .int .i64 x289), (40, .bool true)]) rfl trivial fun a hk => ?_
          refine wpListIn_nil ?_
          refine then_n ?_
          exact ⟨o287, true, (by exact Kn.pick (ks := [0, 3, 4, 40]) hk rfl), hs, f900019, H⟩
    · rw [b357] at hk H
      replace H := bifT H
      refine x_if hk (b := true) rfl ?_
      refine (show Code.wpIn _ _ _ _ _ _ _ from ?_)
      refine wpIn_exit ?_
      refine then_x ?_
      refine blk_x ?_
      refine then_n ?_
      refine wpIn_region_lit ?_
      refine x_run tab hk (k := 2) (lv := []) (ks := [0, 3, 11, 12]) (e' := [(0, .pointer (some ⟨bp0, 0, none⟩)), (3, .int .i64 (bits .or .i64 x288 (IntKind.wrap .i64 ((IntKind.wrap .i64 (bits .and .u8 (bt p0.s x289) 127)) * 2 ^ min (Int.toNat (IntKind.wrap .i64 (7 * x289))) 64)))), (11, .int .i64 (mnI ((p0.s).size : Int) 9)), (12, .int .i64 (IntKind.wrap .i64 (x289 + 1)))]) rfl trivial fun a hk => ?_
      refine wpListIn_nil ?_
      refine then_n ?_
      exact ⟨k351, Nat.le_refl _, o287, (bits .or .i64 x288 (IntKind.wrap .i64 ((IntKind.wrap .i64 (bits .and .u8 (bt p0.s x289) 127)) * 2 ^ min (Int.toNat (IntKind.wrap .i64 (7 * x289))) 64))), (IntKind.wrap .i64 (x289 + 1)), (by exact Kn.pick (ks := [0, 3, 11, 12]) hk rfl), hs, f900019, (hlp353 ▸ H)⟩

/-! (*tidewrack/num.In).Raw -/
theorem num_In_Raw_calls (bp0 : Nat) (p0 : T169) (p1 : Int) (w : World) (o : Nat → Nat) (Lp0 : Nat) (hp0 : Ft (Bx bp0 170 [.string p0.s, .int .i64 p0.e]) w o Lp0) (hd0 : ([Lp0] : List Nat).Nodup) (r : ByteArray × T169) (H : num_In_Raw p0 p1 = some r) :
    Calls Tryd.prog 112 #[.pointer (some ⟨bp0, 0, none⟩), .int .i64 p1] w (Ret fun v_ w' => ∃ o' : Nat → Nat, v_ = .string r.1 ∧ St [Lp0] w o w' o' ∧ Ft (Bx bp0 170 [.string r.2.s, .int .i64 r.2.e]) w' o' Lp0) := by
  refine x_enter (vs := [.pointer (some ⟨bp0, 0, none⟩), .int .i64 p1]) Tryd.func112 rfl rfl rfl fun a hk => ?_
  obtain ⟨oi, hs0, h0, h1, hob, hoz, hoa⟩ := St.startM2 w o (m := 1) hd0 rfl
  have hs := hs0 [1]
  have hom := lab_in hob (MM := [1]) (by decide)
  have f900019 := h1 0 1 hp0 rfl rfl
  clear h0 h1 hs0
  rw [num_In_Raw] at H
  refine x_seq ?_
  refine wpIn_region_lit ?_
  refine x_run tab hk (k := 1) (lv := []) (ks := [0, 1]) (e' := [(0, .pointer (some ⟨bp0, 0, none⟩)), (1, .int .i64 p1)]) rfl trivial fun a hk => ?_
  refine wpListIn_nil ?_
  refine then_n ?_
  refine x_seq ?_
  refine wpIn_region_lit ?_
  refine x_run tab hk (k := 3) (lv := []) (ks := [0, 1]) (e' := [(0, .pointer (some ⟨bp0, 0, none⟩)), (1, .int .i64 (mxI 0 p1))]) rfl trivial fun a hk => ?_
  refine wpListIn_nil ?_
  refine then_n ?_
  refine x_seq ?_
  refine x_seq ?_
  refine wpIn_region_lit ?_
  refine x_run tab hk (k := 7) (lv := [.string p0.s]) (ks := [0, 1, 14]) (e' := [(0, .pointer (some ⟨bp0, 0, none⟩)), (1, .int .i64 (mxI 0 p1)), (14, .bool (decide ((mxI 0 p1) > ((p0.s).size : Int))))]) rfl ⟨(load1 tab rfl ((Bx.cell f900019.now 0).trans rfl)), trivial⟩ fun a hk => ?_
  refine wpListIn_nil ?_
  refine then_n ?_
  cases b1 : (decide ((mxI 0 p1) > ((p0.s).size : Int)))
  · rw [b1] at hk H
    replace H := bifF H
    refine x_if hk (b := false) rfl ?_
    refine (show Code.wpIn _ _ _ _ _ _ _ from ?_)
    refine wpIn_skip ?_
    refine then_n ?_
    refine x_seq ?_
    refine wpIn_region_lit ?_
    obtain ⟨q2, H⟩ := ifS H
    obtain ⟨q3, H⟩ := ifS H
    refine x_run tab hk (k := 7) (lv := [.string p0.s]) (ks := [0, 1, 5]) (e' := [(0, .pointer (some ⟨bp0, 0, none⟩)), (1, .int .i64 (mxI 0 p1)), (5, .string (ByteArray.extract p0.s 0 (Int.toNat (mxI 0 p1))))]) rfl ⟨(load1 tab rfl ((Bx.cell f900019.now 0).trans rfl)), q2, q3, trivial⟩ fun a hk => ?_
    refine wpListIn_nil ?_
    refine then_n ?_
    refine x_seq ?_
    refine wpIn_region_lit ?_
    refine x_run tab hk (k := 9) (lv := [.string p0.s]) (ks := [5, 29, 31]) (e' := [(5, .string (ByteArray.extract p0.s 0 (Int.toNat (mxI 0 p1)))), (29, .string (ByteArray.extract p0.s (Int.toNat (mxI 0 p1)) (p0.s).size)), (31, .pointer (some ⟨bp0, 0, none⟩))]) rfl ⟨(load1 tab rfl ((Bx.cell f900019.now 0).trans rfl)), q2, q3, trivial⟩ fun a hk => ?_
    refine x_op hk rfl ?_
    refine op_store tab hk (t := 9) (v := .string (ByteArray.extract p0.s (Int.toNat (mxI 0 p1)) (p0.s).size)) (b := bp0) (k := 0) (cs' := [.string (ByteArray.extract p0.s (Int.toNat (mxI 0 p1)) (p0.s).size), .int .i64 p0.e]) rfl rfl rfl rfl rfl rfl f900019 rfl rfl fun w4 o5 st6 f900019_ => ?_
    replace hs := hs.locM st6 (by decide) hom
    replace f900019 := f900019_
    refine wpListIn_nil ?_
    refine then_n ?_
    refine x_seq ?_
    refine wpIn_region_lit ?_
    refine x_run tab hk (k := 2) (lv := []) (ks := [4]) (e' := [(4, .string (ByteArray.extract p0.s 0 (Int.toNat (mxI 0 p1))))]) rfl trivial fun a hk => ?_
    refine wpListIn_nil ?_
    refine then_n ?_
    refine wpIn_ret ?_
    obtain rfl := Option.some.inj H
    exact x_retG hk (rs := [.tmp 4]) (vs := [.string (ByteArray.extract p0.s 0 (Int.toNat (mxI 0 p1)))]) rfl ⟨rfl, trivial⟩ ⟨cl w oi o [1] (fun l_ => if l_ = 1 then Lp0 else 0) o5, rfl, hs.closeM hoz (by decide) (fun l_ => if l_ = 1 then Lp0 else 0), hs.closeM_ft (o := o) (ρ := fun l_ => if l_ = 1 then Lp0 else 0) f900019 (lab_at hoa (i := 0) rfl) rfl⟩
  · rw [b1] at hk H
    replace H := bifT H
    refine x_if hk (b := true) rfl ?_
    refine (show Code.wpIn _ _ _ _ _ _ _ from ?_)
    refine x_seq ?_
    refine wpIn_region_lit ?_
    refine x_run tab hk (k := 1) (lv := []) (ks := [15]) (e' := [(15, .pointer (some ⟨bp0, 0, none⟩))]) rfl trivial fun a hk => ?_
    refine x_op hk rfl ?_
    obtain ⟨t10, hc11, H⟩ := bindS H
    refine op_call hk ent_94 (vs := [.pointer (some ⟨bp0, 0, none⟩), .int .i64 2]) rfl (num_In_Fail_calls bp0 p0 2 _ oi 1 f900019 (by decide)   _ hc11) ?_
    rintro _ w12 ⟨o13, rfl, st14, f15⟩
    replace hs := hs.locM st14 (by decide) hom
    have hk := hk.put 16 (.tuple #[]) rfl
    refine wpListIn_nil ?_
    refine then_n ?_
    refine x_seq ?_
    refine wpIn_region_lit ?_
    refine x_run tab hk (k := 1) (lv := []) (ks := [4]) (e' := [(4, .string (⟨#[]⟩ : ByteArray))]) rfl trivial fun a hk => ?_
    refine wpListIn_nil ?_
    refine then_n ?_
    refine wpIn_ret ?_
    refine then_r ?_
    obtain rfl := Option.some.inj H
    exact x_retG hk (rs := [.tmp 4]) (vs := [.string (⟨#[]⟩ : ByteArray)]) rfl ⟨rfl, trivial⟩ ⟨cl w oi o [1] (fun l_ => if l_ = 1 then Lp0 else 0) o13, rfl, hs.closeM hoz (by decide) (fun l_ => if l_ = 1 then Lp0 else 0), hs.closeM_ft (o := o) (ρ := fun l_ => if l_ = 1 then Lp0 else 0) f15 (lab_at hoa (i := 0) rfl) rfl⟩

/-! (*tidewrack/num.In).Text -/
theorem num_In_Text_calls (K : Nat) (bp0 : Nat) (p0 : T169) (w : World) (o : Nat → Nat) (Lp0 : Nat) (hp0 : Ft (Bx bp0 170 [.string p0.s, .int .i64 p0.e]) w o Lp0) (hd0 : ([Lp0] : List Nat).Nodup) (r : ByteArray × T169) (H : num_In_Text K p0 = some r) :
    Calls Tryd.prog 95 #[.pointer (some ⟨bp0, 0, none⟩)] w (Ret fun v_ w' => ∃ o' : Nat → Nat, v_ = .string r.1 ∧ St [Lp0] w o w' o' ∧ Ft (Bx bp0 170 [.string r.2.s, .int .i64 r.2.e]) w' o' Lp0) := by
  refine x_enter (vs := [.pointer (some ⟨bp0, 0, none⟩)]) Tryd.func95 rfl rfl rfl fun a hk => ?_
  obtain ⟨oi, hs0, h0, h1, hob, hoz, hoa⟩ := St.startM2 w o (m := 1) hd0 rfl
  have hs := hs0 [1]
  have hom := lab_in hob (MM := [1]) (by decide)
  have f900019 := h1 0 1 hp0 rfl rfl
  clear h0 h1 hs0
  rw [num_In_Text] at H
  refine x_seq ?_
  refine wpIn_region_lit ?_
  refine x_run tab hk (k := 1) (lv := []) (ks := [0]) (e' := [(0, .pointer (some ⟨bp0, 0, none⟩))]) rfl trivial fun a hk => ?_
  refine wpListIn_nil ?_
  refine then_n ?_
  refine x_seq ?_
  refine wpIn_region_lit ?_
  refine x_run tab hk (k := 2) (lv := []) (ks := [3, 4]) (e' := [(3, .pointer (some ⟨bp0, 0, none⟩)), (4, .pointer (some ⟨bp0, 0, none⟩))]) rfl trivial fun a hk => ?_
  refine x_op hk rfl ?_
  obtain ⟨t4, hc5, H⟩ := bindS H
  refine op_call hk ent_93 (vs := [.pointer (some ⟨bp0, 0, none⟩)]) rfl (num_In_Num_calls K bp0 p0 _ oi 1 f900019 (by decide)   _ hc5) ?_
  rintro _ w6 ⟨o7, rfl, st8, f9⟩
  replace hs := hs.locM st8 (by decide) hom
  have hk := hk.put 5 (.int .i64 t4.1) rfl
  refine x_op hk rfl ?_
  obtain ⟨t13, hc14, H⟩ := bindS H
  refine op_call hk ent_112 (vs := [.pointer (some ⟨bp0, 0, none⟩), .int .i64 t4.1]) rfl (num_In_Raw_calls bp0 t4.2 t4.1 _ o7 1 f9 (by decide)   _ hc14) ?_
  rintro _ w15 ⟨o16, rfl, st17, f18⟩
  replace hs := hs.locM st17 (by decide) hom
  have hk := hk.put 6 (.string t13.1) rfl
  refine x_run tab hk (k := 1) (lv := []) (ks := [2]) (e' := [(2, .string t13.1)]) rfl trivial fun a hk => ?_
  refine wpListIn_nil ?_
  refine then_n ?_
  refine wpIn_ret ?_
  obtain rfl := Option.some.inj H
  exact x_retG hk (rs := [.tmp 2]) (vs := [.string t13.1]) rfl ⟨rfl, trivial⟩ ⟨cl w oi o [1] (fun l_ => if l_ = 1 then Lp0 else 0) o16, rfl, hs.closeM hoz (by decide) (fun l_ => if l_ = 1 then Lp0 else 0), hs.closeM_ft (o := o) (ρ := fun l_ => if l_ = 1 then Lp0 else 0) f18 (lab_at hoa (i := 0) rfl) rfl⟩

/-! tidewrack/gram.read -/
theorem gram_read_calls (K : Nat) (bp0 : Nat) (p0 : T169) (w : World) (o : Nat → Nat) (Lp0 : Nat) (hp0 : Ft (Bx bp0 170 [.string p0.s, .int .i64 p0.e]) w o Lp0) (hd0 : ([Lp0] : List Nat).Nodup) (R0 : Nat) (r : T76 × T169) (H : gram_read K p0 = some r) :
    Calls Tryd.prog 63 #[.pointer (some ⟨bp0, 0, none⟩)] w (Ret fun v_ w' => ∃ o' : Nat → Nat, ∃ A0 : Option Addr, ∃ c0 : Nat, v_ = .agg #[.int .i64 r.1.Epoch, .int .i64 r.1.Kind, .slice A0 (r.1.Nums).length c0, .string r.1.Data] ∧ St [Lp0] w o w' o' ∧ Ft (Own (encInt .i64) 3 (.slice A0 (r.1.Nums).length c0) r.1.Nums) w' o' R0 ∧ (r.1.Nums).length ≤ c0 ∧ Ft (Bx bp0 170 [.string r.2.s, .int .i64 r.2.e]) w' o' Lp0) := by
  refine x_enter (vs := [.pointer (some ⟨bp0, 0, none⟩)]) Tryd.func63 rfl rfl rfl fun a hk => ?_
  obtain ⟨oi, hs0, h0, h1, hob, hoz, hoa⟩ := St.startM2 w o (m := 1) hd0 rfl
  have hs := hs0 [1]
  have hom := lab_in hob (MM := [1]) (by decide)
  have f900019 := h1 0 1 hp0 rfl rfl
  clear h0 h1 hs0
  rw [gram_read] at H
  refine x_seq ?_
  refine wpIn_region_lit ?_
  refine x_op hk rfl ?_
  refine op_alloc (o := oi) tab (t := 77) (cs := [.int .i64 0, .int .i64 0, .slice none 0 0, .string (⟨#[]⟩ : ByteArray)]) rfl rfl 2 fun bx4 w1 o2 st3 f5 => ?_
  replace f900019 := f900019.st st3 (by decide)
  replace hs := hs.locM st3 (by decide) hom
  have hk := hk.put 2 (.pointer (some ⟨bx4, 0, none⟩)) rfl
  refine wpListIn_nil ?_
  refine then_n ?_
  refine x_seq ?_
  refine wpIn_region_lit ?_
  refine x_run tab hk (k := 1) (lv := []) (ks := [0, 2, 5]) (e' := [(0, .pointer (some ⟨bp0, 0, none⟩)), (2, .pointer (some ⟨bx4, 0, none⟩)), (5, .pointer (some ⟨bp0, 0, none⟩))]) rfl trivial fun a hk => ?_
  refine x_op hk rfl ?_
  obtain ⟨t9, hc10, H⟩ := bindS H
  refine op_call hk ent_93 (vs := [.pointer (some ⟨bp0, 0, none⟩)]) rfl (num_In_Num_calls K bp0 p0 _ o2 1 f900019 (by decide)   _ hc10) ?_
  rintro _ w11 ⟨o12, rfl, st13, f14⟩
  replace f5 := f5.st st13 (by decide)
  replace hs := hs.locM st13 (by decide) hom
  have hk := hk.put 6 (.int .i64 t9.1) rfl
  refine x_run tab hk (k := 1) (lv := []) (ks := [0, 2, 6, 7]) (e' := [(0, .pointer (some ⟨bp0, 0, none⟩)), (2, .pointer (some ⟨bx4, 0, none⟩)), (6, .int .i64 t9.1), (7, .pointer (some ⟨bp0, 0, none⟩))]) rfl trivial fun a hk => ?_
  refine x_op hk rfl ?_
  obtain ⟨t18, hc19, H⟩ := bindS H
  refine op_call hk ent_93 (vs := [.pointer (some ⟨bp0, 0, none⟩)]) rfl (num_In_Num_calls K bp0 t9.2 _ o12 1 f14 (by decide)   _ hc19) ?_
  rintro _ w20 ⟨o21, rfl, st22, f23⟩
  replace f5 := f5.st st22 (by decide)
  replace hs := hs.locM st22 (by decide) hom
  have hk := hk.put 8 (.int .i64 t18.1) rfl
  refine x_run tab hk (k := 1) (lv := []) (ks := [0, 2, 9]) (e' := [(0, .pointer (some ⟨bp0, 0, none⟩)), (2, .pointer (some ⟨bx4, 0, none⟩)), (9, .agg #[.int .i64 t9.1, .int .i64 t18.1, .slice none 0 0, .string (⟨#[]⟩ : ByteArray)])]) rfl trivial fun a hk => ?_
  refine x_op hk rfl ?_
  refine op_alloc (o := o21) tab (t := 77) (cs := [.int .i64 0, .int .i64 0, .slice none 0 0, .string (⟨#[]⟩ : ByteArray)]) rfl rfl 3 fun bx27 w24 o25 st26 f28 => ?_
  replace f23 := f23.st st26 (by decide)
  replace f5 := f5.st st26 (by decide)
  replace hs := hs.locM st26 (by decide) hom
  have hk := hk.put 3 (.pointer (some ⟨bx27, 0, none⟩)) rfl
  refine x_op hk rfl ?_
  refine op_store tab hk (t := 77) (v := .agg #[.int .i64 t9.1, .int .i64 t18.1, .slice none 0 0, .string (⟨#[]⟩ : ByteArray)]) (b := bx27) (k := 0) (cs' := [.int .i64 t9.1, .int .i64 t18.1, .slice none 0 0, .string (⟨#[]⟩ : ByteArray)]) rfl rfl rfl rfl rfl rfl f28 rfl rfl fun w29 o30 st31 f28_ => ?_
  replace f23 := f23.st st31 (by decide)
  replace f5 := f5.st st31 (by decide)
  replace hs := hs.locM st31 (by decide) hom
  replace f28 := f28_
  refine wpListIn_nil ?_
  refine then_n ?_
  refine x_seq ?_
  refine wpIn_region_lit ?_
  refine x_run tab hk (k := 1) (lv := []) (ks := [0, 2, 3, 10]) (e' := [(0, .pointer (some ⟨bp0, 0, none⟩)), (2, .pointer (some ⟨bx4, 0, none⟩)), (3, .pointer (some ⟨bx27, 0, none⟩)), (10, .pointer (some ⟨bp0, 0, none⟩))]) rfl trivial fun a hk => ?_
  refine x_op hk rfl ?_
  obtain ⟨t35, hc36, H⟩ := bindS H
  refine op_call hk ent_93 (vs := [.pointer (some ⟨bp0, 0, none⟩)]) rfl (num_In_Num_calls K bp0 t18.2 _ o30 1 f23 (by decide)   _ hc36) ?_
  rintro _ w37 ⟨o38, rfl, st39, f40⟩
  replace f28 := f28.st st39 (by decide)
  replace f5 := f5.st st39 (by decide)
  replace hs := hs.locM st39 (by decide) hom
  have hk := hk.put 11 (.int .i64 t35.1) rfl
  refine x_run tab hk (k := 1) (lv := []) (ks := [0, 2, 3, 4]) (e' := [(0, .pointer (some ⟨bp0, 0, none⟩)), (2, .pointer (some ⟨bx4, 0, none⟩)), (3, .pointer (some ⟨bx27, 0, none⟩)), (4, .int .i64 t35.1)]) rfl trivial fun a hk => ?_
  refine wpListIn_nil ?_
  refine then_n ?_
  refine x_mid (fun a_ w_ => ∃ o57 : Nat → Nat, ∃ x58 : T169, Kn 32 a_ [(0, .pointer (some ⟨bp0, 0, none⟩)), (2, .pointer (some ⟨bx4, 0, none⟩)), (3, .pointer (some ⟨bx27, 0, none⟩)), (4, .int .i64 t35.1)] ∧ St [1] w oi w_ o57 ∧ Ft (Bx bx27 77 [.int .i64 t9.1, .int .i64 t18.1, .slice none 0 0, .string (⟨#[]⟩ : ByteArray)]) w_ o57 5 ∧ Ft (Bx bp0 170 [.string x58.s, .int .i64 x58.e]) w_ o57 1 ∧ Ft (Bx bx4 77 [.int .i64 0, .int .i64 0, .slice none 0 0, .string (⟨#[]⟩ : ByteArray)]) w_ o57 4 ∧ gram_read_j1 K t9 t18 t35 x58 = some r) ?_ ?_
  rotate_left
  · rintro a w59 ⟨o57, x58, hk, hs, f28, f40, f5, H⟩
    rw [gram_read_j1] at H
    refine x_mid (fun a_ w_ => ∃ o320 : Nat → Nat, ∃ x321 : T169, ∃ A322 : Option Addr, ∃ c323 : Nat, ∃ l324 : List Int, Kn 32 a_ [(0, .pointer (some ⟨bp0, 0, none⟩)), (2, .pointer (some ⟨bx4, 0, none⟩)), (3, .pointer (some ⟨bx27, 0, none⟩))] ∧ St [1] w oi w_ o320 ∧ Ft (Bx bx27 77 [.int .i64 t9.1, .int .i64 t18.1, .slice A322 (l324).length c323, .string (⟨#[]⟩ : ByteArray)]) w_ o320 26 ∧ Ft (Own (encInt .i64) 3 (.slice A322 (l324).length c323) l324) w_ o320 25 ∧ Ft (Bx bp0 170 [.string x321.s, .int .i64 x321.e]) w_ o320 1 ∧ Ft (Bx bx4 77 [.int .i64 0, .int .i64 0, .slice none 0 0, .string (⟨#[]⟩ : ByteArray)]) w_ o320 24 ∧ (l324).length ≤ c323 ∧ gram_read_j2 K t9 t18 x321 l324 = some r) ?_ ?_
    rotate_left
    · rintro a w327 ⟨o320, x321, A322, c323, l324, hk, hs, f28, f325, f40, f5, hc326, H⟩
      rw [gram_read_j2] at H
      refine x_seq ?_
      refine wpIn_region_lit ?_
      refine x_run tab hk (k := 1) (lv := []) (ks := [2, 3, 28]) (e' := [(2, .pointer (some ⟨bx4, 0, none⟩)), (3, .pointer (some ⟨bx27, 0, none⟩)), (28, .pointer (some ⟨bp0, 0, none⟩))]) rfl trivial fun a hk => ?_
      refine x_op hk rfl ?_
      obtain ⟨t331, hc332, H⟩ := bindS H
      refine op_call hk ent_95 (vs := [.pointer (some ⟨bp0, 0, none⟩)]) rfl (num_In_Text_calls K bp0 x321 _ o320 1 f40 (by decide)   _ hc332) ?_
      rintro _ w333 ⟨o334, rfl, st335, f336⟩
      replace f28 := f28.st st335 (by decide)
      replace f325 := f325.st st335 (by decide)
      replace f5 := f5.st st335 (by decide)
      replace hs := hs.locM st335 (by decide) hom
      have hk := hk.put 29 (.string t331.1) rfl
      refine x_run tab hk (k := 1) (lv := []) (ks := [2, 3, 29, 30]) (e' := [(2, .pointer (some ⟨bx4, 0, none⟩)), (3, .pointer (some ⟨bx27, 0, none⟩)), (29, .string t331.1), (30, .pointer (some ((⟨bx27, 0, none⟩ : Addr).add 3)))]) rfl trivial fun a hk => ?_
      refine x_op hk rfl ?_
      refine op_store tab hk (t := 9) (v := .string t331.1) (b := bx27) (k := 3) (cs' := [.int .i64 t9.1, .int .i64 t18.1, .slice A322 (l324).length c323, .string t331.1]) rfl rfl rfl rfl rfl rfl f28 rfl rfl fun w337 o338 st339 f28_ => ?_
      replace f325 := f325.st st339 (by decide)
      replace f336 := f336.st st339 (by decide)
      replace f5 := f5.st st339 (by decide)
      replace hs := hs.locM st339 (by decide) hom
      replace f28 := f28_
      refine wpListIn_nil ?_
      refine then_n ?_
      refine x_seq ?_
      refine wpIn_region_lit ?_
      refine x_run tab hk (k := 1) (lv := [.agg #[.int .i64 t9.1, .int .i64 t18.1, .slice A322 (l324).length c323, .string t331.1]]) (ks := [2, 31]) (e' := [(2, .pointer (some ⟨bx4, 0, none⟩)), (31, .agg #[.int .i64 t9.1, .int .i64 t18.1, .slice A322 (l324).length c323, .string t331.1])]) rfl ⟨(load_box tab rfl rfl f28.now (k := 0) rfl rfl), trivial⟩ fun a hk => ?_
      refine x_op hk rfl ?_
      refine op_store tab hk (t := 77) (v := .agg #[.int .i64 t9.1, .int .i64 t18.1, .slice A322 (l324).length c323, .string t331.1]) (b := bx4) (k := 0) (cs' := [.int .i64 t9.1, .int .i64 t18.1, .slice A322 (l324).length c323, .string t331.1]) rfl rfl rfl rfl rfl rfl f5 rfl rfl fun w340 o341 st342 f5_ => ?_
      replace f325 := f325.st st342 (by decide)
      replace f336 := f336.st st342 (by decide)
      replace hs := hs.locM st342 (by decide) hom
      replace f5 := f5_
      refine wpListIn_nil ?_
      refine then_n ?_
      refine wpIn_ret ?_
      obtain rfl := Option.some.inj H
      exact x_retG hk (rs := [.cell 2 77]) (vs := [.agg #[.int .i64 t9.1, .int .i64 t18.1, .slice A322 (l324).length c323, .string t331.1]]) rfl ⟨⟨_, rfl, load_box tab rfl rfl f5.now (k := 0) rfl rfl⟩, trivial⟩ ⟨cl w oi o [1] (fun l_ => if l_ = 1 then Lp0 else if l_ = 25 then R0 else 0) o341, A322, c323, rfl, hs.closeM hoz (by decide) (fun l_ => if l_ = 1 then Lp0 else if l_ = 25 then R0 else 0), hs.closeM_ft (o := o) (ρ := fun l_ => if l_ = 1 then Lp0 else if l_ = 25 then R0 else 0) f325 (lab_none hob rfl) rfl, hc326, hs.closeM_ft (o := o) (ρ := fun l_ => if l_ = 1 then Lp0 else if l_ = 25 then R0 else 0) f336 (lab_at hoa (i := 0) rfl) rfl⟩
    refine x_seq ?_
    refine wpIn_region_lit ?_
    refine x_run tab hk (k := 3) (lv := []) (ks := [0, 2, 3, 17, 18]) (e' := [(0, .pointer (some ⟨bp0, 0, none⟩)), (2, .pointer (some ⟨bx4, 0, none⟩)), (3, .pointer (some ⟨bx27, 0, none⟩)), (17, .int .i64 (mnI t35.1 64)), (18, .int .i64 0)]) rfl trivial fun a hk => ?_
    refine wpListIn_nil ?_
    refine then_n ?_
    refine wpIn_block ?_
    refine x_loop (fun j_ a_ w_ => ∃ o424 : Nat → Nat, ∃ x425 : T169, ∃ A426 : Option Addr, ∃ c427 : Nat, ∃ l428 : List Int, ∃ x431 : Int, Kn 32 a_ [(0, .pointer (some ⟨bp0, 0, none⟩)), (2, .pointer (some ⟨bx4, 0, none⟩)), (3, .pointer (some ⟨bx27, 0, none⟩)), (17, .int .i64 (mnI t35.1 64)), (18, .int .i64 x431)] ∧ St [1] w oi w_ o424 ∧ Ft (Bx bx27 77 [.int .i64 t9.1, .int .i64 t18.1, .slice A426 (l428).length c427, .string (⟨#[]⟩ : ByteArray)]) w_ o424 37 ∧ Ft (Bx bp0 170 [.string x425.s, .int .i64 x425.e]) w_ o424 1 ∧ Ft (Own (encInt .i64) 3 (.slice A426 (l428).length c427) l428) w_ o424 36 ∧ Ft (Bx bx4 77 [.int .i64 0, .int .i64 0, .slice none 0 0, .string (⟨#[]⟩ : ByteArray)]) w_ o424 35 ∧ (l428).length ≤ c427 ∧ gram_read_l3 K t9 t18 t35 j_ x425 l428 x431 = some r) (k := K) ⟨(fun b_ => (fun l_ => if l_ = 4 then 35 else if l_ = 5 then 37 else l_) (o57 b_)), x58, none, 0, ([] : List Int), 0, (by exact Kn.pick (ks := [0, 2, 3, 17, 18]) hk rfl), (hs.relabM hob (fun l_ => if l_ = 4 then 35 else if l_ = 5 then 37 else l_) (by decide)), (f28.relab (fun l_ => if l_ = 4 then 35 else if l_ = 5 then 37 else l_) rfl), (f40.relab (fun l_ => if l_ = 4 then 35 else if l_ = 5 then 37 else l_) rfl), (Ft.of_all (fun _ => Own.nil _ _ _) _ _ _), (f5.relab (fun l_ => if l_ = 4 then 35 else if l_ = 5 then 37 else l_) rfl), (by simp), H⟩ (by rintro _ _ ⟨_, _, _, _, _, _, _, _, _, _, _, _, _, H_⟩; exact absurd (show (none : Option (T76 × T169)) = some r from H_) (by simp)) ?_
    rintro k511 a w510 ⟨o424, x425, A426, c427, l428, x431, hk, hs, f28, f40, f429, f5, hc430, H⟩
    rw [gram_read_l3] at H
    obtain ⟨lp512, hlp513⟩ : ∃ lp_, lp_ = gram_read_l3 K t9 t18 t35 k511 := ⟨_, rfl⟩
    rw [← hlp513] at H
    refine x_seq ?_
    refine wpIn_region_lit ?_
    refine x_run tab hk (k := 1) (lv := []) (ks := [0, 2, 3, 17, 18, 19]) (e' := [(0, .pointer (some ⟨bp0, 0, none⟩)), (2, .pointer (some ⟨bx4, 0, none⟩)), (3, .pointer (some ⟨bx27, 0, none⟩)), (17, .int .i64 (mnI t35.1 64)), (18, .int .i64 x431), (19, .bool (decide (x431 < (mnI t35.1 64))))]) rfl trivial fun a hk => ?_
    refine wpListIn_nil ?_
    refine then_n ?_
    refine x_seq ?_
    cases b514 : (decide (x431 < (mnI t35.1 64)))
    · rw [b514] at hk H
      replace H := bifF H
      refine x_if hk (b := false) rfl ?_
      refine (show Code.wpIn _ _ _ _ _ _ _ from ?_)
      refine wpIn_exit ?_
      refine then_x ?_
      refine then_x ?_
      refine blk_x ?_
      refine then_n ?_
      exact ⟨(fun b_ => (fun l_ => if l_ = 35 then 24 else if l_ = 36 then 25 else if l_ = 37 then 26 else l_) (o424 b_)), x425, A426, c427, l428, (by exact Kn.pick (ks := [0, 2, 3]) hk rfl), (hs.relabM hob (fun l_ => if l_ = 35 then 24 else if l_ = 36 then 25 else if l_ = 37 then 26 else l_) (by decide)), (f28.relab (fun l_ => if l_ = 35 then 24 else if l_ = 36 then 25 else if l_ = 37 then 26 else l_) rfl), (f429.relab (fun l_ => if l_ = 35 then 24 else if l_ = 36 then 25 else if l_ = 37 then 26 else l_) rfl), (f40.relab (fun l_ => if l_ = 35 then 24 else if l_ = 36 then 25 else if l_ = 37 then 26 else l_) rfl), (f5.relab (fun l_ => if l_ = 35 then 24 else if l_ = 36 then 25 else if l_ = 37 then 26 else l_) rfl), hc430, H⟩
    · rw [b514] at hk H
      replace H := bifT H
      refine x_if hk (b := true) rfl ?_
      refine (show Code.wpIn _ _ _ _ _ _ _ from ?_)
      refine wpIn_skip ?_
      refine then_n ?_
      refine x_seq ?_
      refine wpIn_block ?_
      refine xd_begin (o := o424) (fun W_ => (Bx bx27 77 [.int .i64 t9.1, .int .i64 t18.1, .slice A426 (l428).length c427, .string (⟨#[]⟩ : ByteArray)]) W_ ∧ True) mixed rfl rfl fun w564 st565 => ?_
      replace f28 := f28.st st565 (by decide)
      replace f40 := f40.st st565 (by decide)
      replace f429 := f429.st st565 (by decide)
      replace f5 := f5.st st565 (by decide)
      replace hs := hs.locM st565 (by decide) hom
      refine xd_take tab hk (k := 5) (is := [0, 1, 2]) (ls' := #[true, true, true, false, false, false, false, false]) (lv := [.slice A426 (l428).length c427]) (ks := [0, 2, 3, 17, 18, 21, 22]) (e' := [(0, .pointer (some ⟨bp0, 0, none⟩)), (2, .pointer (some ⟨bx4, 0, none⟩)), (3, .pointer (some ⟨bx27, 0, none⟩)), (17, .int .i64 (mnI t35.1 64)), (18, .int .i64 x431), (21, .slice A426 (l428).length c427), (22, .pointer (some ⟨bp0, 0, none⟩))]) (by kernel_rfl) rfl rfl (by kernel_rfl) (np_blk (np_then (np_then (np_blk (np_then np_body))))) ⟨f28.now, trivial⟩ (fun W_ hS => ⟨(load1 tab rfl ((Bx.cell hS.1 2).trans rfl)), trivial⟩) fun a hk => ?_
      refine xd_op hk (i := 3) (by kernel_rfl) rfl rfl ?_
      obtain ⟨t569, hc570, H⟩ := bindS H
      refine op_call hk ent_93 (vs := [.pointer (some ⟨bp0, 0, none⟩)]) rfl (num_In_Num_calls K bp0 x425 _ o424 1 f40 (by decide)   _ hc570) ?_
      rintro _ w571 ⟨o572, rfl, st573, f574⟩
      replace f28 := f28.st st573 (by decide)
      replace f429 := f429.st st573 (by decide)
      replace f5 := f5.st st573 (by decide)
      replace hs := hs.locM st573 (by decide) hom
      have hk := hk.put 23 (.int .i64 t569.1) rfl
      refine ⟨.inr ⟨f28.now, trivial⟩, ?_⟩
      refine xd_op hk (i := 4) (by kernel_rfl) rfl rfl ?_
      refine op_slice (o := o572) tab hk (vs := [.int .i64 t569.1]) (cs := [.int .i64 t569.1]) rfl rfl rfl rfl rfl rfl rfl rfl rfl 43 fun bx578 w575 o576 st577 f579 => ?_
      replace f28 := f28.st st577 (by decide)
      replace f429 := f429.st st577 (by decide)
      replace f5 := f5.st st577 (by decide)
      replace f574 := f574.st st577 (by decide)
      replace hs := hs.locM st577 (by decide) hom
      have f580 : Ft (Own (encInt .i64) 3 (.slice (some ⟨bx578, 0, none⟩) (([t569.1] : List Int)).length 1) ([t569.1] : List Int)) w575 o576 43 := f579.imp fun _ h_ => Own.of_box h_ rfl (by simp)
      have hk := hk.put 24 (.slice (some ⟨bx578, 0, none⟩) (([t569.1] : List Int)).length 1) rfl
      refine ⟨.inr ⟨f28.now, trivial⟩, ?_⟩
      refine xd_op hk (i := 5) (by kernel_rfl) rfl rfl ?_
      obtain ⟨q584, H⟩ := ifS H
      refine op_append (o := o576) (E := (encInt .i64)) (xs := l428) (ys := ([t569.1] : List Int)) tab hk rfl rfl rfl rfl rfl rfl rfl f429 (Own.rd f580.now) q584 fun A585 c586 w581 o582 st583 f587 hc588 => ?_
      replace f28 := f28.st st583 (by decide)
      replace f5 := f5.st st583 (by decide)
      replace f574 := f574.st st583 (by decide)
      replace f580 := f580.st st583 (by decide)
      replace hs := hs.locM st583 (by decide) hom
      have hk := hk.put 25 (.slice A585 ((l428 ++ ([t569.1] : List Int))).length c586) rfl
      refine ⟨.inr ⟨f28.now, trivial⟩, ?_⟩
      refine xd_take tab hk (k := 1) (is := [6]) (ls' := #[true, true, true, true, true, true, true, false]) (lv := []) (ks := [0, 2, 3, 17, 18, 25, 26]) (e' := [(0, .pointer (some ⟨bp0, 0, none⟩)), (2, .pointer (some ⟨bx4, 0, none⟩)), (3, .pointer (some ⟨bx27, 0, none⟩)), (17, .int .i64 (mnI t35.1 64)), (18, .int .i64 x431), (25, .slice A585 ((l428 ++ ([t569.1] : List Int))).length c586), (26, .pointer (some ((⟨bx27, 0, none⟩ : Addr).add 2)))]) (by kernel_rfl) rfl rfl (by kernel_rfl) (np_blk (np_then (np_then (np_blk (np_then np_body))))) ⟨f28.now, trivial⟩ (fun W_ hS => trivial) fun a hk => ?_
      refine xd_op hk (i := 7) (by kernel_rfl) rfl rfl ?_
      refine op_store tab hk (t := 40) (v := .slice A585 ((l428 ++ ([t569.1] : List Int))).length c586) (b := bx27) (k := 2) (cs' := [.int .i64 t9.1, .int .i64 t18.1, .slice A585 ((l428 ++ ([t569.1] : List Int))).length c586, .string (⟨#[]⟩ : ByteArray)]) rfl rfl rfl rfl rfl rfl f28 rfl rfl fun w589 o590 st591 f28_ => ?_
      replace f5 := f5.st st591 (by decide)
      replace f574 := f574.st st591 (by decide)
      replace f580 := f580.st st591 (by decide)
      replace f587 := f587.st st591 (by decide)
      replace hs := hs.locM st591 (by decide) hom
      replace f28 := f28_
      refine ⟨.inl (by kernel_rfl), ?_⟩
      refine xd_done (by kernel_rfl) ?_
      refine blk_n ?_
      refine then_n ?_
      refine wpIn_region_lit ?_
      refine x_run tab hk (k := 2) (lv := []) (ks := [0, 2, 3, 17, 18]) (e' := [(0, .pointer (some ⟨bp0, 0, none⟩)), (2, .pointer (some ⟨bx4, 0, none⟩)), (3, .pointer (some ⟨bx27, 0, none⟩)), (17, .int .i64 (mnI t35.1 64)), (18, .int .i64 (IntKind.wrap .i64 (x431 + 1)))]) rfl trivial fun a hk => ?_
      refine wpListIn_nil ?_
      refine then_n ?_
      exact ⟨k511, Nat.le_refl _, o590, t569.2, A585, c586, (l428 ++ ([t569.1] : List Int)), (IntKind.wrap .i64 (x431 + 1)), (by exact Kn.pick (ks := [0, 2, 3, 17, 18]) hk rfl), hs, f28, f574, f587, f5, hc588, (hlp513 ▸ H)⟩
  refine x_seq ?_
  refine wpIn_region_lit ?_
  refine x_run tab hk (k := 2) (lv := []) (ks := [0, 2, 3, 4, 13]) (e' := [(0, .pointer (some ⟨bp0, 0, none⟩)), (2, .pointer (some ⟨bx4, 0, none⟩)), (3, .pointer (some ⟨bx27, 0, none⟩)), (4, .int .i64 t35.1), (13, .bool (decide (t35.1 > (64 : Int))))]) rfl trivial fun a hk => ?_
  refine wpListIn_nil ?_
  refine then_n ?_
  cases b592 : (decide (t35.1 > (64 : Int)))
  · rw [b592] at hk H
    replace H := bifF H
    refine x_if hk (b := false) rfl ?_
    refine (show Code.wpIn _ _ _ _ _ _ _ from ?_)
    refine wpIn_skip ?_
    refine then_n ?_
    exact ⟨(fun b_ => (fun l_ => if l_ = 2 then 4 else if l_ = 3 then 5 else l_) (o38 b_)), t35.2, (by exact Kn.pick (ks := [0, 2, 3, 4]) hk rfl), (hs.relabM hob (fun l_ => if l_ = 2 then 4 else if l_ = 3 then 5 else l_) (by decide)), (f28.relab (fun l_ => if l_ = 2 then 4 else if l_ = 3 then 5 else l_) rfl), (f40.relab (fun l_ => if l_ = 2 then 4 else if l_ = 3 then 5 else l_) rfl), (f5.relab (fun l_ => if l_ = 2 then 4 else if l_ = 3 then 5 else l_) rfl), H⟩
  · rw [b592] at hk H
    replace H := bifT H
    refine x_if hk (b := true) rfl ?_
    refine (show Code.wpIn _ _ _ _ _ _ _ from ?_)
    refine wpIn_region_lit ?_
    refine x_run tab hk (k := 1) (lv := []) (ks := [0, 2, 3, 4, 14]) (e' := [(0, .pointer (some ⟨bp0, 0, none⟩)), (2, .pointer (some ⟨bx4, 0, none⟩)), (3, .pointer (some ⟨bx27, 0, none⟩)), (4, .int .i64 t35.1), (14, .pointer (some ⟨bp0, 0, none⟩))]) rfl trivial fun a hk => ?_
    refine x_op hk rfl ?_
    obtain ⟨t596, hc597, H⟩ := bindS H
    refine op_call hk ent_94 (vs := [.pointer (some ⟨bp0, 0, none⟩), .int .i64 1]) rfl (num_In_Fail_calls bp0 t35.2 1 _ o38 1 f40 (by decide)   _ hc597) ?_
    rintro _ w598 ⟨o599, rfl, st600, f601⟩
    replace f28 := f28.st st600 (by decide)
    replace f5 := f5.st st600 (by decide)
    replace hs := hs.locM st600 (by decide) hom
    have hk := hk.put 15 (.tuple #[]) rfl
    refine wpListIn_nil ?_
    refine then_n ?_
    exact ⟨(fun b_ => (fun l_ => if l_ = 2 then 4 else if l_ = 3 then 5 else l_) (o599 b_)), t596, (by exact Kn.pick (ks := [0, 2, 3, 4]) hk rfl), (hs.relabM hob (fun l_ => if l_ = 2 then 4 else if l_ = 3 then 5 else l_) (by decide)), (f28.relab (fun l_ => if l_ = 2 then 4 else if l_ = 3 then 5 else l_) rfl), (f601.relab (fun l_ => if l_ = 2 then 4 else if l_ = 3 then 5 else l_) rfl), (f5.relab (fun l_ => if l_ = 2 then 4 else if l_ = 3 then 5 else l_) rfl), H⟩

/-! (*tidewrack/num.In).End -/
theorem num_In_End_calls (bp0 : Nat) (p0 : T169) (w : World) (o : Nat → Nat) (Lp0 : Nat) (hp0 : Ft (Bx bp0 170 [.string p0.s, .int .i64 p0.e]) w o Lp0)  (r : Int) (H : num_In_End p0 = some r) :
    Calls Tryd.prog 64 #[.pointer (some ⟨bp0, 0, none⟩)] w (Ret fun v_ w' => ∃ o' : Nat → Nat, v_ = .int .i64 r ∧ St [] w o w' o') := by
  refine x_enter (vs := [.pointer (some ⟨bp0, 0, none⟩)]) Tryd.func64 rfl rfl rfl fun a hk => ?_
  obtain ⟨o0, hs, h0⟩ := St.start w o
  have f900019 := h0 _ _ hp0
  clear h0
  rw [num_In_End] at H
  refine x_seq ?_
  refine wpIn_region_lit ?_
  refine x_run tab hk (k := 1) (lv := []) (ks := [0]) (e' := [(0, .pointer (some ⟨bp0, 0, none⟩))]) rfl trivial fun a hk => ?_
  refine wpListIn_nil ?_
  refine then_n ?_
  refine x_seq ?_
  refine x_seq ?_
  refine wpIn_region_lit ?_
  refine x_run tab hk (k := 5) (lv := [.string p0.s]) (ks := [0, 7]) (e' := [(0, .pointer (some ⟨bp0, 0, none⟩)), (7, .bool (!(ByteArray.toList p0.s == ByteArray.toList (⟨#[]⟩ : ByteArray))))]) rfl ⟨(load1 tab rfl ((Bx.cell f900019.now 0).trans rfl)), trivial⟩ fun a hk => ?_
  refine wpListIn_nil ?_
  refine then_n ?_
  cases b1 : (!(ByteArray.toList p0.s == ByteArray.toList (⟨#[]⟩ : ByteArray)))
  · rw [b1] at hk H
    replace H := bifF H
    refine x_if hk (b := false) rfl ?_
    refine (show Code.wpIn _ _ _ _ _ _ _ from ?_)
    refine wpIn_skip ?_
    refine then_n ?_
    refine x_seq ?_
    refine wpIn_region_lit ?_
    refine x_run tab hk (k := 5) (lv := [.int .i64 p0.e]) (ks := [2]) (e' := [(2, .int .i64 p0.e)]) rfl ⟨(load1 tab rfl ((Bx.cell f900019.now 1).trans rfl)), trivial⟩ fun a hk => ?_
    refine wpListIn_nil ?_
    refine then_n ?_
    refine wpIn_ret ?_
    obtain rfl := Option.some.inj H
    exact x_retG hk (rs := [.tmp 2]) (vs := [.int .i64 p0.e]) rfl ⟨rfl, trivial⟩ ⟨fun b_ => if b_ < w.heap.size then o b_ else (fun _ => 0) (o0 b_), rfl, hs.close0 o (fun _ => 0)⟩
  · rw [b1] at hk H
    replace H := bifT H
    refine x_if hk (b := true) rfl ?_
    refine (show Code.wpIn _ _ _ _ _ _ _ from ?_)
    refine x_seq ?_
    refine wpIn_region_lit ?_
    refine x_run tab hk (k := 1) (lv := []) (ks := [2]) (e' := [(2, .int .i64 1)]) rfl trivial fun a hk => ?_
    refine wpListIn_nil ?_
    refine then_n ?_
    refine wpIn_ret ?_
    refine then_r ?_
    obtain rfl := Option.some.inj H
    exact x_retG hk (rs := [.tmp 2]) (vs := [.int .i64 1]) rfl ⟨rfl, trivial⟩ ⟨fun b_ => if b_ < w.heap.size then o b_ else (fun _ => 0) (o0 b_), rfl, hs.close0 o (fun _ => 0)⟩

/-! tidewrack/gram.within -/
theorem gram_within_calls (p0 : Int) (p1 : Int) (p2 : Int) (w : World) (o : Nat → Nat)   (r : Bool) (H : gram_within p0 p1 p2 = some r) :
    Calls Tryd.prog 67 #[.int .i64 p0, .int .i64 p1, .int .i64 p2] w (Ret fun v_ w' => ∃ o' : Nat → Nat, v_ = .bool r ∧ St [] w o w' o') := by
  refine x_enter (vs := [.int .i64 p0, .int .i64 p1, .int .i64 p2]) Tryd.func67 rfl rfl rfl fun a hk => ?_
  obtain ⟨o0, hs, h0⟩ := St.start w o
  clear h0
  rw [gram_within] at H
  refine x_seq ?_
  refine wpIn_region_lit ?_
  refine x_run tab hk (k := 1) (lv := []) (ks := [0, 1, 2]) (e' := [(0, .int .i64 p0), (1, .int .i64 p1), (2, .int .i64 p2)]) rfl trivial fun a hk => ?_
  refine wpListIn_nil ?_
  refine then_n ?_
  refine x_seq ?_
  refine wpIn_region_lit ?_
  refine x_run tab hk (k := 4) (lv := []) (ks := [0, 2, 10]) (e' := [(0, .int .i64 p0), (2, .int .i64 p2), (10, .bool (decide (p0 ≥ p1)))]) rfl trivial fun a hk => ?_
  cases b1 : (decide (p0 ≥ p1))
  · rw [b1] at hk H
    replace H := bifF H
    refine x_run tab hk (k := 5) (lv := []) (ks := [6]) (e' := [(6, .bool false)]) rfl trivial fun a hk => ?_
    refine wpListIn_nil ?_
    refine then_n ?_
    refine wpIn_ret ?_
    obtain rfl := Option.some.inj H
    exact x_retG hk (rs := [.tmp 6]) (vs := [.bool false]) rfl ⟨rfl, trivial⟩ ⟨fun b_ => if b_ < w.heap.size then o b_ else (fun _ => 0) (o0 b_), rfl, hs.close0 o (fun _ => 0)⟩
  · rw [b1] at hk H
    replace H := bifT H
    refine x_run tab hk (k := 5) (lv := []) (ks := [6]) (e' := [(6, .bool (decide (p0 ≤ p2)))]) rfl trivial fun a hk => ?_
    refine wpListIn_nil ?_
    refine then_n ?_
    refine wpIn_ret ?_
    obtain rfl := Option.some.inj H
    exact x_retG hk (rs := [.tmp 6]) (vs := [.bool (decide (p0 ≤ p2))]) rfl ⟨rfl, trivial⟩ ⟨fun b_ => if b_ < w.heap.size then o b_ else (fun _ => 0) (o0 b_), rfl, hs.close0 o (fun _ => 0)⟩

/-! (tidewrack/gram.Gram).right -/
theorem gram_Gram_right_calls (K : Nat) (Ap0_0 : Option Addr) (cp0_0 : Nat) (p0 : T76) (w : World) (o : Nat → Nat) (Lp0_0 : Nat) (hp0_0 : Ft (RdC (encInt .i64) Ap0_0 p0.Nums) w o Lp0_0) (hcp0_0 : (p0.Nums).length ≤ cp0_0)  (r : Bool) (H : gram_Gram_right K p0 = some r) :
    Calls Tryd.prog 96 #[.agg #[.int .i64 p0.Epoch, .int .i64 p0.Kind, .slice Ap0_0 (p0.Nums).length cp0_0, .string p0.Data]] w (Ret fun v_ w' => ∃ o' : Nat → Nat, v_ = .bool r ∧ St [] w o w' o') := by
  refine x_enter (vs := [.agg #[.int .i64 p0.Epoch, .int .i64 p0.Kind, .slice Ap0_0 (p0.Nums).length cp0_0, .string p0.Data]]) Tryd.func96 rfl rfl rfl fun a hk => ?_
  obtain ⟨o0, hs, h0⟩ := St.start w o
  have f900000 := h0 _ _ hp0_0
  clear h0
  rw [gram_Gram_right] at H
  refine x_seq ?_
  refine wpIn_region_lit ?_
  refine x_op hk rfl ?_
  refine op_box (o := o0) (t := 77) (v := .agg #[.int .i64 p0.Epoch, .int .i64 p0.Kind, .slice Ap0_0 (p0.Nums).length cp0_0, .string p0.Data]) (cs := [.int .i64 p0.Epoch, .int .i64 p0.Kind, .slice Ap0_0 (p0.Nums).length cp0_0, .string p0.Data]) hk rfl rfl 1 fun bx4 w1 o2 st3 f5 => ?_
  replace f900000 := f900000.st st3 (by decide)
  replace hs := hs.loc0 st3 (by decide)
  have hk := hk.put 1 (.pointer (some ⟨bx4, 0, none⟩)) rfl
  refine x_run tab hk (k := 1) (lv := []) (ks := [1]) (e' := [(1, .pointer (some ⟨bx4, 0, none⟩))]) rfl trivial fun a hk => ?_
  refine wpListIn_nil ?_
  refine then_n ?_
  refine x_mid (fun a_ w_ => ∃ o28 : Nat → Nat, Kn 32 a_ [(1, .pointer (some ⟨bx4, 0, none⟩))] ∧ St [] w (fun _ => 0) w_ o28 ∧ Ft (Bx bx4 77 [.int .i64 p0.Epoch, .int .i64 p0.Kind, .slice Ap0_0 (p0.Nums).length cp0_0, .string p0.Data]) w_ o28 2 ∧ Ft (RdC (encInt .i64) Ap0_0 p0.Nums) w_ o28 0 ∧ gram_Gram_right_j1 K p0 = some r) ?_ ?_
  rotate_left
  · rintro a w29 ⟨o28, hk, hs, f5, f900000, H⟩
    rw [gram_Gram_right_j1] at H
    refine x_mid (fun a_ w_ => ∃ o78 : Nat → Nat, Kn 32 a_ [] ∧ St [] w (fun _ => 0) w_ o78 ∧ gram_Gram_right_j2 = some r) ?_ ?_
    rotate_left
    · rintro a w79 ⟨o78, hk, hs, H⟩
      rw [gram_Gram_right_j2] at H
      refine x_seq ?_
      refine wpIn_region_lit ?_
      refine x_run tab hk (k := 1) (lv := []) (ks := [2]) (e' := [(2, .bool true)]) rfl trivial fun a hk => ?_
      refine wpListIn_nil ?_
      refine then_n ?_
      refine wpIn_ret ?_
      obtain rfl := Option.some.inj H
      exact x_retG hk (rs := [.tmp 2]) (vs := [.bool true]) rfl ⟨rfl, trivial⟩ ⟨fun b_ => if b_ < w.heap.size then o b_ else (fun _ => 0) (o78 b_), rfl, hs.close0 o (fun _ => 0)⟩
    refine x_seq ?_
    refine wpIn_region_lit ?_
    refine x_run tab hk (k := 4) (lv := [.slice Ap0_0 (p0.Nums).length cp0_0]) (ks := [22, 23, 24]) (e' := [(22, .slice Ap0_0 (p0.Nums).length cp0_0), (23, .int .i64 ((p0.Nums).length : Int)), (24, .int .i64 0)]) rfl ⟨(load1 tab rfl ((Bx.cell f5.now 2).trans rfl)), trivial⟩ fun a hk => ?_
    refine wpListIn_nil ?_
    refine then_n ?_
    refine wpIn_block ?_
    refine x_loop (fun j_ a_ w_ => ∃ o95 : Nat → Nat, ∃ x96 : Int, Kn 32 a_ [(22, .slice Ap0_0 (p0.Nums).length cp0_0), (23, .int .i64 ((p0.Nums).length : Int)), (24, .int .i64 x96)] ∧ St [] w (fun _ => 0) w_ o95 ∧ Ft (RdC (encInt .i64) Ap0_0 p0.Nums) w_ o95 0 ∧ gram_Gram_right_l3 p0 j_ x96 = some r) (k := K) ⟨o28, 0, (by exact Kn.pick (ks := [22, 23, 24]) hk rfl), hs, f900000, H⟩ (by rintro _ _ ⟨_, _, _, _, _, H_⟩; exact absurd (show (none : Option Bool) = some r from H_) (by simp)) ?_
    rintro k110 a w109 ⟨o95, x96, hk, hs, f900000, H⟩
    rw [gram_Gram_right_l3] at H
    obtain ⟨lp111, hlp112⟩ : ∃ lp_, lp_ = gram_Gram_right_l3 p0 k110 := ⟨_, rfl⟩
    rw [← hlp112] at H
    refine x_seq ?_
    refine wpIn_region_lit ?_
    refine x_run tab hk (k := 1) (lv := []) (ks := [22, 23, 24, 25]) (e' := [(22, .slice Ap0_0 (p0.Nums).length cp0_0), (23, .int .i64 ((p0.Nums).length : Int)), (24, .int .i64 x96), (25, .bool (decide (x96 < ((p0.Nums).length : Int))))]) rfl trivial fun a hk => ?_
    refine wpListIn_nil ?_
    refine then_n ?_
    refine x_seq ?_
    cases b113 : (decide (x96 < ((p0.Nums).length : Int)))
    · rw [b113] at hk H
      replace H := bifF H
      refine x_if hk (b := false) rfl ?_
      refine (show Code.wpIn _ _ _ _ _ _ _ from ?_)
      refine wpIn_exit ?_
      refine then_x ?_
      refine then_x ?_
      refine blk_x ?_
      refine then_n ?_
      exact ⟨o95, (by exact Kn.pick (ks := []) hk rfl), hs, H⟩
    · rw [b113] at hk H
      replace H := bifT H
      refine x_if hk (b := true) rfl ?_
      refine (show Code.wpIn _ _ _ _ _ _ _ from ?_)
      refine wpIn_skip ?_
      refine then_n ?_
      refine x_seq ?_
      refine wpIn_block ?_
      refine x_seq ?_
      refine wpIn_region_lit ?_
      obtain ⟨q114, H⟩ := ifS H
      obtain ⟨ad115, hAad115⟩ := RdC.addr f900000.now q114
      have hk_C := hk
      have f900000_C := f900000
      subst hAad115
      have hk := hk_C
      clear hk_C
      have f900000 := f900000_C
      clear f900000_C
      refine x_run tab hk (k := 3) (lv := [.int .i64 (rdD 0 p0.Nums x96)]) (ks := [4, 22, 23, 24]) (e' := [(4, .int .i64 (rdD 0 p0.Nums x96)), (22, .slice (some ad115) (p0.Nums).length cp0_0), (23, .int .i64 ((p0.Nums).length : Int)), (24, .int .i64 x96)]) rfl ⟨q114, (load1 tab rfl (RdC.at0 (E := (encInt .i64)) (d := 0) (i := x96) f900000.now q114 rfl)), trivial⟩ fun a hk => ?_
      refine wpListIn_nil ?_
      refine then_n ?_
      refine x_seq ?_
      refine wpIn_region_lit ?_
      refine x_run tab hk (k := 1) (lv := []) (ks := [22, 23, 24, 28]) (e' := [(22, .slice (some ad115) (p0.Nums).length cp0_0), (23, .int .i64 ((p0.Nums).length : Int)), (24, .int .i64 x96), (28, .int .i64 (rdD 0 p0.Nums x96))]) rfl trivial fun a hk => ?_
      refine x_op hk rfl ?_
      obtain ⟨t119, hc120, H⟩ := bindS H
      refine op_call hk ent_67 (vs := [.int .i64 (rdD 0 p0.Nums x96), .int .i64 0, .int .i64 4611686018427387904]) rfl (gram_within_calls (rdD 0 p0.Nums x96) 0 4611686018427387904 _ o95    _ hc120) ?_
      rintro _ w121 ⟨o122, rfl, st123⟩
      replace f900000 := f900000.st st123 (by decide)
      replace hs := hs.loc0 st123 (by decide)
      have hk := hk.put 29 (.bool t119) rfl
      refine x_run tab hk (k := 1) (lv := []) (ks := [22, 23, 24, 30]) (e' := [(22, .slice (some ad115) (p0.Nums).length cp0_0), (23, .int .i64 ((p0.Nums).length : Int)), (24, .int .i64 x96), (30, .bool (!t119))]) rfl trivial fun a hk => ?_
      refine wpListIn_nil ?_
      refine then_n ?_
      cases b124 : (!t119)
      · rw [b124] at hk H
        replace H := bifF H
        refine x_if hk (b := false) rfl ?_
        refine (show Code.wpIn _ _ _ _ _ _ _ from ?_)
        refine wpIn_skip ?_
        refine blk_n ?_
        refine then_n ?_
        refine wpIn_region_lit ?_
        refine x_run tab hk (k := 2) (lv := []) (ks := [22, 23, 24]) (e' := [(22, .slice (some ad115) (p0.Nums).length cp0_0), (23, .int .i64 ((p0.Nums).length : Int)), (24, .int .i64 (IntKind.wrap .i64 (x96 + 1)))]) rfl trivial fun a hk => ?_
        refine wpListIn_nil ?_
        refine then_n ?_
        exact ⟨k110, Nat.le_refl _, o122, (IntKind.wrap .i64 (x96 + 1)), (by exact Kn.pick (ks := [22, 23, 24]) hk rfl), hs, f900000, (hlp112 ▸ H)⟩
      · rw [b124] at hk H
        replace H := bifT H
        refine x_if hk (b := true) rfl ?_
        refine (show Code.wpIn _ _ _ _ _ _ _ from ?_)
        refine x_seq ?_
        refine wpIn_region_lit ?_
        refine x_run tab hk (k := 1) (lv := []) (ks := [2]) (e' := [(2, .bool false)]) rfl trivial fun a hk => ?_
        refine wpListIn_nil ?_
        refine then_n ?_
        refine wpIn_ret ?_
        refine blk_r ?_
        refine then_r ?_
        refine then_r ?_
        refine blk_r ?_
        refine then_r ?_
        obtain rfl := Option.some.inj H
        exact x_retG hk (rs := [.tmp 2]) (vs := [.bool false]) rfl ⟨rfl, trivial⟩ ⟨fun b_ => if b_ < w.heap.size then o b_ else (fun _ => 0) (o122 b_), rfl, hs.close0 o (fun _ => 0)⟩
  refine x_seq ?_
  refine wpIn_region_lit ?_
  refine x_run tab hk (k := 2) (lv := [.int .i64 p0.Epoch]) (ks := [1, 6]) (e' := [(1, .pointer (some ⟨bx4, 0, none⟩)), (6, .int .i64 p0.Epoch)]) rfl ⟨(load1 tab rfl ((Bx.cell f5.now 0).trans rfl)), trivial⟩ fun a hk => ?_
  refine x_op hk rfl ?_
  obtain ⟨t128, hc129, H⟩ := bindS H
  refine op_call hk ent_67 (vs := [.int .i64 p0.Epoch, .int .i64 1, .int .i64 4294967296]) rfl (gram_within_calls p0.Epoch 1 4294967296 _ o2    _ hc129) ?_
  rintro _ w130 ⟨o131, rfl, st132⟩
  replace f5 := f5.st st132 (by decide)
  replace f900000 := f900000.st st132 (by decide)
  replace hs := hs.loc0 st132 (by decide)
  have hk := hk.put 7 (.bool t128) rfl
  refine x_run tab hk (k := 2) (lv := []) (ks := [1, 9]) (e' := [(1, .pointer (some ⟨bx4, 0, none⟩)), (9, .bool (!t128))]) rfl trivial fun a hk => ?_
  cases b133 : (!t128)
  · rw [b133] at hk H
    replace H := bifF H
    refine x_run tab hk (k := 2) (lv := [.int .i64 p0.Kind]) (ks := [1, 9, 11]) (e' := [(1, .pointer (some ⟨bx4, 0, none⟩)), (9, .bool false), (11, .int .i64 p0.Kind)]) rfl ⟨(load1 tab rfl ((Bx.cell f5.now 1).trans rfl)), trivial⟩ fun a hk => ?_
    refine x_op hk rfl ?_
    obtain ⟨t137, hc138, H⟩ := bindS H
    refine op_call hk ent_67 (vs := [.int .i64 p0.Kind, .int .i64 1, .int .i64 4]) rfl (gram_within_calls p0.Kind 1 4 _ o131    _ hc138) ?_
    rintro _ w139 ⟨o140, rfl, st141⟩
    replace f5 := f5.st st141 (by decide)
    replace f900000 := f900000.st st141 (by decide)
    replace hs := hs.loc0 st141 (by decide)
    have hk := hk.put 12 (.bool t137) rfl
    refine x_run tab hk (k := 3) (lv := []) (ks := [1, 15]) (e' := [(1, .pointer (some ⟨bx4, 0, none⟩)), (15, .bool (!t137))]) rfl trivial fun a hk => ?_
    cases b142 : (!t137)
    · rw [b142] at hk H
      replace H := bifF H
      refine x_run tab hk (k := 5) (lv := [.slice Ap0_0 (p0.Nums).length cp0_0]) (ks := [1, 20]) (e' := [(1, .pointer (some ⟨bx4, 0, none⟩)), (20, .bool (decide (((p0.Nums).length : Int) > (64 : Int))))]) rfl ⟨(load1 tab rfl ((Bx.cell f5.now 2).trans rfl)), trivial⟩ fun a hk => ?_
      refine wpListIn_nil ?_
      refine then_n ?_
      cases b143 : (decide (((p0.Nums).length : Int) > (64 : Int)))
      · rw [b143] at hk H
        replace H := bifF H
        refine x_if hk (b := false) rfl ?_
        refine (show Code.wpIn _ _ _ _ _ _ _ from ?_)
        refine wpIn_skip ?_
        refine then_n ?_
        exact ⟨(fun b_ => (fun l_ => if l_ = 1 then 2 else l_) (o140 b_)), (by exact Kn.pick (ks := [1]) hk rfl), (hs.relab0 (fun l_ => if l_ = 1 then 2 else l_) rfl), (f5.relab (fun l_ => if l_ = 1 then 2 else l_) rfl), (f900000.relab (fun l_ => if l_ = 1 then 2 else l_) rfl), H⟩
      · rw [b143] at hk H
        replace H := bifT H
        refine x_if hk (b := true) rfl ?_
        refine (show Code.wpIn _ _ _ _ _ _ _ from ?_)
        refine x_seq ?_
        refine wpIn_region_lit ?_
        refine x_run tab hk (k := 1) (lv := []) (ks := [2]) (e' := [(2, .bool false)]) rfl trivial fun a hk => ?_
        refine wpListIn_nil ?_
        refine then_n ?_
        refine wpIn_ret ?_
        refine then_r ?_
        obtain rfl := Option.some.inj H
        exact x_retG hk (rs := [.tmp 2]) (vs := [.bool false]) rfl ⟨rfl, trivial⟩ ⟨fun b_ => if b_ < w.heap.size then o b_ else (fun _ => 0) (o140 b_), rfl, hs.close0 o (fun _ => 0)⟩
    · rw [b142] at hk H
      replace H := bifT H
      refine x_run tab hk (k := 5) (lv := []) (ks := [1, 20]) (e' := [(1, .pointer (some ⟨bx4, 0, none⟩)), (20, .bool true)]) rfl trivial fun a hk => ?_
      refine wpListIn_nil ?_
      refine then_n ?_
      refine x_if hk (b := true) rfl ?_
      refine (show Code.wpIn _ _ _ _ _ _ _ from ?_)
      refine x_seq ?_
      refine wpIn_region_lit ?_
      refine x_run tab hk (k := 1) (lv := []) (ks := [2]) (e' := [(2, .bool false)]) rfl trivial fun a hk => ?_
      refine wpListIn_nil ?_
      refine then_n ?_
      refine wpIn_ret ?_
      refine then_r ?_
      obtain rfl := Option.some.inj H
      exact x_retG hk (rs := [.tmp 2]) (vs := [.bool false]) rfl ⟨rfl, trivial⟩ ⟨fun b_ => if b_ < w.heap.size then o b_ else (fun _ => 0) (o140 b_), rfl, hs.close0 o (fun _ => 0)⟩
  · rw [b133] at hk H
    replace H := bifT H
    refine x_run tab hk (k := 10) (lv := []) (ks := [1, 15, 19]) (e' := [(1, .pointer (some ⟨bx4, 0, none⟩)), (15, .bool true), (19, undef)]) rfl trivial fun a hk => ?_
    refine x_run tab hk (k := 1) (lv := []) (ks := [1, 20]) (e' := [(1, .pointer (some ⟨bx4, 0, none⟩)), (20, .bool true)]) rfl trivial fun a hk => ?_
    refine wpListIn_nil ?_
    refine then_n ?_
    refine x_if hk (b := true) rfl ?_
    refine (show Code.wpIn _ _ _ _ _ _ _ from ?_)
    refine x_seq ?_
    refine wpIn_region_lit ?_
    refine x_run tab hk (k := 1) (lv := []) (ks := [2]) (e' := [(2, .bool false)]) rfl trivial fun a hk => ?_
    refine wpListIn_nil ?_
    refine then_n ?_
    refine wpIn_ret ?_
    refine then_r ?_
    obtain rfl := Option.some.inj H
    exact x_retG hk (rs := [.tmp 2]) (vs := [.bool false]) rfl ⟨rfl, trivial⟩ ⟨fun b_ => if b_ < w.heap.size then o b_ else (fun _ => 0) (o131 b_), rfl, hs.close0 o (fun _ => 0)⟩

/-! tidewrack/num.clip -/
theorem num_clip_calls (p0 : Int) (w : World) (o : Nat → Nat)   (r : Int) (H : num_clip p0 = some r) :
    Calls Tryd.prog 121 #[.int .i64 p0] w (Ret fun v_ w' => ∃ o' : Nat → Nat, v_ = .int .i64 r ∧ St [] w o w' o') := by
  refine x_enter (vs := [.int .i64 p0]) Tryd.func121 rfl rfl rfl fun a hk => ?_
  obtain ⟨o0, hs, h0⟩ := St.start w o
  clear h0
  rw [num_clip] at H
  refine x_seq ?_
  refine wpIn_region_lit ?_
  refine x_run tab hk (k := 1) (lv := []) (ks := [0]) (e' := [(0, .int .i64 p0)]) rfl trivial fun a hk => ?_
  refine wpListIn_nil ?_
  refine then_n ?_
  refine x_seq ?_
  refine wpIn_region_lit ?_
  refine x_run tab hk (k := 4) (lv := []) (ks := [2]) (e' := [(2, .int .i64 (mxI 0 (mnI p0 4611686018427387904)))]) rfl trivial fun a hk => ?_
  refine wpListIn_nil ?_
  refine then_n ?_
  refine wpIn_ret ?_
  obtain rfl := Option.some.inj H
  exact x_retG hk (rs := [.tmp 2]) (vs := [.int .i64 (mxI 0 (mnI p0 4611686018427387904))]) rfl ⟨rfl, trivial⟩ ⟨fun b_ => if b_ < w.heap.size then o b_ else (fun _ => 0) (o0 b_), rfl, hs.close0 o (fun _ => 0)⟩

/-! tidewrack/num.digits$1 -/
theorem num_digits_1_iter (K : Nat) (bp1 : Nat) (p1 : Int) (w : World) (o : Nat → Nat) (Lp1 : Nat) (hp1 : Ft (Bx bp1 3 [.int .i64 p1]) w o Lp1) (hd0 : ([Lp1] : List Nat).Nodup) (r : List Int) (H : num_digits_1 K p1 = some r) :
    IterC Tryd.prog 120 [] [.pointer (some ⟨bp1, 0, none⟩)] (fun (x_ : Int) vs_ _ => vs_ = [.int .u8 x_]) none r w o [Lp1] [] := by
  refine iter_start hd0 (fun _ h_ => by cases h_) fun l_ JJ XX Res w1 oi h1 h2 h3 hJ hX hRl hY hE0 hE1 hs => ?_
  refine x_enter (vs := [.func (.yield l_) #[] #[], .pointer (some ⟨bp1, 0, none⟩)]) Tryd.func120 rfl rfl rfl fun a hk => ?_
  have f900039 := h1 0 1 hp1 rfl rfl
  clear h1 h2 h3
  rw [num_digits_1] at H
  refine x_mid (fun a_ w_ => ∃ o61 : Nat → Nat, ∃ r62 : List Int, ∃ x63 : Int, Kn 20 a_ [(0, .func (.yield l_) #[] #[]), (1, .pointer (some ⟨bp1, 0, none⟩))] ∧ JJ r62 w_ o61 ∧ Ft (Bx bp1 3 [.int .i64 x63]) w_ o61 1 ∧ num_digits_1_j1 x63 = some r62) ?_ ?_
  rotate_left
  · rintro a w64 ⟨o61, r62, x63, hk, hs, f900039, H⟩
    rw [num_digits_1_j1] at H
    refine wpIn_region_lit ?_
    refine x_run tab hk (k := 3) (lv := [.int .i64 x63]) (ks := [16, 18]) (e' := [(16, .func (.yield l_) #[] #[]), (18, .int .u8 (IntKind.wrap .u8 x63))]) rfl ⟨(load1 tab rfl ((Bx.cell f900039.now 0).trans rfl)), trivial⟩ fun a hk => ?_
    refine x_op hk rfl ?_
    obtain ⟨r65, hr66, H⟩ := consS H
    rw [hr66] at hs
    refine op_yield hk rfl (vs := [.int .u8 (IntKind.wrap .u8 x63)]) rfl (hY hs (fun _ => rfl)) ?_
    rintro b67 w68 ⟨o69, st70, ht_, hf_⟩
    replace f900039 := f900039.st st70 (by decide)
    cases b67
    · have hs := hf_ rfl
      have hk := hk.put 19 (.bool false) rfl
      refine wpListIn_nil ?_
      exact x_endG hk (rs := []) (vs := []) rfl trivial (hE1 hs)
    · have hs := ht_ rfl
      have hk := hk.put 19 (.bool true) rfl
      refine wpListIn_nil ?_
      obtain rfl := Option.some.inj H
      exact x_endG hk (rs := []) (vs := []) rfl trivial (hE0 hs)
  refine x_seq ?_
  refine wpIn_region_lit ?_
  refine x_run tab hk (k := 1) (lv := [.int .i64 p1]) (ks := [0, 1, 3]) (e' := [(0, .func (.yield l_) #[] #[]), (1, .pointer (some ⟨bp1, 0, none⟩)), (3, .int .i64 p1)]) rfl ⟨(load1 tab rfl ((Bx.cell f900039.now 0).trans rfl)), trivial⟩ fun a hk => ?_
  refine x_op hk rfl ?_
  obtain ⟨t74, hc75, H⟩ := bindS H
  refine op_call hk ent_121 (vs := [.int .i64 p1]) rfl (num_clip_calls p1 _ oi    _ hc75) ?_
  rintro _ w76 ⟨o77, rfl, st78⟩
  replace f900039 := f900039.st st78 (by decide)
  replace hs := hJ hs st78 rfl
  have hk := hk.put 4 (.int .i64 t74) rfl
  refine x_op hk rfl ?_
  refine op_store tab hk (t := 3) (v := .int .i64 t74) (b := bp1) (k := 0) (cs' := [.int .i64 t74]) rfl rfl rfl rfl rfl rfl f900039 rfl rfl fun w79 o80 st81 f900039_ => ?_
  replace hs := hJ hs st81 rfl
  replace f900039 := f900039_
  refine wpListIn_nil ?_
  refine then_n ?_
  refine wpIn_block ?_
  refine x_loop (fun j_ a_ w_ => ∃ o96 : Nat → Nat, ∃ r97 : List Int, ∃ x98 : Int, Kn 20 a_ [(0, .func (.yield l_) #[] #[]), (1, .pointer (some ⟨bp1, 0, none⟩))] ∧ JJ r97 w_ o96 ∧ Ft (Bx bp1 3 [.int .i64 x98]) w_ o96 1 ∧ num_digits_1_l2 j_ x98 = some r97) (k := K) ⟨o80, r, t74, (by exact Kn.pick (ks := [0, 1]) hk rfl), hs, f900039, H⟩ (by rintro _ _ ⟨_, _, _, _, _, _, H_⟩; exact absurd (show (none : Option (List Int)) = some _ from H_) (by simp)) ?_
  rintro k110 a w109 ⟨o96, r97, x98, hk, hs, f900039, H⟩
  rw [num_digits_1_l2] at H
  obtain ⟨lp111, hlp112⟩ : ∃ lp_, lp_ = num_digits_1_l2 k110 := ⟨_, rfl⟩
  rw [← hlp112] at H
  refine x_seq ?_
  refine x_seq ?_
  refine wpIn_region_lit ?_
  refine x_run tab hk (k := 2) (lv := [.int .i64 x98]) (ks := [0, 1, 6]) (e' := [(0, .func (.yield l_) #[] #[]), (1, .pointer (some ⟨bp1, 0, none⟩)), (6, .bool (decide (x98 ≥ (128 : Int))))]) rfl ⟨(load1 tab rfl ((Bx.cell f900039.now 0).trans rfl)), trivial⟩ fun a hk => ?_
  refine wpListIn_nil ?_
  refine then_n ?_
  cases b113 : (decide (x98 ≥ (128 : Int)))
  · rw [b113] at hk H
    replace H := bifF H
    refine x_if hk (b := false) rfl ?_
    refine (show Code.wpIn _ _ _ _ _ _ _ from ?_)
    refine wpIn_exit ?_
    refine then_x ?_
    refine then_x ?_
    refine blk_x ?_
    refine then_n ?_
    exact ⟨o96, r97, x98, (by exact Kn.pick (ks := [0, 1]) hk rfl), hs, f900039, H⟩
  · rw [b113] at hk H
    replace H := bifT H
    refine x_if hk (b := true) rfl ?_
    refine (show Code.wpIn _ _ _ _ _ _ _ from ?_)
    refine wpIn_skip ?_
    refine then_n ?_
    refine x_seq ?_
    refine wpIn_block ?_
    refine x_seq ?_
    refine wpIn_region_lit ?_
    refine x_run tab hk (k := 5) (lv := [.int .i64 x98]) (ks := [0, 1, 9, 13]) (e' := [(0, .func (.yield l_) #[] #[]), (1, .pointer (some ⟨bp1, 0, none⟩)), (9, .func (.yield l_) #[] #[]), (13, .int .u8 (bits .or .u8 (bits .and .u8 (IntKind.wrap .u8 x98) 127) 128))]) rfl ⟨(load1 tab rfl ((Bx.cell f900039.now 0).trans rfl)), trivial⟩ fun a hk => ?_
    refine x_op hk rfl ?_
    obtain ⟨r114, hr115, H⟩ := consS H
    rw [hr115] at hs
    refine op_yield hk rfl (vs := [.int .u8 (bits .or .u8 (bits .and .u8 (IntKind.wrap .u8 x98) 127) 128)]) rfl (hY hs (fun _ => rfl)) ?_
    rintro b116 w117 ⟨o118, st119, ht_, hf_⟩
    replace f900039 := f900039.st st119 (by decide)
    cases b116
    · have hs := hf_ rfl
      have hk := hk.put 14 (.bool false) rfl
      refine x_run tab hk (k := 1) (lv := []) (ks := [0, 1, 15]) (e' := [(0, .func (.yield l_) #[] #[]), (1, .pointer (some ⟨bp1, 0, none⟩)), (15, .bool true)]) rfl trivial fun a hk => ?_
      refine wpListIn_nil ?_
      refine then_n ?_
      refine x_if hk (b := true) rfl ?_
      refine (show Code.wpIn _ _ _ _ _ _ _ from ?_)
      refine wpIn_ret ?_
      refine blk_r ?_
      refine then_r ?_
      refine then_r ?_
      refine blk_r ?_
      refine then_r ?_
      exact x_retG hk (rs := []) (vs := []) rfl trivial (hE1 hs)
    · have hs := ht_ rfl
      have hk := hk.put 14 (.bool true) rfl
      refine x_run tab hk (k := 1) (lv := []) (ks := [0, 1, 15]) (e' := [(0, .func (.yield l_) #[] #[]), (1, .pointer (some ⟨bp1, 0, none⟩)), (15, .bool false)]) rfl trivial fun a hk => ?_
      refine wpListIn_nil ?_
      refine then_n ?_
      refine x_if hk (b := false) rfl ?_
      refine (show Code.wpIn _ _ _ _ _ _ _ from ?_)
      refine wpIn_skip ?_
      refine blk_n ?_
      refine then_n ?_
      refine wpIn_region_lit ?_
      refine x_run tab hk (k := 2) (lv := [.int .i64 x98]) (ks := [0, 1, 8]) (e' := [(0, .func (.yield l_) #[] #[]), (1, .pointer (some ⟨bp1, 0, none⟩)), (8, .int .i64 (Int.fdiv x98 (2 ^ min (Int.toNat 7) 64)))]) rfl ⟨(load1 tab rfl ((Bx.cell f900039.now 0).trans rfl)), (show 0 ≤ (7 : Int) from by decide), trivial⟩ fun a hk => ?_
      refine x_op hk rfl ?_
      refine op_store tab hk (t := 3) (v := .int .i64 (Int.fdiv x98 (2 ^ min (Int.toNat 7) 64))) (b := bp1) (k := 0) (cs' := [.int .i64 (Int.fdiv x98 (2 ^ min (Int.toNat 7) 64))]) rfl rfl rfl rfl rfl rfl f900039 rfl rfl fun w120 o121 st122 f900039_ => ?_
      replace hs := hJ hs st122 rfl
      replace f900039 := f900039_
      refine wpListIn_nil ?_
      refine then_n ?_
      exact ⟨k110, Nat.le_refl _, o121, r114, (Int.fdiv x98 (2 ^ min (Int.toNat 7) 64)), (by exact Kn.pick (ks := [0, 1]) hk rfl), hs, f900039, (hlp112 ▸ H)⟩

/-! tidewrack/num.digits -/
theorem num_digits_calls (p0 : Int) (w : World) (o : Nat → Nat)   (R0 : Nat) (r : Int) (H : num_digits p0 = some r) :
    Calls Tryd.prog 113 #[.int .i64 p0] w (Ret fun v_ w' => ∃ o' : Nat → Nat, ∃ b0 : Nat, v_ = .func (.func 120) #[] #[.pointer (some ⟨b0, 0, none⟩)] ∧ St [] w o w' o' ∧ Ft (Bx b0 3 [.int .i64 r]) w' o' R0) := by
  refine x_enter (vs := [.int .i64 p0]) Tryd.func113 rfl rfl rfl fun a hk => ?_
  obtain ⟨o0, hs, h0⟩ := St.start w o
  clear h0
  rw [num_digits] at H
  refine x_seq ?_
  refine wpIn_region_lit ?_
  refine x_op hk rfl ?_
  refine op_box (o := o0) (t := 3) (v := .int .i64 p0) (cs := [.int .i64 p0]) hk rfl rfl 1 fun bx4 w1 o2 st3 f5 => ?_
  replace hs := hs.loc0 st3 (by decide)
  have hk := hk.put 1 (.pointer (some ⟨bx4, 0, none⟩)) rfl
  refine x_run tab hk (k := 1) (lv := []) (ks := [1]) (e' := [(1, .pointer (some ⟨bx4, 0, none⟩))]) rfl trivial fun a hk => ?_
  refine wpListIn_nil ?_
  refine then_n ?_
  refine x_seq ?_
  refine wpIn_region_lit ?_
  refine x_run tab hk (k := 2) (lv := []) (ks := [2]) (e' := [(2, .func (.func 120) #[] #[.pointer (some ⟨bx4, 0, none⟩)])]) rfl trivial fun a hk => ?_
  refine wpListIn_nil ?_
  refine then_n ?_
  refine wpIn_ret ?_
  obtain rfl := Option.some.inj H
  exact x_retG hk (rs := [.tmp 2]) (vs := [.func (.func 120) #[] #[.pointer (some ⟨bx4, 0, none⟩)]]) rfl ⟨rfl, trivial⟩ ⟨fun b_ => if b_ < w.heap.size then o b_ else (fun _ => R0) (o2 b_), bx4, rfl, hs.close0 o (fun _ => R0), hs.close_ft (o := o) (ρ := fun _ => R0) f5 (by decide) rfl⟩

/-! (*tidewrack/num.Out).Num -/
theorem num_Out_Num_calls (K : Nat) (bp0 : Nat) (Ap0_0 : Option Addr) (cp0_0 : Nat) (p0 : T172) (Ap1 : Option Addr) (cp1 : Nat) (p1 : List Int) (w : World) (o : Nat → Nat) (Lp0 : Nat) (hp0 : Ft (Bx bp0 173 [.slice Ap0_0 (p0.b).length cp0_0]) w o Lp0) (Lp0_0 : Nat) (hp0_0 : Ft (Own (encInt .u8) 5 (.slice Ap0_0 (p0.b).length cp0_0) p0.b) w o Lp0_0) (hcp0_0 : (p0.b).length ≤ cp0_0) (Lp1 : Nat) (hp1 : Ft (RdC (encInt .i64) Ap1 p1) w o Lp1) (hcp1 : (p1).length ≤ cp1) (hd0 : ([Lp0, Lp0_0] : List Nat).Nodup) (hd1 : Lp1 ∉ [Lp0, Lp0_0]) (r : T172) (H : num_Out_Num K p0 p1 = some r) :
    Calls Tryd.prog 98 #[.pointer (some ⟨bp0, 0, none⟩), .slice Ap1 (p1).length cp1] w (Ret fun v_ w' => ∃ o' : Nat → Nat, ∃ A0 : Option Addr, ∃ c0 : Nat, v_ = .pointer (some ⟨bp0, 0, none⟩) ∧ St [Lp0, Lp0_0] w o w' o' ∧ Ft (Bx bp0 173 [.slice A0 (r.b).length c0]) w' o' Lp0 ∧ Ft (Own (encInt .u8) 5 (.slice A0 (r.b).length c0) r.b) w' o' Lp0_0 ∧ (r.b).length ≤ c0) := by
  refine x_enterQ (vs := [.pointer (some ⟨bp0, 0, none⟩), .slice Ap1 (p1).length cp1]) Tryd.func98 rfl rfl rfl fun a hk => ?_
  obtain ⟨oi, hs0, h0, h1, hob, hoz, hoa⟩ := St.startM2 w o (m := 2) hd0 rfl
  have hs := hs0 [1, 2]
  have hom := lab_in hob (MM := [1, 2]) (by decide)
  have f900000 := h1 1 2 hp0_0 rfl rfl
  have f900019 := h1 0 1 hp0 rfl rfl
  have f900020 := h0 _ _ hd1 hp1
  have fxm : Ft (MK []) w oi 3 := Ft.of_all (fun _ => MK.nil _) _ _ _
  clear h0 h1 hs0
  rw [num_Out_Num] at H
  refine x_seq ?_
  refine wpIn_region_lit ?_
  refine x_op hk rfl ?_
  refine op_box (o := oi) (t := 175) (v := .pointer (some ⟨bp0, 0, none⟩)) (cs := [.pointer (some ⟨bp0, 0, none⟩)]) hk rfl rfl 4 fun bx4 w1 o2 st3 f5 => ?_
  replace f900000 := f900000.st st3 (by decide)
  replace f900019 := f900019.st st3 (by decide)
  replace f900020 := f900020.st st3 (by decide)
  replace fxm := fxm.st st3 (by decide)
  replace hs := hs.locM st3 (by decide) hom
  have hk := hk.put 2 (.pointer (some ⟨bx4, 0, none⟩)) rfl
  refine x_run tab hk (k := 1) (lv := []) (ks := [1, 2]) (e' := [(1, .slice Ap1 (p1).length cp1), (2, .pointer (some ⟨bx4, 0, none⟩))]) rfl trivial fun a hk => ?_
  refine wpListIn_nil ?_
  refine then_n ?_
  refine x_mid (fun a_ w_ => ∃ o5357 : Nat → Nat, ∃ ds5358 : List Deferred, ∃ A5359 : Option Addr, ∃ c5360 : Nat, ∃ l5361 : List Int, KnD 29 ds5358 a_ [(2, .pointer (some ⟨bx4, 0, none⟩))] ∧ St [1, 2] w oi w_ o5357 ∧ Ft (Bx bx4 175 [.pointer (some ⟨bp0, 0, none⟩)]) w_ o5357 310 ∧ Ft (Own (encInt .u8) 5 (.slice A5359 (l5361).length c5360) l5361) w_ o5357 2 ∧ Ft (Bx bp0 173 [.slice A5359 (l5361).length c5360]) w_ o5357 1 ∧ Ft (MK ds5358) w_ o5357 3 ∧ (l5361).length ≤ c5360 ∧ num_Out_Num_j1 l5361 = some r) ?_ ?_
  rotate_left
  · rintro a w5364 ⟨o5357, ds5358, A5359, c5360, l5361, hk, hs, f5, f5362, f900019, fxm, hc5363, H⟩
    rw [num_Out_Num_j1] at H
    refine x_seq ?_
    refine wpIn_region_lit ?_
    refine x_run tab hk (k := 2) (lv := [.pointer (some ⟨bp0, 0, none⟩)]) (ks := [4]) (e' := [(4, .pointer (some ⟨bp0, 0, none⟩))]) rfl ⟨(load1 tab rfl ((Bx.cell f5.now 0).trans rfl)), trivial⟩ fun a hk => ?_
    refine wpListIn_nil ?_
    refine then_n ?_
    refine wpIn_ret ?_
    refine x_retQ hk fxm fun w5365 a st5366 hk => ?_
    replace f5362 := f5362.st st5366 (by decide)
    replace f900019 := f900019.st st5366 (by decide)
    replace hs := hs.locM st5366 (by decide) hom
    obtain rfl := Option.some.inj H
    exact x_retG hk (rs := [.tmp 4]) (vs := [.pointer (some ⟨bp0, 0, none⟩)]) rfl ⟨rfl, trivial⟩ ⟨cl w oi o [1, 2] (fun l_ => if l_ = 1 then Lp0 else if l_ = 2 then Lp0_0 else 0) o5357, A5359, c5360, rfl, hs.closeM hoz (by decide) (fun l_ => if l_ = 1 then Lp0 else if l_ = 2 then Lp0_0 else 0), hs.closeM_ft (o := o) (ρ := fun l_ => if l_ = 1 then Lp0 else if l_ = 2 then Lp0_0 else 0) f900019 (lab_at hoa (i := 0) rfl) rfl, hs.closeM_ft (o := o) (ρ := fun l_ => if l_ = 1 then Lp0 else if l_ = 2 then Lp0_0 else 0) f5362 (lab_at hoa (i := 1) rfl) rfl, hc5363⟩
  refine x_seq ?_
  refine wpIn_region_lit ?_
  refine x_run tab hk (k := 3) (lv := []) (ks := [2, 8, 9, 10]) (e' := [(2, .pointer (some ⟨bx4, 0, none⟩)), (8, .slice Ap1 (p1).length cp1), (9, .int .i64 ((p1).length : Int)), (10, .int .i64 0)]) rfl trivial fun a hk => ?_
  refine wpListIn_nil ?_
  refine then_n ?_
  refine wpIn_block ?_
  refine x_loop (fun j_ a_ w_ => ∃ o7144 : Nat → Nat, ∃ ds7145 : List Deferred, ∃ A7146 : Option Addr, ∃ c7147 : Nat, ∃ l7148 : List Int, ∃ A7151 : Option Addr, ∃ c7152 : Nat, ∃ x7155 : Int, KnD 29 ds7145 a_ [(2, .pointer (some ⟨bx4, 0, none⟩)), (8, .slice A7151 (p1).length c7152), (9, .int .i64 ((p1).length : Int)), (10, .int .i64 x7155)] ∧ St [1, 2] w oi w_ o7144 ∧ Ft (Bx bx4 175 [.pointer (some ⟨bp0, 0, none⟩)]) w_ o7144 413 ∧ Ft (Own (encInt .u8) 5 (.slice A7146 (l7148).length c7147) l7148) w_ o7144 2 ∧ Ft (RdC (encInt .i64) A7151 p1) w_ o7144 0 ∧ Ft (Bx bp0 173 [.slice A7146 (l7148).length c7147]) w_ o7144 1 ∧ Ft (MK ds7145) w_ o7144 3 ∧ (l7148).length ≤ c7147 ∧ (p1).length ≤ c7152 ∧ num_Out_Num_l2 K p1 j_ l7148 x7155 = some r) (k := K) ⟨(fun b_ => (fun l_ => if l_ = 4 then 413 else l_) (o2 b_)), [], Ap0_0, cp0_0, p0.b, Ap1, cp1, 0, (by exact Kn.pick (ks := [2, 8, 9, 10]) hk rfl), (hs.relabM hob (fun l_ => if l_ = 4 then 413 else l_) (by decide)), (f5.relab (fun l_ => if l_ = 4 then 413 else l_) rfl), (f900000.relab (fun l_ => if l_ = 4 then 413 else l_) rfl), (f900020.relab (fun l_ => if l_ = 4 then 413 else l_) rfl), (f900019.relab (fun l_ => if l_ = 4 then 413 else l_) rfl), (fxm.relab (fun l_ => if l_ = 4 then 413 else l_) rfl), hcp0_0, hcp1, H⟩ (by rintro _ _ ⟨_, _, _, _, _, _, _, _, _, _, _, _, _, _, _, _, _, H_⟩; exact absurd (show (none : Option T172) = some r from H_) (by simp)) ?_
  rintro k8930 a w8929 ⟨o7144, ds7145, A7146, c7147, l7148, A7151, c7152, x7155, hk, hs, f5, f7149, f7153, f900019, fxm, hc7150, hc7154, H⟩
  rw [num_Out_Num_l2] at H
  obtain ⟨lp8931, hlp8932⟩ : ∃ lp_, lp_ = num_Out_Num_l2 K p1 k8930 := ⟨_, rfl⟩
  rw [← hlp8932] at H
  refine x_seq ?_
  refine wpIn_region_lit ?_
  refine x_run tab hk (k := 1) (lv := []) (ks := [2, 8, 9, 10, 11]) (e' := [(2, .pointer (some ⟨bx4, 0, none⟩)), (8, .slice A7151 (p1).length c7152), (9, .int .i64 ((p1).length : Int)), (10, .int .i64 x7155), (11, .bool (decide (x7155 < ((p1).length : Int))))]) rfl trivial fun a hk => ?_
  refine wpListIn_nil ?_
  refine then_n ?_
  refine x_seq ?_
  cases b8933 : (decide (x7155 < ((p1).length : Int)))
  · rw [b8933] at hk H
    replace H := bifF H
    refine x_if hk (b := false) rfl ?_
    refine (show Code.wpIn _ _ _ _ _ _ _ from ?_)
    refine wpIn_exit ?_
    refine then_x ?_
    refine then_x ?_
    refine blk_x ?_
    refine then_n ?_
    exact ⟨(fun b_ => (fun l_ => if l_ = 413 then 310 else l_) (o7144 b_)), ds7145, A7146, c7147, l7148, (by exact Kn.pick (ks := [2]) hk rfl), (hs.relabM hob (fun l_ => if l_ = 413 then 310 else l_) (by decide)), (f5.relab (fun l_ => if l_ = 413 then 310 else l_) rfl), (f7149.relab (fun l_ => if l_ = 413 then 310 else l_) rfl), (f900019.relab (fun l_ => if l_ = 413 then 310 else l_) rfl), (fxm.relab (fun l_ => if l_ = 413 then 310 else l_) rfl), hc7150, H⟩
  · rw [b8933] at hk H
    replace H := bifT H
    refine x_if hk (b := true) rfl ?_
    refine (show Code.wpIn _ _ _ _ _ _ _ from ?_)
    refine wpIn_skip ?_
    refine then_n ?_
    refine x_mid (fun a_ w_ => ∃ o9822 : Nat → Nat, ∃ ds9823 : List Deferred, ∃ A9824 : Option Addr, ∃ c9825 : Nat, ∃ l9826 : List Int, ∃ A9829 : Option Addr, ∃ c9830 : Nat, KnD 29 ds9823 a_ [(2, .pointer (some ⟨bx4, 0, none⟩)), (8, .slice A9829 (p1).length c9830), (9, .int .i64 ((p1).length : Int)), (10, .int .i64 x7155)] ∧ St [1, 2] w oi w_ o9822 ∧ Ft (Bx bx4 175 [.pointer (some ⟨bp0, 0, none⟩)]) w_ o9822 565 ∧ Ft (Bx bp0 173 [.slice A9824 (l9826).length c9825]) w_ o9822 1 ∧ Ft (Own (encInt .u8) 5 (.slice A9824 (l9826).length c9825) l9826) w_ o9822 2 ∧ Ft (RdC (encInt .i64) A9829 p1) w_ o9822 0 ∧ Ft (MK ds9823) w_ o9822 3 ∧ (l9826).length ≤ c9825 ∧ (p1).length ≤ c9830 ∧ num_Out_Num_j3 x7155 lp8931 l9826 = some r) ?_ ?_
    rotate_left
    · rintro a w9833 ⟨o9822, ds9823, A9824, c9825, l9826, A9829, c9830, hk, hs, f5, f900019, f9827, f9831, fxm, hc9828, hc9832, H⟩
      rw [num_Out_Num_j3] at H
      refine wpIn_region_lit ?_
      refine x_run tab hk (k := 2) (lv := []) (ks := [2, 8, 9, 10]) (e' := [(2, .pointer (some ⟨bx4, 0, none⟩)), (8, .slice A9829 (p1).length c9830), (9, .int .i64 ((p1).length : Int)), (10, .int .i64 (IntKind.wrap .i64 (x7155 + 1)))]) rfl trivial fun a hk => ?_
      refine wpListIn_nil ?_
      refine then_n ?_
      exact ⟨k8930, Nat.le_refl _, (fun b_ => (fun l_ => if l_ = 565 then 413 else l_) (o9822 b_)), ds9823, A9824, c9825, l9826, A9829, c9830, (IntKind.wrap .i64 (x7155 + 1)), (by exact Kn.pick (ks := [2, 8, 9, 10]) hk rfl), (hs.relabM hob (fun l_ => if l_ = 565 then 413 else l_) (by decide)), (f5.relab (fun l_ => if l_ = 565 then 413 else l_) rfl), (f9827.relab (fun l_ => if l_ = 565 then 413 else l_) rfl), (f9831.relab (fun l_ => if l_ = 565 then 413 else l_) rfl), (f900019.relab (fun l_ => if l_ = 565 then 413 else l_) rfl), (fxm.relab (fun l_ => if l_ = 565 then 413 else l_) rfl), hc9828, hc9832, (hlp8932 ▸ H)⟩
    refine wpIn_block ?_
    refine x_seq ?_
    refine wpIn_region_lit ?_
    obtain ⟨q9834, H⟩ := ifS H
    obtain ⟨ad9835, hAad9835⟩ := RdC.addr f7153.now q9834
    have hk_C := hk
    have f5_C := f5
    have f7149_C := f7149
    have f7153_C := f7153
    have f900019_C := f900019
    have fxm_C := fxm
    subst hAad9835
    have hk := hk_C
    clear hk_C
    have f5 := f5_C
    clear f5_C
    have f7149 := f7149_C
    clear f7149_C
    have f7153 := f7153_C
    clear f7153_C
    have f900019 := f900019_C
    clear f900019_C
    have fxm := fxm_C
    clear fxm_C
    refine x_run tab hk (k := 3) (lv := [.int .i64 (rdD 0 p1 x7155)]) (ks := [2, 6, 8, 9, 10]) (e' := [(2, .pointer (some ⟨bx4, 0, none⟩)), (6, .int .i64 (rdD 0 p1 x7155)), (8, .slice (some ad9835) (p1).length c7152), (9, .int .i64 ((p1).length : Int)), (10, .int .i64 x7155)]) rfl ⟨q9834, (load1 tab rfl (RdC.at0 (E := (encInt .i64)) (d := 0) (i := x7155) f7153.now q9834 rfl)), trivial⟩ fun a hk => ?_
    refine wpListIn_nil ?_
    refine then_n ?_
    refine x_seq ?_
    refine wpIn_region_lit ?_
    refine x_run tab hk (k := 1) (lv := []) (ks := [2, 8, 9, 10, 14]) (e' := [(2, .pointer (some ⟨bx4, 0, none⟩)), (8, .slice (some ad9835) (p1).length c7152), (9, .int .i64 ((p1).length : Int)), (10, .int .i64 x7155), (14, .int .i64 (rdD 0 p1 x7155))]) rfl trivial fun a hk => ?_
    refine x_op hk rfl ?_
    obtain ⟨t9839, hc9840, H⟩ := bindS H
    refine op_call hk ent_113 (vs := [.int .i64 (rdD 0 p1 x7155)]) rfl (num_digits_calls (rdD 0 p1 x7155) _ o7144  566  _ hc9840) ?_
    rintro _ w9841 ⟨o9842, bx9844, rfl, st9843, f9845⟩
    replace f5 := f5.st st9843 (by decide)
    replace f7149 := f7149.st st9843 (by decide)
    replace f7153 := f7153.st st9843 (by decide)
    replace f900019 := f900019.st st9843 (by decide)
    replace fxm := fxm.st st9843 (by decide)
    replace hs := hs.locM st9843 (by decide) hom
    have hk := hk.put 15 (.func (.func 120) #[] #[.pointer (some ⟨bx9844, 0, none⟩)]) rfl
    refine wpListIn_nil ?_
    refine then_n ?_
    refine wpIn_block ?_
    obtain ⟨ys9846, hy9847, H⟩ := bindS H
    refine x_range 3 567 568 [1, 2] hk rfl ent_120 (num_digits_1_iter K bx9844 t9839 _ _ 566 f9845 (by decide) _ hy9847) fxm (fun _ _ _ h_ => by subst h_; rfl) rfl rfl (fun rr_ w_ o10140 => ∃ A10141 : Option Addr, ∃ c10142 : Nat, ∃ l10143 : List Int, St [1, 2] w oi w_ o10140 ∧ Ft (Own (encInt .u8) 5 (.slice A10141 (l10143).length c10142) l10143) w_ o10140 2 ∧ Ft (Bx bx4 175 [.pointer (some ⟨bp0, 0, none⟩)]) w_ o10140 413 ∧ Ft (RdC (encInt .i64) (some ad9835) p1) w_ o10140 0 ∧ Ft (Bx bp0 173 [.slice A10141 (l10143).length c10142]) w_ o10140 1 ∧ (l10143).length ≤ c10142 ∧ num_Out_Num_r4 x7155 lp8931 rr_ l10143 = some r) (fun c_ w_ o10424 => False) ?_ ?_ ⟨A7146, c7147, l7148, hs, f7149, f5, f7153, f900019, hc7150, H⟩ ?_ ?_ ?_
    · rintro rr_ w_ _ _ _ ⟨A10141, c10142, l10143, hs, f10144, f5, f7153, f900019, hc10145, H⟩ st_
      exact ⟨A10141, c10142, l10143, hs.locM st_ (by decide) hom, f10144.st st_ (by decide), f5.st st_ (by decide), f7153.st st_ (by decide), f900019.st st_ (by decide), hc10145, H⟩
    · exact fun _ _ _ _ _ h_ _ => h_.elim
    · rintro R0_ R1_ lr_ x9848 vs_ rest9849 w9850 o9851 ⟨A10141, c10142, l10143, hsO, f10144, f5, f7153, f900019, hc10145, H⟩ hE fxr a hk
      obtain rfl : vs_ = [.int .u8 x9848] := hE w9850
      obtain ⟨o9852, hs0, hfl, hbB, hoi⟩ := St.startB w9850 o9851 584
      have hs := hs0 [567, 1, 2]
      replace f10144 := hfl f10144 rfl
      replace f5 := hfl f5 rfl
      replace f7153 := hfl f7153 rfl
      replace f900019 := hfl f900019 rfl
      replace fxr := hfl fxr rfl
      replace hk : Kn 29 a [(2, .pointer (some ⟨bx4, 0, none⟩)), (8, .slice (some ad9835) (p1).length c7152), (9, .int .i64 ((p1).length : Int)), (10, .int .i64 x7155), (16, .int .u8 x9848)] := Kn.pick (ks := [2, 8, 9, 10, 16]) hk rfl
      rw [num_Out_Num_r4] at H
      obtain ⟨lp9853, hlp9854⟩ : ∃ lp_, lp_ = num_Out_Num_r4 x7155 lp8931 rest9849 := ⟨_, rfl⟩
      rw [← hlp9854] at H
      refine wpIn_region_lit ?_
      refine x_run tab hk (k := 1) (lv := []) (ks := [2, 7, 8, 9, 10]) (e' := [(2, .pointer (some ⟨bx4, 0, none⟩)), (7, .int .u8 x9848), (8, .slice (some ad9835) (p1).length c7152), (9, .int .i64 ((p1).length : Int)), (10, .int .i64 x7155)]) rfl trivial fun a hk => ?_
      refine wpListIn_nil ?_
      refine then_n ?_
      refine ⟨_, fxr, fun w10427 st10428 fxr => ?_⟩
      replace f10144 := f10144.st st10428 (by decide)
      replace f5 := f5.st st10428 (by decide)
      replace f7153 := f7153.st st10428 (by decide)
      replace f900019 := f900019.st st10428 (by decide)
      replace hs := hs.locB st10428 rfl hbB
      refine wpIn_block ?_
      refine x_cut (fun a_ w_ => ∃ o10577 : Nat → Nat, ∃ A10578 : Option Addr, ∃ c10579 : Nat, Kn 29 a_ [(2, .pointer (some ⟨bx4, 0, none⟩)), (8, .slice (some ad9835) (p1).length c7152), (9, .int .i64 ((p1).length : Int)), (10, .int .i64 x7155)] ∧ St [567, 1, 2] w9850 o9852 w_ o10577 ∧ Ft (Own (encInt .u8) 5 (.slice A10578 ((l10143 ++ ([x9848] : List Int))).length c10579) (l10143 ++ ([x9848] : List Int))) w_ o10577 2 ∧ Ft (Bx bx4 175 [.pointer (some ⟨bp0, 0, none⟩)]) w_ o10577 413 ∧ Ft (RdC (encInt .i64) (some ad9835) p1) w_ o10577 0 ∧ Ft (Bx bp0 173 [.slice A10578 ((l10143 ++ ([x9848] : List Int))).length c10579]) w_ o10577 1 ∧ Ft (R1_) w_ o10577 567 ∧ ((l10143 ++ ([x9848] : List Int))).length ≤ c10579 ∧ num_Out_Num_j5 x9848 l10143 lp9853 = some r) ?_ ?_
      rotate_left
      · rintro a w10582 ⟨o10577, A10578, c10579, hk, hs, f10580, f5, f7153, f900019, fxr, hc10581, H⟩
        rw [num_Out_Num_j5] at H
        refine blk_n ?_
        have hq10583 := hs.closeB hoi hbB rfl (fun l_ => if l_ = 1 then 1 else if l_ = 2 then 2 else if l_ = 413 then 413 else if l_ = 567 then 567 else 0)
        exact ⟨_, hq10583, (show Ft R1_ _ _ 567 from (hs.closeM_ft (o := o9851) (ρ := (fun l_ => if l_ = 1 then 1 else if l_ = 2 then 2 else if l_ = 413 then 413 else if l_ = 567 then 567 else 0)) fxr (lab_atB hoi rfl) rfl)), ⟨A10578, c10579, (l10143 ++ ([x9848] : List Int)), (hsO.locM hq10583 (by decide) hom), (hs.closeM_ft (o := o9851) (ρ := (fun l_ => if l_ = 1 then 1 else if l_ = 2 then 2 else if l_ = 413 then 413 else if l_ = 567 then 567 else 0)) f10580 (lab_atB hoi rfl) rfl), (hs.closeM_ft (o := o9851) (ρ := (fun l_ => if l_ = 1 then 1 else if l_ = 2 then 2 else if l_ = 413 then 413 else if l_ = 567 then 567 else 0)) f5 (lab_atB hoi rfl) rfl), (hs.closeM_ft (o := o9851) (ρ := (fun l_ => if l_ = 1 then 1 else if l_ = 2 then 2 else if l_ = 413 then 413 else if l_ = 567 then 567 else 0)) f7153 (lab_atB hoi rfl) rfl), (hs.closeM_ft (o := o9851) (ρ := (fun l_ => if l_ = 1 then 1 else if l_ = 2 then 2 else if l_ = 413 then 413 else if l_ = 567 then 567 else 0)) f900019 (lab_atB hoi rfl) rfl), hc10581, (hlp9854 ▸ H)⟩⟩
      obtain ⟨q10610, H⟩ := ifS H
      refine xd_begin (o := o9852) (fun W_ => (Bx bx4 175 [.pointer (some ⟨bp0, 0, none⟩)]) W_ ∧ True) mixed rfl rfl fun w10650 st10651 => ?_
      replace f10144 := f10144.st st10651 (by decide)
      replace f5 := f5.st st10651 (by decide)
      replace f7153 := f7153.st st10651 (by decide)
      replace f900019 := f900019.st st10651 (by decide)
      replace fxr := fxr.st st10651 (by decide)
      replace hs := hs.locB st10651 rfl hbB
      refine xd_abs fun G hG => ?_
      have N10657 : ∀ (a_ : Act) (w_ : World), (∃ o10655 : Nat → Nat, Kn 29 a_ [(2, .pointer (some ⟨bx4, 0, none⟩)), (8, .slice (some ad9835) (p1).length c7152), (9, .int .i64 ((p1).length : Int)), (10, .int .i64 x7155), (17, .pointer (some ⟨bp0, 0, none⟩)), (21, .slice A10141 (l10143).length c10142), (22, .int .u8 x9848)] ∧ St [567, 1, 2] w9850 o9852 w_ o10655 ∧ Ft (Own (encInt .u8) 5 (.slice A10141 (l10143).length c10142) l10143) w_ o10655 2 ∧ Ft (Bx bx4 175 [.pointer (some ⟨bp0, 0, none⟩)]) w_ o10655 413 ∧ Ft (RdC (encInt .i64) (some ad9835) p1) w_ o10655 0 ∧ Ft (Bx bp0 173 [.slice A10141 (l10143).length c10142]) w_ o10655 1 ∧ Ft (R1_) w_ o10655 567) → G 5 #[true, true, true, true, true, true, false, false, false, false, false] a_ w_ := by
        rintro a w10656 ⟨o10655, hk, hs, f10144, f5, f7153, f900019, fxr⟩
        refine xd_of hG ?_
        refine xd_op hk (i := 6) (by kernel_rfl) rfl rfl ?_
        refine op_slice (o := o10655) tab hk (vs := [.int .u8 x9848]) (cs := [.int .u8 x9848]) rfl rfl rfl rfl rfl rfl rfl rfl rfl 613 fun bx10661 w10658 o10659 st10660 f10662 => ?_
        replace f10144 := f10144.st st10660 (by decide)
        replace f5 := f5.st st10660 (by decide)
        replace f7153 := f7153.st st10660 (by decide)
        replace f900019 := f900019.st st10660 (by decide)
        replace fxr := fxr.st st10660 (by decide)
        replace hs := hs.locB st10660 rfl hbB
        have f10663 : Ft (Own (encInt .u8) 5 (.slice (some ⟨bx10661, 0, none⟩) (([x9848] : List Int)).length 1) ([x9848] : List Int)) w10658 o10659 613 := f10662.imp fun _ h_ => Own.of_box h_ rfl (by simp)
        have hk := hk.put 23 (.slice (some ⟨bx10661, 0, none⟩) (([x9848] : List Int)).length 1) rfl
        refine ⟨.inr ⟨f5.now, trivial⟩, ?_⟩
        refine xd_op hk (i := 7) (by kernel_rfl) rfl rfl ?_
        refine op_append (o := o10659) (E := (encInt .u8)) (xs := l10143) (ys := ([x9848] : List Int)) tab hk rfl rfl rfl rfl rfl rfl rfl f10144 (Own.rd f10663.now) q10610 fun A10667 c10668 w10664 o10665 st10666 f10669 hc10670 => ?_
        replace f10663 := f10663.st st10666 (by decide)
        replace f5 := f5.st st10666 (by decide)
        replace f7153 := f7153.st st10666 (by decide)
        replace f900019 := f900019.st st10666 (by decide)
        replace fxr := fxr.st st10666 (by decide)
        replace hs := hs.locB st10666 rfl hbB
        have hk := hk.put 24 (.slice A10667 ((l10143 ++ ([x9848] : List Int))).length c10668) rfl
        refine ⟨.inr ⟨f5.now, trivial⟩, ?_⟩
        refine xd_take tab hk (k := 1) (is := [8, 9]) (ls' := #[true, true, true, true, true, true, true, true, true, true, false]) (lv := []) (ks := [2, 8, 9, 10, 24, 26]) (e' := [(2, .pointer (some ⟨bx4, 0, none⟩)), (8, .slice (some ad9835) (p1).length c7152), (9, .int .i64 ((p1).length : Int)), (10, .int .i64 x7155), (24, .slice A10667 ((l10143 ++ ([x9848] : List Int))).length c10668), (26, .pointer (some ⟨bp0, 0, none⟩))]) (by kernel_rfl) rfl rfl (by kernel_rfl) (np_then (np_blk np_RQ)) ⟨f5.now, trivial⟩ (fun W_ hS => trivial) fun a hk => ?_
        refine xd_op hk (i := 10) (by kernel_rfl) rfl rfl ?_
        refine op_store tab hk (t := 106) (v := .slice A10667 ((l10143 ++ ([x9848] : List Int))).length c10668) (b := bp0) (k := 0) (cs' := [.slice A10667 ((l10143 ++ ([x9848] : List Int))).length c10668]) rfl rfl rfl rfl rfl rfl f900019 rfl rfl fun w10671 o10672 st10673 f900019_ => ?_
        replace f10663 := f10663.st st10673 (by decide)
        replace f10669 := f10669.st st10673 (by decide)
        replace f5 := f5.st st10673 (by decide)
        replace f7153 := f7153.st st10673 (by decide)
        replace fxr := fxr.st st10673 (by decide)
        replace hs := hs.locB st10673 rfl hbB
        replace f900019 := f900019_
        refine ⟨.inr ⟨f5.now, trivial⟩, ?_⟩
        refine xd_done (by kernel_rfl) ?_
        refine then_n ?_
        exact ⟨o10672, A10667, c10668, (by exact Kn.pick (ks := [2, 8, 9, 10]) hk rfl), hs, f10669, f5, f7153, f900019, fxr, hc10670, H⟩
      have N10695 : ∀ (a_ : Act) (w_ : World), (∃ o10689 : Nat → Nat, ∃ A10690 : Option Addr, ∃ c10691 : Nat, Kn 29 a_ [(2, .pointer (some ⟨bx4, 0, none⟩)), (8, .slice (some ad9835) (p1).length c7152), (9, .int .i64 ((p1).length : Int)), (10, .int .i64 x7155), (17, .pointer (some ⟨bp0, 0, none⟩)), (20, .pointer (some ⟨bp0, 0, none⟩)), (23, .slice A10690 (([x9848] : List Int)).length c10691)] ∧ St [567, 1, 2] w9850 o9852 w_ o10689 ∧ Ft (Own (encInt .u8) 5 (.slice A10141 (l10143).length c10142) l10143) w_ o10689 2 ∧ Ft (Own (encInt .u8) 5 (.slice A10690 (([x9848] : List Int)).length c10691) ([x9848] : List Int)) w_ o10689 615 ∧ Ft (Bx bx4 175 [.pointer (some ⟨bp0, 0, none⟩)]) w_ o10689 413 ∧ Ft (RdC (encInt .i64) (some ad9835) p1) w_ o10689 0 ∧ Ft (Bx bp0 173 [.slice A10141 (l10143).length c10142]) w_ o10689 1 ∧ Ft (R1_) w_ o10689 567 ∧ (([x9848] : List Int)).length ≤ c10691) → G 5 #[true, true, true, true, false, true, true, false, false, false, false] a_ w_ := by
        rintro a w10694 ⟨o10689, A10690, c10691, hk, hs, f10144, f10692, f5, f7153, f900019, fxr, hc10693⟩
        refine xd_of hG ?_
        refine xd_op hk (i := 4) (by kernel_rfl) rfl rfl ?_
        refine op_quiet tab hk (lv := [.slice A10141 (l10143).length c10142]) (v := .slice A10141 (l10143).length c10142) rfl ⟨(load1 tab rfl ((Bx.cell f900019.now 0).trans rfl)), trivial⟩ ?_
        have hk := hk.put 21 (.slice A10141 (l10143).length c10142) rfl
        refine ⟨.inr ⟨f5.now, trivial⟩, ?_⟩
        refine xd_op hk (i := 7) (by kernel_rfl) rfl rfl ?_
        refine op_append (o := o10689) (E := (encInt .u8)) (xs := l10143) (ys := ([x9848] : List Int)) tab hk rfl rfl rfl rfl rfl rfl rfl f10144 (Own.rd f10692.now) q10610 fun A10699 c10700 w10696 o10697 st10698 f10701 hc10702 => ?_
        replace f10692 := f10692.st st10698 (by decide)
        replace f5 := f5.st st10698 (by decide)
        replace f7153 := f7153.st st10698 (by decide)
        replace f900019 := f900019.st st10698 (by decide)
        replace fxr := fxr.st st10698 (by decide)
        replace hs := hs.locB st10698 rfl hbB
        have hk := hk.put 24 (.slice A10699 ((l10143 ++ ([x9848] : List Int))).length c10700) rfl
        refine ⟨.inr ⟨f5.now, trivial⟩, ?_⟩
        refine xd_take tab hk (k := 1) (is := [8, 9]) (ls' := #[true, true, true, true, true, true, true, true, true, true, false]) (lv := []) (ks := [2, 8, 9, 10, 24, 26]) (e' := [(2, .pointer (some ⟨bx4, 0, none⟩)), (8, .slice (some ad9835) (p1).length c7152), (9, .int .i64 ((p1).length : Int)), (10, .int .i64 x7155), (24, .slice A10699 ((l10143 ++ ([x9848] : List Int))).length c10700), (26, .pointer (some ⟨bp0, 0, none⟩))]) (by kernel_rfl) rfl rfl (by kernel_rfl) (np_then (np_blk np_RQ)) ⟨f5.now, trivial⟩ (fun W_ hS => trivial) fun a hk => ?_
        refine xd_op hk (i := 10) (by kernel_rfl) rfl rfl ?_
        refine op_store tab hk (t := 106) (v := .slice A10699 ((l10143 ++ ([x9848] : List Int))).length c10700) (b := bp0) (k := 0) (cs' := [.slice A10699 ((l10143 ++ ([x9848] : List Int))).length c10700]) rfl rfl rfl rfl rfl rfl f900019 rfl rfl fun w10703 o10704 st10705 f900019_ => ?_
        replace f10692 := f10692.st st10705 (by decide)
        replace f10701 := f10701.st st10705 (by decide)
        replace f5 := f5.st st10705 (by decide)
        replace f7153 := f7153.st st10705 (by decide)
        replace fxr := fxr.st st10705 (by decide)
        replace hs := hs.locB st10705 rfl hbB
        replace f900019 := f900019_
        refine ⟨.inr ⟨f5.now, trivial⟩, ?_⟩
        refine xd_done (by kernel_rfl) ?_
        refine then_n ?_
        exact ⟨o10704, A10699, c10700, (by exact Kn.pick (ks := [2, 8, 9, 10]) hk rfl), hs, f10701, f5, f7153, f900019, fxr, hc10702, H⟩
      refine xd_of hG ?_
      refine xd_take tab hk (k := 6) (is := [0, 1, 2, 3, 5]) (ls' := #[true, true, true, true, false, true, false, false, false, false, false]) (lv := [.pointer (some ⟨bp0, 0, none⟩), .pointer (some ⟨bp0, 0, none⟩)]) (ks := [2, 8, 9, 10, 17, 20, 22]) (e' := [(2, .pointer (some ⟨bx4, 0, none⟩)), (8, .slice (some ad9835) (p1).length c7152), (9, .int .i64 ((p1).length : Int)), (10, .int .i64 x7155), (17, .pointer (some ⟨bp0, 0, none⟩)), (20, .pointer (some ⟨bp0, 0, none⟩)), (22, .int .u8 x9848)]) (by kernel_rfl) rfl rfl (by kernel_rfl) (np_then (np_blk np_RQ)) ⟨f5.now, trivial⟩ (fun W_ hS => ⟨(load1 tab rfl ((Bx.cell hS.1 0).trans rfl)), (load1 tab rfl ((Bx.cell hS.1 0).trans rfl)), trivial⟩) fun a hk => ?_
      refine xd_each [4, 6] (by kernel_rfl) rfl ⟨?_, ?_, trivial⟩
      · refine xd_one hk rfl rfl ?_
        refine op_quiet tab hk (lv := [.slice A10141 (l10143).length c10142]) (v := .slice A10141 (l10143).length c10142) rfl ⟨(load1 tab rfl ((Bx.cell f900019.now 0).trans rfl)), trivial⟩ ?_
        have hk := hk.put 21 (.slice A10141 (l10143).length c10142) rfl
        refine ⟨.inr ⟨f5.now, trivial⟩, ?_⟩
        exact xd_to hG rfl (N10657 _ _ ⟨o9852, (by exact Kn.pick (ks := [2, 8, 9, 10, 17, 21, 22]) hk rfl), hs, f10144, f5, f7153, f900019, fxr⟩)
      · refine xd_one hk rfl rfl ?_
        refine op_slice (o := o9852) tab hk (vs := [.int .u8 x9848]) (cs := [.int .u8 x9848]) rfl rfl rfl rfl rfl rfl rfl rfl rfl 614 fun bx10677 w10674 o10675 st10676 f10678 => ?_
        replace f10144 := f10144.st st10676 (by decide)
        replace f5 := f5.st st10676 (by decide)
        replace f7153 := f7153.st st10676 (by decide)
        replace f900019 := f900019.st st10676 (by decide)
        replace fxr := fxr.st st10676 (by decide)
        replace hs := hs.locB st10676 rfl hbB
        have f10679 : Ft (Own (encInt .u8) 5 (.slice (some ⟨bx10677, 0, none⟩) (([x9848] : List Int)).length 1) ([x9848] : List Int)) w10674 o10675 614 := f10678.imp fun _ h_ => Own.of_box h_ rfl (by simp)
        have hk := hk.put 23 (.slice (some ⟨bx10677, 0, none⟩) (([x9848] : List Int)).length 1) rfl
        refine ⟨.inr ⟨f5.now, trivial⟩, ?_⟩
        exact xd_to hG rfl (N10695 _ _ ⟨(fun b_ => (fun l_ => if l_ = 614 then 615 else l_) (o10675 b_)), (some ⟨bx10677, 0, none⟩), 1, (by exact Kn.pick (ks := [2, 8, 9, 10, 17, 20, 23]) hk rfl), (hs.relabM hbB (fun l_ => if l_ = 614 then 615 else l_) (by intro l_ hl_; (try dsimp only); (repeat' split) <;> omega)), (f10144.relab (fun l_ => if l_ = 614 then 615 else l_) rfl), (f10679.relab (fun l_ => if l_ = 614 then 615 else l_) rfl), (f5.relab (fun l_ => if l_ = 614 then 615 else l_) rfl), (f7153.relab (fun l_ => if l_ = 614 then 615 else l_) rfl), (f900019.relab (fun l_ => if l_ = 614 then 615 else l_) rfl), (fxr.relab (fun l_ => if l_ = 614 then 615 else l_) rfl), (Nat.le_refl _)⟩)
    · rintro ds10426 w10425 o10140 a hk fxm ⟨A10141, c10142, l10143, hs, f10144, f5, f7153, f900019, hc10145, H⟩
      rw [num_Out_Num_r4] at H
      refine blk_n ?_
      refine blk_n ?_
      refine then_n ?_
      exact ⟨(fun b_ => (fun l_ => if l_ = 413 then 565 else l_) (o10140 b_)), ds10426, A10141, c10142, l10143, (some ad9835), c7152, (by exact Kn.pick (ks := [2, 8, 9, 10]) hk rfl), (hs.relabM hob (fun l_ => if l_ = 413 then 565 else l_) (by decide)), (f5.relab (fun l_ => if l_ = 413 then 565 else l_) rfl), (f900019.relab (fun l_ => if l_ = 413 then 565 else l_) rfl), (f10144.relab (fun l_ => if l_ = 413 then 565 else l_) rfl), (f7153.relab (fun l_ => if l_ = 413 then 565 else l_) rfl), (fxm.relab (fun l_ => if l_ = 413 then 565 else l_) rfl), hc10145, hc7154, H⟩
    · exact fun _ _ _ _ _ _ _ h_ => h_.elim

/-! (*tidewrack/num.Out).Raw -/
theorem num_Out_Raw_calls (K : Nat) (bp0 : Nat) (Ap0_0 : Option Addr) (cp0_0 : Nat) (p0 : T172) (Ap1 : Option Addr) (cp1 : Nat) (p1 : List ByteArray) (w : World) (o : Nat → Nat) (Lp0 : Nat) (hp0 : Ft (Bx bp0 173 [.slice Ap0_0 (p0.b).length cp0_0]) w o Lp0) (Lp0_0 : Nat) (hp0_0 : Ft (Own (encInt .u8) 5 (.slice Ap0_0 (p0.b).length cp0_0) p0.b) w o Lp0_0) (hcp0_0 : (p0.b).length ≤ cp0_0) (Lp1 : Nat) (hp1 : Ft (RdC encStr Ap1 p1) w o Lp1) (hcp1 : (p1).length ≤ cp1) (hd0 : ([Lp0, Lp0_0] : List Nat).Nodup) (hd1 : Lp1 ∉ [Lp0, Lp0_0]) (r : T172) (H : num_Out_Raw K p0 p1 = some r) :
    Calls Tryd.prog 114 #[.pointer (some ⟨bp0, 0, none⟩), .slice Ap1 (p1).length cp1] w (Ret fun v_ w' => ∃ o' : Nat → Nat, ∃ A0 : Option Addr, ∃ c0 : Nat, v_ = .pointer (some ⟨bp0, 0, none⟩) ∧ St [Lp0, Lp0_0] w o w' o' ∧ Ft (Bx bp0 173 [.slice A0 (r.b).length c0]) w' o' Lp0 ∧ Ft (Own (encInt .u8) 5 (.slice A0 (r.b).length c0) r.b) w' o' Lp0_0 ∧ (r.b).length ≤ c0) := by
  refine x_enter (vs := [.pointer (some ⟨bp0, 0, none⟩), .slice Ap1 (p1).length cp1]) Tryd.func114 rfl rfl rfl fun a hk => ?_
  obtain ⟨oi, hs0, h0, h1, hob, hoz, hoa⟩ := St.startM2 w o (m := 2) hd0 rfl
  have hs := hs0 [1, 2]
  have hom := lab_in hob (MM := [1, 2]) (by decide)
  have f900000 := h1 1 2 hp0_0 rfl rfl
  have f900019 := h1 0 1 hp0 rfl rfl
  have f900020 := h0 _ _ hd1 hp1
  clear h0 h1 hs0
  rw [num_Out_Raw] at H
  refine x_seq ?_
  refine wpIn_region_lit ?_
  refine x_run tab hk (k := 1) (lv := []) (ks := [0, 1]) (e' := [(0, .pointer (some ⟨bp0, 0, none⟩)), (1, .slice Ap1 (p1).length cp1)]) rfl trivial fun a hk => ?_
  refine wpListIn_nil ?_
  refine then_n ?_
  refine x_mid (fun a_ w_ => ∃ o67 : Nat → Nat, ∃ A68 : Option Addr, ∃ c69 : Nat, ∃ l70 : List Int, Kn 24 a_ [(0, .pointer (some ⟨bp0, 0, none⟩))] ∧ St [1, 2] w oi w_ o67 ∧ Ft (Own (encInt .u8) 5 (.slice A68 (l70).length c69) l70) w_ o67 2 ∧ Ft (Bx bp0 173 [.slice A68 (l70).length c69]) w_ o67 1 ∧ (l70).length ≤ c69 ∧ num_Out_Raw_j1 l70 = some r) ?_ ?_
  rotate_left
  · rintro a w73 ⟨o67, A68, c69, l70, hk, hs, f71, f900019, hc72, H⟩
    rw [num_Out_Raw_j1] at H
    refine x_seq ?_
    refine wpIn_region_lit ?_
    refine x_run tab hk (k := 2) (lv := []) (ks := [4]) (e' := [(4, .pointer (some ⟨bp0, 0, none⟩))]) rfl trivial fun a hk => ?_
    refine wpListIn_nil ?_
    refine then_n ?_
    refine wpIn_ret ?_
    obtain rfl := Option.some.inj H
    exact x_retG hk (rs := [.tmp 4]) (vs := [.pointer (some ⟨bp0, 0, none⟩)]) rfl ⟨rfl, trivial⟩ ⟨cl w oi o [1, 2] (fun l_ => if l_ = 1 then Lp0 else if l_ = 2 then Lp0_0 else 0) o67, A68, c69, rfl, hs.closeM hoz (by decide) (fun l_ => if l_ = 1 then Lp0 else if l_ = 2 then Lp0_0 else 0), hs.closeM_ft (o := o) (ρ := fun l_ => if l_ = 1 then Lp0 else if l_ = 2 then Lp0_0 else 0) f900019 (lab_at hoa (i := 0) rfl) rfl, hs.closeM_ft (o := o) (ρ := fun l_ => if l_ = 1 then Lp0 else if l_ = 2 then Lp0_0 else 0) f71 (lab_at hoa (i := 1) rfl) rfl, hc72⟩
  refine x_seq ?_
  refine wpIn_region_lit ?_
  refine x_run tab hk (k := 3) (lv := []) (ks := [0, 7, 8, 9]) (e' := [(0, .pointer (some ⟨bp0, 0, none⟩)), (7, .slice Ap1 (p1).length cp1), (8, .int .i64 ((p1).length : Int)), (9, .int .i64 0)]) rfl trivial fun a hk => ?_
  refine wpListIn_nil ?_
  refine then_n ?_
  refine wpIn_block ?_
  refine x_loop (fun j_ a_ w_ => ∃ o91 : Nat → Nat, ∃ A92 : Option Addr, ∃ c93 : Nat, ∃ l94 : List Int, ∃ x97 : Int, Kn 24 a_ [(0, .pointer (some ⟨bp0, 0, none⟩)), (7, .slice Ap1 (p1).length cp1), (8, .int .i64 ((p1).length : Int)), (9, .int .i64 x97)] ∧ St [1, 2] w oi w_ o91 ∧ Ft (Bx bp0 173 [.slice A92 (l94).length c93]) w_ o91 1 ∧ Ft (RdC encStr Ap1 p1) w_ o91 0 ∧ Ft (Own (encInt .u8) 5 (.slice A92 (l94).length c93) l94) w_ o91 2 ∧ (l94).length ≤ c93 ∧ num_Out_Raw_l2 p1 j_ l94 x97 = some r) (k := K) ⟨oi, Ap0_0, cp0_0, p0.b, 0, (by exact Kn.pick (ks := [0, 7, 8, 9]) hk rfl), hs, f900019, f900020, f900000, hcp0_0, H⟩ (by rintro _ _ ⟨_, _, _, _, _, _, _, _, _, _, _, H_⟩; exact absurd (show (none : Option T172) = some r from H_) (by simp)) ?_
  rintro k113 a w112 ⟨o91, A92, c93, l94, x97, hk, hs, f900019, f900020, f95, hc96, H⟩
  rw [num_Out_Raw_l2] at H
  obtain ⟨lp114, hlp115⟩ : ∃ lp_, lp_ = num_Out_Raw_l2 p1 k113 := ⟨_, rfl⟩
  rw [← hlp115] at H
  refine x_seq ?_
  refine wpIn_region_lit ?_
  refine x_run tab hk (k := 1) (lv := []) (ks := [0, 7, 8, 9, 10]) (e' := [(0, .pointer (some ⟨bp0, 0, none⟩)), (7, .slice Ap1 (p1).length cp1), (8, .int .i64 ((p1).length : Int)), (9, .int .i64 x97), (10, .bool (decide (x97 < ((p1).length : Int))))]) rfl trivial fun a hk => ?_
  refine wpListIn_nil ?_
  refine then_n ?_
  refine x_seq ?_
  cases b116 : (decide (x97 < ((p1).length : Int)))
  · rw [b116] at hk H
    replace H := bifF H
    refine x_if hk (b := false) rfl ?_
    refine (show Code.wpIn _ _ _ _ _ _ _ from ?_)
    refine wpIn_exit ?_
    refine then_x ?_
    refine then_x ?_
    refine blk_x ?_
    refine then_n ?_
    exact ⟨o91, A92, c93, l94, (by exact Kn.pick (ks := [0]) hk rfl), hs, f95, f900019, hc96, H⟩
  · rw [b116] at hk H
    replace H := bifT H
    refine x_if hk (b := true) rfl ?_
    refine (show Code.wpIn _ _ _ _ _ _ _ from ?_)
    refine wpIn_skip ?_
    refine then_n ?_
    refine x_seq ?_
    refine wpIn_block ?_
    refine x_seq ?_
    refine wpIn_region_lit ?_
    obtain ⟨q117, H⟩ := ifS H
    obtain ⟨ad118, hAad118⟩ := RdC.addr f900020.now q117
    have hk_C := hk
    have f900019_C := f900019
    have f900020_C := f900020
    have f95_C := f95
    subst hAad118
    have hk := hk_C
    clear hk_C
    have f900019 := f900019_C
    clear f900019_C
    have f900020 := f900020_C
    clear f900020_C
    have f95 := f95_C
    clear f95_C
    refine x_run tab hk (k := 3) (lv := [.string (rdD (⟨#[]⟩ : ByteArray) p1 x97)]) (ks := [0, 6, 7, 8, 9]) (e' := [(0, .pointer (some ⟨bp0, 0, none⟩)), (6, .string (rdD (⟨#[]⟩ : ByteArray) p1 x97)), (7, .slice (some ad118) (p1).length cp1), (8, .int .i64 ((p1).length : Int)), (9, .int .i64 x97)]) rfl ⟨q117, (load1 tab rfl (RdC.at0 (E := encStr) (d := (⟨#[]⟩ : ByteArray)) (i := x97) f900020.now q117 rfl)), trivial⟩ fun a hk => ?_
    refine wpListIn_nil ?_
    refine then_n ?_
    refine wpIn_region_lit ?_
    refine x_run tab hk (k := 6) (lv := [.slice A92 (l94).length c93]) (ks := [0, 7, 8, 9, 13, 17, 18]) (e' := [(0, .pointer (some ⟨bp0, 0, none⟩)), (7, .slice (some ad118) (p1).length cp1), (8, .int .i64 ((p1).length : Int)), (9, .int .i64 x97), (13, .pointer (some ⟨bp0, 0, none⟩)), (17, .slice A92 (l94).length c93), (18, .string (rdD (⟨#[]⟩ : ByteArray) p1 x97))]) rfl ⟨(load1 tab rfl ((Bx.cell f900019.now 0).trans rfl)), trivial⟩ fun a hk => ?_
    refine x_op hk rfl ?_
    obtain ⟨q122, H⟩ := ifS H
    refine op_appendS (o := o91) (xs := l94) (y := (rdD (⟨#[]⟩ : ByteArray) p1 x97)) tab hk rfl rfl rfl rfl rfl f95 q122 fun A123 c124 w119 o120 st121 f125 hc126 => ?_
    replace f900019 := f900019.st st121 (by decide)
    replace f900020 := f900020.st st121 (by decide)
    replace hs := hs.locM st121 (by decide) hom
    have hk := hk.put 19 (.slice A123 ((l94 ++ numsOf (rdD (⟨#[]⟩ : ByteArray) p1 x97))).length c124) rfl
    refine x_run tab hk (k := 2) (lv := []) (ks := [0, 7, 8, 9, 19, 21]) (e' := [(0, .pointer (some ⟨bp0, 0, none⟩)), (7, .slice (some ad118) (p1).length cp1), (8, .int .i64 ((p1).length : Int)), (9, .int .i64 x97), (19, .slice A123 ((l94 ++ numsOf (rdD (⟨#[]⟩ : ByteArray) p1 x97))).length c124), (21, .pointer (some ⟨bp0, 0, none⟩))]) rfl trivial fun a hk => ?_
    refine x_op hk rfl ?_
    refine op_store tab hk (t := 106) (v := .slice A123 ((l94 ++ numsOf (rdD (⟨#[]⟩ : ByteArray) p1 x97))).length c124) (b := bp0) (k := 0) (cs' := [.slice A123 ((l94 ++ numsOf (rdD (⟨#[]⟩ : ByteArray) p1 x97))).length c124]) rfl rfl rfl rfl rfl rfl f900019 rfl rfl fun w127 o128 st129 f900019_ => ?_
    replace f125 := f125.st st129 (by decide)
    replace f900020 := f900020.st st129 (by decide)
    replace hs := hs.locM st129 (by decide) hom
    replace f900019 := f900019_
    refine wpListIn_nil ?_
    refine blk_n ?_
    refine then_n ?_
    refine wpIn_region_lit ?_
    refine x_run tab hk (k := 2) (lv := []) (ks := [0, 7, 8, 9]) (e' := [(0, .pointer (some ⟨bp0, 0, none⟩)), (7, .slice (some ad118) (p1).length cp1), (8, .int .i64 ((p1).length : Int)), (9, .int .i64 (IntKind.wrap .i64 (x97 + 1)))]) rfl trivial fun a hk => ?_
    refine wpListIn_nil ?_
    refine then_n ?_
    exact ⟨k113, Nat.le_refl _, o128, A123, c124, (l94 ++ numsOf (rdD (⟨#[]⟩ : ByteArray) p1 x97)), (IntKind.wrap .i64 (x97 + 1)), (by exact Kn.pick (ks := [0, 7, 8, 9]) hk rfl), hs, f900019, f900020, f125, hc126, (hlp115 ▸ H)⟩

/-! (*tidewrack/num.Out).Text -/
theorem num_Out_Text_calls (K : Nat) (bp0 : Nat) (Ap0_0 : Option Addr) (cp0_0 : Nat) (p0 : T172) (Ap1 : Option Addr) (cp1 : Nat) (p1 : List ByteArray) (w : World) (o : Nat → Nat) (Lp0 : Nat) (hp0 : Ft (Bx bp0 173 [.slice Ap0_0 (p0.b).length cp0_0]) w o Lp0) (Lp0_0 : Nat) (hp0_0 : Ft (Own (encInt .u8) 5 (.slice Ap0_0 (p0.b).length cp0_0) p0.b) w o Lp0_0) (hcp0_0 : (p0.b).length ≤ cp0_0) (Lp1 : Nat) (hp1 : Ft (RdC encStr Ap1 p1) w o Lp1) (hcp1 : (p1).length ≤ cp1) (hd0 : ([Lp0, Lp0_0] : List Nat).Nodup) (hd1 : Lp1 ∉ [Lp0, Lp0_0]) (r : T172) (H : num_Out_Text K p0 p1 = some r) :
    Calls Tryd.prog 99 #[.pointer (some ⟨bp0, 0, none⟩), .slice Ap1 (p1).length cp1] w (Ret fun v_ w' => ∃ o' : Nat → Nat, ∃ A0 : Option Addr, ∃ c0 : Nat, v_ = .pointer (some ⟨bp0, 0, none⟩) ∧ St [Lp0, Lp0_0] w o w' o' ∧ Ft (Bx bp0 173 [.slice A0 (r.b).length c0]) w' o' Lp0 ∧ Ft (Own (encInt .u8) 5 (.slice A0 (r.b).length c0) r.b) w' o' Lp0_0 ∧ (r.b).length ≤ c0) := by
  refine x_enter (vs := [.pointer (some ⟨bp0, 0, none⟩), .slice Ap1 (p1).length cp1]) Tryd.func99 rfl rfl rfl fun a hk => ?_
  obtain ⟨oi, hs0, h0, h1, hob, hoz, hoa⟩ := St.startM2 w o (m := 2) hd0 rfl
  have hs := hs0 [1, 2]
  have hom := lab_in hob (MM := [1, 2]) (by decide)
  have f900000 := h1 1 2 hp0_0 rfl rfl
  have f900019 := h1 0 1 hp0 rfl rfl
  have f900020 := h0 _ _ hd1 hp1
  clear h0 h1 hs0
  rw [num_Out_Text] at H
  refine x_seq ?_
  refine wpIn_region_lit ?_
  refine x_run tab hk (k := 1) (lv := []) (ks := [0, 1]) (e' := [(0, .pointer (some ⟨bp0, 0, none⟩)), (1, .slice Ap1 (p1).length cp1)]) rfl trivial fun a hk => ?_
  refine wpListIn_nil ?_
  refine then_n ?_
  refine x_mid (fun a_ w_ => ∃ o148 : Nat → Nat, ∃ A149 : Option Addr, ∃ c150 : Nat, ∃ l151 : List Int, Kn 23 a_ [(0, .pointer (some ⟨bp0, 0, none⟩))] ∧ St [1, 2] w oi w_ o148 ∧ Ft (Own (encInt .u8) 5 (.slice A149 (l151).length c150) l151) w_ o148 2 ∧ Ft (Bx bp0 173 [.slice A149 (l151).length c150]) w_ o148 1 ∧ (l151).length ≤ c150 ∧ num_Out_Text_j1 l151 = some r) ?_ ?_
  rotate_left
  · rintro a w154 ⟨o148, A149, c150, l151, hk, hs, f152, f900019, hc153, H⟩
    rw [num_Out_Text_j1] at H
    refine x_seq ?_
    refine wpIn_region_lit ?_
    refine x_run tab hk (k := 2) (lv := []) (ks := [4]) (e' := [(4, .pointer (some ⟨bp0, 0, none⟩))]) rfl trivial fun a hk => ?_
    refine wpListIn_nil ?_
    refine then_n ?_
    refine wpIn_ret ?_
    obtain rfl := Option.some.inj H
    exact x_retG hk (rs := [.tmp 4]) (vs := [.pointer (some ⟨bp0, 0, none⟩)]) rfl ⟨rfl, trivial⟩ ⟨cl w oi o [1, 2] (fun l_ => if l_ = 1 then Lp0 else if l_ = 2 then Lp0_0 else 0) o148, A149, c150, rfl, hs.closeM hoz (by decide) (fun l_ => if l_ = 1 then Lp0 else if l_ = 2 then Lp0_0 else 0), hs.closeM_ft (o := o) (ρ := fun l_ => if l_ = 1 then Lp0 else if l_ = 2 then Lp0_0 else 0) f900019 (lab_at hoa (i := 0) rfl) rfl, hs.closeM_ft (o := o) (ρ := fun l_ => if l_ = 1 then Lp0 else if l_ = 2 then Lp0_0 else 0) f152 (lab_at hoa (i := 1) rfl) rfl, hc153⟩
  refine x_seq ?_
  refine wpIn_region_lit ?_
  refine x_run tab hk (k := 3) (lv := []) (ks := [0, 7, 8, 9]) (e' := [(0, .pointer (some ⟨bp0, 0, none⟩)), (7, .slice Ap1 (p1).length cp1), (8, .int .i64 ((p1).length : Int)), (9, .int .i64 0)]) rfl trivial fun a hk => ?_
  refine wpListIn_nil ?_
  refine then_n ?_
  refine wpIn_block ?_
  refine x_loop (fun j_ a_ w_ => ∃ o199 : Nat → Nat, ∃ A200 : Option Addr, ∃ c201 : Nat, ∃ l202 : List Int, ∃ x205 : Int, Kn 23 a_ [(0, .pointer (some ⟨bp0, 0, none⟩)), (7, .slice Ap1 (p1).length cp1), (8, .int .i64 ((p1).length : Int)), (9, .int .i64 x205)] ∧ St [1, 2] w oi w_ o199 ∧ Ft (Own (encInt .u8) 5 (.slice A200 (l202).length c201) l202) w_ o199 2 ∧ Ft (Bx bp0 173 [.slice A200 (l202).length c201]) w_ o199 1 ∧ Ft (RdC encStr Ap1 p1) w_ o199 0 ∧ (l202).length ≤ c201 ∧ num_Out_Text_l2 K p1 j_ l202 x205 = some r) (k := K) ⟨oi, Ap0_0, cp0_0, p0.b, 0, (by exact Kn.pick (ks := [0, 7, 8, 9]) hk rfl), hs, f900000, f900019, f900020, hcp0_0, H⟩ (by rintro _ _ ⟨_, _, _, _, _, _, _, _, _, _, _, H_⟩; exact absurd (show (none : Option T172) = some r from H_) (by simp)) ?_
  rintro k248 a w247 ⟨o199, A200, c201, l202, x205, hk, hs, f203, f900019, f900020, hc204, H⟩
  rw [num_Out_Text_l2] at H
  obtain ⟨lp249, hlp250⟩ : ∃ lp_, lp_ = num_Out_Text_l2 K p1 k248 := ⟨_, rfl⟩
  rw [← hlp250] at H
  refine x_seq ?_
  refine wpIn_region_lit ?_
  refine x_run tab hk (k := 1) (lv := []) (ks := [0, 7, 8, 9, 10]) (e' := [(0, .pointer (some ⟨bp0, 0, none⟩)), (7, .slice Ap1 (p1).length cp1), (8, .int .i64 ((p1).length : Int)), (9, .int .i64 x205), (10, .bool (decide (x205 < ((p1).length : Int))))]) rfl trivial fun a hk => ?_
  refine wpListIn_nil ?_
  refine then_n ?_
  refine x_seq ?_
  cases b251 : (decide (x205 < ((p1).length : Int)))
  · rw [b251] at hk H
    replace H := bifF H
    refine x_if hk (b := false) rfl ?_
    refine (show Code.wpIn _ _ _ _ _ _ _ from ?_)
    refine wpIn_exit ?_
    refine then_x ?_
    refine then_x ?_
    refine blk_x ?_
    refine then_n ?_
    exact ⟨o199, A200, c201, l202, (by exact Kn.pick (ks := [0]) hk rfl), hs, f203, f900019, hc204, H⟩
  · rw [b251] at hk H
    replace H := bifT H
    refine x_if hk (b := true) rfl ?_
    refine (show Code.wpIn _ _ _ _ _ _ _ from ?_)
    refine wpIn_skip ?_
    refine then_n ?_
    refine x_seq ?_
    refine wpIn_block ?_
    refine x_seq ?_
    refine wpIn_region_lit ?_
    obtain ⟨q252, H⟩ := ifS H
    obtain ⟨ad253, hAad253⟩ := RdC.addr f900020.now q252
    have hk_C := hk
    have f203_C := f203
    have f900019_C := f900019
    have f900020_C := f900020
    subst hAad253
    have hk := hk_C
    clear hk_C
    have f203 := f203_C
    clear f203_C
    have f900019 := f900019_C
    clear f900019_C
    have f900020 := f900020_C
    clear f900020_C
    refine x_run tab hk (k := 3) (lv := [.string (rdD (⟨#[]⟩ : ByteArray) p1 x205)]) (ks := [0, 6, 7, 8, 9]) (e' := [(0, .pointer (some ⟨bp0, 0, none⟩)), (6, .string (rdD (⟨#[]⟩ : ByteArray) p1 x205)), (7, .slice (some ad253) (p1).length cp1), (8, .int .i64 ((p1).length : Int)), (9, .int .i64 x205)]) rfl ⟨q252, (load1 tab rfl (RdC.at0 (E := encStr) (d := (⟨#[]⟩ : ByteArray)) (i := x205) f900020.now q252 rfl)), trivial⟩ fun a hk => ?_
    refine wpListIn_nil ?_
    refine then_n ?_
    refine wpIn_region_lit ?_
    refine x_run tab hk (k := 3) (lv := []) (ks := [0, 6, 7, 8, 9, 13, 15]) (e' := [(0, .pointer (some ⟨bp0, 0, none⟩)), (6, .string (rdD (⟨#[]⟩ : ByteArray) p1 x205)), (7, .slice (some ad253) (p1).length cp1), (8, .int .i64 ((p1).length : Int)), (9, .int .i64 x205), (13, .pointer (some ⟨bp0, 0, none⟩)), (15, .int .i64 (((rdD (⟨#[]⟩ : ByteArray) p1 x205)).size : Int))]) rfl trivial fun a hk => ?_
    refine x_op hk rfl ?_
    refine op_slice (o := o199) tab hk (vs := [.int .i64 (((rdD (⟨#[]⟩ : ByteArray) p1 x205)).size : Int)]) (cs := [.int .i64 (((rdD (⟨#[]⟩ : ByteArray) p1 x205)).size : Int)]) rfl rfl rfl rfl rfl rfl rfl rfl rfl 13 fun bx257 w254 o255 st256 f258 => ?_
    replace f203 := f203.st st256 (by decide)
    replace f900019 := f900019.st st256 (by decide)
    replace f900020 := f900020.st st256 (by decide)
    replace hs := hs.locM st256 (by decide) hom
    have f259 : Ft (Own (encInt .i64) 3 (.slice (some ⟨bx257, 0, none⟩) (([(((rdD (⟨#[]⟩ : ByteArray) p1 x205)).size : Int)] : List Int)).length 1) ([(((rdD (⟨#[]⟩ : ByteArray) p1 x205)).size : Int)] : List Int)) w254 o255 13 := f258.imp fun _ h_ => Own.of_box h_ rfl (by simp)
    have hk := hk.put 16 (.slice (some ⟨bx257, 0, none⟩) (([(((rdD (⟨#[]⟩ : ByteArray) p1 x205)).size : Int)] : List Int)).length 1) rfl
    refine x_op hk rfl ?_
    obtain ⟨t263, hc264, H⟩ := bindS H
    refine op_call hk ent_98 (vs := [.pointer (some ⟨bp0, 0, none⟩), .slice (some ⟨bx257, 0, none⟩) (([(((rdD (⟨#[]⟩ : ByteArray) p1 x205)).size : Int)] : List Int)).length 1]) rfl (num_Out_Num_calls K bp0 A200 c201 (⟨l202⟩ : T172) (some ⟨bx257, 0, none⟩) 1 ([(((rdD (⟨#[]⟩ : ByteArray) p1 x205)).size : Int)] : List Int) _ o255 1 f900019 2 f203 hc204 _ (f259.imp fun _ h_ => Own.rd h_) (Nat.le_refl _) (by decide) (by decide)   _ hc264) ?_
    rintro _ w265 ⟨o266, A269, c270, rfl, st267, f268, f271, hc272⟩
    replace f259 := f259.st st267 (by decide)
    replace f900020 := f900020.st st267 (by decide)
    replace hs := hs.locM st267 (by decide) hom
    have hk := hk.put 17 (.pointer (some ⟨bp0, 0, none⟩)) rfl
    refine x_run tab hk (k := 1) (lv := []) (ks := [0, 7, 8, 9, 17, 18]) (e' := [(0, .pointer (some ⟨bp0, 0, none⟩)), (7, .slice (some ad253) (p1).length cp1), (8, .int .i64 ((p1).length : Int)), (9, .int .i64 x205), (17, .pointer (some ⟨bp0, 0, none⟩)), (18, .string (rdD (⟨#[]⟩ : ByteArray) p1 x205))]) rfl trivial fun a hk => ?_
    refine x_op hk rfl ?_
    refine op_slice (o := o266) tab hk (vs := [.string (rdD (⟨#[]⟩ : ByteArray) p1 x205)]) (cs := [.string (rdD (⟨#[]⟩ : ByteArray) p1 x205)]) rfl rfl rfl rfl rfl rfl rfl rfl rfl 14 fun bx276 w273 o274 st275 f277 => ?_
    replace f268 := f268.st st275 (by decide)
    replace f271 := f271.st st275 (by decide)
    replace f900020 := f900020.st st275 (by decide)
    replace hs := hs.locM st275 (by decide) hom
    have f278 : Ft (Own encStr 9 (.slice (some ⟨bx276, 0, none⟩) (([(rdD (⟨#[]⟩ : ByteArray) p1 x205)] : List ByteArray)).length 1) ([(rdD (⟨#[]⟩ : ByteArray) p1 x205)] : List ByteArray)) w273 o274 14 := f277.imp fun _ h_ => Own.of_box h_ rfl (by simp)
    have hk := hk.put 19 (.slice (some ⟨bx276, 0, none⟩) (([(rdD (⟨#[]⟩ : ByteArray) p1 x205)] : List ByteArray)).length 1) rfl
    refine x_op hk rfl ?_
    obtain ⟨t282, hc283, H⟩ := bindS H
    refine op_call hk ent_114 (vs := [.pointer (some ⟨bp0, 0, none⟩), .slice (some ⟨bx276, 0, none⟩) (([(rdD (⟨#[]⟩ : ByteArray) p1 x205)] : List ByteArray)).length 1]) rfl (num_Out_Raw_calls K bp0 A269 c270 t263 (some ⟨bx276, 0, none⟩) 1 ([(rdD (⟨#[]⟩ : ByteArray) p1 x205)] : List ByteArray) _ o274 1 f268 2 f271 hc272 _ (f278.imp fun _ h_ => Own.rd h_) (Nat.le_refl _) (by decide) (by decide)   _ hc283) ?_
    rintro _ w284 ⟨o285, A288, c289, rfl, st286, f287, f290, hc291⟩
    replace f278 := f278.st st286 (by decide)
    replace f900020 := f900020.st st286 (by decide)
    replace hs := hs.locM st286 (by decide) hom
    have hk := hk.put 20 (.pointer (some ⟨bp0, 0, none⟩)) rfl
    refine wpListIn_nil ?_
    refine blk_n ?_
    refine then_n ?_
    refine wpIn_region_lit ?_
    refine x_run tab hk (k := 2) (lv := []) (ks := [0, 7, 8, 9]) (e' := [(0, .pointer (some ⟨bp0, 0, none⟩)), (7, .slice (some ad253) (p1).length cp1), (8, .int .i64 ((p1).length : Int)), (9, .int .i64 (IntKind.wrap .i64 (x205 + 1)))]) rfl trivial fun a hk => ?_
    refine wpListIn_nil ?_
    refine then_n ?_
    exact ⟨k248, Nat.le_refl _, o285, A288, c289, t282.b, (IntKind.wrap .i64 (x205 + 1)), (by exact Kn.pick (ks := [0, 7, 8, 9]) hk rfl), hs, f290, f287, f900020, hc291, (hlp250 ▸ H)⟩

/-! (*tidewrack/num.Out).Bytes -/
theorem num_Out_Bytes_calls (bp0 : Nat) (Ap0_0 : Option Addr) (cp0_0 : Nat) (p0 : T172) (w : World) (o : Nat → Nat) (Lp0 : Nat) (hp0 : Ft (Bx bp0 173 [.slice Ap0_0 (p0.b).length cp0_0]) w o Lp0) (Lp0_0 : Nat) (hp0_0 : Ft (Own (encInt .u8) 5 (.slice Ap0_0 (p0.b).length cp0_0) p0.b) w o Lp0_0) (hcp0_0 : (p0.b).length ≤ cp0_0) (hd0 : ([Lp0, Lp0_0] : List Nat).Nodup) (r : ByteArray × T172) (H : num_Out_Bytes p0 = some r) :
    Calls Tryd.prog 100 #[.pointer (some ⟨bp0, 0, none⟩)] w (Ret fun v_ w' => ∃ o' : Nat → Nat, ∃ A0 : Option Addr, ∃ c0 : Nat, v_ = .string r.1 ∧ St [Lp0, Lp0_0] w o w' o' ∧ Ft (Bx bp0 173 [.slice A0 (r.2.b).length c0]) w' o' Lp0 ∧ Ft (Own (encInt .u8) 5 (.slice A0 (r.2.b).length c0) r.2.b) w' o' Lp0_0 ∧ (r.2.b).length ≤ c0) := by
  refine x_enter (vs := [.pointer (some ⟨bp0, 0, none⟩)]) Tryd.func100 rfl rfl rfl fun a hk => ?_
  obtain ⟨oi, hs0, h0, h1, hob, hoz, hoa⟩ := St.startM2 w o (m := 2) hd0 rfl
  have hs := hs0 [1, 2]
  have hom := lab_in hob (MM := [1, 2]) (by decide)
  have f900000 := h1 1 2 hp0_0 rfl rfl
  have f900019 := h1 0 1 hp0 rfl rfl
  clear h0 h1 hs0
  rw [num_Out_Bytes] at H
  refine x_seq ?_
  refine wpIn_region_lit ?_
  refine x_run tab hk (k := 1) (lv := []) (ks := [0]) (e' := [(0, .pointer (some ⟨bp0, 0, none⟩))]) rfl trivial fun a hk => ?_
  refine wpListIn_nil ?_
  refine then_n ?_
  refine x_seq ?_
  refine wpIn_region_lit ?_
  refine x_run tab hk (k := 6) (lv := [.slice Ap0_0 (p0.b).length cp0_0, .string (strOfNums p0.b)]) (ks := [2]) (e' := [(2, .string (strOfNums p0.b))]) rfl ⟨(load1 tab rfl ((Bx.cell f900019.now 0).trans rfl)), (ask_str tab rfl rfl rfl rfl (Own.rd f900000.now) (Own.plain f900000.now _ _ _ rfl)), trivial⟩ fun a hk => ?_
  refine wpListIn_nil ?_
  refine then_n ?_
  refine wpIn_ret ?_
  obtain rfl := Option.some.inj H
  exact x_retG hk (rs := [.tmp 2]) (vs := [.string (strOfNums p0.b)]) rfl ⟨rfl, trivial⟩ ⟨cl w oi o [1, 2] (fun l_ => if l_ = 1 then Lp0 else if l_ = 2 then Lp0_0 else 0) oi, Ap0_0, cp0_0, rfl, hs.closeM hoz (by decide) (fun l_ => if l_ = 1 then Lp0 else if l_ = 2 then Lp0_0 else 0), hs.closeM_ft (o := o) (ρ := fun l_ => if l_ = 1 then Lp0 else if l_ = 2 then Lp0_0 else 0) f900019 (lab_at hoa (i := 0) rfl) rfl, hs.closeM_ft (o := o) (ρ := fun l_ => if l_ = 1 then Lp0 else if l_ = 2 then Lp0_0 else 0) f900000 (lab_at hoa (i := 1) rfl) rfl, hcp0_0⟩

/-! tidewrack/sum.Seal -/
theorem sum_Seal_calls (K : Nat) (p0 : ByteArray) (w : World) (o : Nat → Nat) (Lg2 : Nat) (hg2 : Ft (RdC (encInt .u32) (some ⟨2, 0, none⟩) glob2) w o Lg2)   (r : ByteArray) (H : sum_Seal K p0 = some r) :
    Calls Tryd.prog 97 #[.string p0] w (Ret fun v_ w' => ∃ o' : Nat → Nat, v_ = .string r ∧ St [] w o w' o') := by
  refine x_enter (vs := [.string p0]) Tryd.func97 rfl rfl rfl fun a hk => ?_
  obtain ⟨o0, hs, h0⟩ := St.start w o
  have fg2 := h0 _ _ hg2
  clear h0
  rw [sum_Seal] at H
  refine x_seq ?_
  refine wpIn_region_lit ?_
  refine x_run tab hk (k := 1) (lv := []) (ks := [0]) (e' := [(0, .string p0)]) rfl trivial fun a hk => ?_
  refine wpListIn_nil ?_
  refine then_n ?_
  refine x_seq ?_
  refine wpIn_region_lit ?_
  refine x_run tab hk (k := 2) (lv := []) (ks := [3, 4]) (e' := [(3, .string p0), (4, .string p0)]) rfl trivial fun a hk => ?_
  refine x_op hk rfl ?_
  refine op_slice (o := o0) tab hk (vs := [.string p0]) (cs := [.string p0]) rfl rfl rfl rfl rfl rfl rfl rfl rfl 1 fun bx4 w1 o2 st3 f5 => ?_
  replace fg2 := fg2.st st3 (by decide)
  replace hs := hs.loc0 st3 (by decide)
  have f6 : Ft (Own encStr 9 (.slice (some ⟨bx4, 0, none⟩) (([p0] : List ByteArray)).length 1) ([p0] : List ByteArray)) w1 o2 1 := f5.imp fun _ h_ => Own.of_box h_ rfl (by simp)
  have hk := hk.put 5 (.slice (some ⟨bx4, 0, none⟩) (([p0] : List ByteArray)).length 1) rfl
  refine x_op hk rfl ?_
  obtain ⟨t10, hc11, H⟩ := bindS H
  refine op_call hk ent_92 (vs := [.slice (some ⟨bx4, 0, none⟩) (([p0] : List ByteArray)).length 1]) rfl (sum_Of_calls K (some ⟨bx4, 0, none⟩) 1 ([p0] : List ByteArray) _ o2 0 fg2 _ (f6.imp fun _ h_ => Own.rd h_) (Nat.le_refl _)   _ hc11) ?_
  rintro _ w12 ⟨o13, rfl, st14⟩
  replace f6 := f6.st st14 (by decide)
  replace fg2 := fg2.st st14 (by decide)
  replace hs := hs.loc0 st14 (by decide)
  have hk := hk.put 6 (.int .u32 t10) rfl
  refine x_op hk rfl ?_
  obtain ⟨t18, hc19, H⟩ := bindS H
  refine op_call hk ent_91 (vs := [.int .u32 t10]) rfl (sum_tail_calls t10 _ o13    _ hc19) ?_
  rintro _ w20 ⟨o21, rfl, st22⟩
  replace f6 := f6.st st22 (by decide)
  replace fg2 := fg2.st st22 (by decide)
  replace hs := hs.loc0 st22 (by decide)
  have hk := hk.put 7 (.string t18) rfl
  obtain ⟨q23, H⟩ := ifS H
  refine x_run tab hk (k := 2) (lv := []) (ks := [2]) (e' := [(2, .string (p0 ++ t18))]) rfl ⟨q23, trivial⟩ fun a hk => ?_
  refine wpListIn_nil ?_
  refine then_n ?_
  refine wpIn_ret ?_
  obtain rfl := Option.some.inj H
  exact x_retG hk (rs := [.tmp 2]) (vs := [.string (p0 ++ t18)]) rfl ⟨rfl, trivial⟩ ⟨fun b_ => if b_ < w.heap.size then o b_ else (fun _ => 0) (o21 b_), rfl, hs.close0 o (fun _ => 0)⟩

/-! (tidewrack/gram.Gram).bytes -/
theorem gram_Gram_bytes_calls (K : Nat) (Ap0_0 : Option Addr) (cp0_0 : Nat) (p0 : T76) (w : World) (o : Nat → Nat) (Lg2 : Nat) (hg2 : Ft (RdC (encInt .u32) (some ⟨2, 0, none⟩) glob2) w o Lg2) (Lp0_0 : Nat) (hp0_0 : Ft (RdC (encInt .i64) Ap0_0 p0.Nums) w o Lp0_0) (hcp0_0 : (p0.Nums).length ≤ cp0_0)  (r : ByteArray) (H : gram_Gram_bytes K p0 = some r) :
    Calls Tryd.prog 66 #[.agg #[.int .i64 p0.Epoch, .int .i64 p0.Kind, .slice Ap0_0 (p0.Nums).length cp0_0, .string p0.Data]] w (Ret fun v_ w' => ∃ o' : Nat → Nat, v_ = .string r ∧ St [] w o w' o') := by
  refine x_enter (vs := [.agg #[.int .i64 p0.Epoch, .int .i64 p0.Kind, .slice Ap0_0 (p0.Nums).length cp0_0, .string p0.Data]]) Tryd.func66 rfl rfl rfl fun a hk => ?_
  obtain ⟨o0, hs, h0⟩ := St.start w o
  have fg2 := h0 _ _ hg2
  have f900000 := h0 _ _ hp0_0
  clear h0
  rw [gram_Gram_bytes] at H
  refine x_seq ?_
  refine wpIn_region_lit ?_
  refine x_op hk rfl ?_
  refine op_box (o := o0) (t := 77) (v := .agg #[.int .i64 p0.Epoch, .int .i64 p0.Kind, .slice Ap0_0 (p0.Nums).length cp0_0, .string p0.Data]) (cs := [.int .i64 p0.Epoch, .int .i64 p0.Kind, .slice Ap0_0 (p0.Nums).length cp0_0, .string p0.Data]) hk rfl rfl 1 fun bx4 w1 o2 st3 f5 => ?_
  replace f900000 := f900000.st st3 (by decide)
  replace fg2 := fg2.st st3 (by decide)
  replace hs := hs.loc0 st3 (by decide)
  have hk := hk.put 1 (.pointer (some ⟨bx4, 0, none⟩)) rfl
  refine x_run tab hk (k := 1) (lv := []) (ks := [1]) (e' := [(1, .pointer (some ⟨bx4, 0, none⟩))]) rfl trivial fun a hk => ?_
  refine wpListIn_nil ?_
  refine then_n ?_
  refine x_seq ?_
  refine wpIn_region_lit ?_
  refine x_op hk rfl ?_
  refine op_alloc (o := o2) tab (t := 173) (cs := [.slice none 0 0]) rfl rfl 2 fun bx9 w6 o7 st8 f10 => ?_
  replace f5 := f5.st st8 (by decide)
  replace f900000 := f900000.st st8 (by decide)
  replace fg2 := fg2.st st8 (by decide)
  replace hs := hs.loc0 st8 (by decide)
  have hk := hk.put 3 (.pointer (some ⟨bx9, 0, none⟩)) rfl
  refine wpListIn_nil ?_
  refine then_n ?_
  refine x_seq ?_
  refine x_cut (fun a_ w_ => ∃ o797 : Nat → Nat, ∃ x798 : ByteArray, Kn 22 a_ [(2, .string x798)] ∧ St [] w (fun _ => 0) w_ o797 ∧ Ft (RdC (encInt .u32) (some ⟨2, 0, none⟩) glob2) w_ o797 0 ∧ gram_Gram_bytes_j1 x798 = some r) ?_ ?_
  rotate_left
  · rintro a w799 ⟨o797, x798, hk, hs, fg2, H⟩
    rw [gram_Gram_bytes_j1] at H
    refine then_n ?_
    refine wpIn_ret ?_
    obtain rfl := Option.some.inj H
    exact x_retG hk (rs := [.tmp 2]) (vs := [.string x798]) rfl ⟨rfl, trivial⟩ ⟨fun b_ => if b_ < w.heap.size then o b_ else (fun _ => 0) (o797 b_), rfl, hs.close0 o (fun _ => 0)⟩
  obtain ⟨t881, hc882, H⟩ := bindS H
  obtain ⟨t894, hc895, H⟩ := bindS H
  obtain ⟨t913, hc914, H⟩ := bindS H
  obtain ⟨t926, hc927, H⟩ := bindS H
  obtain ⟨t939, hc940, H⟩ := bindS H
  refine xd_begin (o := o7) (fun W_ => (Bx bx4 77 [.int .i64 p0.Epoch, .int .i64 p0.Kind, .slice Ap0_0 (p0.Nums).length cp0_0, .string p0.Data]) W_ ∧ True) mixed rfl rfl fun w1169 st1170 => ?_
  replace f10 := f10.st st1170 (by decide)
  replace f5 := f5.st st1170 (by decide)
  replace f900000 := f900000.st st1170 (by decide)
  replace fg2 := fg2.st st1170 (by decide)
  replace hs := hs.loc0 st1170 (by decide)
  refine xd_abs fun G hG => ?_
  have N1246 : ∀ (a_ : Act) (w_ : World), (∃ o1240 : Nat → Nat, ∃ A1241 : Option Addr, ∃ c1242 : Nat, Kn 22 a_ [(15, .pointer (some ⟨bx9, 0, none⟩)), (17, .string p0.Data)] ∧ St [] w (fun _ => 0) w_ o1240 ∧ Ft (Bx bx9 173 [.slice A1241 (t894.b).length c1242]) w_ o1240 75 ∧ Ft (Own (encInt .u8) 5 (.slice A1241 (t894.b).length c1242) t894.b) w_ o1240 74 ∧ Ft (Bx bx4 77 [.int .i64 p0.Epoch, .int .i64 p0.Kind, .slice Ap0_0 (p0.Nums).length cp0_0, .string p0.Data]) w_ o1240 73 ∧ Ft (RdC (encInt .i64) Ap0_0 p0.Nums) w_ o1240 0 ∧ Ft (RdC (encInt .u32) (some ⟨2, 0, none⟩) glob2) w_ o1240 0 ∧ (t894.b).length ≤ c1242) → G 5 #[true, true, true, true, true, true, true, true, true, true, true, true, true, true, false, false, false, false, false] a_ w_ := by
    rintro a w1245 ⟨o1240, A1241, c1242, hk, hs, f1226, f1243, f5, f900000, fg2, hc1244⟩
    refine xd_of hG ?_
    refine xd_op hk (i := 14) (by kernel_rfl) rfl rfl ?_
    refine op_slice (o := o1240) tab hk (vs := [.string p0.Data]) (cs := [.string p0.Data]) rfl rfl rfl rfl rfl rfl rfl rfl rfl 76 fun bx1250 w1247 o1248 st1249 f1251 => ?_
    replace f1226 := f1226.st st1249 (by decide)
    replace f1243 := f1243.st st1249 (by decide)
    replace f5 := f5.st st1249 (by decide)
    replace f900000 := f900000.st st1249 (by decide)
    replace fg2 := fg2.st st1249 (by decide)
    replace hs := hs.loc0 st1249 (by decide)
    have f1252 : Ft (Own encStr 9 (.slice (some ⟨bx1250, 0, none⟩) (([p0.Data] : List ByteArray)).length 1) ([p0.Data] : List ByteArray)) w1247 o1248 76 := f1251.imp fun _ h_ => Own.of_box h_ rfl (by simp)
    have hk := hk.put 18 (.slice (some ⟨bx1250, 0, none⟩) (([p0.Data] : List ByteArray)).length 1) rfl
    refine ⟨.inr ⟨f5.now, trivial⟩, ?_⟩
    refine xd_op hk (i := 15) (by kernel_rfl) rfl rfl ?_
    refine op_call hk ent_99 (vs := [.pointer (some ⟨bx9, 0, none⟩), .slice (some ⟨bx1250, 0, none⟩) (([p0.Data] : List ByteArray)).length 1]) rfl (num_Out_Text_calls K bx9 A1241 c1242 t894 (some ⟨bx1250, 0, none⟩) 1 ([p0.Data] : List ByteArray) _ o1248 75 f1226 74 f1243 hc1244 _ (f1252.imp fun _ h_ => Own.rd h_) (Nat.le_refl _) (by decide) (by decide)   _ hc914) ?_
    rintro _ w1256 ⟨o1257, A1260, c1261, rfl, st1258, f1259, f1262, hc1263⟩
    replace f1252 := f1252.st st1258 (by decide)
    replace f5 := f5.st st1258 (by decide)
    replace f900000 := f900000.st st1258 (by decide)
    replace fg2 := fg2.st st1258 (by decide)
    replace hs := hs.loc0 st1258 (by decide)
    have hk := hk.put 19 (.pointer (some ⟨bx9, 0, none⟩)) rfl
    refine ⟨.inr ⟨f5.now, trivial⟩, ?_⟩
    refine xd_op hk (i := 16) (by kernel_rfl) rfl rfl ?_
    refine op_call hk ent_100 (vs := [.pointer (some ⟨bx9, 0, none⟩)]) rfl (num_Out_Bytes_calls bx9 A1260 c1261 t913 _ o1257 75 f1259 74 f1262 hc1263 (by decide)   _ hc927) ?_
    rintro _ w1267 ⟨o1268, A1271, c1272, rfl, st1269, f1270, f1273, hc1274⟩
    replace f1252 := f1252.st st1269 (by decide)
    replace f5 := f5.st st1269 (by decide)
    replace f900000 := f900000.st st1269 (by decide)
    replace fg2 := fg2.st st1269 (by decide)
    replace hs := hs.loc0 st1269 (by decide)
    have hk := hk.put 20 (.string t926.1) rfl
    refine ⟨.inr ⟨f5.now, trivial⟩, ?_⟩
    refine xd_op hk (i := 17) (by kernel_rfl) rfl rfl ?_
    refine op_call hk ent_97 (vs := [.string t926.1]) rfl (sum_Seal_calls K t926.1 _ o1268 0 fg2   _ hc940) ?_
    rintro _ w1278 ⟨o1279, rfl, st1280⟩
    replace f1252 := f1252.st st1280 (by decide)
    replace f1270 := f1270.st st1280 (by decide)
    replace f1273 := f1273.st st1280 (by decide)
    replace f5 := f5.st st1280 (by decide)
    replace f900000 := f900000.st st1280 (by decide)
    replace fg2 := fg2.st st1280 (by decide)
    replace hs := hs.loc0 st1280 (by decide)
    have hk := hk.put 21 (.string t939) rfl
    refine ⟨.inr ⟨f5.now, trivial⟩, ?_⟩
    refine xd_take tab hk (k := 0) (is := [18]) (ls' := #[true, true, true, true, true, true, true, true, true, true, true, true, true, true, true, true, true, true, true]) (lv := []) (ks := [2]) (e' := [(2, .string t939)]) (by kernel_rfl) rfl rfl (by kernel_rfl) (np_then (np_then np_body)) ⟨f5.now, trivial⟩ (fun W_ hS => trivial) fun a hk => ?_
    refine xd_done (by kernel_rfl) ?_
    refine then_n ?_
    exact ⟨o1279, t939, (by exact Kn.pick (ks := [2]) hk rfl), hs, fg2, H⟩
  have N1310 : ∀ (a_ : Act) (w_ : World), (∃ o1300 : Nat → Nat, ∃ A1301 : Option Addr, ∃ c1302 : Nat, ∃ A1305 : Option Addr, ∃ c1306 : Nat, Kn 22 a_ [(12, .pointer (some ⟨bx9, 0, none⟩)), (14, .slice Ap0_0 (p0.Nums).length cp0_0), (18, .slice A1305 (([p0.Data] : List ByteArray)).length c1306)] ∧ St [] w (fun _ => 0) w_ o1300 ∧ Ft (Bx bx9 173 [.slice A1301 (t881.b).length c1302]) w_ o1300 80 ∧ Ft (Own (encInt .u8) 5 (.slice A1301 (t881.b).length c1302) t881.b) w_ o1300 79 ∧ Ft (Own encStr 9 (.slice A1305 (([p0.Data] : List ByteArray)).length c1306) ([p0.Data] : List ByteArray)) w_ o1300 81 ∧ Ft (Bx bx4 77 [.int .i64 p0.Epoch, .int .i64 p0.Kind, .slice Ap0_0 (p0.Nums).length cp0_0, .string p0.Data]) w_ o1300 78 ∧ Ft (RdC (encInt .i64) Ap0_0 p0.Nums) w_ o1300 0 ∧ Ft (RdC (encInt .u32) (some ⟨2, 0, none⟩) glob2) w_ o1300 0 ∧ (t881.b).length ≤ c1302 ∧ (([p0.Data] : List ByteArray)).length ≤ c1306) → G 5 #[true, true, true, true, true, true, true, true, true, true, true, false, true, true, true, false, false, false, false] a_ w_ := by
    rintro a w1309 ⟨o1300, A1301, c1302, A1305, c1306, hk, hs, f1199, f1303, f1307, f5, f900000, fg2, hc1304, hc1308⟩
    refine xd_of hG ?_
    refine xd_op hk (i := 11) (by kernel_rfl) rfl rfl ?_
    refine op_call hk ent_98 (vs := [.pointer (some ⟨bx9, 0, none⟩), .slice Ap0_0 (p0.Nums).length cp0_0]) rfl (num_Out_Num_calls K bx9 A1301 c1302 t881 Ap0_0 cp0_0 p0.Nums _ o1300 80 f1199 79 f1303 hc1304 _ f900000 hcp0_0 (by decide) (by decide)   _ hc895) ?_
    rintro _ w1314 ⟨o1315, A1318, c1319, rfl, st1316, f1317, f1320, hc1321⟩
    replace f1307 := f1307.st st1316 (by decide)
    replace f5 := f5.st st1316 (by decide)
    replace f900000 := f900000.st st1316 (by decide)
    replace fg2 := fg2.st st1316 (by decide)
    replace hs := hs.loc0 st1316 (by decide)
    have hk := hk.put 15 (.pointer (some ⟨bx9, 0, none⟩)) rfl
    refine ⟨.inr ⟨f5.now, trivial⟩, ?_⟩
    refine xd_op hk (i := 15) (by kernel_rfl) rfl rfl ?_
    refine op_call hk ent_99 (vs := [.pointer (some ⟨bx9, 0, none⟩), .slice A1305 (([p0.Data] : List ByteArray)).length c1306]) rfl (num_Out_Text_calls K bx9 A1318 c1319 t894 A1305 c1306 ([p0.Data] : List ByteArray) _ o1315 80 f1317 79 f1320 hc1321 _ (f1307.imp fun _ h_ => Own.rd h_) hc1308 (by decide) (by decide)   _ hc914) ?_
    rintro _ w1325 ⟨o1326, A1329, c1330, rfl, st1327, f1328, f1331, hc1332⟩
    replace f1307 := f1307.st st1327 (by decide)
    replace f5 := f5.st st1327 (by decide)
    replace f900000 := f900000.st st1327 (by decide)
    replace fg2 := fg2.st st1327 (by decide)
    replace hs := hs.loc0 st1327 (by decide)
    have hk := hk.put 19 (.pointer (some ⟨bx9, 0, none⟩)) rfl
    refine ⟨.inr ⟨f5.now, trivial⟩, ?_⟩
    refine xd_op hk (i := 16) (by kernel_rfl) rfl rfl ?_
    refine op_call hk ent_100 (vs := [.pointer (some ⟨bx9, 0, none⟩)]) rfl (num_Out_Bytes_calls bx9 A1329 c1330 t913 _ o1326 80 f1328 79 f1331 hc1332 (by decide)   _ hc927) ?_
    rintro _ w1336 ⟨o1337, A1340, c1341, rfl, st1338, f1339, f1342, hc1343⟩
    replace f1307 := f1307.st st1338 (by decide)
    replace f5 := f5.st st1338 (by decide)
    replace f900000 := f900000.st st1338 (by decide)
    replace fg2 := fg2.st st1338 (by decide)
    replace hs := hs.loc0 st1338 (by decide)
    have hk := hk.put 20 (.string t926.1) rfl
    refine ⟨.inr ⟨f5.now, trivial⟩, ?_⟩
    refine xd_op hk (i := 17) (by kernel_rfl) rfl rfl ?_
    refine op_call hk ent_97 (vs := [.string t926.1]) rfl (sum_Seal_calls K t926.1 _ o1337 0 fg2   _ hc940) ?_
    rintro _ w1347 ⟨o1348, rfl, st1349⟩
    replace f1307 := f1307.st st1349 (by decide)
    replace f1339 := f1339.st st1349 (by decide)
    replace f1342 := f1342.st st1349 (by decide)
    replace f5 := f5.st st1349 (by decide)
    replace f900000 := f900000.st st1349 (by decide)
    replace fg2 := fg2.st st1349 (by decide)
    replace hs := hs.loc0 st1349 (by decide)
    have hk := hk.put 21 (.string t939) rfl
    refine ⟨.inr ⟨f5.now, trivial⟩, ?_⟩
    refine xd_take tab hk (k := 0) (is := [18]) (ls' := #[true, true, true, true, true, true, true, true, true, true, true, true, true, true, true, true, true, true, true]) (lv := []) (ks := [2]) (e' := [(2, .string t939)]) (by kernel_rfl) rfl rfl (by kernel_rfl) (np_then (np_then np_body)) ⟨f5.now, trivial⟩ (fun W_ hS => trivial) fun a hk => ?_
    refine xd_done (by kernel_rfl) ?_
    refine then_n ?_
    exact ⟨o1348, t939, (by exact Kn.pick (ks := [2]) hk rfl), hs, fg2, H⟩
  have N1219 : ∀ (a_ : Act) (w_ : World), (∃ o1213 : Nat → Nat, ∃ A1214 : Option Addr, ∃ c1215 : Nat, Kn 22 a_ [(12, .pointer (some ⟨bx9, 0, none⟩)), (14, .slice Ap0_0 (p0.Nums).length cp0_0), (17, .string p0.Data)] ∧ St [] w (fun _ => 0) w_ o1213 ∧ Ft (Bx bx9 173 [.slice A1214 (t881.b).length c1215]) w_ o1213 72 ∧ Ft (Own (encInt .u8) 5 (.slice A1214 (t881.b).length c1215) t881.b) w_ o1213 71 ∧ Ft (Bx bx4 77 [.int .i64 p0.Epoch, .int .i64 p0.Kind, .slice Ap0_0 (p0.Nums).length cp0_0, .string p0.Data]) w_ o1213 70 ∧ Ft (RdC (encInt .i64) Ap0_0 p0.Nums) w_ o1213 0 ∧ Ft (RdC (encInt .u32) (some ⟨2, 0, none⟩) glob2) w_ o1213 0 ∧ (t881.b).length ≤ c1215) → G 6 #[true, true, true, true, true, true, true, true, true, true, true, false, true, true, false, false, false, false, false] a_ w_ := by
    rintro a w1218 ⟨o1213, A1214, c1215, hk, hs, f1199, f1216, f5, f900000, fg2, hc1217⟩
    refine xd_of hG ?_
    refine xd_each [11, 14] (by kernel_rfl) rfl ⟨?_, ?_, trivial⟩
    · refine xd_one hk rfl rfl ?_
      refine op_call hk ent_98 (vs := [.pointer (some ⟨bx9, 0, none⟩), .slice Ap0_0 (p0.Nums).length cp0_0]) rfl (num_Out_Num_calls K bx9 A1214 c1215 t881 Ap0_0 cp0_0 p0.Nums _ o1213 72 f1199 71 f1216 hc1217 _ f900000 hcp0_0 (by decide) (by decide)   _ hc895) ?_
      rintro _ w1223 ⟨o1224, A1227, c1228, rfl, st1225, f1226, f1229, hc1230⟩
      replace f5 := f5.st st1225 (by decide)
      replace f900000 := f900000.st st1225 (by decide)
      replace fg2 := fg2.st st1225 (by decide)
      replace hs := hs.loc0 st1225 (by decide)
      have hk := hk.put 15 (.pointer (some ⟨bx9, 0, none⟩)) rfl
      refine ⟨.inr ⟨f5.now, trivial⟩, ?_⟩
      exact xd_to hG rfl (N1246 _ _ ⟨(fun b_ => (fun l_ => if l_ = 70 then 73 else if l_ = 71 then 74 else if l_ = 72 then 75 else l_) (o1224 b_)), A1227, c1228, (by exact Kn.pick (ks := [15, 17]) hk rfl), (hs.relab0 (fun l_ => if l_ = 70 then 73 else if l_ = 71 then 74 else if l_ = 72 then 75 else l_) rfl), (f1226.relab (fun l_ => if l_ = 70 then 73 else if l_ = 71 then 74 else if l_ = 72 then 75 else l_) rfl), (f1229.relab (fun l_ => if l_ = 70 then 73 else if l_ = 71 then 74 else if l_ = 72 then 75 else l_) rfl), (f5.relab (fun l_ => if l_ = 70 then 73 else if l_ = 71 then 74 else if l_ = 72 then 75 else l_) rfl), (f900000.relab (fun l_ => if l_ = 70 then 73 else if l_ = 71 then 74 else if l_ = 72 then 75 else l_) rfl), (fg2.relab (fun l_ => if l_ = 70 then 73 else if l_ = 71 then 74 else if l_ = 72 then 75 else l_) rfl), hc1230⟩)
    · refine xd_one hk rfl rfl ?_
      refine op_slice (o := o1213) tab hk (vs := [.string p0.Data]) (cs := [.string p0.Data]) rfl rfl rfl rfl rfl rfl rfl rfl rfl 77 fun bx1284 w1281 o1282 st1283 f1285 => ?_
      replace f1199 := f1199.st st1283 (by decide)
      replace f1216 := f1216.st st1283 (by decide)
      replace f5 := f5.st st1283 (by decide)
      replace f900000 := f900000.st st1283 (by decide)
      replace fg2 := fg2.st st1283 (by decide)
      replace hs := hs.loc0 st1283 (by decide)
      have f1286 : Ft (Own encStr 9 (.slice (some ⟨bx1284, 0, none⟩) (([p0.Data] : List ByteArray)).length 1) ([p0.Data] : List ByteArray)) w1281 o1282 77 := f1285.imp fun _ h_ => Own.of_box h_ rfl (by simp)
      have hk := hk.put 18 (.slice (some ⟨bx1284, 0, none⟩) (([p0.Data] : List ByteArray)).length 1) rfl
      refine ⟨.inr ⟨f5.now, trivial⟩, ?_⟩
      exact xd_to hG rfl (N1310 _ _ ⟨(fun b_ => (fun l_ => if l_ = 70 then 78 else if l_ = 71 then 79 else if l_ = 72 then 80 else if l_ = 77 then 81 else l_) (o1282 b_)), A1214, c1215, (some ⟨bx1284, 0, none⟩), 1, (by exact Kn.pick (ks := [12, 14, 18]) hk rfl), (hs.relab0 (fun l_ => if l_ = 70 then 78 else if l_ = 71 then 79 else if l_ = 72 then 80 else if l_ = 77 then 81 else l_) rfl), (f1199.relab (fun l_ => if l_ = 70 then 78 else if l_ = 71 then 79 else if l_ = 72 then 80 else if l_ = 77 then 81 else l_) rfl), (f1216.relab (fun l_ => if l_ = 70 then 78 else if l_ = 71 then 79 else if l_ = 72 then 80 else if l_ = 77 then 81 else l_) rfl), (f1286.relab (fun l_ => if l_ = 70 then 78 else if l_ = 71 then 79 else if l_ = 72 then 80 else if l_ = 77 then 81 else l_) rfl), (f5.relab (fun l_ => if l_ = 70 then 78 else if l_ = 71 then 79 else if l_ = 72 then 80 else if l_ = 77 then 81 else l_) rfl), (f900000.relab (fun l_ => if l_ = 70 then 78 else if l_ = 71 then 79 else if l_ = 72 then 80 else if l_ = 77 then 81 else l_) rfl), (fg2.relab (fun l_ => if l_ = 70 then 78 else if l_ = 71 then 79 else if l_ = 72 then 80 else if l_ = 77 then 81 else l_) rfl), hc1217, (Nat.le_refl _)⟩)
  have N1379 : ∀ (a_ : Act) (w_ : World), (∃ o1369 : Nat → Nat, ∃ A1370 : Option Addr, ∃ c1371 : Nat, ∃ A1374 : Option Addr, ∃ c1375 : Nat, Kn 22 a_ [(3, .pointer (some ⟨bx9, 0, none⟩)), (11, .slice A1370 (([p0.Epoch, p0.Kind, ((p0.Nums).length : Int)] : List Int)).length c1371), (14, .slice Ap0_0 (p0.Nums).length cp0_0), (18, .slice A1374 (([p0.Data] : List ByteArray)).length c1375)] ∧ St [] w (fun _ => 0) w_ o1369 ∧ Ft (Bx bx9 173 [.slice none 0 0]) w_ o1369 84 ∧ Ft (Own (encInt .i64) 3 (.slice A1370 (([p0.Epoch, p0.Kind, ((p0.Nums).length : Int)] : List Int)).length c1371) ([p0.Epoch, p0.Kind, ((p0.Nums).length : Int)] : List Int)) w_ o1369 85 ∧ Ft (Own encStr 9 (.slice A1374 (([p0.Data] : List ByteArray)).length c1375) ([p0.Data] : List ByteArray)) w_ o1369 86 ∧ Ft (Bx bx4 77 [.int .i64 p0.Epoch, .int .i64 p0.Kind, .slice Ap0_0 (p0.Nums).length cp0_0, .string p0.Data]) w_ o1369 83 ∧ Ft (RdC (encInt .i64) Ap0_0 p0.Nums) w_ o1369 0 ∧ Ft (RdC (encInt .u32) (some ⟨2, 0, none⟩) glob2) w_ o1369 0 ∧ (([p0.Epoch, p0.Kind, ((p0.Nums).length : Int)] : List Int)).length ≤ c1371 ∧ (([p0.Data] : List ByteArray)).length ≤ c1375) → G 6 #[true, true, true, true, true, true, true, true, false, true, true, false, true, true, true, false, false, false, false] a_ w_ := by
    rintro a w1378 ⟨o1369, A1370, c1371, A1374, c1375, hk, hs, f10, f1372, f1376, f5, f900000, fg2, hc1373, hc1377⟩
    refine xd_of hG ?_
    refine xd_op hk (i := 8) (by kernel_rfl) rfl rfl ?_
    refine op_call hk ent_98 (vs := [.pointer (some ⟨bx9, 0, none⟩), .slice A1370 (([p0.Epoch, p0.Kind, ((p0.Nums).length : Int)] : List Int)).length c1371]) rfl (num_Out_Num_calls K bx9 none 0 (⟨([] : List Int)⟩ : T172) A1370 c1371 ([p0.Epoch, p0.Kind, ((p0.Nums).length : Int)] : List Int) _ o1369 84 f10 87 (Ft.of_all (fun _ => Own.nil _ _ _) _ _ 87) (by simp) _ (f1372.imp fun _ h_ => Own.rd h_) hc1373 (by decide) (by decide)   _ hc882) ?_
    rintro _ w1383 ⟨o1384, A1387, c1388, rfl, st1385, f1386, f1389, hc1390⟩
    replace f1372 := f1372.st st1385 (by decide)
    replace f1376 := f1376.st st1385 (by decide)
    replace f5 := f5.st st1385 (by decide)
    replace f900000 := f900000.st st1385 (by decide)
    replace fg2 := fg2.st st1385 (by decide)
    replace hs := hs.loc0 st1385 (by decide)
    have hk := hk.put 12 (.pointer (some ⟨bx9, 0, none⟩)) rfl
    refine ⟨.inr ⟨f5.now, trivial⟩, ?_⟩
    refine xd_op hk (i := 11) (by kernel_rfl) rfl rfl ?_
    refine op_call hk ent_98 (vs := [.pointer (some ⟨bx9, 0, none⟩), .slice Ap0_0 (p0.Nums).length cp0_0]) rfl (num_Out_Num_calls K bx9 A1387 c1388 t881 Ap0_0 cp0_0 p0.Nums _ o1384 84 f1386 87 f1389 hc1390 _ f900000 hcp0_0 (by decide) (by decide)   _ hc895) ?_
    rintro _ w1394 ⟨o1395, A1398, c1399, rfl, st1396, f1397, f1400, hc1401⟩
    replace f1372 := f1372.st st1396 (by decide)
    replace f1376 := f1376.st st1396 (by decide)
    replace f5 := f5.st st1396 (by decide)
    replace f900000 := f900000.st st1396 (by decide)
    replace fg2 := fg2.st st1396 (by decide)
    replace hs := hs.loc0 st1396 (by decide)
    have hk := hk.put 15 (.pointer (some ⟨bx9, 0, none⟩)) rfl
    refine ⟨.inr ⟨f5.now, trivial⟩, ?_⟩
    refine xd_op hk (i := 15) (by kernel_rfl) rfl rfl ?_
    refine op_call hk ent_99 (vs := [.pointer (some ⟨bx9, 0, none⟩), .slice A1374 (([p0.Data] : List ByteArray)).length c1375]) rfl (num_Out_Text_calls K bx9 A1398 c1399 t894 A1374 c1375 ([p0.Data] : List ByteArray) _ o1395 84 f1397 87 f1400 hc1401 _ (f1376.imp fun _ h_ => Own.rd h_) hc1377 (by decide) (by decide)   _ hc914) ?_
    rintro _ w1405 ⟨o1406, A1409, c1410, rfl, st1407, f1408, f1411, hc1412⟩
    replace f1372 := f1372.st st1407 (by decide)
    replace f1376 := f1376.st st1407 (by decide)
    replace f5 := f5.st st1407 (by decide)
    replace f900000 := f900000.st st1407 (by decide)
    replace fg2 := fg2.st st1407 (by decide)
    replace hs := hs.loc0 st1407 (by decide)
    have hk := hk.put 19 (.pointer (some ⟨bx9, 0, none⟩)) rfl
    refine ⟨.inr ⟨f5.now, trivial⟩, ?_⟩
    refine xd_op hk (i := 16) (by kernel_rfl) rfl rfl ?_
    refine op_call hk ent_100 (vs := [.pointer (some ⟨bx9, 0, none⟩)]) rfl (num_Out_Bytes_calls bx9 A1409 c1410 t913 _ o1406 84 f1408 87 f1411 hc1412 (by decide)   _ hc927) ?_
    rintro _ w1416 ⟨o1417, A1420, c1421, rfl, st1418, f1419, f1422, hc1423⟩
    replace f1372 := f1372.st st1418 (by decide)
    replace f1376 := f1376.st st1418 (by decide)
    replace f5 := f5.st st1418 (by decide)
    replace f900000 := f900000.st st1418 (by decide)
    replace fg2 := fg2.st st1418 (by decide)
    replace hs := hs.loc0 st1418 (by decide)
    have hk := hk.put 20 (.string t926.1) rfl
    refine ⟨.inr ⟨f5.now, trivial⟩, ?_⟩
    refine xd_op hk (i := 17) (by kernel_rfl) rfl rfl ?_
    refine op_call hk ent_97 (vs := [.string t926.1]) rfl (sum_Seal_calls K t926.1 _ o1417 0 fg2   _ hc940) ?_
    rintro _ w1427 ⟨o1428, rfl, st1429⟩
    replace f1372 := f1372.st st1429 (by decide)
    replace f1376 := f1376.st st1429 (by decide)
    replace f1419 := f1419.st st1429 (by decide)
    replace f1422 := f1422.st st1429 (by decide)
    replace f5 := f5.st st1429 (by decide)
    replace f900000 := f900000.st st1429 (by decide)
    replace fg2 := fg2.st st1429 (by decide)
    replace hs := hs.loc0 st1429 (by decide)
    have hk := hk.put 21 (.string t939) rfl
    refine ⟨.inr ⟨f5.now, trivial⟩, ?_⟩
    refine xd_take tab hk (k := 0) (is := [18]) (ls' := #[true, true, true, true, true, true, true, true, true, true, true, true, true, true, true, true, true, true, true]) (lv := []) (ks := [2]) (e' := [(2, .string t939)]) (by kernel_rfl) rfl rfl (by kernel_rfl) (np_then (np_then np_body)) ⟨f5.now, trivial⟩ (fun W_ hS => trivial) fun a hk => ?_
    refine xd_done (by kernel_rfl) ?_
    refine then_n ?_
    exact ⟨o1428, t939, (by exact Kn.pick (ks := [2]) hk rfl), hs, fg2, H⟩
  have N1192 : ∀ (a_ : Act) (w_ : World), (∃ o1186 : Nat → Nat, ∃ A1187 : Option Addr, ∃ c1188 : Nat, Kn 22 a_ [(3, .pointer (some ⟨bx9, 0, none⟩)), (11, .slice A1187 (([p0.Epoch, p0.Kind, ((p0.Nums).length : Int)] : List Int)).length c1188), (14, .slice Ap0_0 (p0.Nums).length cp0_0), (17, .string p0.Data)] ∧ St [] w (fun _ => 0) w_ o1186 ∧ Ft (Bx bx9 173 [.slice none 0 0]) w_ o1186 67 ∧ Ft (Own (encInt .i64) 3 (.slice A1187 (([p0.Epoch, p0.Kind, ((p0.Nums).length : Int)] : List Int)).length c1188) ([p0.Epoch, p0.Kind, ((p0.Nums).length : Int)] : List Int)) w_ o1186 68 ∧ Ft (Bx bx4 77 [.int .i64 p0.Epoch, .int .i64 p0.Kind, .slice Ap0_0 (p0.Nums).length cp0_0, .string p0.Data]) w_ o1186 66 ∧ Ft (RdC (encInt .i64) Ap0_0 p0.Nums) w_ o1186 0 ∧ Ft (RdC (encInt .u32) (some ⟨2, 0, none⟩) glob2) w_ o1186 0 ∧ (([p0.Epoch, p0.Kind, ((p0.Nums).length : Int)] : List Int)).length ≤ c1188) → G 7 #[true, true, true, true, true, true, true, true, false, true, true, false, true, true, false, false, false, false, false] a_ w_ := by
    rintro a w1191 ⟨o1186, A1187, c1188, hk, hs, f10, f1189, f5, f900000, fg2, hc1190⟩
    refine xd_of hG ?_
    refine xd_each [8, 14] (by kernel_rfl) rfl ⟨?_, ?_, trivial⟩
    · refine xd_one hk rfl rfl ?_
      refine op_call hk ent_98 (vs := [.pointer (some ⟨bx9, 0, none⟩), .slice A1187 (([p0.Epoch, p0.Kind, ((p0.Nums).length : Int)] : List Int)).length c1188]) rfl (num_Out_Num_calls K bx9 none 0 (⟨([] : List Int)⟩ : T172) A1187 c1188 ([p0.Epoch, p0.Kind, ((p0.Nums).length : Int)] : List Int) _ o1186 67 f10 69 (Ft.of_all (fun _ => Own.nil _ _ _) _ _ 69) (by simp) _ (f1189.imp fun _ h_ => Own.rd h_) hc1190 (by decide) (by decide)   _ hc882) ?_
      rintro _ w1196 ⟨o1197, A1200, c1201, rfl, st1198, f1199, f1202, hc1203⟩
      replace f1189 := f1189.st st1198 (by decide)
      replace f5 := f5.st st1198 (by decide)
      replace f900000 := f900000.st st1198 (by decide)
      replace fg2 := fg2.st st1198 (by decide)
      replace hs := hs.loc0 st1198 (by decide)
      have hk := hk.put 12 (.pointer (some ⟨bx9, 0, none⟩)) rfl
      refine ⟨.inr ⟨f5.now, trivial⟩, ?_⟩
      exact xd_to hG rfl (N1219 _ _ ⟨(fun b_ => (fun l_ => if l_ = 66 then 70 else if l_ = 67 then 72 else if l_ = 69 then 71 else l_) (o1197 b_)), A1200, c1201, (by exact Kn.pick (ks := [12, 14, 17]) hk rfl), (hs.relab0 (fun l_ => if l_ = 66 then 70 else if l_ = 67 then 72 else if l_ = 69 then 71 else l_) rfl), (f1199.relab (fun l_ => if l_ = 66 then 70 else if l_ = 67 then 72 else if l_ = 69 then 71 else l_) rfl), (f1202.relab (fun l_ => if l_ = 66 then 70 else if l_ = 67 then 72 else if l_ = 69 then 71 else l_) rfl), (f5.relab (fun l_ => if l_ = 66 then 70 else if l_ = 67 then 72 else if l_ = 69 then 71 else l_) rfl), (f900000.relab (fun l_ => if l_ = 66 then 70 else if l_ = 67 then 72 else if l_ = 69 then 71 else l_) rfl), (fg2.relab (fun l_ => if l_ = 66 then 70 else if l_ = 67 then 72 else if l_ = 69 then 71 else l_) rfl), hc1203⟩)
    · refine xd_one hk rfl rfl ?_
      refine op_slice (o := o1186) tab hk (vs := [.string p0.Data]) (cs := [.string p0.Data]) rfl rfl rfl rfl rfl rfl rfl rfl rfl 82 fun bx1353 w1350 o1351 st1352 f1354 => ?_
      replace f10 := f10.st st1352 (by decide)
      replace f1189 := f1189.st st1352 (by decide)
      replace f5 := f5.st st1352 (by decide)
      replace f900000 := f900000.st st1352 (by decide)
      replace fg2 := fg2.st st1352 (by decide)
      replace hs := hs.loc0 st1352 (by decide)
      have f1355 : Ft (Own encStr 9 (.slice (some ⟨bx1353, 0, none⟩) (([p0.Data] : List ByteArray)).length 1) ([p0.Data] : List ByteArray)) w1350 o1351 82 := f1354.imp fun _ h_ => Own.of_box h_ rfl (by simp)
      have hk := hk.put 18 (.slice (some ⟨bx1353, 0, none⟩) (([p0.Data] : List ByteArray)).length 1) rfl
      refine ⟨.inr ⟨f5.now, trivial⟩, ?_⟩
      exact xd_to hG rfl (N1379 _ _ ⟨(fun b_ => (fun l_ => if l_ = 66 then 83 else if l_ = 67 then 84 else if l_ = 68 then 85 else if l_ = 82 then 86 else l_) (o1351 b_)), A1187, c1188, (some ⟨bx1353, 0, none⟩), 1, (by exact Kn.pick (ks := [3, 11, 14, 18]) hk rfl), (hs.relab0 (fun l_ => if l_ = 66 then 83 else if l_ = 67 then 84 else if l_ = 68 then 85 else if l_ = 82 then 86 else l_) rfl), (f10.relab (fun l_ => if l_ = 66 then 83 else if l_ = 67 then 84 else if l_ = 68 then 85 else if l_ = 82 then 86 else l_) rfl), (f1189.relab (fun l_ => if l_ = 66 then 83 else if l_ = 67 then 84 else if l_ = 68 then 85 else if l_ = 82 then 86 else l_) rfl), (f1355.relab (fun l_ => if l_ = 66 then 83 else if l_ = 67 then 84 else if l_ = 68 then 85 else if l_ = 82 then 86 else l_) rfl), (f5.relab (fun l_ => if l_ = 66 then 83 else if l_ = 67 then 84 else if l_ = 68 then 85 else if l_ = 82 then 86 else l_) rfl), (f900000.relab (fun l_ => if l_ = 66 then 83 else if l_ = 67 then 84 else if l_ = 68 then 85 else if l_ = 82 then 86 else l_) rfl), (fg2.relab (fun l_ => if l_ = 66 then 83 else if l_ = 67 then 84 else if l_ = 68 then 85 else if l_ = 82 then 86 else l_) rfl), hc1190, (Nat.le_refl _)⟩)
  have N1451 : ∀ (a_ : Act) (w_ : World), (∃ o1445 : Nat → Nat, ∃ A1446 : Option Addr, ∃ c1447 : Nat, Kn 22 a_ [(3, .pointer (some ⟨bx9, 0, none⟩)), (5, .int .i64 p0.Epoch), (7, .int .i64 p0.Kind), (10, .int .i64 ((p0.Nums).length : Int)), (14, .slice Ap0_0 (p0.Nums).length cp0_0), (18, .slice A1446 (([p0.Data] : List ByteArray)).length c1447)] ∧ St [] w (fun _ => 0) w_ o1445 ∧ Ft (Bx bx9 173 [.slice none 0 0]) w_ o1445 90 ∧ Ft (Own encStr 9 (.slice A1446 (([p0.Data] : List ByteArray)).length c1447) ([p0.Data] : List ByteArray)) w_ o1445 91 ∧ Ft (Bx bx4 77 [.int .i64 p0.Epoch, .int .i64 p0.Kind, .slice Ap0_0 (p0.Nums).length cp0_0, .string p0.Data]) w_ o1445 89 ∧ Ft (RdC (encInt .i64) Ap0_0 p0.Nums) w_ o1445 0 ∧ Ft (RdC (encInt .u32) (some ⟨2, 0, none⟩) glob2) w_ o1445 0 ∧ (([p0.Data] : List ByteArray)).length ≤ c1447) → G 7 #[true, true, true, true, true, true, true, false, false, true, true, false, true, true, true, false, false, false, false] a_ w_ := by
    rintro a w1450 ⟨o1445, A1446, c1447, hk, hs, f10, f1448, f5, f900000, fg2, hc1449⟩
    refine xd_of hG ?_
    refine xd_op hk (i := 7) (by kernel_rfl) rfl rfl ?_
    refine op_slice (o := o1445) tab hk (vs := [.int .i64 p0.Epoch, .int .i64 p0.Kind, .int .i64 ((p0.Nums).length : Int)]) (cs := [.int .i64 p0.Epoch, .int .i64 p0.Kind, .int .i64 ((p0.Nums).length : Int)]) rfl rfl rfl rfl rfl rfl rfl rfl rfl 92 fun bx1455 w1452 o1453 st1454 f1456 => ?_
    replace f10 := f10.st st1454 (by decide)
    replace f1448 := f1448.st st1454 (by decide)
    replace f5 := f5.st st1454 (by decide)
    replace f900000 := f900000.st st1454 (by decide)
    replace fg2 := fg2.st st1454 (by decide)
    replace hs := hs.loc0 st1454 (by decide)
    have f1457 : Ft (Own (encInt .i64) 3 (.slice (some ⟨bx1455, 0, none⟩) (([p0.Epoch, p0.Kind, ((p0.Nums).length : Int)] : List Int)).length 3) ([p0.Epoch, p0.Kind, ((p0.Nums).length : Int)] : List Int)) w1452 o1453 92 := f1456.imp fun _ h_ => Own.of_box h_ rfl (by simp)
    have hk := hk.put 11 (.slice (some ⟨bx1455, 0, none⟩) (([p0.Epoch, p0.Kind, ((p0.Nums).length : Int)] : List Int)).length 3) rfl
    refine ⟨.inr ⟨f5.now, trivial⟩, ?_⟩
    refine xd_op hk (i := 8) (by kernel_rfl) rfl rfl ?_
    refine op_call hk ent_98 (vs := [.pointer (some ⟨bx9, 0, none⟩), .slice (some ⟨bx1455, 0, none⟩) (([p0.Epoch, p0.Kind, ((p0.Nums).length : Int)] : List Int)).length 3]) rfl (num_Out_Num_calls K bx9 none 0 (⟨([] : List Int)⟩ : T172) (some ⟨bx1455, 0, none⟩) 3 ([p0.Epoch, p0.Kind, ((p0.Nums).length : Int)] : List Int) _ o1453 90 f10 93 (Ft.of_all (fun _ => Own.nil _ _ _) _ _ 93) (by simp) _ (f1457.imp fun _ h_ => Own.rd h_) (Nat.le_refl _) (by decide) (by decide)   _ hc882) ?_
    rintro _ w1461 ⟨o1462, A1465, c1466, rfl, st1463, f1464, f1467, hc1468⟩
    replace f1448 := f1448.st st1463 (by decide)
    replace f1457 := f1457.st st1463 (by decide)
    replace f5 := f5.st st1463 (by decide)
    replace f900000 := f900000.st st1463 (by decide)
    replace fg2 := fg2.st st1463 (by decide)
    replace hs := hs.loc0 st1463 (by decide)
    have hk := hk.put 12 (.pointer (some ⟨bx9, 0, none⟩)) rfl
    refine ⟨.inr ⟨f5.now, trivial⟩, ?_⟩
    refine xd_op hk (i := 11) (by kernel_rfl) rfl rfl ?_
    refine op_call hk ent_98 (vs := [.pointer (some ⟨bx9, 0, none⟩), .slice Ap0_0 (p0.Nums).length cp0_0]) rfl (num_Out_Num_calls K bx9 A1465 c1466 t881 Ap0_0 cp0_0 p0.Nums _ o1462 90 f1464 93 f1467 hc1468 _ f900000 hcp0_0 (by decide) (by decide)   _ hc895) ?_
    rintro _ w1472 ⟨o1473, A1476, c1477, rfl, st1474, f1475, f1478, hc1479⟩
    replace f1448 := f1448.st st1474 (by decide)
    replace f1457 := f1457.st st1474 (by decide)
    replace f5 := f5.st st1474 (by decide)
    replace f900000 := f900000.st st1474 (by decide)
    replace fg2 := fg2.st st1474 (by decide)
    replace hs := hs.loc0 st1474 (by decide)
    have hk := hk.put 15 (.pointer (some ⟨bx9, 0, none⟩)) rfl
    refine ⟨.inr ⟨f5.now, trivial⟩, ?_⟩
    refine xd_op hk (i := 15) (by kernel_rfl) rfl rfl ?_
    refine op_call hk ent_99 (vs := [.pointer (some ⟨bx9, 0, none⟩), .slice A1446 (([p0.Data] : List ByteArray)).length c1447]) rfl (num_Out_Text_calls K bx9 A1476 c1477 t894 A1446 c1447 ([p0.Data] : List ByteArray) _ o1473 90 f1475 93 f1478 hc1479 _ (f1448.imp fun _ h_ => Own.rd h_) hc1449 (by decide) (by decide)   _ hc914) ?_
    rintro _ w1483 ⟨o1484, A1487, c1488, rfl, st1485, f1486, f1489, hc1490⟩
    replace f1448 := f1448.st st1485 (by decide)
    replace f1457 := f1457.st st1485 (by decide)
    replace f5 := f5.st st1485 (by decide)
    replace f900000 := f900000.st st1485 (by decide)
    replace fg2 := fg2.st st1485 (by decide)
    replace hs := hs.loc0 st1485 (by decide)
    have hk := hk.put 19 (.pointer (some ⟨bx9, 0, none⟩)) rfl
    refine ⟨.inr ⟨f5.now, trivial⟩, ?_⟩
    refine xd_op hk (i := 16) (by kernel_rfl) rfl rfl ?_
    refine op_call hk ent_100 (vs := [.pointer (some ⟨bx9, 0, none⟩)]) rfl (num_Out_Bytes_calls bx9 A1487 c1488 t913 _ o1484 90 f1486 93 f1489 hc1490 (by decide)   _ hc927) ?_
    rintro _ w1494 ⟨o1495, A1498, c1499, rfl, st1496, f1497, f1500, hc1501⟩
    replace f1448 := f1448.st st1496 (by decide)
    replace f1457 := f1457.st st1496 (by decide)
    replace f5 := f5.st st1496 (by decide)
    replace f900000 := f900000.st st1496 (by decide)
    replace fg2 := fg2.st st1496 (by decide)
    replace hs := hs.loc0 st1496 (by decide)
    have hk := hk.put 20 (.string t926.1) rfl
    refine ⟨.inr ⟨f5.now, trivial⟩, ?_⟩
    refine xd_op hk (i := 17) (by kernel_rfl) rfl rfl ?_
    refine op_call hk ent_97 (vs := [.string t926.1]) rfl (sum_Seal_calls K t926.1 _ o1495 0 fg2   _ hc940) ?_
    rintro _ w1505 ⟨o1506, rfl, st1507⟩
    replace f1448 := f1448.st st1507 (by decide)
    replace f1457 := f1457.st st1507 (by decide)
    replace f1497 := f1497.st st1507 (by decide)
    replace f1500 := f1500.st st1507 (by decide)
    replace f5 := f5.st st1507 (by decide)
    replace f900000 := f900000.st st1507 (by decide)
    replace fg2 := fg2.st st1507 (by decide)
    replace hs := hs.loc0 st1507 (by decide)
    have hk := hk.put 21 (.string t939) rfl
    refine ⟨.inr ⟨f5.now, trivial⟩, ?_⟩
    refine xd_take tab hk (k := 0) (is := [18]) (ls' := #[true, true, true, true, true, true, true, true, true, true, true, true, true, true, true, true, true, true, true]) (lv := []) (ks := [2]) (e' := [(2, .string t939)]) (by kernel_rfl) rfl rfl (by kernel_rfl) (np_then (np_then np_body)) ⟨f5.now, trivial⟩ (fun W_ hS => trivial) fun a hk => ?_
    refine xd_done (by kernel_rfl) ?_
    refine then_n ?_
    exact ⟨o1506, t939, (by exact Kn.pick (ks := [2]) hk rfl), hs, fg2, H⟩
  refine xd_of hG ?_
  refine xd_take tab hk (k := 8) (is := [0, 1, 2, 3, 4, 5, 6, 9, 10, 12, 13]) (ls' := #[true, true, true, true, true, true, true, false, false, true, true, false, true, true, false, false, false, false, false]) (lv := [.int .i64 p0.Epoch, .int .i64 p0.Kind, .slice Ap0_0 (p0.Nums).length cp0_0, .slice Ap0_0 (p0.Nums).length cp0_0, .string p0.Data]) (ks := [3, 5, 7, 10, 14, 17]) (e' := [(3, .pointer (some ⟨bx9, 0, none⟩)), (5, .int .i64 p0.Epoch), (7, .int .i64 p0.Kind), (10, .int .i64 ((p0.Nums).length : Int)), (14, .slice Ap0_0 (p0.Nums).length cp0_0), (17, .string p0.Data)]) (by kernel_rfl) rfl rfl (by kernel_rfl) (np_then (np_then np_body)) ⟨f5.now, trivial⟩ (fun W_ hS => ⟨(load1 tab rfl ((Bx.cell hS.1 0).trans rfl)), (load1 tab rfl ((Bx.cell hS.1 1).trans rfl)), (load1 tab rfl ((Bx.cell hS.1 2).trans rfl)), (load1 tab rfl ((Bx.cell hS.1 2).trans rfl)), (load1 tab rfl ((Bx.cell hS.1 3).trans rfl)), trivial⟩) fun a hk => ?_
  refine xd_each [7, 14] (by kernel_rfl) rfl ⟨?_, ?_, trivial⟩
  · refine xd_one hk rfl rfl ?_
    refine op_slice (o := o7) tab hk (vs := [.int .i64 p0.Epoch, .int .i64 p0.Kind, .int .i64 ((p0.Nums).length : Int)]) (cs := [.int .i64 p0.Epoch, .int .i64 p0.Kind, .int .i64 ((p0.Nums).length : Int)]) rfl rfl rfl rfl rfl rfl rfl rfl rfl 65 fun bx1174 w1171 o1172 st1173 f1175 => ?_
    replace f10 := f10.st st1173 (by decide)
    replace f5 := f5.st st1173 (by decide)
    replace f900000 := f900000.st st1173 (by decide)
    replace fg2 := fg2.st st1173 (by decide)
    replace hs := hs.loc0 st1173 (by decide)
    have f1176 : Ft (Own (encInt .i64) 3 (.slice (some ⟨bx1174, 0, none⟩) (([p0.Epoch, p0.Kind, ((p0.Nums).length : Int)] : List Int)).length 3) ([p0.Epoch, p0.Kind, ((p0.Nums).length : Int)] : List Int)) w1171 o1172 65 := f1175.imp fun _ h_ => Own.of_box h_ rfl (by simp)
    have hk := hk.put 11 (.slice (some ⟨bx1174, 0, none⟩) (([p0.Epoch, p0.Kind, ((p0.Nums).length : Int)] : List Int)).length 3) rfl
    refine ⟨.inr ⟨f5.now, trivial⟩, ?_⟩
    exact xd_to hG rfl (N1192 _ _ ⟨(fun b_ => (fun l_ => if l_ = 1 then 66 else if l_ = 2 then 67 else if l_ = 65 then 68 else l_) (o1172 b_)), (some ⟨bx1174, 0, none⟩), 3, (by exact Kn.pick (ks := [3, 11, 14, 17]) hk rfl), (hs.relab0 (fun l_ => if l_ = 1 then 66 else if l_ = 2 then 67 else if l_ = 65 then 68 else l_) rfl), (f10.relab (fun l_ => if l_ = 1 then 66 else if l_ = 2 then 67 else if l_ = 65 then 68 else l_) rfl), (f1176.relab (fun l_ => if l_ = 1 then 66 else if l_ = 2 then 67 else if l_ = 65 then 68 else l_) rfl), (f5.relab (fun l_ => if l_ = 1 then 66 else if l_ = 2 then 67 else if l_ = 65 then 68 else l_) rfl), (f900000.relab (fun l_ => if l_ = 1 then 66 else if l_ = 2 then 67 else if l_ = 65 then 68 else l_) rfl), (fg2.relab (fun l_ => if l_ = 1 then 66 else if l_ = 2 then 67 else if l_ = 65 then 68 else l_) rfl), (Nat.le_refl _)⟩)
  · refine xd_one hk rfl rfl ?_
    refine op_slice (o := o7) tab hk (vs := [.string p0.Data]) (cs := [.string p0.Data]) rfl rfl rfl rfl rfl rfl rfl rfl rfl 88 fun bx1433 w1430 o1431 st1432 f1434 => ?_
    replace f10 := f10.st st1432 (by decide)
    replace f5 := f5.st st1432 (by decide)
    replace f900000 := f900000.st st1432 (by decide)
    replace fg2 := fg2.st st1432 (by decide)
    replace hs := hs.loc0 st1432 (by decide)
    have f1435 : Ft (Own encStr 9 (.slice (some ⟨bx1433, 0, none⟩) (([p0.Data] : List ByteArray)).length 1) ([p0.Data] : List ByteArray)) w1430 o1431 88 := f1434.imp fun _ h_ => Own.of_box h_ rfl (by simp)
    have hk := hk.put 18 (.slice (some ⟨bx1433, 0, none⟩) (([p0.Data] : List ByteArray)).length 1) rfl
    refine ⟨.inr ⟨f5.now, trivial⟩, ?_⟩
    exact xd_to hG rfl (N1451 _ _ ⟨(fun b_ => (fun l_ => if l_ = 1 then 89 else if l_ = 2 then 90 else if l_ = 88 then 91 else l_) (o1431 b_)), (some ⟨bx1433, 0, none⟩), 1, (by exact Kn.pick (ks := [3, 5, 7, 10, 14, 18]) hk rfl), (hs.relab0 (fun l_ => if l_ = 1 then 89 else if l_ = 2 then 90 else if l_ = 88 then 91 else l_) rfl), (f10.relab (fun l_ => if l_ = 1 then 89 else if l_ = 2 then 90 else if l_ = 88 then 91 else l_) rfl), (f1435.relab (fun l_ => if l_ = 1 then 89 else if l_ = 2 then 90 else if l_ = 88 then 91 else l_) rfl), (f5.relab (fun l_ => if l_ = 1 then 89 else if l_ = 2 then 90 else if l_ = 88 then 91 else l_) rfl), (f900000.relab (fun l_ => if l_ = 1 then 89 else if l_ = 2 then 90 else if l_ = 88 then 91 else l_) rfl), (fg2.relab (fun l_ => if l_ = 1 then 89 else if l_ = 2 then 90 else if l_ = 88 then 91 else l_) rfl), (Nat.le_refl _)⟩)

/-! (tidewrack/gram.Gram).Check -/
theorem gram_Gram_Check_calls (K : Nat) (Ap0_0 : Option Addr) (cp0_0 : Nat) (p0 : T76) (w : World) (o : Nat → Nat) (Lg2 : Nat) (hg2 : Ft (RdC (encInt .u32) (some ⟨2, 0, none⟩) glob2) w o Lg2) (Lp0_0 : Nat) (hp0_0 : Ft (RdC (encInt .i64) Ap0_0 p0.Nums) w o Lp0_0) (hcp0_0 : (p0.Nums).length ≤ cp0_0)  (r : Int) (H : gram_Gram_Check K p0 = some r) :
    Calls Tryd.prog 65 #[.agg #[.int .i64 p0.Epoch, .int .i64 p0.Kind, .slice Ap0_0 (p0.Nums).length cp0_0, .string p0.Data]] w (Ret fun v_ w' => ∃ o' : Nat → Nat, v_ = .int .i64 r ∧ St [] w o w' o') := by
  refine x_enter (vs := [.agg #[.int .i64 p0.Epoch, .int .i64 p0.Kind, .slice Ap0_0 (p0.Nums).length cp0_0, .string p0.Data]]) Tryd.func65 rfl rfl rfl fun a hk => ?_
  obtain ⟨o0, hs, h0⟩ := St.start w o
  have fg2 := h0 _ _ hg2
  have f900000 := h0 _ _ hp0_0
  clear h0
  rw [gram_Gram_Check] at H
  refine x_seq ?_
  refine wpIn_region_lit ?_
  refine x_op hk rfl ?_
  refine op_box (o := o0) (t := 77) (v := .agg #[.int .i64 p0.Epoch, .int .i64 p0.Kind, .slice Ap0_0 (p0.Nums).length cp0_0, .string p0.Data]) (cs := [.int .i64 p0.Epoch, .int .i64 p0.Kind, .slice Ap0_0 (p0.Nums).length cp0_0, .string p0.Data]) hk rfl rfl 1 fun bx4 w1 o2 st3 f5 => ?_
  replace f900000 := f900000.st st3 (by decide)
  replace fg2 := fg2.st st3 (by decide)
  replace hs := hs.loc0 st3 (by decide)
  have hk := hk.put 1 (.pointer (some ⟨bx4, 0, none⟩)) rfl
  refine x_run tab hk (k := 1) (lv := []) (ks := [1]) (e' := [(1, .pointer (some ⟨bx4, 0, none⟩))]) rfl trivial fun a hk => ?_
  refine wpListIn_nil ?_
  refine then_n ?_
  refine x_seq ?_
  refine wpIn_block ?_
  refine x_seq ?_
  refine wpIn_region_lit ?_
  refine x_run tab hk (k := 1) (lv := [.agg #[.int .i64 p0.Epoch, .int .i64 p0.Kind, .slice Ap0_0 (p0.Nums).length cp0_0, .string p0.Data]]) (ks := [1, 4]) (e' := [(1, .pointer (some ⟨bx4, 0, none⟩)), (4, .agg #[.int .i64 p0.Epoch, .int .i64 p0.Kind, .slice Ap0_0 (p0.Nums).length cp0_0, .string p0.Data])]) rfl ⟨(load_box tab rfl rfl f5.now (k := 0) rfl rfl), trivial⟩ fun a hk => ?_
  refine x_op hk rfl ?_
  obtain ⟨t9, hc10, H⟩ := bindS H
  refine op_call hk ent_96 (vs := [.agg #[.int .i64 p0.Epoch, .int .i64 p0.Kind, .slice Ap0_0 (p0.Nums).length cp0_0, .string p0.Data]]) rfl (gram_Gram_right_calls K Ap0_0 cp0_0 p0 _ o2 _ f900000 hcp0_0   _ hc10) ?_
  rintro _ w11 ⟨o12, rfl, st13⟩
  replace f5 := f5.st st13 (by decide)
  replace f900000 := f900000.st st13 (by decide)
  replace fg2 := fg2.st st13 (by decide)
  replace hs := hs.loc0 st13 (by decide)
  have hk := hk.put 5 (.bool t9) rfl
  refine x_run tab hk (k := 2) (lv := []) (ks := [1, 3]) (e' := [(1, .pointer (some ⟨bx4, 0, none⟩)), (3, .bool (!t9))]) rfl trivial fun a hk => ?_
  refine wpListIn_nil ?_
  refine then_n ?_
  cases b14 : (!t9)
  · rw [b14] at hk H
    replace H := bifF H
    refine x_if hk (b := false) rfl ?_
    refine (show Code.wpIn _ _ _ _ _ _ _ from ?_)
    refine x_seq ?_
    refine wpIn_region_lit ?_
    refine x_run tab hk (k := 1) (lv := [.agg #[.int .i64 p0.Epoch, .int .i64 p0.Kind, .slice Ap0_0 (p0.Nums).length cp0_0, .string p0.Data]]) (ks := [8]) (e' := [(8, .agg #[.int .i64 p0.Epoch, .int .i64 p0.Kind, .slice Ap0_0 (p0.Nums).length cp0_0, .string p0.Data])]) rfl ⟨(load_box tab rfl rfl f5.now (k := 0) rfl rfl), trivial⟩ fun a hk => ?_
    refine x_op hk rfl ?_
    obtain ⟨t18, hc19, H⟩ := bindS H
    refine op_call hk ent_66 (vs := [.agg #[.int .i64 p0.Epoch, .int .i64 p0.Kind, .slice Ap0_0 (p0.Nums).length cp0_0, .string p0.Data]]) rfl (gram_Gram_bytes_calls K Ap0_0 cp0_0 p0 _ o12 0 fg2 _ f900000 hcp0_0   _ hc19) ?_
    rintro _ w20 ⟨o21, rfl, st22⟩
    replace f900000 := f900000.st st22 (by decide)
    replace fg2 := fg2.st st22 (by decide)
    replace hs := hs.loc0 st22 (by decide)
    have hk := hk.put 9 (.string t18) rfl
    refine x_run tab hk (k := 3) (lv := []) (ks := [7]) (e' := [(7, .bool (decide (((t18).size : Int) > (8192 : Int))))]) rfl trivial fun a hk => ?_
    refine wpListIn_nil ?_
    refine then_n ?_
    cases b23 : (decide (((t18).size : Int) > (8192 : Int)))
    · rw [b23] at hk H
      replace H := bifF H
      refine x_if hk (b := false) rfl ?_
      refine (show Code.wpIn _ _ _ _ _ _ _ from ?_)
      refine wpIn_skip ?_
      refine blk_n ?_
      refine then_n ?_
      refine x_seq ?_
      refine wpIn_region_lit ?_
      refine x_run tab hk (k := 1) (lv := []) (ks := [2]) (e' := [(2, .int .i64 0)]) rfl trivial fun a hk => ?_
      refine wpListIn_nil ?_
      refine then_n ?_
      refine wpIn_ret ?_
      obtain rfl := Option.some.inj H
      exact x_retG hk (rs := [.tmp 2]) (vs := [.int .i64 0]) rfl ⟨rfl, trivial⟩ ⟨fun b_ => if b_ < w.heap.size then o b_ else (fun _ => 0) (o21 b_), rfl, hs.close0 o (fun _ => 0)⟩
    · rw [b23] at hk H
      replace H := bifT H
      refine x_if hk (b := true) rfl ?_
      refine (show Code.wpIn _ _ _ _ _ _ _ from ?_)
      refine x_seq ?_
      refine wpIn_region_lit ?_
      refine x_run tab hk (k := 1) (lv := []) (ks := [2]) (e' := [(2, .int .i64 3)]) rfl trivial fun a hk => ?_
      refine wpListIn_nil ?_
      refine then_n ?_
      refine wpIn_ret ?_
      refine blk_r ?_
      refine then_r ?_
      obtain rfl := Option.some.inj H
      exact x_retG hk (rs := [.tmp 2]) (vs := [.int .i64 3]) rfl ⟨rfl, trivial⟩ ⟨fun b_ => if b_ < w.heap.size then o b_ else (fun _ => 0) (o21 b_), rfl, hs.close0 o (fun _ => 0)⟩
  · rw [b14] at hk H
    replace H := bifT H
    refine x_if hk (b := true) rfl ?_
    refine (show Code.wpIn _ _ _ _ _ _ _ from ?_)
    refine x_seq ?_
    refine wpIn_region_lit ?_
    refine x_run tab hk (k := 1) (lv := []) (ks := [2]) (e' := [(2, .int .i64 6)]) rfl trivial fun a hk => ?_
    refine wpListIn_nil ?_
    refine then_n ?_
    refine wpIn_ret ?_
    refine blk_r ?_
    refine then_r ?_
    obtain rfl := Option.some.inj H
    exact x_retG hk (rs := [.tmp 2]) (vs := [.int .i64 6]) rfl ⟨rfl, trivial⟩ ⟨fun b_ => if b_ < w.heap.size then o b_ else (fun _ => 0) (o12 b_), rfl, hs.close0 o (fun _ => 0)⟩

end Go.Proofs.YtpciioffkjpieaaDoor
