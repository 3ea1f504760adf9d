/- Walks, printed by an own program: the machine's calls compute the plain functions. -/
import Derived.Test.YtmgkcahjpehckaaDoorW0
set_option linter.unusedVariables false
set_option linter.unusedSimpArgs false
namespace Go.Proofs.YtmgkcahjpehckaaDoor
open Go Go.Proofs.XC
/-! tidewrack/sum.step -/
theorem sum_step_calls (p0 : Int) (p1 : Int) (w : World) (o : Nat → Nat) (Lg0 : Nat) (hg0 : Ft (RdC (encInt .u32) (some ⟨0, 0, none⟩) glob0) w o Lg0)   (r : Int) (H : sum_step p0 p1 = some r) :
    Calls Tryd.prog 18 #[.int .u32 p0, .int .u8 p1] w (Ret fun v_ w' => ∃ o' : Nat → Nat, v_ = .int .u32 r ∧ St [] w o w' o') := by
  refine x_enter (vs := [.int .u32 p0, .int .u8 p1]) Tryd.func18 rfl rfl rfl fun a hk => ?_
  obtain ⟨o0, hs, h0⟩ := St.start w o
  have fg0 := h0 _ _ hg0
  clear h0
  rw [sum_step] at H
  refine x_seq ?_
  refine wp_region_lit ?_
  refine x_run tab hk (k := 1) (lv := []) (ks := [0, 1]) (e' := [(0, .int .u32 p0), (1, .int .u8 p1)]) rfl trivial fun a hk => ?_
  refine wpList_nil ?_
  refine then_n ?_
  refine x_seq ?_
  refine wp_region_lit ?_
  refine x_run tab hk (k := 5) (lv := []) (ks := [0]) (e' := [(0, .int .u32 (bits .xor .u32 p0 (IntKind.wrap .u32 p1)))]) rfl trivial fun a hk => ?_
  refine wpList_nil ?_
  refine then_n ?_
  refine x_seq ?_
  refine wp_region_lit ?_
  obtain ⟨q1, H⟩ := ifS H
  refine x_run tab hk (k := 8) (lv := [.int .u32 (rdD 0 glob0 (bits .and .u32 (bits .xor .u32 p0 (IntKind.wrap .u32 p1)) 15))]) (ks := [0]) (e' := [(0, .int .u32 (bits .xor .u32 (Int.fdiv (bits .xor .u32 p0 (IntKind.wrap .u32 p1)) (2 ^ min (Int.toNat 4) 32)) (rdD 0 glob0 (bits .and .u32 (bits .xor .u32 p0 (IntKind.wrap .u32 p1)) 15))))]) rfl ⟨(show 0 ≤ (4 : Int) from by decide), q1, (load1 tab rfl (RdC.at0 (E := (encInt .u32)) (d := 0) (i := (bits .and .u32 (bits .xor .u32 p0 (IntKind.wrap .u32 p1)) 15)) fg0.now q1 rfl)), trivial⟩ fun a hk => ?_
  refine wpList_nil ?_
  refine then_n ?_
  refine x_seq ?_
  refine wp_region_lit ?_
  obtain ⟨q2, H⟩ := ifS H
  refine x_run tab hk (k := 8) (lv := [.int .u32 (rdD 0 glob0 (bits .and .u32 (bits .xor .u32 (Int.fdiv (bits .xor .u32 p0 (IntKind.wrap .u32 p1)) (2 ^ min (Int.toNat 4) 32)) (rdD 0 glob0 (bits .and .u32 (bits .xor .u32 p0 (IntKind.wrap .u32 p1)) 15))) 15))]) (ks := [4]) (e' := [(4, .int .u32 (bits .xor .u32 (Int.fdiv (bits .xor .u32 (Int.fdiv (bits .xor .u32 p0 (IntKind.wrap .u32 p1)) (2 ^ min (Int.toNat 4) 32)) (rdD 0 glob0 (bits .and .u32 (bits .xor .u32 p0 (IntKind.wrap .u32 p1)) 15))) (2 ^ min (Int.toNat 4) 32)) (rdD 0 glob0 (bits .and .u32 (bits .xor .u32 (Int.fdiv (bits .xor .u32 p0 (IntKind.wrap .u32 p1)) (2 ^ min (Int.toNat 4) 32)) (rdD 0 glob0 (bits .and .u32 (bits .xor .u32 p0 (IntKind.wrap .u32 p1)) 15))) 15))))]) rfl ⟨(show 0 ≤ (4 : Int) from by decide), q2, (load1 tab rfl (RdC.at0 (E := (encInt .u32)) (d := 0) (i := (bits .and .u32 (bits .xor .u32 (Int.fdiv (bits .xor .u32 p0 (IntKind.wrap .u32 p1)) (2 ^ min (Int.toNat 4) 32)) (rdD 0 glob0 (bits .and .u32 (bits .xor .u32 p0 (IntKind.wrap .u32 p1)) 15))) 15)) fg0.now q2 rfl)), trivial⟩ fun a hk => ?_
  refine wpList_nil ?_
  refine then_n ?_
  refine wp_ret ?_
  obtain rfl := Option.some.inj H
  exact x_retG hk (rs := [.tmp 4]) (vs := [.int .u32 (bits .xor .u32 (Int.fdiv (bits .xor .u32 (Int.fdiv (bits .xor .u32 p0 (IntKind.wrap .u32 p1)) (2 ^ min (Int.toNat 4) 32)) (rdD 0 glob0 (bits .and .u32 (bits .xor .u32 p0 (IntKind.wrap .u32 p1)) 15))) (2 ^ min (Int.toNat 4) 32)) (rdD 0 glob0 (bits .and .u32 (bits .xor .u32 (Int.fdiv (bits .xor .u32 p0 (IntKind.wrap .u32 p1)) (2 ^ min (Int.toNat 4) 32)) (rdD 0 glob0 (bits .and .u32 (bits .xor .u32 p0 (IntKind.wrap .u32 p1)) 15))) 15)))]) rfl ⟨rfl, trivial⟩ ⟨fun b_ => if b_ < w.heap.size then o b_ else (fun _ => 0) (o0 b_), rfl, hs.close0 o (fun _ => 0)⟩

/-! tidewrack/sum.Of -/
theorem sum_Of_calls (K : Nat) (Ap0 : Option Addr) (cp0 : Nat) (p0 : List ByteArray) (w : World) (o : Nat → Nat) (Lg0 : Nat) (hg0 : Ft (RdC (encInt .u32) (some ⟨0, 0, none⟩) glob0) w o Lg0) (Lp0 : Nat) (hp0 : Ft (RdC encStr Ap0 p0) w o Lp0) (hcp0 : (p0).length ≤ cp0)  (r : Int) (H : sum_Of K p0 = some r) :
    Calls Tryd.prog 8 #[.slice Ap0 (p0).length cp0] w (Ret fun v_ w' => ∃ o' : Nat → Nat, v_ = .int .u32 r ∧ St [] w o w' o') := by
  refine x_enter (vs := [.slice Ap0 (p0).length cp0]) Tryd.func8 rfl rfl rfl fun a hk => ?_
  obtain ⟨o0, hs, h0⟩ := St.start w o
  have fg0 := h0 _ _ hg0
  have f900 := h0 _ _ hp0
  clear h0
  rw [sum_Of] at H
  refine x_seq ?_
  refine wp_region_lit ?_
  refine x_run tab hk (k := 1) (lv := []) (ks := [0]) (e' := [(0, .slice Ap0 (p0).length cp0)]) rfl trivial fun a hk => ?_
  refine wpList_nil ?_
  refine then_n ?_
  refine x_seq ?_
  refine wp_region_lit ?_
  refine x_run tab hk (k := 1) (lv := []) (ks := [0, 3]) (e' := [(0, .slice Ap0 (p0).length cp0), (3, .int .u32 4294967295)]) rfl trivial fun a hk => ?_
  refine wpList_nil ?_
  refine then_n ?_
  refine x_mid (fun a_ w_ => ∃ o334 : Nat → Nat, ∃ x335 : Int, Kn 27 a_ [(3, .int .u32 x335)] ∧ St [] w (fun _ => 0) w_ o334 ∧ Ft (RdC (encInt .u32) (some ⟨0, 0, none⟩) glob0) w_ o334 0 ∧ sum_Of_j1 x335 = some r) ?_ ?_
  rotate_left
  · rintro a w336 ⟨o334, x335, hk, hs, fg0, H⟩
    rw [sum_Of_j1] at H
    refine x_seq ?_
    refine wp_region_lit ?_
    refine x_run tab hk (k := 3) (lv := []) (ks := [2]) (e' := [(2, .int .u32 (bits .xor .u32 4294967295 x335))]) rfl trivial fun a hk => ?_
    refine wpList_nil ?_
    refine then_n ?_
    refine wp_ret ?_
    obtain rfl := Option.some.inj H
    exact x_retG hk (rs := [.tmp 2]) (vs := [.int .u32 (bits .xor .u32 4294967295 x335)]) rfl ⟨rfl, trivial⟩ ⟨fun b_ => if b_ < w.heap.size then o b_ else (fun _ => 0) (o334 b_), rfl, hs.close0 o (fun _ => 0)⟩
  refine x_seq ?_
  refine wp_region_lit ?_
  refine x_run tab hk (k := 3) (lv := []) (ks := [3, 7, 8, 9]) (e' := [(3, .int .u32 4294967295), (7, .slice Ap0 (p0).length cp0), (8, .int .i64 ((p0).length : Int)), (9, .int .i64 0)]) rfl trivial fun a hk => ?_
  refine wpList_nil ?_
  refine then_n ?_
  refine wp_block ?_
  refine x_loop (fun j_ a_ w_ => ∃ o444 : Nat → Nat, ∃ x445 : Int, ∃ A446 : Option Addr, ∃ c447 : Nat, ∃ l448 : List ByteArray, ∃ x451 : Int, Kn 27 a_ [(3, .int .u32 x445), (7, .slice A446 (l448).length c447), (8, .int .i64 ((p0).length : Int)), (9, .int .i64 x451)] ∧ St [] w (fun _ => 0) w_ o444 ∧ Ft (RdC encStr A446 l448) w_ o444 0 ∧ Ft (RdC (encInt .u32) (some ⟨0, 0, none⟩) glob0) w_ o444 0 ∧ (l448).length ≤ c447 ∧ sum_Of_l2 K p0 j_ x445 l448 x451 = some r) (k := K) ⟨o0, 4294967295, Ap0, cp0, p0, 0, (by exact Kn.pick (ks := [3, 7, 8, 9]) hk rfl), hs, f900, fg0, hcp0, H⟩ (by rintro _ _ ⟨_, _, _, _, _, _, _, _, _, _, _, H_⟩; exact absurd (show (none : Option Int) = some r from H_) (by simp)) ?_
  rintro k557 a w556 ⟨o444, x445, A446, c447, l448, x451, hk, hs, f449, fg0, hc450, H⟩
  rw [sum_Of_l2] at H
  obtain ⟨lp558, hlp559⟩ : ∃ lp_, lp_ = sum_Of_l2 K p0 k557 := ⟨_, rfl⟩
  rw [← hlp559] at H
  refine x_seq ?_
  refine wp_region_lit ?_
  refine x_run tab hk (k := 1) (lv := []) (ks := [3, 7, 8, 9, 10]) (e' := [(3, .int .u32 x445), (7, .slice A446 (l448).length c447), (8, .int .i64 ((p0).length : Int)), (9, .int .i64 x451), (10, .bool (decide (x451 < ((p0).length : Int))))]) rfl trivial fun a hk => ?_
  refine wpList_nil ?_
  refine then_n ?_
  refine x_seq ?_
  cases b560 : (decide (x451 < ((p0).length : Int)))
  · rw [b560] at hk H
    replace H := bifF H
    refine x_if hk (b := false) rfl ?_
    refine (show Code.wp _ _ _ _ _ from ?_)
    refine wp_exit ?_
    refine then_x ?_
    refine then_x ?_
    refine blk_x ?_
    refine then_n ?_
    exact ⟨o444, x445, (by exact Kn.pick (ks := [3]) hk rfl), hs, fg0, H⟩
  · rw [b560] at hk H
    replace H := bifT H
    refine x_if hk (b := true) rfl ?_
    refine (show Code.wp _ _ _ _ _ from ?_)
    refine wp_skip ?_
    refine then_n ?_
    refine x_mid (fun a_ w_ => ∃ o614 : Nat → Nat, ∃ x615 : Int, ∃ A616 : Option Addr, ∃ c617 : Nat, ∃ l618 : List ByteArray, Kn 27 a_ [(3, .int .u32 x615), (7, .slice A616 (l618).length c617), (8, .int .i64 ((p0).length : Int)), (9, .int .i64 x451)] ∧ St [] w (fun _ => 0) w_ o614 ∧ Ft (RdC encStr A616 l618) w_ o614 0 ∧ Ft (RdC (encInt .u32) (some ⟨0, 0, none⟩) glob0) w_ o614 0 ∧ (l618).length ≤ c617 ∧ sum_Of_j3 x451 lp558 x615 l618 = some r) ?_ ?_
    rotate_left
    · rintro a w621 ⟨o614, x615, A616, c617, l618, hk, hs, f619, fg0, hc620, H⟩
      rw [sum_Of_j3] at H
      refine wp_region_lit ?_
      refine x_run tab hk (k := 2) (lv := []) (ks := [3, 7, 8, 9]) (e' := [(3, .int .u32 x615), (7, .slice A616 (l618).length c617), (8, .int .i64 ((p0).length : Int)), (9, .int .i64 (IntKind.wrap .i64 (x451 + 1)))]) rfl trivial fun a hk => ?_
      refine wpList_nil ?_
      refine then_n ?_
      exact ⟨k557, Nat.le_refl _, o614, x615, A616, c617, l618, (IntKind.wrap .i64 (x451 + 1)), (by exact Kn.pick (ks := [3, 7, 8, 9]) hk rfl), hs, f619, fg0, hc620, (hlp559 ▸ H)⟩
    refine wp_block ?_
    refine x_seq ?_
    refine wp_region_lit ?_
    obtain ⟨q622, H⟩ := ifS H
    obtain ⟨ad623, hAad623⟩ := RdC.addr f449.now q622
    subst hAad623
    refine x_run tab hk (k := 3) (lv := [.string (rdD (⟨#[]⟩ : ByteArray) l448 x451)]) (ks := [3, 5, 7, 8, 9]) (e' := [(3, .int .u32 x445), (5, .string (rdD (⟨#[]⟩ : ByteArray) l448 x451)), (7, .slice (some ad623) (l448).length c447), (8, .int .i64 ((p0).length : Int)), (9, .int .i64 x451)]) rfl ⟨q622, (load1 tab rfl (RdC.at0 (E := encStr) (d := (⟨#[]⟩ : ByteArray)) (i := x451) f449.now q622 rfl)), trivial⟩ fun a hk => ?_
    refine wpList_nil ?_
    refine then_n ?_
    refine x_seq ?_
    refine wp_region_lit ?_
    refine x_run tab hk (k := 3) (lv := []) (ks := [3, 5, 7, 8, 9, 14, 15]) (e' := [(3, .int .u32 x445), (5, .string (rdD (⟨#[]⟩ : ByteArray) l448 x451)), (7, .slice (some ad623) (l448).length c447), (8, .int .i64 ((p0).length : Int)), (9, .int .i64 x451), (14, .int .i64 (((rdD (⟨#[]⟩ : ByteArray) l448 x451)).size : Int)), (15, .int .i64 0)]) rfl trivial fun a hk => ?_
    refine wpList_nil ?_
    refine then_n ?_
    refine wp_block ?_
    refine x_loop (fun j_ a_ w_ => ∃ o637 : Nat → Nat, ∃ x638 : Int, ∃ x639 : Int, Kn 27 a_ [(3, .int .u32 x638), (5, .string (rdD (⟨#[]⟩ : ByteArray) l448 x451)), (7, .slice (some ad623) (l448).length c447), (8, .int .i64 ((p0).length : Int)), (9, .int .i64 x451), (14, .int .i64 (((rdD (⟨#[]⟩ : ByteArray) l448 x451)).size : Int)), (15, .int .i64 x639)] ∧ St [] w (fun _ => 0) w_ o637 ∧ Ft (RdC encStr (some ad623) l448) w_ o637 0 ∧ Ft (RdC (encInt .u32) (some ⟨0, 0, none⟩) glob0) w_ o637 0 ∧ sum_Of_l4 l448 x451 lp558 j_ x638 x639 = some r) (k := K) ⟨o444, x445, 0, (by exact Kn.pick (ks := [3, 5, 7, 8, 9, 14, 15]) hk rfl), hs, f449, fg0, H⟩ (by rintro _ _ ⟨_, _, _, _, _, _, _, H_⟩; exact absurd (show (none : Option Int) = some r from H_) (by simp)) ?_
    rintro k651 a w650 ⟨o637, x638, x639, hk, hs, f449, fg0, H⟩
    rw [sum_Of_l4] at H
    obtain ⟨lp652, hlp653⟩ : ∃ lp_, lp_ = sum_Of_l4 l448 x451 lp558 k651 := ⟨_, rfl⟩
    rw [← hlp653] at H
    refine x_seq ?_
    refine wp_region_lit ?_
    refine x_run tab hk (k := 1) (lv := []) (ks := [3, 5, 7, 8, 9, 14, 15, 16]) (e' := [(3, .int .u32 x638), (5, .string (rdD (⟨#[]⟩ : ByteArray) l448 x451)), (7, .slice (some ad623) (l448).length c447), (8, .int .i64 ((p0).length : Int)), (9, .int .i64 x451), (14, .int .i64 (((rdD (⟨#[]⟩ : ByteArray) l448 x451)).size : Int)), (15, .int .i64 x639), (16, .bool (decide (x639 < (((rdD (⟨#[]⟩ : ByteArray) l448 x451)).size : Int))))]) rfl trivial fun a hk => ?_
    refine wpList_nil ?_
    refine then_n ?_
    refine x_seq ?_
    cases b654 : (decide (x639 < (((rdD (⟨#[]⟩ : ByteArray) l448 x451)).size : Int)))
    · rw [b654] at hk H
      replace H := bifF H
      refine x_if hk (b := false) rfl ?_
      refine (show Code.wp _ _ _ _ _ from ?_)
      refine wp_exit ?_
      refine then_x ?_
      refine then_x ?_
      refine blk_x ?_
      refine blk_n ?_
      refine then_n ?_
      exact ⟨o637, x638, (some ad623), c447, l448, (by exact Kn.pick (ks := [3, 7, 8, 9]) hk rfl), hs, f449, fg0, hc450, H⟩
    · rw [b654] at hk H
      replace H := bifT H
      refine x_if hk (b := true) rfl ?_
      refine (show Code.wp _ _ _ _ _ from ?_)
      refine wp_skip ?_
      refine then_n ?_
      refine x_seq ?_
      refine wp_block ?_
      refine x_seq ?_
      refine wp_region_lit ?_
      refine x_run tab hk (k := 2) (lv := []) (ks := [3, 5, 6, 7, 8, 9, 14, 15]) (e' := [(3, .int .u32 x638), (5, .string (rdD (⟨#[]⟩ : ByteArray) l448 x451)), (6, .int .i64 x639), (7, .slice (some ad623) (l448).length c447), (8, .int .i64 ((p0).length : Int)), (9, .int .i64 x451), (14, .int .i64 (((rdD (⟨#[]⟩ : ByteArray) l448 x451)).size : Int)), (15, .int .i64 x639)]) rfl trivial fun a hk => ?_
      refine wpList_nil ?_
      refine then_n ?_
      refine wp_region_lit ?_
      obtain ⟨q655, H⟩ := ifS H
      refine x_run tab hk (k := 4) (lv := []) (ks := [5, 7, 8, 9, 14, 15, 18, 21]) (e' := [(5, .string (rdD (⟨#[]⟩ : ByteArray) l448 x451)), (7, .slice (some ad623) (l448).length c447), (8, .int .i64 ((p0).length : Int)), (9, .int .i64 x451), (14, .int .i64 (((rdD (⟨#[]⟩ : ByteArray) l448 x451)).size : Int)), (15, .int .i64 x639), (18, .int .u32 x638), (21, .int .u8 (bt (rdD (⟨#[]⟩ : ByteArray) l448 x451) x639))]) rfl ⟨q655, trivial⟩ fun a hk => ?_
      refine x_op hk rfl ?_
      obtain ⟨t659, hc660, H⟩ := bindS H
      refine op_call hk ent_18 (vs := [.int .u32 x638, .int .u8 (bt (rdD (⟨#[]⟩ : ByteArray) l448 x451) x639)]) rfl (sum_step_calls x638 (bt (rdD (⟨#[]⟩ : ByteArray) l448 x451) x639) _ o637 0 fg0   _ hc660) ?_
      rintro _ w661 ⟨o662, rfl, st663⟩
      replace f449 := f449.st st663 (by decide)
      replace fg0 := fg0.st st663 (by decide)
      replace hs := hs.loc0 st663 (by decide)
      have hk := hk.put 22 (.int .u32 t659) rfl
      refine x_run tab hk (k := 1) (lv := []) (ks := [3, 5, 7, 8, 9, 14, 15]) (e' := [(3, .int .u32 t659), (5, .string (rdD (⟨#[]⟩ : ByteArray) l448 x451)), (7, .slice (some ad623) (l448).length c447), (8, .int .i64 ((p0).length : Int)), (9, .int .i64 x451), (14, .int .i64 (((rdD (⟨#[]⟩ : ByteArray) l448 x451)).size : Int)), (15, .int .i64 x639)]) rfl trivial fun a hk => ?_
      refine wpList_nil ?_
      refine blk_n ?_
      refine then_n ?_
      refine wp_region_lit ?_
      refine x_run tab hk (k := 2) (lv := []) (ks := [3, 5, 7, 8, 9, 14, 15]) (e' := [(3, .int .u32 t659), (5, .string (rdD (⟨#[]⟩ : ByteArray) l448 x451)), (7, .slice (some ad623) (l448).length c447), (8, .int .i64 ((p0).length : Int)), (9, .int .i64 x451), (14, .int .i64 (((rdD (⟨#[]⟩ : ByteArray) l448 x451)).size : Int)), (15, .int .i64 (IntKind.wrap .i64 (x639 + 1)))]) rfl trivial fun a hk => ?_
      refine wpList_nil ?_
      refine then_n ?_
      exact ⟨k651, Nat.le_refl _, o662, t659, (IntKind.wrap .i64 (x639 + 1)), (by exact Kn.pick (ks := [3, 5, 7, 8, 9, 14, 15]) hk rfl), hs, f449, fg0, (hlp653 ▸ H)⟩

/-! tidewrack/tidewracklaw02.awake -/
theorem tidewracklaw02_awake_calls (K : Nat)  (w : World) (o : Nat → Nat) (Lg0 : Nat) (hg0 : Ft (RdC (encInt .u32) (some ⟨0, 0, none⟩) glob0) w o Lg0)   (r : Bool) (H : tidewracklaw02_awake K = some r) :
    Calls Tryd.prog 7 #[] w (Ret fun v_ w' => ∃ o' : Nat → Nat, v_ = .bool r ∧ St [] w o w' o') := by
  refine x_enter (vs := []) Tryd.func7 rfl rfl rfl fun a hk => ?_
  obtain ⟨o0, hs, h0⟩ := St.start w o
  have fg0 := h0 _ _ hg0
  clear h0
  rw [tidewracklaw02_awake] at H
  refine x_seq ?_
  refine wp_region_lit ?_
  refine x_run tab hk (k := 1) (lv := []) (ks := []) (e' := []) rfl trivial fun a hk => ?_
  refine wpList_nil ?_
  refine then_n ?_
  refine x_seq ?_
  refine wp_region_lit ?_
  refine x_op hk rfl ?_
  refine op_slice (o := o0) tab hk (vs := [.string (⟨#[49, 50, 51, 52, 53, 54, 55, 56, 57]⟩ : ByteArray)]) (cs := [.string (⟨#[49, 50, 51, 52, 53, 54, 55, 56, 57]⟩ : ByteArray)]) rfl rfl rfl rfl rfl rfl rfl rfl rfl 1 fun bx4 w1 o2 st3 f5 => ?_
  replace fg0 := fg0.st st3 (by decide)
  replace hs := hs.loc0 st3 (by decide)
  have f6 : Ft (Own encStr 9 (.slice (some ⟨bx4, 0, none⟩) (([(⟨#[49, 50, 51, 52, 53, 54, 55, 56, 57]⟩ : ByteArray)] : List ByteArray)).length 1) ([(⟨#[49, 50, 51, 52, 53, 54, 55, 56, 57]⟩ : ByteArray)] : List ByteArray)) w1 o2 1 := f5.imp fun _ h_ => Own.of_box h_ rfl (by simp)
  have hk := hk.put 1 (.slice (some ⟨bx4, 0, none⟩) (([(⟨#[49, 50, 51, 52, 53, 54, 55, 56, 57]⟩ : ByteArray)] : List ByteArray)).length 1) rfl
  refine x_op hk rfl ?_
  obtain ⟨t10, hc11, H⟩ := bindS H
  refine op_call hk ent_8 (vs := [.slice (some ⟨bx4, 0, none⟩) (([(⟨#[49, 50, 51, 52, 53, 54, 55, 56, 57]⟩ : ByteArray)] : List ByteArray)).length 1]) rfl (sum_Of_calls K (some ⟨bx4, 0, none⟩) 1 ([(⟨#[49, 50, 51, 52, 53, 54, 55, 56, 57]⟩ : ByteArray)] : List ByteArray) _ o2 0 fg0 _ (f6.imp fun _ h_ => Own.rd h_) (Nat.le_refl _)   _ hc11) ?_
  rintro _ w12 ⟨o13, rfl, st14⟩
  replace f6 := f6.st st14 (by decide)
  replace fg0 := fg0.st st14 (by decide)
  replace hs := hs.loc0 st14 (by decide)
  have hk := hk.put 2 (.int .u32 t10) rfl
  refine x_run tab hk (k := 2) (lv := []) (ks := [4]) (e' := [(4, .bool (t10 == (3421780262 : Int)))]) rfl trivial fun a hk => ?_
  cases b15 : (t10 == (3421780262 : Int))
  · rw [b15] at hk H
    replace H := bifF H
    refine x_run tab hk (k := 9) (lv := []) (ks := [0]) (e' := [(0, .bool false)]) rfl trivial fun a hk => ?_
    refine wpList_nil ?_
    refine then_n ?_
    refine wp_ret ?_
    obtain rfl := Option.some.inj H
    exact x_retG hk (rs := [.tmp 0]) (vs := [.bool false]) rfl ⟨rfl, trivial⟩ ⟨fun b_ => if b_ < w.heap.size then o b_ else (fun _ => 0) (o13 b_), rfl, hs.close0 o (fun _ => 0)⟩
  · rw [b15] at hk H
    replace H := bifT H
    refine x_op hk rfl ?_
    refine op_slice (o := o13) tab hk (vs := [.string (⟨#[49, 50, 51, 52]⟩ : ByteArray), .string (⟨#[53, 54, 55, 56, 57]⟩ : ByteArray)]) (cs := [.string (⟨#[49, 50, 51, 52]⟩ : ByteArray), .string (⟨#[53, 54, 55, 56, 57]⟩ : ByteArray)]) rfl rfl rfl rfl rfl rfl rfl rfl rfl 2 fun bx19 w16 o17 st18 f20 => ?_
    replace fg0 := fg0.st st18 (by decide)
    replace hs := hs.loc0 st18 (by decide)
    have f21 : Ft (Own encStr 9 (.slice (some ⟨bx19, 0, none⟩) (([(⟨#[49, 50, 51, 52]⟩ : ByteArray), (⟨#[53, 54, 55, 56, 57]⟩ : ByteArray)] : List ByteArray)).length 2) ([(⟨#[49, 50, 51, 52]⟩ : ByteArray), (⟨#[53, 54, 55, 56, 57]⟩ : ByteArray)] : List ByteArray)) w16 o17 2 := f20.imp fun _ h_ => Own.of_box h_ rfl (by simp)
    have hk := hk.put 5 (.slice (some ⟨bx19, 0, none⟩) (([(⟨#[49, 50, 51, 52]⟩ : ByteArray), (⟨#[53, 54, 55, 56, 57]⟩ : ByteArray)] : List ByteArray)).length 2) rfl
    refine x_op hk rfl ?_
    obtain ⟨t25, hc26, H⟩ := bindS H
    refine op_call hk ent_8 (vs := [.slice (some ⟨bx19, 0, none⟩) (([(⟨#[49, 50, 51, 52]⟩ : ByteArray), (⟨#[53, 54, 55, 56, 57]⟩ : ByteArray)] : List ByteArray)).length 2]) rfl (sum_Of_calls K (some ⟨bx19, 0, none⟩) 2 ([(⟨#[49, 50, 51, 52]⟩ : ByteArray), (⟨#[53, 54, 55, 56, 57]⟩ : ByteArray)] : List ByteArray) _ o17 0 fg0 _ (f21.imp fun _ h_ => Own.rd h_) (Nat.le_refl _)   _ hc26) ?_
    rintro _ w27 ⟨o28, rfl, st29⟩
    replace f21 := f21.st st29 (by decide)
    replace fg0 := fg0.st st29 (by decide)
    replace hs := hs.loc0 st29 (by decide)
    have hk := hk.put 6 (.int .u32 t25) rfl
    refine x_run tab hk (k := 3) (lv := []) (ks := [9]) (e' := [(9, .bool (t25 == (3421780262 : Int)))]) rfl trivial fun a hk => ?_
    cases b30 : (t25 == (3421780262 : Int))
    · rw [b30] at hk H
      replace H := bifF H
      refine x_run tab hk (k := 4) (lv := []) (ks := [0]) (e' := [(0, .bool false)]) rfl trivial fun a hk => ?_
      refine wpList_nil ?_
      refine then_n ?_
      refine wp_ret ?_
      obtain rfl := Option.some.inj H
      exact x_retG hk (rs := [.tmp 0]) (vs := [.bool false]) rfl ⟨rfl, trivial⟩ ⟨fun b_ => if b_ < w.heap.size then o b_ else (fun _ => 0) (o28 b_), rfl, hs.close0 o (fun _ => 0)⟩
    · rw [b30] at hk H
      replace H := bifT H
      refine x_op hk rfl ?_
      obtain ⟨t34, hc35, H⟩ := bindS H
      refine op_call hk ent_8 (vs := [.slice none 0 0]) rfl (sum_Of_calls K none 0 ([] : List ByteArray) _ o28 0 fg0 _ (Ft.of_all (fun _ h_ => absurd h_ (by simp)) _ _ 0) (by simp)   _ hc35) ?_
      rintro _ w36 ⟨o37, rfl, st38⟩
      replace fg0 := fg0.st st38 (by decide)
      replace hs := hs.loc0 st38 (by decide)
      have hk := hk.put 10 (.int .u32 t34) rfl
      refine x_run tab hk (k := 3) (lv := []) (ks := [0]) (e' := [(0, .bool (t34 == (0 : Int)))]) rfl trivial fun a hk => ?_
      refine wpList_nil ?_
      refine then_n ?_
      refine wp_ret ?_
      obtain rfl := Option.some.inj H
      exact x_retG hk (rs := [.tmp 0]) (vs := [.bool (t34 == (0 : Int))]) rfl ⟨rfl, trivial⟩ ⟨fun b_ => if b_ < w.heap.size then o b_ else (fun _ => 0) (o37 b_), rfl, hs.close0 o (fun _ => 0)⟩

/-! tidewrack/tidewracklaw01.Cut -/
theorem tidewracklaw01_Cut_calls (p0 : ByteArray) (p1 : Int) (w : World) (o : Nat → Nat)   (r : ByteArray) (H : tidewracklaw01_Cut p0 p1 = some r) :
    Calls Tryd.prog 13 #[.string p0, .int .i64 p1] w (Ret fun v_ w' => ∃ o' : Nat → Nat, v_ = .string r ∧ St [] w o w' o') := by
  refine x_enter (vs := [.string p0, .int .i64 p1]) Tryd.func13 rfl rfl rfl fun a hk => ?_
  obtain ⟨o0, hs, h0⟩ := St.start w o
  clear h0
  rw [tidewracklaw01_Cut] at H
  refine x_seq ?_
  refine wp_region_lit ?_
  refine x_run tab hk (k := 1) (lv := []) (ks := [0, 1]) (e' := [(0, .string p0), (1, .int .i64 p1)]) rfl trivial fun a hk => ?_
  refine wpList_nil ?_
  refine then_n ?_
  refine x_seq ?_
  refine x_seq ?_
  refine wp_region_lit ?_
  refine x_run tab hk (k := 4) (lv := []) (ks := [0, 1, 8]) (e' := [(0, .string p0), (1, .int .i64 p1), (8, .bool (decide (((p0).size : Int) > p1)))]) rfl trivial fun a hk => ?_
  refine wpList_nil ?_
  refine then_n ?_
  cases b1 : (decide (((p0).size : Int) > p1))
  · rw [b1] at hk H
    replace H := bifF H
    refine x_if hk (b := false) rfl ?_
    refine (show Code.wp _ _ _ _ _ from ?_)
    refine wp_skip ?_
    refine then_n ?_
    refine x_seq ?_
    refine wp_region_lit ?_
    refine x_run tab hk (k := 2) (lv := []) (ks := [4]) (e' := [(4, .string p0)]) rfl trivial fun a hk => ?_
    refine wpList_nil ?_
    refine then_n ?_
    refine wp_ret ?_
    obtain rfl := Option.some.inj H
    exact x_retG hk (rs := [.tmp 4]) (vs := [.string p0]) rfl ⟨rfl, trivial⟩ ⟨fun b_ => if b_ < w.heap.size then o b_ else (fun _ => 0) (o0 b_), rfl, hs.close0 o (fun _ => 0)⟩
  · rw [b1] at hk H
    replace H := bifT H
    refine x_if hk (b := true) rfl ?_
    refine (show Code.wp _ _ _ _ _ from ?_)
    refine x_seq ?_
    refine wp_region_lit ?_
    obtain ⟨q2, H⟩ := ifS H
    obtain ⟨q3, H⟩ := ifS H
    refine x_run tab hk (k := 4) (lv := []) (ks := [4]) (e' := [(4, .string (ByteArray.extract p0 0 (Int.toNat p1)))]) rfl ⟨q2, q3, trivial⟩ fun a hk => ?_
    refine wpList_nil ?_
    refine then_n ?_
    refine wp_ret ?_
    refine then_r ?_
    obtain rfl := Option.some.inj H
    exact x_retG hk (rs := [.tmp 4]) (vs := [.string (ByteArray.extract p0 0 (Int.toNat p1))]) rfl ⟨rfl, trivial⟩ ⟨fun b_ => if b_ < w.heap.size then o b_ else (fun _ => 0) (o0 b_), rfl, hs.close0 o (fun _ => 0)⟩

/-! tidewrack/tidewracklaw01.Few -/
theorem tidewracklaw01_Few_calls (K : Nat) (Ap0 : Option Addr) (cp0 : Nat) (p0 : List ByteArray) (p1 : Int) (p2 : Int) (w : World) (o : Nat → Nat) (Lp0 : Nat) (hp0 : Ft (RdC encStr Ap0 p0) w o Lp0) (hcp0 : (p0).length ≤ cp0)  (R0 : Nat) (r : List ByteArray) (H : tidewracklaw01_Few K p0 p1 p2 = some r) :
    Calls Tryd.prog 9 #[.slice Ap0 (p0).length cp0, .int .i64 p1, .int .i64 p2] w (Ret fun v_ w' => ∃ o' : Nat → Nat, ∃ A0 : Option Addr, ∃ c0 : Nat, v_ = .slice A0 (r).length c0 ∧ St [] w o w' o' ∧ Ft (Own encStr 9 (.slice A0 (r).length c0) (r)) w' o' R0 ∧ (r).length ≤ c0) := by
  refine x_enter (vs := [.slice Ap0 (p0).length cp0, .int .i64 p1, .int .i64 p2]) Tryd.func9 rfl rfl rfl fun a hk => ?_
  obtain ⟨o0, hs, h0⟩ := St.start w o
  have f900 := h0 _ _ hp0
  clear h0
  rw [tidewracklaw01_Few] at H
  refine x_seq ?_
  refine wp_region_lit ?_
  refine x_run tab hk (k := 1) (lv := []) (ks := [0, 1, 2]) (e' := [(0, .slice Ap0 (p0).length cp0), (1, .int .i64 p1), (2, .int .i64 p2)]) rfl trivial fun a hk => ?_
  refine wpList_nil ?_
  refine then_n ?_
  refine x_seq ?_
  refine wp_region_lit ?_
  refine x_run tab hk (k := 1) (lv := []) (ks := [0, 1, 2, 7]) (e' := [(0, .slice Ap0 (p0).length cp0), (1, .int .i64 p1), (2, .int .i64 p2), (7, .slice none 0 0)]) rfl trivial fun a hk => ?_
  refine wpList_nil ?_
  refine then_n ?_
  refine x_mid (fun a_ w_ => ∃ o124 : Nat → Nat, ∃ A125 : Option Addr, ∃ c126 : Nat, ∃ l127 : List ByteArray, Kn 30 a_ [(7, .slice A125 (l127).length c126)] ∧ St [] w (fun _ => 0) w_ o124 ∧ Ft (Own encStr 9 (.slice A125 (l127).length c126) l127) w_ o124 11 ∧ (l127).length ≤ c126 ∧ tidewracklaw01_Few_j1 l127 = some r) ?_ ?_
  rotate_left
  · rintro a w130 ⟨o124, A125, c126, l127, hk, hs, f128, hc129, H⟩
    rw [tidewracklaw01_Few_j1] at H
    refine x_seq ?_
    refine wp_region_lit ?_
    refine x_run tab hk (k := 2) (lv := []) (ks := [6]) (e' := [(6, .slice A125 (l127).length c126)]) rfl trivial fun a hk => ?_
    refine wpList_nil ?_
    refine then_n ?_
    refine wp_ret ?_
    obtain rfl := Option.some.inj H
    exact x_retG hk (rs := [.tmp 6]) (vs := [.slice A125 (l127).length c126]) rfl ⟨rfl, trivial⟩ ⟨fun b_ => if b_ < w.heap.size then o b_ else (fun _ => R0) (o124 b_), A125, c126, rfl, hs.close0 o (fun _ => R0), hs.close_ft (o := o) (ρ := fun _ => R0) f128 (by decide) rfl, hc129⟩
  refine x_seq ?_
  refine wp_region_lit ?_
  refine x_run tab hk (k := 1) (lv := []) (ks := [0, 1, 2, 7, 8]) (e' := [(0, .slice Ap0 (p0).length cp0), (1, .int .i64 p1), (2, .int .i64 p2), (7, .slice none 0 0), (8, .int .i64 0)]) rfl trivial fun a hk => ?_
  refine wpList_nil ?_
  refine then_n ?_
  refine wp_block ?_
  refine x_loop (fun j_ a_ w_ => ∃ o167 : Nat → Nat, ∃ A168 : Option Addr, ∃ c169 : Nat, ∃ l170 : List ByteArray, ∃ x173 : Int, Kn 30 a_ [(0, .slice Ap0 (p0).length cp0), (1, .int .i64 p1), (2, .int .i64 p2), (7, .slice A168 (l170).length c169), (8, .int .i64 x173)] ∧ St [] w (fun _ => 0) w_ o167 ∧ Ft (Own encStr 9 (.slice A168 (l170).length c169) l170) w_ o167 16 ∧ Ft (RdC encStr Ap0 p0) w_ o167 0 ∧ (l170).length ≤ c169 ∧ tidewracklaw01_Few_l2 p0 p1 p2 j_ l170 x173 = some r) (k := K) ⟨o0, none, 0, ([] : List ByteArray), 0, (by exact Kn.pick (ks := [0, 1, 2, 7, 8]) hk rfl), hs, (Ft.of_all (fun _ => Own.nil _ _ _) _ _ _), f900, (by simp), H⟩ (by rintro _ _ ⟨_, _, _, _, _, _, _, _, _, _, H_⟩; exact absurd (show (none : Option (List ByteArray)) = some r from H_) (by simp)) ?_
  rintro k208 a w207 ⟨o167, A168, c169, l170, x173, hk, hs, f171, f900, hc172, H⟩
  rw [tidewracklaw01_Few_l2] at H
  obtain ⟨lp209, hlp210⟩ : ∃ lp_, lp_ = tidewracklaw01_Few_l2 p0 p1 p2 k208 := ⟨_, rfl⟩
  rw [← hlp210] at H
  refine x_mid (fun a_ w_ => ∃ o216 : Nat → Nat, Kn 30 a_ [(0, .slice Ap0 (p0).length cp0), (1, .int .i64 p1), (2, .int .i64 p2), (7, .slice A168 (l170).length c169), (8, .int .i64 x173)] ∧ St [] w (fun _ => 0) w_ o216 ∧ Ft (Own encStr 9 (.slice A168 (l170).length c169) l170) w_ o216 19 ∧ Ft (RdC encStr Ap0 p0) w_ o216 0 ∧ tidewracklaw01_Few_j3 p0 p2 l170 x173 lp209 = some r) ?_ ?_
  rotate_left
  · rintro a w217 ⟨o216, hk, hs, f171, f900, H⟩
    rw [tidewracklaw01_Few_j3] at H
    refine x_seq ?_
    refine wp_block ?_
    refine wp_region_lit ?_
    obtain ⟨q218, H⟩ := ifS H
    obtain ⟨ad219, hAad219⟩ := RdC.addr f900.now q218
    subst hAad219
    refine x_run tab hk (k := 6) (lv := [.string (rdD (⟨#[]⟩ : ByteArray) p0 x173)]) (ks := [0, 1, 2, 8, 20, 24, 25]) (e' := [(0, .slice (some ad219) (p0).length cp0), (1, .int .i64 p1), (2, .int .i64 p2), (8, .int .i64 x173), (20, .slice A168 (l170).length c169), (24, .string (rdD (⟨#[]⟩ : ByteArray) p0 x173)), (25, .int .i64 p2)]) rfl ⟨q218, (load1 tab rfl (RdC.at0 (E := encStr) (d := (⟨#[]⟩ : ByteArray)) (i := x173) f900.now q218 rfl)), trivial⟩ fun a hk => ?_
    refine x_op hk rfl ?_
    obtain ⟨t223, hc224, H⟩ := bindS H
    refine op_call hk ent_13 (vs := [.string (rdD (⟨#[]⟩ : ByteArray) p0 x173), .int .i64 p2]) rfl (tidewracklaw01_Cut_calls (rdD (⟨#[]⟩ : ByteArray) p0 x173) p2 _ o216    _ hc224) ?_
    rintro _ w225 ⟨o226, rfl, st227⟩
    replace f171 := f171.st st227 (by decide)
    replace f900 := f900.st st227 (by decide)
    replace hs := hs.loc0 st227 (by decide)
    have hk := hk.put 26 (.string t223) rfl
    refine x_op hk rfl ?_
    refine op_slice (o := o226) tab hk (vs := [.string t223]) (cs := [.string t223]) rfl rfl rfl rfl rfl rfl rfl rfl rfl 20 fun bx231 w228 o229 st230 f232 => ?_
    replace f171 := f171.st st230 (by decide)
    replace f900 := f900.st st230 (by decide)
    replace hs := hs.loc0 st230 (by decide)
    have f233 : Ft (Own encStr 9 (.slice (some ⟨bx231, 0, none⟩) (([t223] : List ByteArray)).length 1) ([t223] : List ByteArray)) w228 o229 20 := f232.imp fun _ h_ => Own.of_box h_ rfl (by simp)
    have hk := hk.put 27 (.slice (some ⟨bx231, 0, none⟩) (([t223] : List ByteArray)).length 1) rfl
    refine x_op hk rfl ?_
    obtain ⟨q237, H⟩ := ifS H
    refine op_append (o := o229) (E := encStr) (xs := l170) (ys := ([t223] : List ByteArray)) tab hk rfl rfl rfl rfl rfl rfl rfl f171 (Own.rd f233.now) q237 fun A238 c239 w234 o235 st236 f240 hc241 => ?_
    replace f233 := f233.st st236 (by decide)
    replace f900 := f900.st st236 (by decide)
    replace hs := hs.loc0 st236 (by decide)
    have hk := hk.put 28 (.slice A238 ((l170 ++ ([t223] : List ByteArray))).length c239) rfl
    refine x_run tab hk (k := 1) (lv := []) (ks := [0, 1, 2, 7, 8]) (e' := [(0, .slice (some ad219) (p0).length cp0), (1, .int .i64 p1), (2, .int .i64 p2), (7, .slice A238 ((l170 ++ ([t223] : List ByteArray))).length c239), (8, .int .i64 x173)]) rfl trivial fun a hk => ?_
    refine wpList_nil ?_
    refine blk_n ?_
    refine then_n ?_
    refine wp_region_lit ?_
    refine x_run tab hk (k := 3) (lv := []) (ks := [0, 1, 2, 7, 8]) (e' := [(0, .slice (some ad219) (p0).length cp0), (1, .int .i64 p1), (2, .int .i64 p2), (7, .slice A238 ((l170 ++ ([t223] : List ByteArray))).length c239), (8, .int .i64 (IntKind.wrap .i64 (x173 + 1)))]) rfl trivial fun a hk => ?_
    refine wpList_nil ?_
    refine then_n ?_
    exact ⟨k208, Nat.le_refl _, (fun b_ => (fun l_ => if l_ = 19 then 16 else l_) (o235 b_)), A238, c239, (l170 ++ ([t223] : List ByteArray)), (IntKind.wrap .i64 (x173 + 1)), (by exact Kn.pick (ks := [0, 1, 2, 7, 8]) hk rfl), (hs.relab0 (fun l_ => if l_ = 19 then 16 else l_) rfl), (f240.relab (fun l_ => if l_ = 19 then 16 else l_) rfl), (f900.relab (fun l_ => if l_ = 19 then 16 else l_) rfl), hc241, (hlp210 ▸ H)⟩
  refine x_seq ?_
  refine wp_region_lit ?_
  refine x_run tab hk (k := 5) (lv := []) (ks := [0, 1, 2, 7, 8, 13]) (e' := [(0, .slice Ap0 (p0).length cp0), (1, .int .i64 p1), (2, .int .i64 p2), (7, .slice A168 (l170).length c169), (8, .int .i64 x173), (13, .bool (decide (x173 < ((p0).length : Int))))]) rfl trivial fun a hk => ?_
  cases b242 : (decide (x173 < ((p0).length : Int)))
  · rw [b242] at hk H
    replace H := bifF H
    refine x_run tab hk (k := 4) (lv := []) (ks := [0, 1, 2, 7, 8, 17]) (e' := [(0, .slice Ap0 (p0).length cp0), (1, .int .i64 p1), (2, .int .i64 p2), (7, .slice A168 (l170).length c169), (8, .int .i64 x173), (17, .bool false)]) rfl trivial fun a hk => ?_
    refine wpList_nil ?_
    refine then_n ?_
    refine x_if hk (b := false) rfl ?_
    refine (show Code.wp _ _ _ _ _ from ?_)
    refine wp_exit ?_
    refine then_x ?_
    refine then_x ?_
    refine blk_x ?_
    refine then_n ?_
    exact ⟨(fun b_ => (fun l_ => if l_ = 16 then 11 else l_) (o167 b_)), A168, c169, l170, (by exact Kn.pick (ks := [7]) hk rfl), (hs.relab0 (fun l_ => if l_ = 16 then 11 else l_) rfl), (f171.relab (fun l_ => if l_ = 16 then 11 else l_) rfl), hc172, H⟩
  · rw [b242] at hk H
    replace H := bifT H
    refine x_run tab hk (k := 4) (lv := []) (ks := [0, 1, 2, 7, 8, 17]) (e' := [(0, .slice Ap0 (p0).length cp0), (1, .int .i64 p1), (2, .int .i64 p2), (7, .slice A168 (l170).length c169), (8, .int .i64 x173), (17, .bool (decide (x173 < p1)))]) rfl trivial fun a hk => ?_
    refine wpList_nil ?_
    refine then_n ?_
    cases b243 : (decide (x173 < p1))
    · rw [b243] at hk H
      replace H := bifF H
      refine x_if hk (b := false) rfl ?_
      refine (show Code.wp _ _ _ _ _ from ?_)
      refine wp_exit ?_
      refine then_x ?_
      refine then_x ?_
      refine blk_x ?_
      refine then_n ?_
      exact ⟨(fun b_ => (fun l_ => if l_ = 16 then 11 else l_) (o167 b_)), A168, c169, l170, (by exact Kn.pick (ks := [7]) hk rfl), (hs.relab0 (fun l_ => if l_ = 16 then 11 else l_) rfl), (f171.relab (fun l_ => if l_ = 16 then 11 else l_) rfl), hc172, H⟩
    · rw [b243] at hk H
      replace H := bifT H
      refine x_if hk (b := true) rfl ?_
      refine (show Code.wp _ _ _ _ _ from ?_)
      refine wp_skip ?_
      refine then_n ?_
      exact ⟨(fun b_ => (fun l_ => if l_ = 16 then 19 else l_) (o167 b_)), (by exact Kn.pick (ks := [0, 1, 2, 7, 8]) hk rfl), (hs.relab0 (fun l_ => if l_ = 16 then 19 else l_) rfl), (f171.relab (fun l_ => if l_ = 16 then 19 else l_) rfl), (f900.relab (fun l_ => if l_ = 16 then 19 else l_) rfl), H⟩

/-! tidewrack/tidewrackref02.Of -/
theorem tidewrackref02_Of_calls (K : Nat) (p0 : ByteArray) (w : World) (o : Nat → Nat)   (r : Int) (H : tidewrackref02_Of K p0 = some r) :
    Calls Tryd.prog 10 #[.string p0] w (Ret fun v_ w' => ∃ o' : Nat → Nat, v_ = .int .i64 r ∧ St [] w o w' o') := by
  refine x_enter (vs := [.string p0]) Tryd.func10 rfl rfl rfl fun a hk => ?_
  obtain ⟨o0, hs, h0⟩ := St.start w o
  clear h0
  rw [tidewrackref02_Of] at H
  refine x_seq ?_
  refine wp_region_lit ?_
  refine x_run tab hk (k := 1) (lv := []) (ks := [0]) (e' := [(0, .string p0)]) rfl trivial fun a hk => ?_
  refine wpList_nil ?_
  refine then_n ?_
  refine x_seq ?_
  refine wp_region_lit ?_
  refine x_run tab hk (k := 1) (lv := []) (ks := [0, 3]) (e' := [(0, .string p0), (3, .int .i64 4294967295)]) rfl trivial fun a hk => ?_
  refine wpList_nil ?_
  refine then_n ?_
  refine x_mid (fun a_ w_ => ∃ o149 : Nat → Nat, ∃ x150 : Int, Kn 32 a_ [(3, .int .i64 x150)] ∧ St [] w (fun _ => 0) w_ o149 ∧ tidewrackref02_Of_j1 x150 = some r) ?_ ?_
  rotate_left
  · rintro a w151 ⟨o149, x150, hk, hs, H⟩
    rw [tidewrackref02_Of_j1] at H
    refine x_seq ?_
    refine wp_region_lit ?_
    refine x_run tab hk (k := 3) (lv := []) (ks := [2]) (e' := [(2, .int .i64 (IntKind.wrap .i64 (4294967295 - x150)))]) rfl trivial fun a hk => ?_
    refine wpList_nil ?_
    refine then_n ?_
    refine wp_ret ?_
    obtain rfl := Option.some.inj H
    exact x_retG hk (rs := [.tmp 2]) (vs := [.int .i64 (IntKind.wrap .i64 (4294967295 - x150))]) rfl ⟨rfl, trivial⟩ ⟨fun b_ => if b_ < w.heap.size then o b_ else (fun _ => 0) (o149 b_), rfl, hs.close0 o (fun _ => 0)⟩
  refine x_seq ?_
  refine wp_region_lit ?_
  refine x_run tab hk (k := 1) (lv := []) (ks := [0, 3, 4]) (e' := [(0, .string p0), (3, .int .i64 4294967295), (4, .int .i64 0)]) rfl trivial fun a hk => ?_
  refine wpList_nil ?_
  refine then_n ?_
  refine wp_block ?_
  refine x_loop (fun j_ a_ w_ => ∃ o199 : Nat → Nat, ∃ x200 : Int, ∃ x201 : Int, Kn 32 a_ [(0, .string p0), (3, .int .i64 x200), (4, .int .i64 x201)] ∧ St [] w (fun _ => 0) w_ o199 ∧ tidewrackref02_Of_l2 K p0 j_ x200 x201 = some r) (k := K) ⟨o0, 4294967295, 0, (by exact Kn.pick (ks := [0, 3, 4]) hk rfl), hs, H⟩ (by rintro _ _ ⟨_, _, _, _, _, H_⟩; exact absurd (show (none : Option Int) = some r from H_) (by simp)) ?_
  rintro k247 a w246 ⟨o199, x200, x201, hk, hs, H⟩
  rw [tidewrackref02_Of_l2] at H
  obtain ⟨lp248, hlp249⟩ : ∃ lp_, lp_ = tidewrackref02_Of_l2 K p0 k247 := ⟨_, rfl⟩
  rw [← hlp249] at H
  refine x_seq ?_
  refine x_seq ?_
  refine wp_region_lit ?_
  refine x_run tab hk (k := 4) (lv := []) (ks := [0, 3, 4, 9]) (e' := [(0, .string p0), (3, .int .i64 x200), (4, .int .i64 x201), (9, .bool (decide (x201 < ((p0).size : Int))))]) rfl trivial fun a hk => ?_
  refine wpList_nil ?_
  refine then_n ?_
  cases b250 : (decide (x201 < ((p0).size : Int)))
  · rw [b250] at hk H
    replace H := bifF H
    refine x_if hk (b := false) rfl ?_
    refine (show Code.wp _ _ _ _ _ from ?_)
    refine wp_exit ?_
    refine then_x ?_
    refine then_x ?_
    refine blk_x ?_
    refine then_n ?_
    exact ⟨o199, x200, (by exact Kn.pick (ks := [3]) hk rfl), hs, H⟩
  · rw [b250] at hk H
    replace H := bifT H
    refine x_if hk (b := true) rfl ?_
    refine (show Code.wp _ _ _ _ _ from ?_)
    refine wp_skip ?_
    refine then_n ?_
    refine x_mid (fun a_ w_ => ∃ o274 : Nat → Nat, ∃ x275 : Int, Kn 32 a_ [(0, .string p0), (3, .int .i64 x275), (4, .int .i64 x201)] ∧ St [] w (fun _ => 0) w_ o274 ∧ tidewrackref02_Of_j3 x201 lp248 x275 = some r) ?_ ?_
    rotate_left
    · rintro a w276 ⟨o274, x275, hk, hs, H⟩
      rw [tidewrackref02_Of_j3] at H
      refine wp_region_lit ?_
      refine x_run tab hk (k := 3) (lv := []) (ks := [0, 3, 4]) (e' := [(0, .string p0), (3, .int .i64 x275), (4, .int .i64 (IntKind.wrap .i64 (x201 + 1)))]) rfl trivial fun a hk => ?_
      refine wpList_nil ?_
      refine then_n ?_
      exact ⟨k247, Nat.le_refl _, o274, x275, (IntKind.wrap .i64 (x201 + 1)), (by exact Kn.pick (ks := [0, 3, 4]) hk rfl), hs, (hlp249 ▸ H)⟩
    refine wp_block ?_
    refine x_seq ?_
    refine wp_region_lit ?_
    obtain ⟨q277, H⟩ := ifS H
    refine x_run tab hk (k := 7) (lv := []) (ks := [0, 3, 4]) (e' := [(0, .string p0), (3, .int .i64 (bits .xor .i64 x200 (IntKind.wrap .i64 (bt p0 x201)))), (4, .int .i64 x201)]) rfl ⟨q277, trivial⟩ fun a hk => ?_
    refine wpList_nil ?_
    refine then_n ?_
    refine x_seq ?_
    refine wp_region_lit ?_
    refine x_run tab hk (k := 1) (lv := []) (ks := [0, 3, 4, 5]) (e' := [(0, .string p0), (3, .int .i64 (bits .xor .i64 x200 (IntKind.wrap .i64 (bt p0 x201)))), (4, .int .i64 x201), (5, .int .i64 0)]) rfl trivial fun a hk => ?_
    refine wpList_nil ?_
    refine then_n ?_
    refine wp_block ?_
    refine x_loop (fun j_ a_ w_ => ∃ o283 : Nat → Nat, ∃ x284 : Int, ∃ x285 : Int, Kn 32 a_ [(0, .string p0), (3, .int .i64 x284), (4, .int .i64 x201), (5, .int .i64 x285)] ∧ St [] w (fun _ => 0) w_ o283 ∧ tidewrackref02_Of_l4 x201 lp248 j_ x284 x285 = some r) (k := K) ⟨o199, (bits .xor .i64 x200 (IntKind.wrap .i64 (bt p0 x201))), 0, (by exact Kn.pick (ks := [0, 3, 4, 5]) hk rfl), hs, H⟩ (by rintro _ _ ⟨_, _, _, _, _, H_⟩; exact absurd (show (none : Option Int) = some r from H_) (by simp)) ?_
    rintro k289 a w288 ⟨o283, x284, x285, hk, hs, H⟩
    rw [tidewrackref02_Of_l4] at H
    obtain ⟨lp290, hlp291⟩ : ∃ lp_, lp_ = tidewrackref02_Of_l4 x201 lp248 k289 := ⟨_, rfl⟩
    rw [← hlp291] at H
    refine x_seq ?_
    refine x_seq ?_
    refine wp_region_lit ?_
    refine x_run tab hk (k := 2) (lv := []) (ks := [0, 3, 4, 5, 19]) (e' := [(0, .string p0), (3, .int .i64 x284), (4, .int .i64 x201), (5, .int .i64 x285), (19, .bool (decide (x285 < (8 : Int))))]) rfl trivial fun a hk => ?_
    refine wpList_nil ?_
    refine then_n ?_
    cases b292 : (decide (x285 < (8 : Int)))
    · rw [b292] at hk H
      replace H := bifF H
      refine x_if hk (b := false) rfl ?_
      refine (show Code.wp _ _ _ _ _ from ?_)
      refine wp_exit ?_
      refine then_x ?_
      refine then_x ?_
      refine blk_x ?_
      refine blk_n ?_
      refine then_n ?_
      exact ⟨o283, x284, (by exact Kn.pick (ks := [0, 3, 4]) hk rfl), hs, H⟩
    · rw [b292] at hk H
      replace H := bifT H
      refine x_if hk (b := true) rfl ?_
      refine (show Code.wp _ _ _ _ _ from ?_)
      refine wp_skip ?_
      refine then_n ?_
      refine x_seq ?_
      refine wp_block ?_
      refine x_seq ?_
      refine wp_region_lit ?_
      refine x_run tab hk (k := 3) (lv := []) (ks := [0, 3, 4, 5, 24]) (e' := [(0, .string p0), (3, .int .i64 x284), (4, .int .i64 x201), (5, .int .i64 x285), (24, .bool ((Int.tmod x284 2) == (1 : Int)))]) rfl ⟨(show (2 : Int) ≠ 0 from by decide), trivial⟩ fun a hk => ?_
      refine wpList_nil ?_
      refine then_n ?_
      cases b293 : ((Int.tmod x284 2) == (1 : Int))
      · rw [b293] at hk H
        replace H := bifF H
        refine x_if hk (b := false) rfl ?_
        refine (show Code.wp _ _ _ _ _ from ?_)
        refine wp_region_lit ?_
        refine x_run tab hk (k := 3) (lv := []) (ks := [0, 3, 4, 5]) (e' := [(0, .string p0), (3, .int .i64 (IntKind.wrap .i64 (Int.tdiv x284 2))), (4, .int .i64 x201), (5, .int .i64 x285)]) rfl ⟨(show (2 : Int) ≠ 0 from by decide), trivial⟩ fun a hk => ?_
        refine wpList_nil ?_
        refine blk_n ?_
        refine then_n ?_
        refine wp_region_lit ?_
        refine x_run tab hk (k := 3) (lv := []) (ks := [0, 3, 4, 5]) (e' := [(0, .string p0), (3, .int .i64 (IntKind.wrap .i64 (Int.tdiv x284 2))), (4, .int .i64 x201), (5, .int .i64 (IntKind.wrap .i64 (x285 + 1)))]) rfl trivial fun a hk => ?_
        refine wpList_nil ?_
        refine then_n ?_
        exact ⟨k289, Nat.le_refl _, o283, (IntKind.wrap .i64 (Int.tdiv x284 2)), (IntKind.wrap .i64 (x285 + 1)), (by exact Kn.pick (ks := [0, 3, 4, 5]) hk rfl), hs, (hlp291 ▸ H)⟩
      · rw [b293] at hk H
        replace H := bifT H
        refine x_if hk (b := true) rfl ?_
        refine (show Code.wp _ _ _ _ _ from ?_)
        refine wp_region_lit ?_
        refine x_run tab hk (k := 4) (lv := []) (ks := [0, 3, 4, 5]) (e' := [(0, .string p0), (3, .int .i64 (bits .xor .i64 (IntKind.wrap .i64 (Int.tdiv x284 2)) 3988292384)), (4, .int .i64 x201), (5, .int .i64 x285)]) rfl ⟨(show (2 : Int) ≠ 0 from by decide), trivial⟩ fun a hk => ?_
        refine wpList_nil ?_
        refine blk_n ?_
        refine then_n ?_
        refine wp_region_lit ?_
        refine x_run tab hk (k := 3) (lv := []) (ks := [0, 3, 4, 5]) (e' := [(0, .string p0), (3, .int .i64 (bits .xor .i64 (IntKind.wrap .i64 (Int.tdiv x284 2)) 3988292384)), (4, .int .i64 x201), (5, .int .i64 (IntKind.wrap .i64 (x285 + 1)))]) rfl trivial fun a hk => ?_
        refine wpList_nil ?_
        refine then_n ?_
        exact ⟨k289, Nat.le_refl _, o283, (bits .xor .i64 (IntKind.wrap .i64 (Int.tdiv x284 2)) 3988292384), (IntKind.wrap .i64 (x285 + 1)), (by exact Kn.pick (ks := [0, 3, 4, 5]) hk rfl), hs, (hlp291 ▸ H)⟩

/-! tidewrack/sum.tail -/
theorem sum_tail_calls (p0 : Int) (w : World) (o : Nat → Nat)   (r : ByteArray) (H : sum_tail p0 = some r) :
    Calls Tryd.prog 19 #[.int .u32 p0] w (Ret fun v_ w' => ∃ o' : Nat → Nat, v_ = .string r ∧ St [] w o w' o') := by
  refine x_enter (vs := [.int .u32 p0]) Tryd.func19 rfl rfl rfl fun a hk => ?_
  obtain ⟨o0, hs, h0⟩ := St.start w o
  clear h0
  rw [sum_tail] at H
  refine x_seq ?_
  refine wp_region_lit ?_
  refine x_run tab hk (k := 1) (lv := []) (ks := [0]) (e' := [(0, .int .u32 p0)]) rfl trivial fun a hk => ?_
  refine wpList_nil ?_
  refine then_n ?_
  refine x_seq ?_
  refine wp_region_lit ?_
  refine x_run tab hk (k := 10) (lv := []) (ks := [4, 7, 10, 12]) (e' := [(4, .int .u8 (IntKind.wrap .u8 p0)), (7, .int .u8 (IntKind.wrap .u8 (Int.fdiv p0 (2 ^ min (Int.toNat 8) 32)))), (10, .int .u8 (IntKind.wrap .u8 (Int.fdiv p0 (2 ^ min (Int.toNat 16) 32)))), (12, .int .u32 (Int.fdiv p0 (2 ^ min (Int.toNat 24) 32)))]) rfl ⟨(show 0 ≤ (8 : Int) from by decide), (show 0 ≤ (16 : Int) from by decide), (show 0 ≤ (24 : Int) from by decide), trivial⟩ fun a hk => ?_
  refine x_run tab hk (k := 1) (lv := []) (ks := [4, 7, 10, 13]) (e' := [(4, .int .u8 (IntKind.wrap .u8 p0)), (7, .int .u8 (IntKind.wrap .u8 (Int.fdiv p0 (2 ^ min (Int.toNat 8) 32)))), (10, .int .u8 (IntKind.wrap .u8 (Int.fdiv p0 (2 ^ min (Int.toNat 16) 32)))), (13, .int .u8 (IntKind.wrap .u8 (Int.fdiv p0 (2 ^ min (Int.toNat 24) 32))))]) rfl trivial fun a hk => ?_
  refine x_op hk rfl ?_
  refine op_slice (o := o0) tab hk (vs := [.int .u8 (IntKind.wrap .u8 p0), .int .u8 (IntKind.wrap .u8 (Int.fdiv p0 (2 ^ min (Int.toNat 8) 32))), .int .u8 (IntKind.wrap .u8 (Int.fdiv p0 (2 ^ min (Int.toNat 16) 32))), .int .u8 (IntKind.wrap .u8 (Int.fdiv p0 (2 ^ min (Int.toNat 24) 32)))]) (cs := [.int .u8 (IntKind.wrap .u8 p0), .int .u8 (IntKind.wrap .u8 (Int.fdiv p0 (2 ^ min (Int.toNat 8) 32))), .int .u8 (IntKind.wrap .u8 (Int.fdiv p0 (2 ^ min (Int.toNat 16) 32))), .int .u8 (IntKind.wrap .u8 (Int.fdiv p0 (2 ^ min (Int.toNat 24) 32)))]) rfl rfl rfl rfl rfl rfl rfl rfl rfl 1 fun bx4 w1 o2 st3 f5 => ?_
  replace hs := hs.loc0 st3 (by decide)
  have f6 : Ft (Own (encInt .u8) 5 (.slice (some ⟨bx4, 0, none⟩) (([(IntKind.wrap .u8 p0), (IntKind.wrap .u8 (Int.fdiv p0 (2 ^ min (Int.toNat 8) 32))), (IntKind.wrap .u8 (Int.fdiv p0 (2 ^ min (Int.toNat 16) 32))), (IntKind.wrap .u8 (Int.fdiv p0 (2 ^ min (Int.toNat 24) 32)))] : List Int)).length 4) ([(IntKind.wrap .u8 p0), (IntKind.wrap .u8 (Int.fdiv p0 (2 ^ min (Int.toNat 8) 32))), (IntKind.wrap .u8 (Int.fdiv p0 (2 ^ min (Int.toNat 16) 32))), (IntKind.wrap .u8 (Int.fdiv p0 (2 ^ min (Int.toNat 24) 32)))] : List Int)) w1 o2 1 := f5.imp fun _ h_ => Own.of_box h_ rfl (by simp)
  have hk := hk.put 14 (.slice (some ⟨bx4, 0, none⟩) (([(IntKind.wrap .u8 p0), (IntKind.wrap .u8 (Int.fdiv p0 (2 ^ min (Int.toNat 8) 32))), (IntKind.wrap .u8 (Int.fdiv p0 (2 ^ min (Int.toNat 16) 32))), (IntKind.wrap .u8 (Int.fdiv p0 (2 ^ min (Int.toNat 24) 32)))] : List Int)).length 4) rfl
  refine x_run tab hk (k := 2) (lv := [.string (strOfNums ([(IntKind.wrap .u8 p0), (IntKind.wrap .u8 (Int.fdiv p0 (2 ^ min (Int.toNat 8) 32))), (IntKind.wrap .u8 (Int.fdiv p0 (2 ^ min (Int.toNat 16) 32))), (IntKind.wrap .u8 (Int.fdiv p0 (2 ^ min (Int.toNat 24) 32)))] : List Int))]) (ks := [2]) (e' := [(2, .string (strOfNums ([(IntKind.wrap .u8 p0), (IntKind.wrap .u8 (Int.fdiv p0 (2 ^ min (Int.toNat 8) 32))), (IntKind.wrap .u8 (Int.fdiv p0 (2 ^ min (Int.toNat 16) 32))), (IntKind.wrap .u8 (Int.fdiv p0 (2 ^ min (Int.toNat 24) 32)))] : List Int)))]) rfl ⟨(ask_str tab rfl rfl rfl rfl (Own.rd f6.now) (Own.plain f6.now _ _ _ rfl)), trivial⟩ fun a hk => ?_
  refine wpList_nil ?_
  refine then_n ?_
  refine wp_ret ?_
  obtain rfl := Option.some.inj H
  exact x_retG hk (rs := [.tmp 2]) (vs := [.string (strOfNums ([(IntKind.wrap .u8 p0), (IntKind.wrap .u8 (Int.fdiv p0 (2 ^ min (Int.toNat 8) 32))), (IntKind.wrap .u8 (Int.fdiv p0 (2 ^ min (Int.toNat 16) 32))), (IntKind.wrap .u8 (Int.fdiv p0 (2 ^ min (Int.toNat 24) 32)))] : List Int))]) rfl ⟨rfl, trivial⟩ ⟨fun b_ => if b_ < w.heap.size then o b_ else (fun _ => 0) (o2 b_), rfl, hs.close0 o (fun _ => 0)⟩

/-! tidewrack/sum.Seal -/
theorem sum_Seal_calls (K : Nat) (p0 : ByteArray) (w : World) (o : Nat → Nat) (Lg0 : Nat) (hg0 : Ft (RdC (encInt .u32) (some ⟨0, 0, none⟩) glob0) w o Lg0)   (r : ByteArray) (H : sum_Seal K p0 = some r) :
    Calls Tryd.prog 11 #[.string p0] w (Ret fun v_ w' => ∃ o' : Nat → Nat, v_ = .string r ∧ St [] w o w' o') := by
  refine x_enter (vs := [.string p0]) Tryd.func11 rfl rfl rfl fun a hk => ?_
  obtain ⟨o0, hs, h0⟩ := St.start w o
  have fg0 := h0 _ _ hg0
  clear h0
  rw [sum_Seal] at H
  refine x_seq ?_
  refine wp_region_lit ?_
  refine x_run tab hk (k := 1) (lv := []) (ks := [0]) (e' := [(0, .string p0)]) rfl trivial fun a hk => ?_
  refine wpList_nil ?_
  refine then_n ?_
  refine x_seq ?_
  refine wp_region_lit ?_
  refine x_run tab hk (k := 2) (lv := []) (ks := [3, 4]) (e' := [(3, .string p0), (4, .string p0)]) rfl trivial fun a hk => ?_
  refine x_op hk rfl ?_
  refine op_slice (o := o0) tab hk (vs := [.string p0]) (cs := [.string p0]) rfl rfl rfl rfl rfl rfl rfl rfl rfl 1 fun bx4 w1 o2 st3 f5 => ?_
  replace fg0 := fg0.st st3 (by decide)
  replace hs := hs.loc0 st3 (by decide)
  have f6 : Ft (Own encStr 9 (.slice (some ⟨bx4, 0, none⟩) (([p0] : List ByteArray)).length 1) ([p0] : List ByteArray)) w1 o2 1 := f5.imp fun _ h_ => Own.of_box h_ rfl (by simp)
  have hk := hk.put 5 (.slice (some ⟨bx4, 0, none⟩) (([p0] : List ByteArray)).length 1) rfl
  refine x_op hk rfl ?_
  obtain ⟨t10, hc11, H⟩ := bindS H
  refine op_call hk ent_8 (vs := [.slice (some ⟨bx4, 0, none⟩) (([p0] : List ByteArray)).length 1]) rfl (sum_Of_calls K (some ⟨bx4, 0, none⟩) 1 ([p0] : List ByteArray) _ o2 0 fg0 _ (f6.imp fun _ h_ => Own.rd h_) (Nat.le_refl _)   _ hc11) ?_
  rintro _ w12 ⟨o13, rfl, st14⟩
  replace f6 := f6.st st14 (by decide)
  replace fg0 := fg0.st st14 (by decide)
  replace hs := hs.loc0 st14 (by decide)
  have hk := hk.put 6 (.int .u32 t10) rfl
  refine x_op hk rfl ?_
  obtain ⟨t18, hc19, H⟩ := bindS H
  refine op_call hk ent_19 (vs := [.int .u32 t10]) rfl (sum_tail_calls t10 _ o13    _ hc19) ?_
  rintro _ w20 ⟨o21, rfl, st22⟩
  replace f6 := f6.st st22 (by decide)
  replace fg0 := fg0.st st22 (by decide)
  replace hs := hs.loc0 st22 (by decide)
  have hk := hk.put 7 (.string t18) rfl
  obtain ⟨q23, H⟩ := ifS H
  refine x_run tab hk (k := 2) (lv := []) (ks := [2]) (e' := [(2, .string (p0 ++ t18))]) rfl ⟨q23, trivial⟩ fun a hk => ?_
  refine wpList_nil ?_
  refine then_n ?_
  refine wp_ret ?_
  obtain rfl := Option.some.inj H
  exact x_retG hk (rs := [.tmp 2]) (vs := [.string (p0 ++ t18)]) rfl ⟨rfl, trivial⟩ ⟨fun b_ => if b_ < w.heap.size then o b_ else (fun _ => 0) (o21 b_), rfl, hs.close0 o (fun _ => 0)⟩

/-! tidewrack/tidewrackref02.Seal -/
theorem tidewrackref02_Seal_calls (K : Nat) (p0 : ByteArray) (w : World) (o : Nat → Nat)   (r : ByteArray) (H : tidewrackref02_Seal K p0 = some r) :
    Calls Tryd.prog 12 #[.string p0] w (Ret fun v_ w' => ∃ o' : Nat → Nat, v_ = .string r ∧ St [] w o w' o') := by
  refine x_enter (vs := [.string p0]) Tryd.func12 rfl rfl rfl fun a hk => ?_
  obtain ⟨o0, hs, h0⟩ := St.start w o
  clear h0
  rw [tidewrackref02_Seal] at H
  refine x_seq ?_
  refine wp_region_lit ?_
  refine x_run tab hk (k := 1) (lv := []) (ks := [0]) (e' := [(0, .string p0)]) rfl trivial fun a hk => ?_
  refine wpList_nil ?_
  refine then_n ?_
  refine x_seq ?_
  refine wp_region_lit ?_
  refine x_run tab hk (k := 1) (lv := []) (ks := [0, 4]) (e' := [(0, .string p0), (4, .string p0)]) rfl trivial fun a hk => ?_
  refine x_op hk rfl ?_
  obtain ⟨t4, hc5, H⟩ := bindS H
  refine op_call hk ent_10 (vs := [.string p0]) rfl (tidewrackref02_Of_calls K p0 _ o0    _ hc5) ?_
  rintro _ w6 ⟨o7, rfl, st8⟩
  replace hs := hs.loc0 st8 (by decide)
  have hk := hk.put 5 (.int .i64 t4) rfl
  refine x_run tab hk (k := 1) (lv := []) (ks := [0, 3]) (e' := [(0, .string p0), (3, .int .i64 t4)]) rfl trivial fun a hk => ?_
  refine wpList_nil ?_
  refine then_n ?_
  refine x_seq ?_
  refine wp_region_lit ?_
  refine x_run tab hk (k := 10) (lv := []) (ks := [3, 6, 9, 13, 15]) (e' := [(3, .int .i64 t4), (6, .string p0), (9, .int .u8 (IntKind.wrap .u8 (Int.tmod t4 256))), (13, .int .u8 (IntKind.wrap .u8 (Int.tmod (IntKind.wrap .i64 (Int.tdiv t4 256)) 256))), (15, .int .i64 (IntKind.wrap .i64 (Int.tdiv t4 65536)))]) rfl ⟨(show (256 : Int) ≠ 0 from by decide), (show (256 : Int) ≠ 0 from by decide), (show (256 : Int) ≠ 0 from by decide), (show (65536 : Int) ≠ 0 from by decide), trivial⟩ fun a hk => ?_
  refine x_run tab hk (k := 5) (lv := []) (ks := [6, 9, 13, 17, 20]) (e' := [(6, .string p0), (9, .int .u8 (IntKind.wrap .u8 (Int.tmod t4 256))), (13, .int .u8 (IntKind.wrap .u8 (Int.tmod (IntKind.wrap .i64 (Int.tdiv t4 256)) 256))), (17, .int .u8 (IntKind.wrap .u8 (Int.tmod (IntKind.wrap .i64 (Int.tdiv t4 65536)) 256))), (20, .int .u8 (IntKind.wrap .u8 (IntKind.wrap .i64 (Int.tdiv t4 16777216))))]) rfl ⟨(show (256 : Int) ≠ 0 from by decide), (show (16777216 : Int) ≠ 0 from by decide), trivial⟩ fun a hk => ?_
  refine x_op hk rfl ?_
  refine op_slice (o := o7) tab hk (vs := [.int .u8 (IntKind.wrap .u8 (Int.tmod t4 256)), .int .u8 (IntKind.wrap .u8 (Int.tmod (IntKind.wrap .i64 (Int.tdiv t4 256)) 256)), .int .u8 (IntKind.wrap .u8 (Int.tmod (IntKind.wrap .i64 (Int.tdiv t4 65536)) 256)), .int .u8 (IntKind.wrap .u8 (IntKind.wrap .i64 (Int.tdiv t4 16777216)))]) (cs := [.int .u8 (IntKind.wrap .u8 (Int.tmod t4 256)), .int .u8 (IntKind.wrap .u8 (Int.tmod (IntKind.wrap .i64 (Int.tdiv t4 256)) 256)), .int .u8 (IntKind.wrap .u8 (Int.tmod (IntKind.wrap .i64 (Int.tdiv t4 65536)) 256)), .int .u8 (IntKind.wrap .u8 (IntKind.wrap .i64 (Int.tdiv t4 16777216)))]) rfl rfl rfl rfl rfl rfl rfl rfl rfl 1 fun bx12 w9 o10 st11 f13 => ?_
  replace hs := hs.loc0 st11 (by decide)
  have f14 : Ft (Own (encInt .u8) 5 (.slice (some ⟨bx12, 0, none⟩) (([(IntKind.wrap .u8 (Int.tmod t4 256)), (IntKind.wrap .u8 (Int.tmod (IntKind.wrap .i64 (Int.tdiv t4 256)) 256)), (IntKind.wrap .u8 (Int.tmod (IntKind.wrap .i64 (Int.tdiv t4 65536)) 256)), (IntKind.wrap .u8 (IntKind.wrap .i64 (Int.tdiv t4 16777216)))] : List Int)).length 4) ([(IntKind.wrap .u8 (Int.tmod t4 256)), (IntKind.wrap .u8 (Int.tmod (IntKind.wrap .i64 (Int.tdiv t4 256)) 256)), (IntKind.wrap .u8 (Int.tmod (IntKind.wrap .i64 (Int.tdiv t4 65536)) 256)), (IntKind.wrap .u8 (IntKind.wrap .i64 (Int.tdiv t4 16777216)))] : List Int)) w9 o10 1 := f13.imp fun _ h_ => Own.of_box h_ rfl (by simp)
  have hk := hk.put 21 (.slice (some ⟨bx12, 0, none⟩) (([(IntKind.wrap .u8 (Int.tmod t4 256)), (IntKind.wrap .u8 (Int.tmod (IntKind.wrap .i64 (Int.tdiv t4 256)) 256)), (IntKind.wrap .u8 (Int.tmod (IntKind.wrap .i64 (Int.tdiv t4 65536)) 256)), (IntKind.wrap .u8 (IntKind.wrap .i64 (Int.tdiv t4 16777216)))] : List Int)).length 4) rfl
  obtain ⟨q15, H⟩ := ifS H
  refine x_run tab hk (k := 3) (lv := [.string (strOfNums ([(IntKind.wrap .u8 (Int.tmod t4 256)), (IntKind.wrap .u8 (Int.tmod (IntKind.wrap .i64 (Int.tdiv t4 256)) 256)), (IntKind.wrap .u8 (Int.tmod (IntKind.wrap .i64 (Int.tdiv t4 65536)) 256)), (IntKind.wrap .u8 (IntKind.wrap .i64 (Int.tdiv t4 16777216)))] : List Int))]) (ks := [2]) (e' := [(2, .string (p0 ++ (strOfNums ([(IntKind.wrap .u8 (Int.tmod t4 256)), (IntKind.wrap .u8 (Int.tmod (IntKind.wrap .i64 (Int.tdiv t4 256)) 256)), (IntKind.wrap .u8 (Int.tmod (IntKind.wrap .i64 (Int.tdiv t4 65536)) 256)), (IntKind.wrap .u8 (IntKind.wrap .i64 (Int.tdiv t4 16777216)))] : List Int))))]) rfl ⟨(ask_str tab rfl rfl rfl rfl (Own.rd f14.now) (Own.plain f14.now _ _ _ rfl)), q15, trivial⟩ fun a hk => ?_
  refine wpList_nil ?_
  refine then_n ?_
  refine wp_ret ?_
  obtain rfl := Option.some.inj H
  exact x_retG hk (rs := [.tmp 2]) (vs := [.string (p0 ++ (strOfNums ([(IntKind.wrap .u8 (Int.tmod t4 256)), (IntKind.wrap .u8 (Int.tmod (IntKind.wrap .i64 (Int.tdiv t4 256)) 256)), (IntKind.wrap .u8 (Int.tmod (IntKind.wrap .i64 (Int.tdiv t4 65536)) 256)), (IntKind.wrap .u8 (IntKind.wrap .i64 (Int.tdiv t4 16777216)))] : List Int)))]) rfl ⟨rfl, trivial⟩ ⟨fun b_ => if b_ < w.heap.size then o b_ else (fun _ => 0) (o10 b_), rfl, hs.close0 o (fun _ => 0)⟩

/-! tidewrack/tidewracklaw02.SumTells -/
theorem tidewracklaw02_SumTells_calls (K : Nat) (Ap0 : Option Addr) (cp0 : Nat) (p0 : List ByteArray) (w : World) (o : Nat → Nat) (Lg0 : Nat) (hg0 : Ft (RdC (encInt .u32) (some ⟨0, 0, none⟩) glob0) w o Lg0) (Lp0 : Nat) (hp0 : Ft (RdC encStr Ap0 p0) w o Lp0) (hcp0 : (p0).length ≤ cp0)  (r : Bool) (H : tidewracklaw02_SumTells K p0 = some r) :
    Calls Tryd.prog 4 #[.slice Ap0 (p0).length cp0] w (Ret fun v_ w' => ∃ o' : Nat → Nat, v_ = .bool r ∧ St [] w o w' o') := by
  refine x_enter (vs := [.slice Ap0 (p0).length cp0]) Tryd.func4 rfl rfl rfl fun a hk => ?_
  obtain ⟨o0, hs, h0⟩ := St.start w o
  have fg0 := h0 _ _ hg0
  have f900 := h0 _ _ hp0
  clear h0
  rw [tidewracklaw02_SumTells] at H
  refine x_seq ?_
  refine wp_region_lit ?_
  refine x_run tab hk (k := 1) (lv := []) (ks := [0]) (e' := [(0, .slice Ap0 (p0).length cp0)]) rfl trivial fun a hk => ?_
  refine wpList_nil ?_
  refine then_n ?_
  refine x_seq ?_
  refine x_seq ?_
  refine wp_region_lit ?_
  refine x_op hk rfl ?_
  obtain ⟨t4, hc5, H⟩ := bindS H
  refine op_call hk ent_7 (vs := []) rfl (tidewracklaw02_awake_calls K  _ o0 0 fg0   _ hc5) ?_
  rintro _ w6 ⟨o7, rfl, st8⟩
  replace f900 := f900.st st8 (by decide)
  replace fg0 := fg0.st st8 (by decide)
  replace hs := hs.loc0 st8 (by decide)
  have hk := hk.put 6 (.bool t4) rfl
  refine x_run tab hk (k := 1) (lv := []) (ks := [0, 7]) (e' := [(0, .slice Ap0 (p0).length cp0), (7, .bool (!t4))]) rfl trivial fun a hk => ?_
  refine wpList_nil ?_
  refine then_n ?_
  cases b9 : (!t4)
  · rw [b9] at hk H
    replace H := bifF H
    refine x_if hk (b := false) rfl ?_
    refine (show Code.wp _ _ _ _ _ from ?_)
    refine wp_skip ?_
    refine then_n ?_
    refine x_seq ?_
    refine wp_region_lit ?_
    refine x_run tab hk (k := 1) (lv := []) (ks := [8]) (e' := [(8, .slice Ap0 (p0).length cp0)]) rfl trivial fun a hk => ?_
    refine x_op hk rfl ?_
    obtain ⟨t13, hc14, H⟩ := bindS H
    refine op_call hk ent_9 (vs := [.slice Ap0 (p0).length cp0, .int .i64 5, .int .i64 60]) rfl (tidewracklaw01_Few_calls K Ap0 cp0 p0 5 60 _ o7 _ f900 hcp0 1  _ hc14) ?_
    rintro _ w15 ⟨o16, A18, c19, rfl, st17, f20, hc21⟩
    replace f900 := f900.st st17 (by decide)
    replace fg0 := fg0.st st17 (by decide)
    replace hs := hs.loc0 st17 (by decide)
    have hk := hk.put 9 (.slice A18 (t13).length c19) rfl
    refine x_run tab hk (k := 1) (lv := []) (ks := [0]) (e' := [(0, .slice A18 (t13).length c19)]) rfl trivial fun a hk => ?_
    refine wpList_nil ?_
    refine then_n ?_
    refine x_seq ?_
    refine wp_region_lit ?_
    refine x_run tab hk (k := 1) (lv := []) (ks := [0, 3]) (e' := [(0, .slice A18 (t13).length c19), (3, .string (⟨#[]⟩ : ByteArray))]) rfl trivial fun a hk => ?_
    refine wpList_nil ?_
    refine then_n ?_
    refine x_mid (fun a_ w_ => ∃ o51 : Nat → Nat, ∃ x52 : ByteArray, Kn 33 a_ [(0, .slice A18 (t13).length c19), (3, .string x52)] ∧ St [] w (fun _ => 0) w_ o51 ∧ Ft (Own encStr 9 (.slice A18 (t13).length c19) t13) w_ o51 5 ∧ Ft (RdC (encInt .u32) (some ⟨0, 0, none⟩) glob0) w_ o51 0 ∧ tidewracklaw02_SumTells_j1 K t13 x52 = some r) ?_ ?_
    rotate_left
    · rintro a w53 ⟨o51, x52, hk, hs, f20, fg0, H⟩
      rw [tidewracklaw02_SumTells_j1] at H
      refine x_seq ?_
      refine wp_region_lit ?_
      refine x_run tab hk (k := 1) (lv := []) (ks := [3, 20]) (e' := [(3, .string x52), (20, .slice A18 (t13).length c19)]) rfl trivial fun a hk => ?_
      refine x_op hk rfl ?_
      obtain ⟨t57, hc58, H⟩ := bindS H
      refine op_call hk ent_8 (vs := [.slice A18 (t13).length c19]) rfl (sum_Of_calls K A18 c19 t13 _ o51 0 fg0 _ (f20.imp fun _ h_ => Own.rd h_) hc21   _ hc58) ?_
      rintro _ w59 ⟨o60, rfl, st61⟩
      replace f20 := f20.st st61 (by decide)
      replace fg0 := fg0.st st61 (by decide)
      replace hs := hs.loc0 st61 (by decide)
      have hk := hk.put 21 (.int .u32 t57) rfl
      refine x_run tab hk (k := 2) (lv := []) (ks := [3, 22, 23]) (e' := [(3, .string x52), (22, .int .i64 (IntKind.wrap .i64 t57)), (23, .string x52)]) rfl trivial fun a hk => ?_
      refine x_op hk rfl ?_
      obtain ⟨t65, hc66, H⟩ := bindS H
      refine op_call hk ent_10 (vs := [.string x52]) rfl (tidewrackref02_Of_calls K x52 _ o60    _ hc66) ?_
      rintro _ w67 ⟨o68, rfl, st69⟩
      replace fg0 := fg0.st st69 (by decide)
      replace hs := hs.loc0 st69 (by decide)
      have hk := hk.put 24 (.int .i64 t65) rfl
      refine x_run tab hk (k := 2) (lv := []) (ks := [3, 26]) (e' := [(3, .string x52), (26, .bool ((IntKind.wrap .i64 t57) == t65))]) rfl trivial fun a hk => ?_
      cases b70 : ((IntKind.wrap .i64 t57) == t65)
      · rw [b70] at hk H
        replace H := bifF H
        refine x_run tab hk (k := 7) (lv := []) (ks := [2]) (e' := [(2, .bool false)]) rfl trivial fun a hk => ?_
        refine wpList_nil ?_
        refine then_n ?_
        refine wp_ret ?_
        obtain rfl := Option.some.inj H
        exact x_retG hk (rs := [.tmp 2]) (vs := [.bool false]) rfl ⟨rfl, trivial⟩ ⟨fun b_ => if b_ < w.heap.size then o b_ else (fun _ => 0) (o68 b_), rfl, hs.close0 o (fun _ => 0)⟩
      · rw [b70] at hk H
        replace H := bifT H
        refine x_run tab hk (k := 1) (lv := []) (ks := [3, 26, 27]) (e' := [(3, .string x52), (26, .bool true), (27, .string x52)]) rfl trivial fun a hk => ?_
        refine x_op hk rfl ?_
        obtain ⟨t74, hc75, H⟩ := bindS H
        refine op_call hk ent_11 (vs := [.string x52]) rfl (sum_Seal_calls K x52 _ o68 0 fg0   _ hc75) ?_
        rintro _ w76 ⟨o77, rfl, st78⟩
        replace fg0 := fg0.st st78 (by decide)
        replace hs := hs.loc0 st78 (by decide)
        have hk := hk.put 28 (.string t74) rfl
        refine x_run tab hk (k := 1) (lv := []) (ks := [26, 28, 29]) (e' := [(26, .bool true), (28, .string t74), (29, .string x52)]) rfl trivial fun a hk => ?_
        refine x_op hk rfl ?_
        obtain ⟨t82, hc83, H⟩ := bindS H
        refine op_call hk ent_12 (vs := [.string x52]) rfl (tidewrackref02_Seal_calls K x52 _ o77    _ hc83) ?_
        rintro _ w84 ⟨o85, rfl, st86⟩
        replace fg0 := fg0.st st86 (by decide)
        replace hs := hs.loc0 st86 (by decide)
        have hk := hk.put 30 (.string t82) rfl
        refine x_run tab hk (k := 3) (lv := []) (ks := [2]) (e' := [(2, .bool (ByteArray.toList t74 == ByteArray.toList t82))]) rfl trivial fun a hk => ?_
        refine wpList_nil ?_
        refine then_n ?_
        refine wp_ret ?_
        obtain rfl := Option.some.inj H
        exact x_retG hk (rs := [.tmp 2]) (vs := [.bool (ByteArray.toList t74 == ByteArray.toList t82)]) rfl ⟨rfl, trivial⟩ ⟨fun b_ => if b_ < w.heap.size then o b_ else (fun _ => 0) (o85 b_), rfl, hs.close0 o (fun _ => 0)⟩
    refine x_seq ?_
    refine wp_region_lit ?_
    refine x_run tab hk (k := 3) (lv := []) (ks := [0, 3, 10, 11, 12]) (e' := [(0, .slice A18 (t13).length c19), (3, .string (⟨#[]⟩ : ByteArray)), (10, .slice A18 (t13).length c19), (11, .int .i64 ((t13).length : Int)), (12, .int .i64 0)]) rfl trivial fun a hk => ?_
    refine wpList_nil ?_
    refine then_n ?_
    refine wp_block ?_
    refine x_loop (fun j_ a_ w_ => ∃ o95 : Nat → Nat, ∃ x96 : ByteArray, ∃ x97 : Int, Kn 33 a_ [(0, .slice A18 (t13).length c19), (3, .string x96), (10, .slice A18 (t13).length c19), (11, .int .i64 ((t13).length : Int)), (12, .int .i64 x97)] ∧ St [] w (fun _ => 0) w_ o95 ∧ Ft (Own encStr 9 (.slice A18 (t13).length c19) t13) w_ o95 8 ∧ Ft (RdC (encInt .u32) (some ⟨0, 0, none⟩) glob0) w_ o95 0 ∧ tidewracklaw02_SumTells_l2 K t13 j_ x96 x97 = some r) (k := K) ⟨(fun b_ => (fun l_ => if l_ = 1 then 8 else l_) (o16 b_)), (⟨#[]⟩ : ByteArray), 0, (by exact Kn.pick (ks := [0, 3, 10, 11, 12]) hk rfl), (hs.relab0 (fun l_ => if l_ = 1 then 8 else l_) rfl), (f20.relab (fun l_ => if l_ = 1 then 8 else l_) rfl), (fg0.relab (fun l_ => if l_ = 1 then 8 else l_) rfl), H⟩ (by rintro _ _ ⟨_, _, _, _, _, _, _, H_⟩; exact absurd (show (none : Option Bool) = some r from H_) (by simp)) ?_
    rintro k103 a w102 ⟨o95, x96, x97, hk, hs, f20, fg0, H⟩
    rw [tidewracklaw02_SumTells_l2] at H
    obtain ⟨lp104, hlp105⟩ : ∃ lp_, lp_ = tidewracklaw02_SumTells_l2 K t13 k103 := ⟨_, rfl⟩
    rw [← hlp105] at H
    refine x_seq ?_
    refine wp_region_lit ?_
    refine x_run tab hk (k := 1) (lv := []) (ks := [0, 3, 10, 11, 12, 13]) (e' := [(0, .slice A18 (t13).length c19), (3, .string x96), (10, .slice A18 (t13).length c19), (11, .int .i64 ((t13).length : Int)), (12, .int .i64 x97), (13, .bool (decide (x97 < ((t13).length : Int))))]) rfl trivial fun a hk => ?_
    refine wpList_nil ?_
    refine then_n ?_
    refine x_seq ?_
    cases b106 : (decide (x97 < ((t13).length : Int)))
    · rw [b106] at hk H
      replace H := bifF H
      refine x_if hk (b := false) rfl ?_
      refine (show Code.wp _ _ _ _ _ from ?_)
      refine wp_exit ?_
      refine then_x ?_
      refine then_x ?_
      refine blk_x ?_
      refine then_n ?_
      exact ⟨(fun b_ => (fun l_ => if l_ = 8 then 5 else l_) (o95 b_)), x96, (by exact Kn.pick (ks := [0, 3]) hk rfl), (hs.relab0 (fun l_ => if l_ = 8 then 5 else l_) rfl), (f20.relab (fun l_ => if l_ = 8 then 5 else l_) rfl), (fg0.relab (fun l_ => if l_ = 8 then 5 else l_) rfl), H⟩
    · rw [b106] at hk H
      replace H := bifT H
      refine x_if hk (b := true) rfl ?_
      refine (show Code.wp _ _ _ _ _ from ?_)
      refine wp_skip ?_
      refine then_n ?_
      refine x_seq ?_
      refine wp_block ?_
      refine x_seq ?_
      refine wp_region_lit ?_
      obtain ⟨q107, H⟩ := ifS H
      obtain ⟨ad108, hAad108⟩ := RdC.addr (Own.rd f20.now) q107
      subst hAad108
      refine x_run tab hk (k := 3) (lv := [.string (rdD (⟨#[]⟩ : ByteArray) t13 x97)]) (ks := [0, 3, 5, 10, 11, 12]) (e' := [(0, .slice (some ad108) (t13).length c19), (3, .string x96), (5, .string (rdD (⟨#[]⟩ : ByteArray) t13 x97)), (10, .slice (some ad108) (t13).length c19), (11, .int .i64 ((t13).length : Int)), (12, .int .i64 x97)]) rfl ⟨q107, (load1 tab rfl (RdC.at0 (E := encStr) (d := (⟨#[]⟩ : ByteArray)) (i := x97) (Own.rd f20.now) q107 rfl)), trivial⟩ fun a hk => ?_
      refine wpList_nil ?_
      refine then_n ?_
      refine wp_region_lit ?_
      obtain ⟨q109, H⟩ := ifS H
      refine x_run tab hk (k := 4) (lv := []) (ks := [0, 3, 10, 11, 12]) (e' := [(0, .slice (some ad108) (t13).length c19), (3, .string (x96 ++ (rdD (⟨#[]⟩ : ByteArray) t13 x97))), (10, .slice (some ad108) (t13).length c19), (11, .int .i64 ((t13).length : Int)), (12, .int .i64 x97)]) rfl ⟨q109, trivial⟩ fun a hk => ?_
      refine wpList_nil ?_
      refine blk_n ?_
      refine then_n ?_
      refine wp_region_lit ?_
      refine x_run tab hk (k := 2) (lv := []) (ks := [0, 3, 10, 11, 12]) (e' := [(0, .slice (some ad108) (t13).length c19), (3, .string (x96 ++ (rdD (⟨#[]⟩ : ByteArray) t13 x97))), (10, .slice (some ad108) (t13).length c19), (11, .int .i64 ((t13).length : Int)), (12, .int .i64 (IntKind.wrap .i64 (x97 + 1)))]) rfl trivial fun a hk => ?_
      refine wpList_nil ?_
      refine then_n ?_
      exact ⟨k103, Nat.le_refl _, o95, (x96 ++ (rdD (⟨#[]⟩ : ByteArray) t13 x97)), (IntKind.wrap .i64 (x97 + 1)), (by exact Kn.pick (ks := [0, 3, 10, 11, 12]) hk rfl), hs, f20, fg0, (hlp105 ▸ H)⟩
  · rw [b9] at hk H
    replace H := bifT H
    refine x_if hk (b := true) rfl ?_
    refine (show Code.wp _ _ _ _ _ from ?_)
    refine x_seq ?_
    refine wp_region_lit ?_
    refine x_run tab hk (k := 1) (lv := []) (ks := [2]) (e' := [(2, .bool false)]) rfl trivial fun a hk => ?_
    refine wpList_nil ?_
    refine then_n ?_
    refine wp_ret ?_
    refine then_r ?_
    obtain rfl := Option.some.inj H
    exact x_retG hk (rs := [.tmp 2]) (vs := [.bool false]) rfl ⟨rfl, trivial⟩ ⟨fun b_ => if b_ < w.heap.size then o b_ else (fun _ => 0) (o7 b_), rfl, hs.close0 o (fun _ => 0)⟩

/-! tidewrack/sum.Open -/
theorem sum_Open_calls (K : Nat) (p0 : ByteArray) (w : World) (o : Nat → Nat) (Lg0 : Nat) (hg0 : Ft (RdC (encInt .u32) (some ⟨0, 0, none⟩) glob0) w o Lg0)   (r : ByteArray × Bool) (H : sum_Open K p0 = some r) :
    Calls Tryd.prog 14 #[.string p0] w (Ret fun v_ w' => ∃ o' : Nat → Nat, v_ = .tuple #[.string r.1, .bool r.2] ∧ St [] w o w' o') := by
  refine x_enter (vs := [.string p0]) Tryd.func14 rfl rfl rfl fun a hk => ?_
  obtain ⟨o0, hs, h0⟩ := St.start w o
  have fg0 := h0 _ _ hg0
  clear h0
  rw [sum_Open] at H
  refine x_seq ?_
  refine wp_region_lit ?_
  refine x_run tab hk (k := 2) (lv := []) (ks := [0]) (e' := [(0, .string p0)]) rfl trivial fun a hk => ?_
  refine wpList_nil ?_
  refine then_n ?_
  refine x_seq ?_
  refine wp_region_lit ?_
  refine x_run tab hk (k := 4) (lv := []) (ks := [0, 4]) (e' := [(0, .string p0), (4, .int .i64 (IntKind.wrap .i64 (((p0).size : Int) - 4)))]) rfl trivial fun a hk => ?_
  refine wpList_nil ?_
  refine then_n ?_
  refine x_seq ?_
  refine x_mid (fun a_ w_ => ∃ o84 : Nat → Nat, ∃ x85 : Bool, Kn 25 a_ [(0, .string p0), (4, .int .i64 (IntKind.wrap .i64 (((p0).size : Int) - 4))), (21, .bool x85)] ∧ St [] w (fun _ => 0) w_ o84 ∧ Ft (RdC (encInt .u32) (some ⟨0, 0, none⟩) glob0) w_ o84 0 ∧ sum_Open_j1 p0 x85 = some r) ?_ ?_
  rotate_left
  · rintro a w86 ⟨o84, x85, hk, hs, fg0, H⟩
    rw [sum_Open_j1] at H
    cases b87 : x85
    · rw [b87] at hk H
      replace H := bifF H
      refine x_if hk (b := false) rfl ?_
      refine (show Code.wp _ _ _ _ _ from ?_)
      refine wp_skip ?_
      refine then_n ?_
      refine x_seq ?_
      refine wp_region_lit ?_
      obtain ⟨q88, H⟩ := ifS H
      obtain ⟨q89, H⟩ := ifS H
      refine x_run tab hk (k := 5) (lv := []) (ks := [2, 3]) (e' := [(2, .string (ByteArray.extract p0 0 (Int.toNat (IntKind.wrap .i64 (((p0).size : Int) - 4))))), (3, .bool true)]) rfl ⟨q88, q89, trivial⟩ fun a hk => ?_
      refine wpList_nil ?_
      refine then_n ?_
      refine wp_ret ?_
      obtain rfl := Option.some.inj H
      exact x_retG hk (rs := [.tmp 2, .tmp 3]) (vs := [.string (ByteArray.extract p0 0 (Int.toNat (IntKind.wrap .i64 (((p0).size : Int) - 4)))), .bool true]) rfl ⟨rfl, rfl, trivial⟩ ⟨fun b_ => if b_ < w.heap.size then o b_ else (fun _ => 0) (o84 b_), rfl, hs.close0 o (fun _ => 0)⟩
    · rw [b87] at hk H
      replace H := bifT H
      refine x_if hk (b := true) rfl ?_
      refine (show Code.wp _ _ _ _ _ from ?_)
      refine x_seq ?_
      refine wp_region_lit ?_
      refine x_run tab hk (k := 2) (lv := []) (ks := [2, 3]) (e' := [(2, .string (⟨#[]⟩ : ByteArray)), (3, .bool false)]) rfl trivial fun a hk => ?_
      refine wpList_nil ?_
      refine then_n ?_
      refine wp_ret ?_
      refine then_r ?_
      obtain rfl := Option.some.inj H
      exact x_retG hk (rs := [.tmp 2, .tmp 3]) (vs := [.string (⟨#[]⟩ : ByteArray), .bool false]) rfl ⟨rfl, rfl, trivial⟩ ⟨fun b_ => if b_ < w.heap.size then o b_ else (fun _ => 0) (o84 b_), rfl, hs.close0 o (fun _ => 0)⟩
  refine xd_begin (o := o0) (fun W_ => True) mixed rfl rfl fun w140 st141 => ?_
  replace fg0 := fg0.st st141 (by decide)
  replace hs := hs.loc0 st141 (by decide)
  refine xd_take tab hk (k := 11) (is := [0, 1, 2]) (ls' := #[true, true, true, false, false, false, false, false, false, false, false, false, false, false]) (lv := []) (ks := [0, 4, 10]) (e' := [(0, .string p0), (4, .int .i64 (IntKind.wrap .i64 (((p0).size : Int) - 4))), (10, .bool (decide ((IntKind.wrap .i64 (((p0).size : Int) - 4)) < (0 : Int))))]) (by kernel_rfl) rfl rfl (by kernel_rfl) (np_then (np_then np_body)) trivial (fun W_ hS => trivial) fun a hk => ?_
  cases b142 : (decide ((IntKind.wrap .i64 (((p0).size : Int) - 4)) < (0 : Int)))
  · rw [b142] at hk H
    replace H := bifF H
    obtain ⟨q143, H⟩ := ifS H
    obtain ⟨q144, H⟩ := ifS H
    refine xd_take tab hk (k := 5) (is := [3, 4, 5, 6, 7, 8]) (ls' := #[true, true, true, true, true, true, true, true, true, false, false, false, false, false]) (lv := []) (ks := [0, 4, 10, 13, 16]) (e' := [(0, .string p0), (4, .int .i64 (IntKind.wrap .i64 (((p0).size : Int) - 4))), (10, .bool false), (13, .string (ByteArray.extract p0 (Int.toNat (IntKind.wrap .i64 (((p0).size : Int) - 4))) (p0).size)), (16, .string (ByteArray.extract p0 0 (Int.toNat (IntKind.wrap .i64 (((p0).size : Int) - 4)))))]) (by kernel_rfl) rfl rfl (by kernel_rfl) (np_then (np_then np_body)) trivial (fun W_ hS => ⟨q143, q144, q143, q144, trivial⟩) fun a hk => ?_
    refine xd_op hk (i := 9) (by kernel_rfl) rfl rfl ?_
    refine op_slice (o := o0) tab hk (vs := [.string (ByteArray.extract p0 0 (Int.toNat (IntKind.wrap .i64 (((p0).size : Int) - 4))))]) (cs := [.string (ByteArray.extract p0 0 (Int.toNat (IntKind.wrap .i64 (((p0).size : Int) - 4))))]) rfl rfl rfl rfl rfl rfl rfl rfl rfl 6 fun bx148 w145 o146 st147 f149 => ?_
    replace fg0 := fg0.st st147 (by decide)
    replace hs := hs.loc0 st147 (by decide)
    have f150 : Ft (Own encStr 9 (.slice (some ⟨bx148, 0, none⟩) (([(ByteArray.extract p0 0 (Int.toNat (IntKind.wrap .i64 (((p0).size : Int) - 4))))] : List ByteArray)).length 1) ([(ByteArray.extract p0 0 (Int.toNat (IntKind.wrap .i64 (((p0).size : Int) - 4))))] : List ByteArray)) w145 o146 6 := f149.imp fun _ h_ => Own.of_box h_ rfl (by simp)
    have hk := hk.put 17 (.slice (some ⟨bx148, 0, none⟩) (([(ByteArray.extract p0 0 (Int.toNat (IntKind.wrap .i64 (((p0).size : Int) - 4))))] : List ByteArray)).length 1) rfl
    refine ⟨.inr trivial, ?_⟩
    refine xd_op hk (i := 10) (by kernel_rfl) rfl rfl ?_
    obtain ⟨t154, hc155, H⟩ := bindS H
    refine op_call hk ent_8 (vs := [.slice (some ⟨bx148, 0, none⟩) (([(ByteArray.extract p0 0 (Int.toNat (IntKind.wrap .i64 (((p0).size : Int) - 4))))] : List ByteArray)).length 1]) rfl (sum_Of_calls K (some ⟨bx148, 0, none⟩) 1 ([(ByteArray.extract p0 0 (Int.toNat (IntKind.wrap .i64 (((p0).size : Int) - 4))))] : List ByteArray) _ o146 0 fg0 _ (f150.imp fun _ h_ => Own.rd h_) (Nat.le_refl _)   _ hc155) ?_
    rintro _ w156 ⟨o157, rfl, st158⟩
    replace f150 := f150.st st158 (by decide)
    replace fg0 := fg0.st st158 (by decide)
    replace hs := hs.loc0 st158 (by decide)
    have hk := hk.put 18 (.int .u32 t154) rfl
    refine ⟨.inr trivial, ?_⟩
    refine xd_op hk (i := 11) (by kernel_rfl) rfl rfl ?_
    obtain ⟨t162, hc163, H⟩ := bindS H
    refine op_call hk ent_19 (vs := [.int .u32 t154]) rfl (sum_tail_calls t154 _ o157    _ hc163) ?_
    rintro _ w164 ⟨o165, rfl, st166⟩
    replace f150 := f150.st st166 (by decide)
    replace fg0 := fg0.st st166 (by decide)
    replace hs := hs.loc0 st166 (by decide)
    have hk := hk.put 19 (.string t162) rfl
    refine ⟨.inr trivial, ?_⟩
    refine xd_take tab hk (k := 0) (is := [12, 13]) (ls' := #[true, true, true, true, true, true, true, true, true, true, true, true, true, true]) (lv := []) (ks := [0, 4, 21]) (e' := [(0, .string p0), (4, .int .i64 (IntKind.wrap .i64 (((p0).size : Int) - 4))), (21, .bool (!(ByteArray.toList (ByteArray.extract p0 (Int.toNat (IntKind.wrap .i64 (((p0).size : Int) - 4))) (p0).size) == ByteArray.toList t162)))]) (by kernel_rfl) rfl rfl (by kernel_rfl) (np_then (np_then np_body)) trivial (fun W_ hS => trivial) fun a hk => ?_
    refine xd_done (by kernel_rfl) ?_
    refine then_n ?_
    exact ⟨o165, (!(ByteArray.toList (ByteArray.extract p0 (Int.toNat (IntKind.wrap .i64 (((p0).size : Int) - 4))) (p0).size) == ByteArray.toList t162)), (by exact Kn.pick (ks := [0, 4, 21]) hk rfl), hs, fg0, H⟩
  · rw [b142] at hk H
    replace H := bifT H
    refine xd_take tab hk (k := 0) (is := [3, 4, 5, 6, 7, 8, 9, 10, 11, 12, 13]) (ls' := #[true, true, true, true, true, true, true, true, true, true, true, true, true, true]) (lv := []) (ks := [0, 4, 21]) (e' := [(0, .string p0), (4, .int .i64 (IntKind.wrap .i64 (((p0).size : Int) - 4))), (21, .bool true)]) (by kernel_rfl) rfl rfl (by kernel_rfl) (np_then (np_then np_body)) trivial (fun W_ hS => trivial) fun a hk => ?_
    refine xd_done (by kernel_rfl) ?_
    refine then_n ?_
    exact ⟨o0, true, (by exact Kn.pick (ks := [0, 4, 21]) hk rfl), hs, fg0, H⟩

/-! tidewrack/tidewrackref02.Open -/
theorem tidewrackref02_Open_calls (K : Nat) (p0 : ByteArray) (w : World) (o : Nat → Nat)   (r : ByteArray × Bool) (H : tidewrackref02_Open K p0 = some r) :
    Calls Tryd.prog 15 #[.string p0] w (Ret fun v_ w' => ∃ o' : Nat → Nat, v_ = .tuple #[.string r.1, .bool r.2] ∧ St [] w o w' o') := by
  refine x_enter (vs := [.string p0]) Tryd.func15 rfl rfl rfl fun a hk => ?_
  obtain ⟨o0, hs, h0⟩ := St.start w o
  clear h0
  rw [tidewrackref02_Open] at H
  refine x_seq ?_
  refine wp_region_lit ?_
  refine x_run tab hk (k := 2) (lv := []) (ks := [0]) (e' := [(0, .string p0)]) rfl trivial fun a hk => ?_
  refine wpList_nil ?_
  refine then_n ?_
  refine x_seq ?_
  refine x_mid (fun a_ w_ => ∃ o18 : Nat → Nat, ∃ x19 : Bool, Kn 22 a_ [(0, .string p0), (16, .bool x19)] ∧ St [] w (fun _ => 0) w_ o18 ∧ tidewrackref02_Open_j1 p0 x19 = some r) ?_ ?_
  rotate_left
  · rintro a w20 ⟨o18, x19, hk, hs, H⟩
    rw [tidewrackref02_Open_j1] at H
    cases b21 : x19
    · rw [b21] at hk H
      replace H := bifF H
      refine x_if hk (b := false) rfl ?_
      refine (show Code.wp _ _ _ _ _ from ?_)
      refine wp_skip ?_
      refine then_n ?_
      refine x_seq ?_
      refine wp_region_lit ?_
      obtain ⟨q22, H⟩ := ifS H
      obtain ⟨q23, H⟩ := ifS H
      refine x_run tab hk (k := 7) (lv := []) (ks := [2, 3]) (e' := [(2, .string (ByteArray.extract p0 0 (Int.toNat (IntKind.wrap .i64 (((p0).size : Int) - 4))))), (3, .bool true)]) rfl ⟨q22, q23, trivial⟩ fun a hk => ?_
      refine wpList_nil ?_
      refine then_n ?_
      refine wp_ret ?_
      obtain rfl := Option.some.inj H
      exact x_retG hk (rs := [.tmp 2, .tmp 3]) (vs := [.string (ByteArray.extract p0 0 (Int.toNat (IntKind.wrap .i64 (((p0).size : Int) - 4)))), .bool true]) rfl ⟨rfl, rfl, trivial⟩ ⟨fun b_ => if b_ < w.heap.size then o b_ else (fun _ => 0) (o18 b_), rfl, hs.close0 o (fun _ => 0)⟩
    · rw [b21] at hk H
      replace H := bifT H
      refine x_if hk (b := true) rfl ?_
      refine (show Code.wp _ _ _ _ _ from ?_)
      refine x_seq ?_
      refine wp_region_lit ?_
      refine x_run tab hk (k := 2) (lv := []) (ks := [2, 3]) (e' := [(2, .string (⟨#[]⟩ : ByteArray)), (3, .bool false)]) rfl trivial fun a hk => ?_
      refine wpList_nil ?_
      refine then_n ?_
      refine wp_ret ?_
      refine then_r ?_
      obtain rfl := Option.some.inj H
      exact x_retG hk (rs := [.tmp 2, .tmp 3]) (vs := [.string (⟨#[]⟩ : ByteArray), .bool false]) rfl ⟨rfl, rfl, trivial⟩ ⟨fun b_ => if b_ < w.heap.size then o b_ else (fun _ => 0) (o18 b_), rfl, hs.close0 o (fun _ => 0)⟩
  refine wp_region_lit ?_
  refine x_run tab hk (k := 4) (lv := []) (ks := [0, 7]) (e' := [(0, .string p0), (7, .bool (decide (((p0).size : Int) < (4 : Int))))]) rfl trivial fun a hk => ?_
  cases b24 : (decide (((p0).size : Int) < (4 : Int)))
  · rw [b24] at hk H
    replace H := bifF H
    obtain ⟨q25, H⟩ := ifS H
    obtain ⟨q26, H⟩ := ifS H
    refine x_run tab hk (k := 5) (lv := []) (ks := [0, 7, 12]) (e' := [(0, .string p0), (7, .bool false), (12, .string (ByteArray.extract p0 0 (Int.toNat (IntKind.wrap .i64 (((p0).size : Int) - 4)))))]) rfl ⟨q25, q26, trivial⟩ fun a hk => ?_
    refine x_op hk rfl ?_
    obtain ⟨t30, hc31, H⟩ := bindS H
    refine op_call hk ent_12 (vs := [.string (ByteArray.extract p0 0 (Int.toNat (IntKind.wrap .i64 (((p0).size : Int) - 4))))]) rfl (tidewrackref02_Seal_calls K (ByteArray.extract p0 0 (Int.toNat (IntKind.wrap .i64 (((p0).size : Int) - 4)))) _ o0    _ hc31) ?_
    rintro _ w32 ⟨o33, rfl, st34⟩
    replace hs := hs.loc0 st34 (by decide)
    have hk := hk.put 13 (.string t30) rfl
    refine x_run tab hk (k := 3) (lv := []) (ks := [0, 16]) (e' := [(0, .string p0), (16, .bool (!(ByteArray.toList t30 == ByteArray.toList p0)))]) rfl trivial fun a hk => ?_
    refine wpList_nil ?_
    refine then_n ?_
    exact ⟨o33, (!(ByteArray.toList t30 == ByteArray.toList p0)), (by exact Kn.pick (ks := [0, 16]) hk rfl), hs, H⟩
  · rw [b24] at hk H
    replace H := bifT H
    refine x_run tab hk (k := 9) (lv := []) (ks := [0, 16]) (e' := [(0, .string p0), (16, .bool true)]) rfl trivial fun a hk => ?_
    refine wpList_nil ?_
    refine then_n ?_
    exact ⟨o0, true, (by exact Kn.pick (ks := [0, 16]) hk rfl), hs, H⟩

/-! tidewrack/tidewracklaw02.SumOpens -/
theorem tidewracklaw02_SumOpens_calls (K : Nat) (p0 : ByteArray) (w : World) (o : Nat → Nat) (Lg0 : Nat) (hg0 : Ft (RdC (encInt .u32) (some ⟨0, 0, none⟩) glob0) w o Lg0)   (r : Bool) (H : tidewracklaw02_SumOpens K p0 = some r) :
    Calls Tryd.prog 5 #[.string p0] w (Ret fun v_ w' => ∃ o' : Nat → Nat, v_ = .bool r ∧ St [] w o w' o') := by
  refine x_enter (vs := [.string p0]) Tryd.func5 rfl rfl rfl fun a hk => ?_
  obtain ⟨o0, hs, h0⟩ := St.start w o
  have fg0 := h0 _ _ hg0
  clear h0
  rw [tidewracklaw02_SumOpens] at H
  refine x_seq ?_
  refine wp_region_lit ?_
  refine x_run tab hk (k := 1) (lv := []) (ks := [0]) (e' := [(0, .string p0)]) rfl trivial fun a hk => ?_
  refine wpList_nil ?_
  refine then_n ?_
  refine x_seq ?_
  refine x_seq ?_
  refine wp_region_lit ?_
  refine x_op hk rfl ?_
  obtain ⟨t4, hc5, H⟩ := bindS H
  refine op_call hk ent_7 (vs := []) rfl (tidewracklaw02_awake_calls K  _ o0 0 fg0   _ hc5) ?_
  rintro _ w6 ⟨o7, rfl, st8⟩
  replace fg0 := fg0.st st8 (by decide)
  replace hs := hs.loc0 st8 (by decide)
  have hk := hk.put 9 (.bool t4) rfl
  refine x_run tab hk (k := 1) (lv := []) (ks := [0, 10]) (e' := [(0, .string p0), (10, .bool (!t4))]) rfl trivial fun a hk => ?_
  refine wpList_nil ?_
  refine then_n ?_
  cases b9 : (!t4)
  · rw [b9] at hk H
    replace H := bifF H
    refine x_if hk (b := false) rfl ?_
    refine (show Code.wp _ _ _ _ _ from ?_)
    refine wp_skip ?_
    refine then_n ?_
    refine x_seq ?_
    refine wp_region_lit ?_
    refine x_run tab hk (k := 1) (lv := []) (ks := [11]) (e' := [(11, .string p0)]) rfl trivial fun a hk => ?_
    refine x_op hk rfl ?_
    obtain ⟨t13, hc14, H⟩ := bindS H
    refine op_call hk ent_13 (vs := [.string p0, .int .i64 120]) rfl (tidewracklaw01_Cut_calls p0 120 _ o7    _ hc14) ?_
    rintro _ w15 ⟨o16, rfl, st17⟩
    replace fg0 := fg0.st st17 (by decide)
    replace hs := hs.loc0 st17 (by decide)
    have hk := hk.put 12 (.string t13) rfl
    refine x_run tab hk (k := 1) (lv := []) (ks := [0]) (e' := [(0, .string t13)]) rfl trivial fun a hk => ?_
    refine wpList_nil ?_
    refine then_n ?_
    refine x_seq ?_
    refine wp_region_lit ?_
    refine x_run tab hk (k := 1) (lv := []) (ks := [0, 14]) (e' := [(0, .string t13), (14, .string t13)]) rfl trivial fun a hk => ?_
    refine x_op hk rfl ?_
    obtain ⟨t21, hc22, H⟩ := bindS H
    refine op_call hk ent_14 (vs := [.string t13]) rfl (sum_Open_calls K t13 _ o16 0 fg0   _ hc22) ?_
    rintro _ w23 ⟨o24, rfl, st25⟩
    replace fg0 := fg0.st st25 (by decide)
    replace hs := hs.loc0 st25 (by decide)
    have hk := hk.put 15 (.tuple #[.string t21.1, .bool t21.2]) rfl
    refine x_run tab hk (k := 5) (lv := []) (ks := [0, 3, 4]) (e' := [(0, .string t13), (3, .string t21.1), (4, .bool t21.2)]) rfl trivial fun a hk => ?_
    refine wpList_nil ?_
    refine then_n ?_
    refine x_seq ?_
    refine wp_region_lit ?_
    refine x_run tab hk (k := 1) (lv := []) (ks := [0, 3, 4, 19]) (e' := [(0, .string t13), (3, .string t21.1), (4, .bool t21.2), (19, .string t13)]) rfl trivial fun a hk => ?_
    refine x_op hk rfl ?_
    obtain ⟨t29, hc30, H⟩ := bindS H
    refine op_call hk ent_15 (vs := [.string t13]) rfl (tidewrackref02_Open_calls K t13 _ o24    _ hc30) ?_
    rintro _ w31 ⟨o32, rfl, st33⟩
    replace fg0 := fg0.st st33 (by decide)
    replace hs := hs.loc0 st33 (by decide)
    have hk := hk.put 20 (.tuple #[.string t29.1, .bool t29.2]) rfl
    refine x_run tab hk (k := 5) (lv := []) (ks := [0, 3, 4, 5, 6]) (e' := [(0, .string t13), (3, .string t21.1), (4, .bool t21.2), (5, .string t29.1), (6, .bool t29.2)]) rfl trivial fun a hk => ?_
    refine wpList_nil ?_
    refine then_n ?_
    refine x_seq ?_
    refine wp_region_lit ?_
    refine x_run tab hk (k := 1) (lv := []) (ks := [0, 3, 4, 5, 6, 24]) (e' := [(0, .string t13), (3, .string t21.1), (4, .bool t21.2), (5, .string t29.1), (6, .bool t29.2), (24, .string t13)]) rfl trivial fun a hk => ?_
    refine x_op hk rfl ?_
    obtain ⟨t37, hc38, H⟩ := bindS H
    refine op_call hk ent_11 (vs := [.string t13]) rfl (sum_Seal_calls K t13 _ o32 0 fg0   _ hc38) ?_
    rintro _ w39 ⟨o40, rfl, st41⟩
    replace fg0 := fg0.st st41 (by decide)
    replace hs := hs.loc0 st41 (by decide)
    have hk := hk.put 25 (.string t37) rfl
    refine x_op hk rfl ?_
    obtain ⟨t45, hc46, H⟩ := bindS H
    refine op_call hk ent_14 (vs := [.string t37]) rfl (sum_Open_calls K t37 _ o40 0 fg0   _ hc46) ?_
    rintro _ w47 ⟨o48, rfl, st49⟩
    replace fg0 := fg0.st st49 (by decide)
    replace hs := hs.loc0 st49 (by decide)
    have hk := hk.put 26 (.tuple #[.string t45.1, .bool t45.2]) rfl
    refine x_run tab hk (k := 5) (lv := []) (ks := [0, 3, 4, 5, 6, 7, 8]) (e' := [(0, .string t13), (3, .string t21.1), (4, .bool t21.2), (5, .string t29.1), (6, .bool t29.2), (7, .string t45.1), (8, .bool t45.2)]) rfl trivial fun a hk => ?_
    refine wpList_nil ?_
    refine then_n ?_
    refine x_seq ?_
    refine wp_region_lit ?_
    refine x_run tab hk (k := 4) (lv := []) (ks := [0, 4, 6, 7, 8, 32]) (e' := [(0, .string t13), (4, .bool t21.2), (6, .bool t29.2), (7, .string t45.1), (8, .bool t45.2), (32, .bool (ByteArray.toList t21.1 == ByteArray.toList t29.1))]) rfl trivial fun a hk => ?_
    cases b50 : (ByteArray.toList t21.1 == ByteArray.toList t29.1)
    · rw [b50] at hk H
      replace H := bifF H
      refine x_run tab hk (k := 11) (lv := []) (ks := [42, 43]) (e' := [(42, .bool false), (43, undef)]) rfl trivial fun a hk => ?_
      refine x_run tab hk (k := 2) (lv := []) (ks := [2]) (e' := [(2, .bool false)]) rfl trivial fun a hk => ?_
      refine wpList_nil ?_
      refine then_n ?_
      refine wp_ret ?_
      obtain rfl := Option.some.inj H
      exact x_retG hk (rs := [.tmp 2]) (vs := [.bool false]) rfl ⟨rfl, trivial⟩ ⟨fun b_ => if b_ < w.heap.size then o b_ else (fun _ => 0) (o48 b_), rfl, hs.close0 o (fun _ => 0)⟩
    · rw [b50] at hk H
      replace H := bifT H
      refine x_run tab hk (k := 5) (lv := []) (ks := [0, 7, 8, 37]) (e' := [(0, .string t13), (7, .string t45.1), (8, .bool t45.2), (37, .bool (t21.2 == t29.2))]) rfl trivial fun a hk => ?_
      cases b51 : (t21.2 == t29.2)
      · rw [b51] at hk H
        replace H := bifF H
        refine x_run tab hk (k := 8) (lv := []) (ks := [2]) (e' := [(2, .bool false)]) rfl trivial fun a hk => ?_
        refine wpList_nil ?_
        refine then_n ?_
        refine wp_ret ?_
        obtain rfl := Option.some.inj H
        exact x_retG hk (rs := [.tmp 2]) (vs := [.bool false]) rfl ⟨rfl, trivial⟩ ⟨fun b_ => if b_ < w.heap.size then o b_ else (fun _ => 0) (o48 b_), rfl, hs.close0 o (fun _ => 0)⟩
      · rw [b51] at hk H
        replace H := bifT H
        refine x_run tab hk (k := 5) (lv := []) (ks := [8, 42]) (e' := [(8, .bool t45.2), (42, .bool (ByteArray.toList t45.1 == ByteArray.toList t13))]) rfl trivial fun a hk => ?_
        cases b52 : (ByteArray.toList t45.1 == ByteArray.toList t13)
        · rw [b52] at hk H
          replace H := bifF H
          refine x_run tab hk (k := 3) (lv := []) (ks := [2]) (e' := [(2, .bool false)]) rfl trivial fun a hk => ?_
          refine wpList_nil ?_
          refine then_n ?_
          refine wp_ret ?_
          obtain rfl := Option.some.inj H
          exact x_retG hk (rs := [.tmp 2]) (vs := [.bool false]) rfl ⟨rfl, trivial⟩ ⟨fun b_ => if b_ < w.heap.size then o b_ else (fun _ => 0) (o48 b_), rfl, hs.close0 o (fun _ => 0)⟩
        · rw [b52] at hk H
          replace H := bifT H
          refine x_run tab hk (k := 3) (lv := []) (ks := [2]) (e' := [(2, .bool t45.2)]) rfl trivial fun a hk => ?_
          refine wpList_nil ?_
          refine then_n ?_
          refine wp_ret ?_
          obtain rfl := Option.some.inj H
          exact x_retG hk (rs := [.tmp 2]) (vs := [.bool t45.2]) rfl ⟨rfl, trivial⟩ ⟨fun b_ => if b_ < w.heap.size then o b_ else (fun _ => 0) (o48 b_), rfl, hs.close0 o (fun _ => 0)⟩
  · rw [b9] at hk H
    replace H := bifT H
    refine x_if hk (b := true) rfl ?_
    refine (show Code.wp _ _ _ _ _ from ?_)
    refine x_seq ?_
    refine wp_region_lit ?_
    refine x_run tab hk (k := 1) (lv := []) (ks := [2]) (e' := [(2, .bool false)]) rfl trivial fun a hk => ?_
    refine wpList_nil ?_
    refine then_n ?_
    refine wp_ret ?_
    refine then_r ?_
    obtain rfl := Option.some.inj H
    exact x_retG hk (rs := [.tmp 2]) (vs := [.bool false]) rfl ⟨rfl, trivial⟩ ⟨fun b_ => if b_ < w.heap.size then o b_ else (fun _ => 0) (o7 b_), rfl, hs.close0 o (fun _ => 0)⟩

/-! tidewrack/sum.Turn -/
theorem sum_Turn_calls (K : Nat) (p0 : ByteArray) (p1 : Int) (p2 : Int) (w : World) (o : Nat → Nat)   (r : ByteArray) (H : sum_Turn K p0 p1 p2 = some r) :
    Calls Tryd.prog 16 #[.string p0, .int .i64 p1, .int .u32 p2] w (Ret fun v_ w' => ∃ o' : Nat → Nat, v_ = .string r ∧ St [] w o w' o') := by
  refine x_enter (vs := [.string p0, .int .i64 p1, .int .u32 p2]) Tryd.func16 rfl rfl rfl fun a hk => ?_
  obtain ⟨o0, hs, h0⟩ := St.start w o
  clear h0
  rw [sum_Turn] at H
  refine x_seq ?_
  refine wp_region_lit ?_
  refine x_run tab hk (k := 1) (lv := []) (ks := [0, 1, 2]) (e' := [(0, .string p0), (1, .int .i64 p1), (2, .int .u32 p2)]) rfl trivial fun a hk => ?_
  refine wpList_nil ?_
  refine then_n ?_
  refine x_seq ?_
  refine wp_region_lit ?_
  refine x_run tab hk (k := 1) (lv := []) (ks := [1, 2, 9]) (e' := [(1, .int .i64 p1), (2, .int .u32 p2), (9, .string p0)]) rfl trivial fun a hk => ?_
  refine x_op hk rfl ?_
  refine op_bytes (o := o0) (s := p0) tab hk rfl rfl rfl rfl 1 fun A4 c5 w1 o2 st3 f6 hc7 => ?_
  replace hs := hs.loc0 st3 (by decide)
  have hk := hk.put 10 (.slice A4 ((numsOf p0)).length c5) rfl
  refine x_run tab hk (k := 1) (lv := []) (ks := [1, 2, 7]) (e' := [(1, .int .i64 p1), (2, .int .u32 p2), (7, .slice A4 ((numsOf p0)).length c5)]) rfl trivial fun a hk => ?_
  refine wpList_nil ?_
  refine then_n ?_
  refine x_mid (fun a_ w_ => ∃ o129 : Nat → Nat, ∃ A130 : Option Addr, ∃ c131 : Nat, ∃ l132 : List Int, Kn 45 a_ [(7, .slice A130 (l132).length c131)] ∧ St [] w (fun _ => 0) w_ o129 ∧ Ft (Wr (encInt .u8) 5 (.slice A130 (l132).length c131) l132) w_ o129 7 ∧ (l132).length ≤ c131 ∧ sum_Turn_j1 l132 = some r) ?_ ?_
  rotate_left
  · rintro a w135 ⟨o129, A130, c131, l132, hk, hs, f133, hc134, H⟩
    rw [sum_Turn_j1] at H
    refine x_seq ?_
    refine wp_region_lit ?_
    refine x_run tab hk (k := 3) (lv := [.string (strOfNums l132)]) (ks := [6]) (e' := [(6, .string (strOfNums l132))]) rfl ⟨(ask_str tab rfl rfl rfl rfl (Wr.rd f133.now) (Wr.plain f133.now _ _ _ rfl)), trivial⟩ fun a hk => ?_
    refine wpList_nil ?_
    refine then_n ?_
    refine wp_ret ?_
    obtain rfl := Option.some.inj H
    exact x_retG hk (rs := [.tmp 6]) (vs := [.string (strOfNums l132)]) rfl ⟨rfl, trivial⟩ ⟨fun b_ => if b_ < w.heap.size then o b_ else (fun _ => 0) (o129 b_), rfl, hs.close0 o (fun _ => 0)⟩
  refine x_seq ?_
  refine wp_region_lit ?_
  refine x_run tab hk (k := 7) (lv := []) (ks := [2, 7, 8]) (e' := [(2, .int .u32 p2), (7, .slice A4 ((numsOf p0)).length c5), (8, .int .i64 (if (if (IntKind.wrap .i64 (8 * (((numsOf p0)).length : Int))) < p1 then (IntKind.wrap .i64 (8 * (((numsOf p0)).length : Int))) else p1) > 0 then (if (IntKind.wrap .i64 (8 * (((numsOf p0)).length : Int))) < p1 then (IntKind.wrap .i64 (8 * (((numsOf p0)).length : Int))) else p1) else 0))]) rfl trivial fun a hk => ?_
  refine wpList_nil ?_
  refine then_n ?_
  refine wp_block ?_
  refine x_loop (fun j_ a_ w_ => ∃ o171 : Nat → Nat, ∃ x172 : Int, ∃ A173 : Option Addr, ∃ c174 : Nat, ∃ l175 : List Int, ∃ x178 : Int, Kn 45 a_ [(2, .int .u32 x172), (7, .slice A173 (l175).length c174), (8, .int .i64 x178)] ∧ St [] w (fun _ => 0) w_ o171 ∧ Ft (Wr (encInt .u8) 5 (.slice A173 (l175).length c174) l175) w_ o171 10 ∧ (l175).length ≤ c174 ∧ sum_Turn_l2 j_ x172 l175 x178 = some r) (k := K) ⟨(fun b_ => (fun l_ => if l_ = 1 then 10 else l_) (o2 b_)), p2, A4, c5, (numsOf p0), (if (if (IntKind.wrap .i64 (8 * (((numsOf p0)).length : Int))) < p1 then (IntKind.wrap .i64 (8 * (((numsOf p0)).length : Int))) else p1) > 0 then (if (IntKind.wrap .i64 (8 * (((numsOf p0)).length : Int))) < p1 then (IntKind.wrap .i64 (8 * (((numsOf p0)).length : Int))) else p1) else 0), (by exact Kn.pick (ks := [2, 7, 8]) hk rfl), (hs.relab0 (fun l_ => if l_ = 1 then 10 else l_) rfl), (f6.relab (fun l_ => if l_ = 1 then 10 else l_) rfl), hc7, H⟩ (by rintro _ _ ⟨_, _, _, _, _, _, _, _, _, _, H_⟩; exact absurd (show (none : Option ByteArray) = some r from H_) (by simp)) ?_
  rintro k212 a w211 ⟨o171, x172, A173, c174, l175, x178, hk, hs, f176, hc177, H⟩
  rw [sum_Turn_l2] at H
  obtain ⟨lp213, hlp214⟩ : ∃ lp_, lp_ = sum_Turn_l2 k212 := ⟨_, rfl⟩
  rw [← hlp214] at H
  refine x_mid (fun a_ w_ => ∃ o220 : Nat → Nat, Kn 45 a_ [(2, .int .u32 x172), (7, .slice A173 (l175).length c174), (8, .int .i64 x178)] ∧ St [] w (fun _ => 0) w_ o220 ∧ Ft (Wr (encInt .u8) 5 (.slice A173 (l175).length c174) l175) w_ o220 12 ∧ sum_Turn_j3 x172 l175 x178 lp213 = some r) ?_ ?_
  rotate_left
  · rintro a w221 ⟨o220, hk, hs, f176, H⟩
    rw [sum_Turn_j3] at H
    refine x_seq ?_
    refine wp_block ?_
    refine x_seq ?_
    refine xd_begin (o := o220) (fun W_ => True) mixed rfl rfl fun w236 st237 => ?_
    replace f176 := f176.st st237 (by decide)
    replace hs := hs.loc0 st237 (by decide)
    obtain ⟨q238, H⟩ := ifS H
    obtain ⟨ad239, hAad239⟩ := RdC.addr (Wr.rd f176.now) q238
    subst hAad239
    obtain ⟨q240, H⟩ := ifS H
    refine xd_take tab hk (k := 4) (is := [0, 1, 2, 3, 5, 6, 7, 8, 9, 10]) (ls' := #[true, true, true, true, false, true, true, true, true, true, true, false, false, false]) (lv := []) (ks := [2, 7, 8, 28, 30, 31, 38]) (e' := [(2, .int .u32 x172), (7, .slice (some ad239) (l175).length c174), (8, .int .i64 x178), (28, .slice (some ad239) (l175).length c174), (30, .int .i64 (IntKind.wrap .i64 (Int.tdiv x178 8))), (31, .pointer (some (ad239.add (Int.toNat (IntKind.wrap .i64 (Int.tdiv x178 8)) * 1)))), (38, .int .u8 (IntKind.wrap .u8 ((IntKind.wrap .u8 (bits .and .u32 x172 1)) * 2 ^ min (Int.toNat (Int.tmod x178 8)) 8)))]) (by kernel_rfl) rfl rfl (by kernel_rfl) (np_then (np_blk (np_then (np_then (np_blk (np_then np_body)))))) trivial (fun W_ hS => ⟨(show (8 : Int) ≠ 0 from by decide), q238, (show (8 : Int) ≠ 0 from by decide), q240, trivial⟩) fun a hk => ?_
    refine xd_op hk (i := 4) (by kernel_rfl) rfl rfl ?_
    refine op_quiet tab hk (lv := [.int .u8 (rdD 0 l175 (IntKind.wrap .i64 (Int.tdiv x178 8)))]) (v := .int .u8 (rdD 0 l175 (IntKind.wrap .i64 (Int.tdiv x178 8)))) rfl ⟨(load1 tab rfl (RdC.at0 (E := (encInt .u8)) (d := 0) (i := (IntKind.wrap .i64 (Int.tdiv x178 8))) (Wr.rd f176.now) q238 rfl)), trivial⟩ ?_
    have hk := hk.put 32 (.int .u8 (rdD 0 l175 (IntKind.wrap .i64 (Int.tdiv x178 8)))) rfl
    refine ⟨.inr trivial, ?_⟩
    refine xd_take tab hk (k := 1) (is := [11, 12]) (ls' := #[true, true, true, true, true, true, true, true, true, true, true, true, true, false]) (lv := []) (ks := [2, 7, 8, 39, 40]) (e' := [(2, .int .u32 x172), (7, .slice (some ad239) (l175).length c174), (8, .int .i64 x178), (39, .int .u8 (bits .xor .u8 (rdD 0 l175 (IntKind.wrap .i64 (Int.tdiv x178 8))) (IntKind.wrap .u8 ((IntKind.wrap .u8 (bits .and .u32 x172 1)) * 2 ^ min (Int.toNat (Int.tmod x178 8)) 8)))), (40, .pointer (some (ad239.add (Int.toNat (IntKind.wrap .i64 (Int.tdiv x178 8)) * 1))))]) (by kernel_rfl) rfl rfl (by kernel_rfl) (np_then (np_blk (np_then (np_then (np_blk (np_then np_body)))))) trivial (fun W_ hS => ⟨q238, trivial⟩) fun a hk => ?_
    refine xd_op hk (i := 13) (by kernel_rfl) rfl rfl ?_
    refine op_storeW tab hk (E := (encInt .u8)) (i := (IntKind.wrap .i64 (Int.tdiv x178 8))) (j := 0) (dx := 0) (y' := (bits .xor .u8 (rdD 0 l175 (IntKind.wrap .i64 (Int.tdiv x178 8))) (IntKind.wrap .u8 ((IntKind.wrap .u8 (bits .and .u32 x172 1)) * 2 ^ min (Int.toNat (Int.tmod x178 8)) 8)))) rfl rfl rfl f176 rfl q238 rfl rfl rfl rfl fun w241 o242 st243 f176_ => ?_
    replace hs := hs.loc0 st243 (by decide)
    replace f176 := f176_
    have hl244 : (List.set l175 (Int.toNat (IntKind.wrap .i64 (Int.tdiv x178 8))) (bits .xor .u8 (rdD 0 l175 (IntKind.wrap .i64 (Int.tdiv x178 8))) (IntKind.wrap .u8 ((IntKind.wrap .u8 (bits .and .u32 x172 1)) * 2 ^ min (Int.toNat (Int.tmod x178 8)) 8)))).length = (l175).length := List.length_set
    replace hk := Kn.re hk [2, 7, 8, 39] (e2 := [(2, .int .u32 x172), (7, .slice (some ad239) ((List.set l175 (Int.toNat (IntKind.wrap .i64 (Int.tdiv x178 8))) (bits .xor .u8 (rdD 0 l175 (IntKind.wrap .i64 (Int.tdiv x178 8))) (IntKind.wrap .u8 ((IntKind.wrap .u8 (bits .and .u32 x172 1)) * 2 ^ min (Int.toNat (Int.tmod x178 8)) 8))))).length c174), (8, .int .i64 x178), (39, .int .u8 (bits .xor .u8 (rdD 0 l175 (IntKind.wrap .i64 (Int.tdiv x178 8))) (IntKind.wrap .u8 ((IntKind.wrap .u8 (bits .and .u32 x172 1)) * 2 ^ min (Int.toNat (Int.tmod x178 8)) 8))))]) rfl (by rw [hl244])
    refine ⟨.inl (by kernel_rfl), ?_⟩
    refine xd_done (by kernel_rfl) ?_
    refine then_n ?_
    refine wp_region_lit ?_
    refine x_run tab hk (k := 3) (lv := []) (ks := [2, 7, 8]) (e' := [(2, .int .u32 (Int.fdiv x172 (2 ^ min (Int.toNat 1) 32))), (7, .slice (some ad239) ((List.set l175 (Int.toNat (IntKind.wrap .i64 (Int.tdiv x178 8))) (bits .xor .u8 (rdD 0 l175 (IntKind.wrap .i64 (Int.tdiv x178 8))) (IntKind.wrap .u8 ((IntKind.wrap .u8 (bits .and .u32 x172 1)) * 2 ^ min (Int.toNat (Int.tmod x178 8)) 8))))).length c174), (8, .int .i64 x178)]) rfl ⟨(show 0 ≤ (1 : Int) from by decide), trivial⟩ fun a hk => ?_
    refine wpList_nil ?_
    refine blk_n ?_
    refine then_n ?_
    refine wp_region_lit ?_
    refine x_run tab hk (k := 3) (lv := []) (ks := [2, 7, 8]) (e' := [(2, .int .u32 (Int.fdiv x172 (2 ^ min (Int.toNat 1) 32))), (7, .slice (some ad239) ((List.set l175 (Int.toNat (IntKind.wrap .i64 (Int.tdiv x178 8))) (bits .xor .u8 (rdD 0 l175 (IntKind.wrap .i64 (Int.tdiv x178 8))) (IntKind.wrap .u8 ((IntKind.wrap .u8 (bits .and .u32 x172 1)) * 2 ^ min (Int.toNat (Int.tmod x178 8)) 8))))).length c174), (8, .int .i64 (IntKind.wrap .i64 (x178 + 1)))]) rfl trivial fun a hk => ?_
    refine wpList_nil ?_
    refine then_n ?_
    exact ⟨k212, Nat.le_refl _, (fun b_ => (fun l_ => if l_ = 12 then 10 else l_) (o242 b_)), (Int.fdiv x172 (2 ^ min (Int.toNat 1) 32)), (some ad239), c174, (List.set l175 (Int.toNat (IntKind.wrap .i64 (Int.tdiv x178 8))) (bits .xor .u8 (rdD 0 l175 (IntKind.wrap .i64 (Int.tdiv x178 8))) (IntKind.wrap .u8 ((IntKind.wrap .u8 (bits .and .u32 x172 1)) * 2 ^ min (Int.toNat (Int.tmod x178 8)) 8)))), (IntKind.wrap .i64 (x178 + 1)), (by exact Kn.pick (ks := [2, 7, 8]) hk rfl), (hs.relab0 (fun l_ => if l_ = 12 then 10 else l_) rfl), (f176.relab (fun l_ => if l_ = 12 then 10 else l_) rfl), (by rw [List.length_set]; exact hc177), (hlp214 ▸ H)⟩
  refine x_seq ?_
  refine wp_region_lit ?_
  refine x_run tab hk (k := 3) (lv := []) (ks := [2, 7, 8, 19]) (e' := [(2, .int .u32 x172), (7, .slice A173 (l175).length c174), (8, .int .i64 x178), (19, .bool (x172 != (0 : Int)))]) rfl trivial fun a hk => ?_
  cases b245 : (x172 != (0 : Int))
  · rw [b245] at hk H
    replace H := bifF H
    refine x_run tab hk (k := 6) (lv := []) (ks := [2, 7, 8, 25]) (e' := [(2, .int .u32 x172), (7, .slice A173 (l175).length c174), (8, .int .i64 x178), (25, .bool false)]) rfl trivial fun a hk => ?_
    refine wpList_nil ?_
    refine then_n ?_
    refine x_if hk (b := false) rfl ?_
    refine (show Code.wp _ _ _ _ _ from ?_)
    refine wp_exit ?_
    refine then_x ?_
    refine then_x ?_
    refine blk_x ?_
    refine then_n ?_
    exact ⟨(fun b_ => (fun l_ => if l_ = 10 then 7 else l_) (o171 b_)), A173, c174, l175, (by exact Kn.pick (ks := [7]) hk rfl), (hs.relab0 (fun l_ => if l_ = 10 then 7 else l_) rfl), (f176.relab (fun l_ => if l_ = 10 then 7 else l_) rfl), hc177, H⟩
  · rw [b245] at hk H
    replace H := bifT H
    refine x_run tab hk (k := 6) (lv := []) (ks := [2, 7, 8, 25]) (e' := [(2, .int .u32 x172), (7, .slice A173 (l175).length c174), (8, .int .i64 x178), (25, .bool (decide (x178 < (IntKind.wrap .i64 (8 * ((l175).length : Int))))))]) rfl trivial fun a hk => ?_
    refine wpList_nil ?_
    refine then_n ?_
    cases b246 : (decide (x178 < (IntKind.wrap .i64 (8 * ((l175).length : Int)))))
    · rw [b246] at hk H
      replace H := bifF H
      refine x_if hk (b := false) rfl ?_
      refine (show Code.wp _ _ _ _ _ from ?_)
      refine wp_exit ?_
      refine then_x ?_
      refine then_x ?_
      refine blk_x ?_
      refine then_n ?_
      exact ⟨(fun b_ => (fun l_ => if l_ = 10 then 7 else l_) (o171 b_)), A173, c174, l175, (by exact Kn.pick (ks := [7]) hk rfl), (hs.relab0 (fun l_ => if l_ = 10 then 7 else l_) rfl), (f176.relab (fun l_ => if l_ = 10 then 7 else l_) rfl), hc177, H⟩
    · rw [b246] at hk H
      replace H := bifT H
      refine x_if hk (b := true) rfl ?_
      refine (show Code.wp _ _ _ _ _ from ?_)
      refine wp_skip ?_
      refine then_n ?_
      exact ⟨(fun b_ => (fun l_ => if l_ = 10 then 12 else l_) (o171 b_)), (by exact Kn.pick (ks := [2, 7, 8]) hk rfl), (hs.relab0 (fun l_ => if l_ = 10 then 12 else l_) rfl), (f176.relab (fun l_ => if l_ = 10 then 12 else l_) rfl), H⟩

/-! tidewrack/tidewrackref02.Turn -/
theorem tidewrackref02_Turn_calls (K : Nat) (p0 : ByteArray) (p1 : Int) (p2 : Int) (w : World) (o : Nat → Nat)   (r : ByteArray) (H : tidewrackref02_Turn K p0 p1 p2 = some r) :
    Calls Tryd.prog 17 #[.string p0, .int .i64 p1, .int .u32 p2] w (Ret fun v_ w' => ∃ o' : Nat → Nat, v_ = .string r ∧ St [] w o w' o') := by
  refine x_enter (vs := [.string p0, .int .i64 p1, .int .u32 p2]) Tryd.func17 rfl rfl rfl fun a hk => ?_
  obtain ⟨o0, hs, h0⟩ := St.start w o
  clear h0
  rw [tidewrackref02_Turn] at H
  refine x_seq ?_
  refine wp_region_lit ?_
  refine x_run tab hk (k := 1) (lv := []) (ks := [0, 1, 2]) (e' := [(0, .string p0), (1, .int .i64 p1), (2, .int .u32 p2)]) rfl trivial fun a hk => ?_
  refine wpList_nil ?_
  refine then_n ?_
  refine x_seq ?_
  refine wp_region_lit ?_
  refine x_run tab hk (k := 1) (lv := []) (ks := [1, 2, 9]) (e' := [(1, .int .i64 p1), (2, .int .u32 p2), (9, .string p0)]) rfl trivial fun a hk => ?_
  refine x_op hk rfl ?_
  refine op_bytes (o := o0) (s := p0) tab hk rfl rfl rfl rfl 1 fun A4 c5 w1 o2 st3 f6 hc7 => ?_
  replace hs := hs.loc0 st3 (by decide)
  have hk := hk.put 10 (.slice A4 ((numsOf p0)).length c5) rfl
  refine x_run tab hk (k := 1) (lv := []) (ks := [1, 2, 7]) (e' := [(1, .int .i64 p1), (2, .int .u32 p2), (7, .slice A4 ((numsOf p0)).length c5)]) rfl trivial fun a hk => ?_
  refine wpList_nil ?_
  refine then_n ?_
  refine x_seq ?_
  refine wp_region_lit ?_
  refine x_run tab hk (k := 7) (lv := []) (ks := [1, 2, 7]) (e' := [(1, .int .i64 (if (if (IntKind.wrap .i64 (8 * (((numsOf p0)).length : Int))) < p1 then (IntKind.wrap .i64 (8 * (((numsOf p0)).length : Int))) else p1) > 0 then (if (IntKind.wrap .i64 (8 * (((numsOf p0)).length : Int))) < p1 then (IntKind.wrap .i64 (8 * (((numsOf p0)).length : Int))) else p1) else 0)), (2, .int .u32 p2), (7, .slice A4 ((numsOf p0)).length c5)]) rfl trivial fun a hk => ?_
  refine wpList_nil ?_
  refine then_n ?_
  refine x_mid (fun a_ w_ => ∃ o133 : Nat → Nat, ∃ A134 : Option Addr, ∃ c135 : Nat, ∃ l136 : List Int, Kn 51 a_ [(7, .slice A134 (l136).length c135)] ∧ St [] w (fun _ => 0) w_ o133 ∧ Ft (Wr (encInt .u8) 5 (.slice A134 (l136).length c135) l136) w_ o133 7 ∧ (l136).length ≤ c135 ∧ tidewrackref02_Turn_j1 l136 = some r) ?_ ?_
  rotate_left
  · rintro a w139 ⟨o133, A134, c135, l136, hk, hs, f137, hc138, H⟩
    rw [tidewrackref02_Turn_j1] at H
    refine x_seq ?_
    refine wp_region_lit ?_
    refine x_run tab hk (k := 3) (lv := [.string (strOfNums l136)]) (ks := [6]) (e' := [(6, .string (strOfNums l136))]) rfl ⟨(ask_str tab rfl rfl rfl rfl (Wr.rd f137.now) (Wr.plain f137.now _ _ _ rfl)), trivial⟩ fun a hk => ?_
    refine wpList_nil ?_
    refine then_n ?_
    refine wp_ret ?_
    obtain rfl := Option.some.inj H
    exact x_retG hk (rs := [.tmp 6]) (vs := [.string (strOfNums l136)]) rfl ⟨rfl, trivial⟩ ⟨fun b_ => if b_ < w.heap.size then o b_ else (fun _ => 0) (o133 b_), rfl, hs.close0 o (fun _ => 0)⟩
  refine x_seq ?_
  refine wp_region_lit ?_
  refine x_run tab hk (k := 1) (lv := []) (ks := [1, 2, 7, 8]) (e' := [(1, .int .i64 (if (if (IntKind.wrap .i64 (8 * (((numsOf p0)).length : Int))) < p1 then (IntKind.wrap .i64 (8 * (((numsOf p0)).length : Int))) else p1) > 0 then (if (IntKind.wrap .i64 (8 * (((numsOf p0)).length : Int))) < p1 then (IntKind.wrap .i64 (8 * (((numsOf p0)).length : Int))) else p1) else 0)), (2, .int .u32 p2), (7, .slice A4 ((numsOf p0)).length c5), (8, .int .i64 0)]) rfl trivial fun a hk => ?_
  refine wpList_nil ?_
  refine then_n ?_
  refine wp_block ?_
  refine x_loop (fun j_ a_ w_ => ∃ o176 : Nat → Nat, ∃ A177 : Option Addr, ∃ c178 : Nat, ∃ l179 : List Int, ∃ x182 : Int, Kn 51 a_ [(1, .int .i64 (if (if (IntKind.wrap .i64 (8 * (((numsOf p0)).length : Int))) < p1 then (IntKind.wrap .i64 (8 * (((numsOf p0)).length : Int))) else p1) > 0 then (if (IntKind.wrap .i64 (8 * (((numsOf p0)).length : Int))) < p1 then (IntKind.wrap .i64 (8 * (((numsOf p0)).length : Int))) else p1) else 0)), (2, .int .u32 p2), (7, .slice A177 (l179).length c178), (8, .int .i64 x182)] ∧ St [] w (fun _ => 0) w_ o176 ∧ Ft (Wr (encInt .u8) 5 (.slice A177 (l179).length c178) l179) w_ o176 10 ∧ (l179).length ≤ c178 ∧ tidewrackref02_Turn_l2 p0 p1 p2 j_ l179 x182 = some r) (k := K) ⟨(fun b_ => (fun l_ => if l_ = 1 then 10 else l_) (o2 b_)), A4, c5, (numsOf p0), 0, (by exact Kn.pick (ks := [1, 2, 7, 8]) hk rfl), (hs.relab0 (fun l_ => if l_ = 1 then 10 else l_) rfl), (f6.relab (fun l_ => if l_ = 1 then 10 else l_) rfl), hc7, H⟩ (by rintro _ _ ⟨_, _, _, _, _, _, _, _, _, H_⟩; exact absurd (show (none : Option ByteArray) = some r from H_) (by simp)) ?_
  rintro k218 a w217 ⟨o176, A177, c178, l179, x182, hk, hs, f180, hc181, H⟩
  rw [tidewrackref02_Turn_l2] at H
  obtain ⟨lp219, hlp220⟩ : ∃ lp_, lp_ = tidewrackref02_Turn_l2 p0 p1 p2 k218 := ⟨_, rfl⟩
  rw [← hlp220] at H
  refine x_mid (fun a_ w_ => ∃ o226 : Nat → Nat, Kn 51 a_ [(1, .int .i64 (if (if (IntKind.wrap .i64 (8 * (((numsOf p0)).length : Int))) < p1 then (IntKind.wrap .i64 (8 * (((numsOf p0)).length : Int))) else p1) > 0 then (if (IntKind.wrap .i64 (8 * (((numsOf p0)).length : Int))) < p1 then (IntKind.wrap .i64 (8 * (((numsOf p0)).length : Int))) else p1) else 0)), (2, .int .u32 p2), (7, .slice A177 (l179).length c178), (8, .int .i64 x182)] ∧ St [] w (fun _ => 0) w_ o226 ∧ Ft (Wr (encInt .u8) 5 (.slice A177 (l179).length c178) l179) w_ o226 12 ∧ tidewrackref02_Turn_j3 p0 p1 p2 l179 x182 lp219 = some r) ?_ ?_
  rotate_left
  · rintro a w227 ⟨o226, hk, hs, f180, H⟩
    rw [tidewrackref02_Turn_j3] at H
    refine x_seq ?_
    refine wp_block ?_
    refine x_seq ?_
    refine wp_region_lit ?_
    obtain ⟨q228, H⟩ := ifS H
    refine x_run tab hk (k := 5) (lv := []) (ks := [1, 2, 7, 8, 34]) (e' := [(1, .int .i64 (if (if (IntKind.wrap .i64 (8 * (((numsOf p0)).length : Int))) < p1 then (IntKind.wrap .i64 (8 * (((numsOf p0)).length : Int))) else p1) > 0 then (if (IntKind.wrap .i64 (8 * (((numsOf p0)).length : Int))) < p1 then (IntKind.wrap .i64 (8 * (((numsOf p0)).length : Int))) else p1) else 0)), (2, .int .u32 p2), (7, .slice A177 (l179).length c178), (8, .int .i64 x182), (34, .bool ((Int.tmod (Int.fdiv p2 (2 ^ min (Int.toNat x182) 32)) 2) == (1 : Int)))]) rfl ⟨q228, (show (2 : Int) ≠ 0 from by decide), trivial⟩ fun a hk => ?_
    refine wpList_nil ?_
    refine then_n ?_
    cases b229 : ((Int.tmod (Int.fdiv p2 (2 ^ min (Int.toNat x182) 32)) 2) == (1 : Int))
    · rw [b229] at hk H
      replace H := bifF H
      refine x_if hk (b := false) rfl ?_
      refine (show Code.wp _ _ _ _ _ from ?_)
      refine wp_skip ?_
      refine blk_n ?_
      refine then_n ?_
      refine wp_region_lit ?_
      refine x_run tab hk (k := 3) (lv := []) (ks := [1, 2, 7, 8]) (e' := [(1, .int .i64 (if (if (IntKind.wrap .i64 (8 * (((numsOf p0)).length : Int))) < p1 then (IntKind.wrap .i64 (8 * (((numsOf p0)).length : Int))) else p1) > 0 then (if (IntKind.wrap .i64 (8 * (((numsOf p0)).length : Int))) < p1 then (IntKind.wrap .i64 (8 * (((numsOf p0)).length : Int))) else p1) else 0)), (2, .int .u32 p2), (7, .slice A177 (l179).length c178), (8, .int .i64 (IntKind.wrap .i64 (x182 + 1)))]) rfl trivial fun a hk => ?_
      refine wpList_nil ?_
      refine then_n ?_
      exact ⟨k218, Nat.le_refl _, (fun b_ => (fun l_ => if l_ = 12 then 10 else l_) (o226 b_)), A177, c178, l179, (IntKind.wrap .i64 (x182 + 1)), (by exact Kn.pick (ks := [1, 2, 7, 8]) hk rfl), (hs.relab0 (fun l_ => if l_ = 12 then 10 else l_) rfl), (f180.relab (fun l_ => if l_ = 12 then 10 else l_) rfl), hc181, (hlp220 ▸ H)⟩
    · rw [b229] at hk H
      replace H := bifT H
      refine x_if hk (b := true) rfl ?_
      refine (show Code.wp _ _ _ _ _ from ?_)
      refine xd_begin (o := o226) (fun W_ => True) mixed rfl rfl fun w244 st245 => ?_
      replace f180 := f180.st st245 (by decide)
      replace hs := hs.loc0 st245 (by decide)
      obtain ⟨q246, H⟩ := ifS H
      obtain ⟨ad247, hAad247⟩ := RdC.addr (Wr.rd f180.now) q246
      subst hAad247
      obtain ⟨q248, H⟩ := ifS H
      refine xd_take tab hk (k := 4) (is := [0, 1, 2, 3, 4, 5, 7, 8, 9, 10, 11]) (ls' := #[true, true, true, true, true, true, false, true, true, true, true, true, false, false, false]) (lv := []) (ks := [1, 2, 7, 8, 35, 39, 40, 46]) (e' := [(1, .int .i64 (if (if (IntKind.wrap .i64 (8 * (((numsOf p0)).length : Int))) < p1 then (IntKind.wrap .i64 (8 * (((numsOf p0)).length : Int))) else p1) > 0 then (if (IntKind.wrap .i64 (8 * (((numsOf p0)).length : Int))) < p1 then (IntKind.wrap .i64 (8 * (((numsOf p0)).length : Int))) else p1) else 0)), (2, .int .u32 p2), (7, .slice (some ad247) (l179).length c178), (8, .int .i64 x182), (35, .slice (some ad247) (l179).length c178), (39, .int .i64 (IntKind.wrap .i64 (Int.tdiv (IntKind.wrap .i64 ((if (if (IntKind.wrap .i64 (8 * (((numsOf p0)).length : Int))) < p1 then (IntKind.wrap .i64 (8 * (((numsOf p0)).length : Int))) else p1) > 0 then (if (IntKind.wrap .i64 (8 * (((numsOf p0)).length : Int))) < p1 then (IntKind.wrap .i64 (8 * (((numsOf p0)).length : Int))) else p1) else 0) + x182)) 8))), (40, .pointer (some (ad247.add (Int.toNat (IntKind.wrap .i64 (Int.tdiv (IntKind.wrap .i64 ((if (if (IntKind.wrap .i64 (8 * (((numsOf p0)).length : Int))) < p1 then (IntKind.wrap .i64 (8 * (((numsOf p0)).length : Int))) else p1) > 0 then (if (IntKind.wrap .i64 (8 * (((numsOf p0)).length : Int))) < p1 then (IntKind.wrap .i64 (8 * (((numsOf p0)).length : Int))) else p1) else 0) + x182)) 8)) * 1)))), (46, .int .u8 (IntKind.wrap .u8 (1 * 2 ^ min (Int.toNat (Int.tmod (IntKind.wrap .i64 ((if (if (IntKind.wrap .i64 (8 * (((numsOf p0)).length : Int))) < p1 then (IntKind.wrap .i64 (8 * (((numsOf p0)).length : Int))) else p1) > 0 then (if (IntKind.wrap .i64 (8 * (((numsOf p0)).length : Int))) < p1 then (IntKind.wrap .i64 (8 * (((numsOf p0)).length : Int))) else p1) else 0) + x182)) 8)) 8)))]) (by kernel_rfl) rfl rfl (by kernel_rfl) (np_blk (np_then (np_then (np_blk (np_then np_body))))) trivial (fun W_ hS => ⟨(show (8 : Int) ≠ 0 from by decide), q246, (show (8 : Int) ≠ 0 from by decide), q248, trivial⟩) fun a hk => ?_
      refine xd_op hk (i := 6) (by kernel_rfl) rfl rfl ?_
      refine op_quiet tab hk (lv := [.int .u8 (rdD 0 l179 (IntKind.wrap .i64 (Int.tdiv (IntKind.wrap .i64 ((if (if (IntKind.wrap .i64 (8 * (((numsOf p0)).length : Int))) < p1 then (IntKind.wrap .i64 (8 * (((numsOf p0)).length : Int))) else p1) > 0 then (if (IntKind.wrap .i64 (8 * (((numsOf p0)).length : Int))) < p1 then (IntKind.wrap .i64 (8 * (((numsOf p0)).length : Int))) else p1) else 0) + x182)) 8)))]) (v := .int .u8 (rdD 0 l179 (IntKind.wrap .i64 (Int.tdiv (IntKind.wrap .i64 ((if (if (IntKind.wrap .i64 (8 * (((numsOf p0)).length : Int))) < p1 then (IntKind.wrap .i64 (8 * (((numsOf p0)).length : Int))) else p1) > 0 then (if (IntKind.wrap .i64 (8 * (((numsOf p0)).length : Int))) < p1 then (IntKind.wrap .i64 (8 * (((numsOf p0)).length : Int))) else p1) else 0) + x182)) 8)))) rfl ⟨(load1 tab rfl (RdC.at0 (E := (encInt .u8)) (d := 0) (i := (IntKind.wrap .i64 (Int.tdiv (IntKind.wrap .i64 ((if (if (IntKind.wrap .i64 (8 * (((numsOf p0)).length : Int))) < p1 then (IntKind.wrap .i64 (8 * (((numsOf p0)).length : Int))) else p1) > 0 then (if (IntKind.wrap .i64 (8 * (((numsOf p0)).length : Int))) < p1 then (IntKind.wrap .i64 (8 * (((numsOf p0)).length : Int))) else p1) else 0) + x182)) 8))) (Wr.rd f180.now) q246 rfl)), trivial⟩ ?_
      have hk := hk.put 41 (.int .u8 (rdD 0 l179 (IntKind.wrap .i64 (Int.tdiv (IntKind.wrap .i64 ((if (if (IntKind.wrap .i64 (8 * (((numsOf p0)).length : Int))) < p1 then (IntKind.wrap .i64 (8 * (((numsOf p0)).length : Int))) else p1) > 0 then (if (IntKind.wrap .i64 (8 * (((numsOf p0)).length : Int))) < p1 then (IntKind.wrap .i64 (8 * (((numsOf p0)).length : Int))) else p1) else 0) + x182)) 8)))) rfl
      refine ⟨.inr trivial, ?_⟩
      refine xd_take tab hk (k := 1) (is := [12, 13]) (ls' := #[true, true, true, true, true, true, true, true, true, true, true, true, true, true, false]) (lv := []) (ks := [1, 2, 7, 8, 47, 48]) (e' := [(1, .int .i64 (if (if (IntKind.wrap .i64 (8 * (((numsOf p0)).length : Int))) < p1 then (IntKind.wrap .i64 (8 * (((numsOf p0)).length : Int))) else p1) > 0 then (if (IntKind.wrap .i64 (8 * (((numsOf p0)).length : Int))) < p1 then (IntKind.wrap .i64 (8 * (((numsOf p0)).length : Int))) else p1) else 0)), (2, .int .u32 p2), (7, .slice (some ad247) (l179).length c178), (8, .int .i64 x182), (47, .int .u8 (bits .xor .u8 (rdD 0 l179 (IntKind.wrap .i64 (Int.tdiv (IntKind.wrap .i64 ((if (if (IntKind.wrap .i64 (8 * (((numsOf p0)).length : Int))) < p1 then (IntKind.wrap .i64 (8 * (((numsOf p0)).length : Int))) else p1) > 0 then (if (IntKind.wrap .i64 (8 * (((numsOf p0)).length : Int))) < p1 then (IntKind.wrap .i64 (8 * (((numsOf p0)).length : Int))) else p1) else 0) + x182)) 8))) (IntKind.wrap .u8 (1 * 2 ^ min (Int.toNat (Int.tmod (IntKind.wrap .i64 ((if (if (IntKind.wrap .i64 (8 * (((numsOf p0)).length : Int))) < p1 then (IntKind.wrap .i64 (8 * (((numsOf p0)).length : Int))) else p1) > 0 then (if (IntKind.wrap .i64 (8 * (((numsOf p0)).length : Int))) < p1 then (IntKind.wrap .i64 (8 * (((numsOf p0)).length : Int))) else p1) else 0) + x182)) 8)) 8)))), (48, .pointer (some (ad247.add (Int.toNat (IntKind.wrap .i64 (Int.tdiv (IntKind.wrap .i64 ((if (if (IntKind.wrap .i64 (8 * (((numsOf p0)).length : Int))) < p1 then (IntKind.wrap .i64 (8 * (((numsOf p0)).length : Int))) else p1) > 0 then (if (IntKind.wrap .i64 (8 * (((numsOf p0)).length : Int))) < p1 then (IntKind.wrap .i64 (8 * (((numsOf p0)).length : Int))) else p1) else 0) + x182)) 8)) * 1))))]) (by kernel_rfl) rfl rfl (by kernel_rfl) (np_blk (np_then (np_then (np_blk (np_then np_body))))) trivial (fun W_ hS => ⟨q246, trivial⟩) fun a hk => ?_
      refine xd_op hk (i := 14) (by kernel_rfl) rfl rfl ?_
      refine op_storeW tab hk (E := (encInt .u8)) (i := (IntKind.wrap .i64 (Int.tdiv (IntKind.wrap .i64 ((if (if (IntKind.wrap .i64 (8 * (((numsOf p0)).length : Int))) < p1 then (IntKind.wrap .i64 (8 * (((numsOf p0)).length : Int))) else p1) > 0 then (if (IntKind.wrap .i64 (8 * (((numsOf p0)).length : Int))) < p1 then (IntKind.wrap .i64 (8 * (((numsOf p0)).length : Int))) else p1) else 0) + x182)) 8))) (j := 0) (dx := 0) (y' := (bits .xor .u8 (rdD 0 l179 (IntKind.wrap .i64 (Int.tdiv (IntKind.wrap .i64 ((if (if (IntKind.wrap .i64 (8 * (((numsOf p0)).length : Int))) < p1 then (IntKind.wrap .i64 (8 * (((numsOf p0)).length : Int))) else p1) > 0 then (if (IntKind.wrap .i64 (8 * (((numsOf p0)).length : Int))) < p1 then (IntKind.wrap .i64 (8 * (((numsOf p0)).length : Int))) else p1) else 0) + x182)) 8))) (IntKind.wrap .u8 (1 * 2 ^ min (Int.toNat (Int.tmod (IntKind.wrap .i64 ((if (if (IntKind.wrap .i64 (8 * (((numsOf p0)).length : Int))) < p1 then (IntKind.wrap .i64 (8 * (((numsOf p0)).length : Int))) else p1) > 0 then (if (IntKind.wrap .i64 (8 * (((numsOf p0)).length : Int))) < p1 then (IntKind.wrap .i64 (8 * (((numsOf p0)).length : Int))) else p1) else 0) + x182)) 8)) 8)))) rfl rfl rfl f180 rfl q246 rfl rfl rfl rfl fun w249 o250 st251 f180_ => ?_
      replace hs := hs.loc0 st251 (by decide)
      replace f180 := f180_
      have hl252 : (List.set l179 (Int.toNat (IntKind.wrap .i64 (Int.tdiv (IntKind.wrap .i64 ((if (if (IntKind.wrap .i64 (8 * (((numsOf p0)).length : Int))) < p1 then (IntKind.wrap .i64 (8 * (((numsOf p0)).length : Int))) else p1) > 0 then (if (IntKind.wrap .i64 (8 * (((numsOf p0)).length : Int))) < p1 then (IntKind.wrap .i64 (8 * (((numsOf p0)).length : Int))) else p1) else 0) + x182)) 8))) (bits .xor .u8 (rdD 0 l179 (IntKind.wrap .i64 (Int.tdiv (IntKind.wrap .i64 ((if (if (IntKind.wrap .i64 (8 * (((numsOf p0)).length : Int))) < p1 then (IntKind.wrap .i64 (8 * (((numsOf p0)).length : Int))) else p1) > 0 then (if (IntKind.wrap .i64 (8 * (((numsOf p0)).length : Int))) < p1 then (IntKind.wrap .i64 (8 * (((numsOf p0)).length : Int))) else p1) else 0) + x182)) 8))) (IntKind.wrap .u8 (1 * 2 ^ min (Int.toNat (Int.tmod (IntKind.wrap .i64 ((if (if (IntKind.wrap .i64 (8 * (((numsOf p0)).length : Int))) < p1 then (IntKind.wrap .i64 (8 * (((numsOf p0)).length : Int))) else p1) > 0 then (if (IntKind.wrap .i64 (8 * (((numsOf p0)).length : Int))) < p1 then (IntKind.wrap .i64 (8 * (((numsOf p0)).length : Int))) else p1) else 0) + x182)) 8)) 8)))).length = (l179).length := List.length_set
      replace hk := Kn.re hk [1, 2, 7, 8, 47] (e2 := [(1, .int .i64 (if (if (IntKind.wrap .i64 (8 * (((numsOf p0)).length : Int))) < p1 then (IntKind.wrap .i64 (8 * (((numsOf p0)).length : Int))) else p1) > 0 then (if (IntKind.wrap .i64 (8 * (((numsOf p0)).length : Int))) < p1 then (IntKind.wrap .i64 (8 * (((numsOf p0)).length : Int))) else p1) else 0)), (2, .int .u32 p2), (7, .slice (some ad247) ((List.set l179 (Int.toNat (IntKind.wrap .i64 (Int.tdiv (IntKind.wrap .i64 ((if (if (IntKind.wrap .i64 (8 * (((numsOf p0)).length : Int))) < p1 then (IntKind.wrap .i64 (8 * (((numsOf p0)).length : Int))) else p1) > 0 then (if (IntKind.wrap .i64 (8 * (((numsOf p0)).length : Int))) < p1 then (IntKind.wrap .i64 (8 * (((numsOf p0)).length : Int))) else p1) else 0) + x182)) 8))) (bits .xor .u8 (rdD 0 l179 (IntKind.wrap .i64 (Int.tdiv (IntKind.wrap .i64 ((if (if (IntKind.wrap .i64 (8 * (((numsOf p0)).length : Int))) < p1 then (IntKind.wrap .i64 (8 * (((numsOf p0)).length : Int))) else p1) > 0 then (if (IntKind.wrap .i64 (8 * (((numsOf p0)).length : Int))) < p1 then (IntKind.wrap .i64 (8 * (((numsOf p0)).length : Int))) else p1) else 0) + x182)) 8))) (IntKind.wrap .u8 (1 * 2 ^ min (Int.toNat (Int.tmod (IntKind.wrap .i64 ((if (if (IntKind.wrap .i64 (8 * (((numsOf p0)).length : Int))) < p1 then (IntKind.wrap .i64 (8 * (((numsOf p0)).length : Int))) else p1) > 0 then (if (IntKind.wrap .i64 (8 * (((numsOf p0)).length : Int))) < p1 then (IntKind.wrap .i64 (8 * (((numsOf p0)).length : Int))) else p1) else 0) + x182)) 8)) 8))))).length c178), (8, .int .i64 x182), (47, .int .u8 (bits .xor .u8 (rdD 0 l179 (IntKind.wrap .i64 (Int.tdiv (IntKind.wrap .i64 ((if (if (IntKind.wrap .i64 (8 * (((numsOf p0)).length : Int))) < p1 then (IntKind.wrap .i64 (8 * (((numsOf p0)).length : Int))) else p1) > 0 then (if (IntKind.wrap .i64 (8 * (((numsOf p0)).length : Int))) < p1 then (IntKind.wrap .i64 (8 * (((numsOf p0)).length : Int))) else p1) else 0) + x182)) 8))) (IntKind.wrap .u8 (1 * 2 ^ min (Int.toNat (Int.tmod (IntKind.wrap .i64 ((if (if (IntKind.wrap .i64 (8 * (((numsOf p0)).length : Int))) < p1 then (IntKind.wrap .i64 (8 * (((numsOf p0)).length : Int))) else p1) > 0 then (if (IntKind.wrap .i64 (8 * (((numsOf p0)).length : Int))) < p1 then (IntKind.wrap .i64 (8 * (((numsOf p0)).length : Int))) else p1) else 0) + x182)) 8)) 8))))]) rfl (by rw [hl252])
      refine ⟨.inl (by kernel_rfl), ?_⟩
      refine xd_done (by kernel_rfl) ?_
      refine blk_n ?_
      refine then_n ?_
      refine wp_region_lit ?_
      refine x_run tab hk (k := 3) (lv := []) (ks := [1, 2, 7, 8]) (e' := [(1, .int .i64 (if (if (IntKind.wrap .i64 (8 * (((numsOf p0)).length : Int))) < p1 then (IntKind.wrap .i64 (8 * (((numsOf p0)).length : Int))) else p1) > 0 then (if (IntKind.wrap .i64 (8 * (((numsOf p0)).length : Int))) < p1 then (IntKind.wrap .i64 (8 * (((numsOf p0)).length : Int))) else p1) else 0)), (2, .int .u32 p2), (7, .slice (some ad247) ((List.set l179 (Int.toNat (IntKind.wrap .i64 (Int.tdiv (IntKind.wrap .i64 ((if (if (IntKind.wrap .i64 (8 * (((numsOf p0)).length : Int))) < p1 then (IntKind.wrap .i64 (8 * (((numsOf p0)).length : Int))) else p1) > 0 then (if (IntKind.wrap .i64 (8 * (((numsOf p0)).length : Int))) < p1 then (IntKind.wrap .i64 (8 * (((numsOf p0)).length : Int))) else p1) else 0) + x182)) 8))) (bits .xor .u8 (rdD 0 l179 (IntKind.wrap .i64 (Int.tdiv (IntKind.wrap .i64 ((if (if (IntKind.wrap .i64 (8 * (((numsOf p0)).length : Int))) < p1 then (IntKind.wrap .i64 (8 * (((numsOf p0)).length : Int))) else p1) > 0 then (if (IntKind.wrap .i64 (8 * (((numsOf p0)).length : Int))) < p1 then (IntKind.wrap .i64 (8 * (((numsOf p0)).length : Int))) else p1) else 0) + x182)) 8))) (IntKind.wrap .u8 (1 * 2 ^ min (Int.toNat (Int.tmod (IntKind.wrap .i64 ((if (if (IntKind.wrap .i64 (8 * (((numsOf p0)).length : Int))) < p1 then (IntKind.wrap .i64 (8 * (((numsOf p0)).length : Int))) else p1) > 0 then (if (IntKind.wrap .i64 (8 * (((numsOf p0)).length : Int))) < p1 then (IntKind.wrap .i64 (8 * (((numsOf p0)).length : Int))) else p1) else 0) + x182)) 8)) 8))))).length c178), (8, .int .i64 (IntKind.wrap .i64 (x182 + 1)))]) rfl trivial fun a hk => ?_
      refine wpList_nil ?_
      refine then_n ?_
      exact ⟨k218, Nat.le_refl _, (fun b_ => (fun l_ => if l_ = 12 then 10 else l_) (o250 b_)), (some ad247), c178, (List.set l179 (Int.toNat (IntKind.wrap .i64 (Int.tdiv (IntKind.wrap .i64 ((if (if (IntKind.wrap .i64 (8 * (((numsOf p0)).length : Int))) < p1 then (IntKind.wrap .i64 (8 * (((numsOf p0)).length : Int))) else p1) > 0 then (if (IntKind.wrap .i64 (8 * (((numsOf p0)).length : Int))) < p1 then (IntKind.wrap .i64 (8 * (((numsOf p0)).length : Int))) else p1) else 0) + x182)) 8))) (bits .xor .u8 (rdD 0 l179 (IntKind.wrap .i64 (Int.tdiv (IntKind.wrap .i64 ((if (if (IntKind.wrap .i64 (8 * (((numsOf p0)).length : Int))) < p1 then (IntKind.wrap .i64 (8 * (((numsOf p0)).length : Int))) else p1) > 0 then (if (IntKind.wrap .i64 (8 * (((numsOf p0)).length : Int))) < p1 then (IntKind.wrap .i64 (8 * (((numsOf p0)).length : Int))) else p1) else 0) + x182)) 8))) (IntKind.wrap .u8 (1 * 2 ^ min (Int.toNat (Int.tmod (IntKind.wrap .i64 ((if (if (IntKind.wrap .i64 (8 * (((numsOf p0)).length : Int))) < p1 then (IntKind.wrap .i64 (8 * (((numsOf p0)).length : Int))) else p1) > 0 then (if (IntKind.wrap .i64 (8 * (((numsOf p0)).length : Int))) < p1 then (IntKind.wrap .i64 (8 * (((numsOf p0)).length : Int))) else p1) else 0) + x182)) 8)) 8)))), (IntKind.wrap .i64 (x182 + 1)), (by exact Kn.pick (ks := [1, 2, 7, 8]) hk rfl), (hs.relab0 (fun l_ => if l_ = 12 then 10 else l_) rfl), (f180.relab (fun l_ => if l_ = 12 then 10 else l_) rfl), (by rw [List.length_set]; exact hc181), (hlp220 ▸ H)⟩
  refine x_seq ?_
  refine wp_region_lit ?_
  refine x_run tab hk (k := 3) (lv := []) (ks := [1, 2, 7, 8, 19]) (e' := [(1, .int .i64 (if (if (IntKind.wrap .i64 (8 * (((numsOf p0)).length : Int))) < p1 then (IntKind.wrap .i64 (8 * (((numsOf p0)).length : Int))) else p1) > 0 then (if (IntKind.wrap .i64 (8 * (((numsOf p0)).length : Int))) < p1 then (IntKind.wrap .i64 (8 * (((numsOf p0)).length : Int))) else p1) else 0)), (2, .int .u32 p2), (7, .slice A177 (l179).length c178), (8, .int .i64 x182), (19, .bool (decide (x182 < (32 : Int))))]) rfl trivial fun a hk => ?_
  cases b253 : (decide (x182 < (32 : Int)))
  · rw [b253] at hk H
    replace H := bifF H
    refine x_run tab hk (k := 8) (lv := []) (ks := [1, 2, 7, 8, 27]) (e' := [(1, .int .i64 (if (if (IntKind.wrap .i64 (8 * (((numsOf p0)).length : Int))) < p1 then (IntKind.wrap .i64 (8 * (((numsOf p0)).length : Int))) else p1) > 0 then (if (IntKind.wrap .i64 (8 * (((numsOf p0)).length : Int))) < p1 then (IntKind.wrap .i64 (8 * (((numsOf p0)).length : Int))) else p1) else 0)), (2, .int .u32 p2), (7, .slice A177 (l179).length c178), (8, .int .i64 x182), (27, .bool false)]) rfl trivial fun a hk => ?_
    refine wpList_nil ?_
    refine then_n ?_
    refine x_if hk (b := false) rfl ?_
    refine (show Code.wp _ _ _ _ _ from ?_)
    refine wp_exit ?_
    refine then_x ?_
    refine then_x ?_
    refine blk_x ?_
    refine then_n ?_
    exact ⟨(fun b_ => (fun l_ => if l_ = 10 then 7 else l_) (o176 b_)), A177, c178, l179, (by exact Kn.pick (ks := [7]) hk rfl), (hs.relab0 (fun l_ => if l_ = 10 then 7 else l_) rfl), (f180.relab (fun l_ => if l_ = 10 then 7 else l_) rfl), hc181, H⟩
  · rw [b253] at hk H
    replace H := bifT H
    refine x_run tab hk (k := 8) (lv := []) (ks := [1, 2, 7, 8, 27]) (e' := [(1, .int .i64 (if (if (IntKind.wrap .i64 (8 * (((numsOf p0)).length : Int))) < p1 then (IntKind.wrap .i64 (8 * (((numsOf p0)).length : Int))) else p1) > 0 then (if (IntKind.wrap .i64 (8 * (((numsOf p0)).length : Int))) < p1 then (IntKind.wrap .i64 (8 * (((numsOf p0)).length : Int))) else p1) else 0)), (2, .int .u32 p2), (7, .slice A177 (l179).length c178), (8, .int .i64 x182), (27, .bool (decide ((IntKind.wrap .i64 ((if (if (IntKind.wrap .i64 (8 * (((numsOf p0)).length : Int))) < p1 then (IntKind.wrap .i64 (8 * (((numsOf p0)).length : Int))) else p1) > 0 then (if (IntKind.wrap .i64 (8 * (((numsOf p0)).length : Int))) < p1 then (IntKind.wrap .i64 (8 * (((numsOf p0)).length : Int))) else p1) else 0) + x182)) < (IntKind.wrap .i64 (8 * ((l179).length : Int))))))]) rfl trivial fun a hk => ?_
    refine wpList_nil ?_
    refine then_n ?_
    cases b254 : (decide ((IntKind.wrap .i64 ((if (if (IntKind.wrap .i64 (8 * (((numsOf p0)).length : Int))) < p1 then (IntKind.wrap .i64 (8 * (((numsOf p0)).length : Int))) else p1) > 0 then (if (IntKind.wrap .i64 (8 * (((numsOf p0)).length : Int))) < p1 then (IntKind.wrap .i64 (8 * (((numsOf p0)).length : Int))) else p1) else 0) + x182)) < (IntKind.wrap .i64 (8 * ((l179).length : Int)))))
    · rw [b254] at hk H
      replace H := bifF H
      refine x_if hk (b := false) rfl ?_
      refine (show Code.wp _ _ _ _ _ from ?_)
      refine wp_exit ?_
      refine then_x ?_
      refine then_x ?_
      refine blk_x ?_
      refine then_n ?_
      exact ⟨(fun b_ => (fun l_ => if l_ = 10 then 7 else l_) (o176 b_)), A177, c178, l179, (by exact Kn.pick (ks := [7]) hk rfl), (hs.relab0 (fun l_ => if l_ = 10 then 7 else l_) rfl), (f180.relab (fun l_ => if l_ = 10 then 7 else l_) rfl), hc181, H⟩
    · rw [b254] at hk H
      replace H := bifT H
      refine x_if hk (b := true) rfl ?_
      refine (show Code.wp _ _ _ _ _ from ?_)
      refine wp_skip ?_
      refine then_n ?_
      exact ⟨(fun b_ => (fun l_ => if l_ = 10 then 12 else l_) (o176 b_)), (by exact Kn.pick (ks := [1, 2, 7, 8]) hk rfl), (hs.relab0 (fun l_ => if l_ = 10 then 12 else l_) rfl), (f180.relab (fun l_ => if l_ = 10 then 12 else l_) rfl), H⟩

/-! tidewrack/tidewracklaw02.SumBursts -/
theorem tidewracklaw02_SumBursts_calls (K : Nat) (p0 : ByteArray) (p1 : Int) (p2 : Int) (w : World) (o : Nat → Nat) (Lg0 : Nat) (hg0 : Ft (RdC (encInt .u32) (some ⟨0, 0, none⟩) glob0) w o Lg0)   (r : Bool) (H : tidewracklaw02_SumBursts K p0 p1 p2 = some r) :
    Calls Tryd.prog 6 #[.string p0, .int .i64 p1, .int .u32 p2] w (Ret fun v_ w' => ∃ o' : Nat → Nat, v_ = .bool r ∧ St [] w o w' o') := by
  refine x_enter (vs := [.string p0, .int .i64 p1, .int .u32 p2]) Tryd.func6 rfl rfl rfl fun a hk => ?_
  obtain ⟨o0, hs, h0⟩ := St.start w o
  have fg0 := h0 _ _ hg0
  clear h0
  rw [tidewracklaw02_SumBursts] at H
  refine x_seq ?_
  refine wp_region_lit ?_
  refine x_run tab hk (k := 1) (lv := []) (ks := [0, 1, 2]) (e' := [(0, .string p0), (1, .int .i64 p1), (2, .int .u32 p2)]) rfl trivial fun a hk => ?_
  refine wpList_nil ?_
  refine then_n ?_
  refine x_seq ?_
  refine x_seq ?_
  refine wp_region_lit ?_
  refine x_op hk rfl ?_
  obtain ⟨t4, hc5, H⟩ := bindS H
  refine op_call hk ent_7 (vs := []) rfl (tidewracklaw02_awake_calls K  _ o0 0 fg0   _ hc5) ?_
  rintro _ w6 ⟨o7, rfl, st8⟩
  replace fg0 := fg0.st st8 (by decide)
  replace hs := hs.loc0 st8 (by decide)
  have hk := hk.put 11 (.bool t4) rfl
  refine x_run tab hk (k := 1) (lv := []) (ks := [0, 1, 2, 12]) (e' := [(0, .string p0), (1, .int .i64 p1), (2, .int .u32 p2), (12, .bool (!t4))]) rfl trivial fun a hk => ?_
  refine wpList_nil ?_
  refine then_n ?_
  cases b9 : (!t4)
  · rw [b9] at hk H
    replace H := bifF H
    refine x_if hk (b := false) rfl ?_
    refine (show Code.wp _ _ _ _ _ from ?_)
    refine wp_skip ?_
    refine then_n ?_
    refine x_seq ?_
    refine wp_region_lit ?_
    refine x_run tab hk (k := 1) (lv := []) (ks := [1, 2, 13]) (e' := [(1, .int .i64 p1), (2, .int .u32 p2), (13, .string p0)]) rfl trivial fun a hk => ?_
    refine x_op hk rfl ?_
    obtain ⟨t13, hc14, H⟩ := bindS H
    refine op_call hk ent_13 (vs := [.string p0, .int .i64 120]) rfl (tidewracklaw01_Cut_calls p0 120 _ o7    _ hc14) ?_
    rintro _ w15 ⟨o16, rfl, st17⟩
    replace fg0 := fg0.st st17 (by decide)
    replace hs := hs.loc0 st17 (by decide)
    have hk := hk.put 14 (.string t13) rfl
    refine x_op hk rfl ?_
    obtain ⟨t21, hc22, H⟩ := bindS H
    refine op_call hk ent_11 (vs := [.string t13]) rfl (sum_Seal_calls K t13 _ o16 0 fg0   _ hc22) ?_
    rintro _ w23 ⟨o24, rfl, st25⟩
    replace fg0 := fg0.st st25 (by decide)
    replace hs := hs.loc0 st25 (by decide)
    have hk := hk.put 15 (.string t21) rfl
    refine x_run tab hk (k := 1) (lv := []) (ks := [1, 2, 7]) (e' := [(1, .int .i64 p1), (2, .int .u32 p2), (7, .string t21)]) rfl trivial fun a hk => ?_
    refine wpList_nil ?_
    refine then_n ?_
    refine x_seq ?_
    refine wp_region_lit ?_
    refine x_run tab hk (k := 3) (lv := []) (ks := [1, 2, 7, 16, 17, 18]) (e' := [(1, .int .i64 p1), (2, .int .u32 p2), (7, .string t21), (16, .string t21), (17, .int .i64 p1), (18, .int .u32 p2)]) rfl trivial fun a hk => ?_
    refine x_op hk rfl ?_
    obtain ⟨t29, hc30, H⟩ := bindS H
    refine op_call hk ent_16 (vs := [.string t21, .int .i64 p1, .int .u32 p2]) rfl (sum_Turn_calls K t21 p1 p2 _ o24    _ hc30) ?_
    rintro _ w31 ⟨o32, rfl, st33⟩
    replace fg0 := fg0.st st33 (by decide)
    replace hs := hs.loc0 st33 (by decide)
    have hk := hk.put 19 (.string t29) rfl
    refine x_run tab hk (k := 1) (lv := []) (ks := [1, 2, 7, 8]) (e' := [(1, .int .i64 p1), (2, .int .u32 p2), (7, .string t21), (8, .string t29)]) rfl trivial fun a hk => ?_
    refine wpList_nil ?_
    refine then_n ?_
    refine x_seq ?_
    refine wp_region_lit ?_
    refine x_run tab hk (k := 1) (lv := []) (ks := [1, 2, 7, 8, 21]) (e' := [(1, .int .i64 p1), (2, .int .u32 p2), (7, .string t21), (8, .string t29), (21, .string t29)]) rfl trivial fun a hk => ?_
    refine x_op hk rfl ?_
    obtain ⟨t37, hc38, H⟩ := bindS H
    refine op_call hk ent_14 (vs := [.string t29]) rfl (sum_Open_calls K t29 _ o32 0 fg0   _ hc38) ?_
    rintro _ w39 ⟨o40, rfl, st41⟩
    replace fg0 := fg0.st st41 (by decide)
    replace hs := hs.loc0 st41 (by decide)
    have hk := hk.put 22 (.tuple #[.string t37.1, .bool t37.2]) rfl
    refine x_run tab hk (k := 5) (lv := []) (ks := [1, 2, 7, 8, 10]) (e' := [(1, .int .i64 p1), (2, .int .u32 p2), (7, .string t21), (8, .string t29), (10, .bool t37.2)]) rfl trivial fun a hk => ?_
    refine wpList_nil ?_
    refine then_n ?_
    refine x_seq ?_
    refine wp_region_lit ?_
    refine x_run tab hk (k := 4) (lv := []) (ks := [1, 2, 7, 8, 10, 25, 26, 27, 28]) (e' := [(1, .int .i64 p1), (2, .int .u32 p2), (7, .string t21), (8, .string t29), (10, .bool t37.2), (25, .string t29), (26, .string t21), (27, .int .i64 p1), (28, .int .u32 p2)]) rfl trivial fun a hk => ?_
    refine x_op hk rfl ?_
    obtain ⟨t45, hc46, H⟩ := bindS H
    refine op_call hk ent_17 (vs := [.string t21, .int .i64 p1, .int .u32 p2]) rfl (tidewrackref02_Turn_calls K t21 p1 p2 _ o40    _ hc46) ?_
    rintro _ w47 ⟨o48, rfl, st49⟩
    replace fg0 := fg0.st st49 (by decide)
    replace hs := hs.loc0 st49 (by decide)
    have hk := hk.put 29 (.string t45) rfl
    refine x_run tab hk (k := 2) (lv := []) (ks := [1, 2, 7, 8, 10, 31]) (e' := [(1, .int .i64 p1), (2, .int .u32 p2), (7, .string t21), (8, .string t29), (10, .bool t37.2), (31, .bool (ByteArray.toList t29 == ByteArray.toList t45))]) rfl trivial fun a hk => ?_
    cases b50 : (ByteArray.toList t29 == ByteArray.toList t45)
    · rw [b50] at hk H
      replace H := bifF H
      refine x_run tab hk (k := 13) (lv := []) (ks := [38, 44]) (e' := [(38, .bool false), (44, undef)]) rfl trivial fun a hk => ?_
      refine x_run tab hk (k := 2) (lv := []) (ks := [6]) (e' := [(6, .bool false)]) rfl trivial fun a hk => ?_
      refine wpList_nil ?_
      refine then_n ?_
      refine wp_ret ?_
      obtain rfl := Option.some.inj H
      exact x_retG hk (rs := [.tmp 6]) (vs := [.bool false]) rfl ⟨rfl, trivial⟩ ⟨fun b_ => if b_ < w.heap.size then o b_ else (fun _ => 0) (o48 b_), rfl, hs.close0 o (fun _ => 0)⟩
    · rw [b50] at hk H
      replace H := bifT H
      refine x_run tab hk (k := 7) (lv := []) (ks := [1, 2, 7, 8, 38]) (e' := [(1, .int .i64 p1), (2, .int .u32 p2), (7, .string t21), (8, .string t29), (38, .bool (t37.2 == (ByteArray.toList t29 == ByteArray.toList t21)))]) rfl trivial fun a hk => ?_
      cases b51 : (t37.2 == (ByteArray.toList t29 == ByteArray.toList t21))
      · rw [b51] at hk H
        replace H := bifF H
        refine x_run tab hk (k := 8) (lv := []) (ks := [6]) (e' := [(6, .bool false)]) rfl trivial fun a hk => ?_
        refine wpList_nil ?_
        refine then_n ?_
        refine wp_ret ?_
        obtain rfl := Option.some.inj H
        exact x_retG hk (rs := [.tmp 6]) (vs := [.bool false]) rfl ⟨rfl, trivial⟩ ⟨fun b_ => if b_ < w.heap.size then o b_ else (fun _ => 0) (o48 b_), rfl, hs.close0 o (fun _ => 0)⟩
      · rw [b51] at hk H
        replace H := bifT H
        refine x_run tab hk (k := 3) (lv := []) (ks := [7, 38, 39, 40, 41]) (e' := [(7, .string t21), (38, .bool true), (39, .string t29), (40, .int .i64 p1), (41, .int .u32 p2)]) rfl trivial fun a hk => ?_
        refine x_op hk rfl ?_
        obtain ⟨t55, hc56, H⟩ := bindS H
        refine op_call hk ent_16 (vs := [.string t29, .int .i64 p1, .int .u32 p2]) rfl (sum_Turn_calls K t29 p1 p2 _ o48    _ hc56) ?_
        rintro _ w57 ⟨o58, rfl, st59⟩
        replace fg0 := fg0.st st59 (by decide)
        replace hs := hs.loc0 st59 (by decide)
        have hk := hk.put 42 (.string t55) rfl
        refine x_run tab hk (k := 4) (lv := []) (ks := [6]) (e' := [(6, .bool (ByteArray.toList t55 == ByteArray.toList t21))]) rfl trivial fun a hk => ?_
        refine wpList_nil ?_
        refine then_n ?_
        refine wp_ret ?_
        obtain rfl := Option.some.inj H
        exact x_retG hk (rs := [.tmp 6]) (vs := [.bool (ByteArray.toList t55 == ByteArray.toList t21)]) rfl ⟨rfl, trivial⟩ ⟨fun b_ => if b_ < w.heap.size then o b_ else (fun _ => 0) (o58 b_), rfl, hs.close0 o (fun _ => 0)⟩
  · rw [b9] at hk H
    replace H := bifT H
    refine x_if hk (b := true) rfl ?_
    refine (show Code.wp _ _ _ _ _ from ?_)
    refine x_seq ?_
    refine wp_region_lit ?_
    refine x_run tab hk (k := 1) (lv := []) (ks := [6]) (e' := [(6, .bool false)]) rfl trivial fun a hk => ?_
    refine wpList_nil ?_
    refine then_n ?_
    refine wp_ret ?_
    refine then_r ?_
    obtain rfl := Option.some.inj H
    exact x_retG hk (rs := [.tmp 6]) (vs := [.bool false]) rfl ⟨rfl, trivial⟩ ⟨fun b_ => if b_ < w.heap.size then o b_ else (fun _ => 0) (o7 b_), rfl, hs.close0 o (fun _ => 0)⟩

end Go.Proofs.YtmgkcahjpehckaaDoor
