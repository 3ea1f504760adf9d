/- Walks, printed by an own program: the machine's calls compute the plain functions. -/
import Derived.Test.YtknddjjgidaedaaW2
set_option linter.unusedVariables false
set_option linter.unusedSimpArgs false
namespace Go.Proofs.Ytknddjjgidaedaa
open Go Go.Proofs.XC
/-! (*tidewrack/net.Net).All -/
theorem net_Net_All_calls (bp0 : Nat) (Ap0_0 : Option Addr) (cp0_0 : Nat) (p0 : T55) (w : World) (o : Nat → Nat) (Lp0 : Nat) (hp0 : Ft (Bx bp0 56 [.int .i64 p0.most, .int .i64 p0.lost, .slice Ap0_0 (p0.l).length cp0_0]) w o Lp0) (Lp0_0 : Nat) (hp0_0 : Ft (RdC ET28 Ap0_0 p0.l) w o Lp0_0) (hcp0_0 : (p0.l).length ≤ cp0_0)  (R0 : Nat) (r : List T28) (H : net_Net_All p0 = some r) :
    Calls Try.prog 31 #[.pointer (some ⟨bp0, 0, none⟩)] w (Ret fun v_ w' => ∃ o' : Nat → Nat, ∃ A0 : Option Addr, ∃ c0 : Nat, v_ = .slice A0 (r).length c0 ∧ St [] w o w' o' ∧ Ft (Own ET28 29 (.slice A0 (r).length c0) (r)) w' o' R0 ∧ (r).length ≤ c0) := by
  refine x_enter (vs := [.pointer (some ⟨bp0, 0, none⟩)]) Try.func31 rfl rfl rfl fun a hk => ?_
  obtain ⟨o0, hs, h0⟩ := St.start w o
  have f900000 := h0 _ _ hp0_0
  have f900019 := h0 _ _ hp0
  clear h0
  rw [net_Net_All] at H
  refine x_seq ?_
  refine wpIn_region_lit ?_
  refine x_run tab hk (k := 1) (lv := []) (ks := [0]) (e' := [(0, .pointer (some ⟨bp0, 0, none⟩))]) rfl trivial fun a hk => ?_
  refine wpListIn_nil ?_
  refine then_n ?_
  refine x_seq ?_
  refine wpIn_region_lit ?_
  refine x_run tab hk (k := 4) (lv := [.slice Ap0_0 (p0.l).length cp0_0]) (ks := [6]) (e' := [(6, .slice Ap0_0 (p0.l).length cp0_0)]) rfl ⟨(load1 tab rfl ((Bx.cell f900019.now 2).trans rfl)), trivial⟩ fun a hk => ?_
  refine x_op hk rfl ?_
  obtain ⟨t4, hc5, H⟩ := bindS H
  refine op_call hk ent_33 (vs := [.slice Ap0_0 (p0.l).length cp0_0]) rfl (net_Gram'_calls Ap0_0 cp0_0 p0.l _ o0 _ f900000 hcp0_0 1  _ hc5) ?_
  rintro _ w6 ⟨o7, A9, c10, rfl, st8, f11, hc12⟩
  replace f900000 := f900000.st st8 (by decide)
  replace f900019 := f900019.st st8 (by decide)
  replace hs := hs.loc0 st8 (by decide)
  have hk := hk.put 7 (.slice A9 (t4).length c10) rfl
  refine x_run tab hk (k := 1) (lv := []) (ks := [2]) (e' := [(2, .slice A9 (t4).length c10)]) rfl trivial fun a hk => ?_
  refine wpListIn_nil ?_
  refine then_n ?_
  refine wpIn_ret ?_
  obtain rfl := Option.some.inj H
  exact x_retG hk (rs := [.tmp 2]) (vs := [.slice A9 (t4).length c10]) rfl ⟨rfl, trivial⟩ ⟨fun b_ => if b_ < w.heap.size then o b_ else (fun _ => R0) (o7 b_), A9, c10, rfl, hs.close0 o (fun _ => R0), hs.close_ft (o := o) (ρ := fun _ => R0) f11 (by decide) rfl, hc12⟩

/-! tidewrack/tidewracklaw01.Same -/
theorem tidewracklaw01_Same_calls (K : Nat) (Ap0 : Option Addr) (cp0 : Nat) (p0 : List Int) (Ap1 : Option Addr) (cp1 : Nat) (p1 : List Int) (w : World) (o : Nat → Nat) (Lp0 : Nat) (hp0 : Ft (RdC (encInt .i64) Ap0 p0) w o Lp0) (hcp0 : (p0).length ≤ cp0) (Lp1 : Nat) (hp1 : Ft (RdC (encInt .i64) Ap1 p1) w o Lp1) (hcp1 : (p1).length ≤ cp1)  (r : Bool) (H : tidewracklaw01_Same K p0 p1 = some r) :
    Calls Try.prog 32 #[.slice Ap0 (p0).length cp0, .slice Ap1 (p1).length cp1] w (Ret fun v_ w' => ∃ o' : Nat → Nat, v_ = .bool r ∧ St [] w o w' o') := by
  refine x_enter (vs := [.slice Ap0 (p0).length cp0, .slice Ap1 (p1).length cp1]) Try.func32 rfl rfl rfl fun a hk => ?_
  obtain ⟨o0, hs, h0⟩ := St.start w o
  have f900000 := h0 _ _ hp0
  have f900020 := h0 _ _ hp1
  clear h0
  rw [tidewracklaw01_Same] at H
  refine x_seq ?_
  refine wpIn_region_lit ?_
  refine x_run tab hk (k := 1) (lv := []) (ks := [0, 1]) (e' := [(0, .slice Ap0 (p0).length cp0), (1, .slice Ap1 (p1).length cp1)]) rfl trivial fun a hk => ?_
  refine wpListIn_nil ?_
  refine then_n ?_
  refine x_seq ?_
  refine x_seq ?_
  refine wpIn_region_lit ?_
  refine x_run tab hk (k := 5) (lv := []) (ks := [0, 1, 10]) (e' := [(0, .slice Ap0 (p0).length cp0), (1, .slice Ap1 (p1).length cp1), (10, .bool (((p0).length : Int) != ((p1).length : Int)))]) rfl trivial fun a hk => ?_
  refine wpListIn_nil ?_
  refine then_n ?_
  cases b1 : (((p0).length : Int) != ((p1).length : Int))
  · rw [b1] at hk H
    replace H := bifF H
    refine x_if hk (b := false) rfl ?_
    refine (show Code.wpIn _ _ _ _ _ _ _ from ?_)
    refine wpIn_skip ?_
    refine then_n ?_
    refine x_mid (fun a_ w_ => ∃ o62 : Nat → Nat, Kn 26 a_ [] ∧ St [] w (fun _ => 0) w_ o62 ∧ tidewracklaw01_Same_j1 = some r) ?_ ?_
    rotate_left
    · rintro a w63 ⟨o62, hk, hs, H⟩
      rw [tidewracklaw01_Same_j1] at H
      refine x_seq ?_
      refine wpIn_region_lit ?_
      refine x_run tab hk (k := 1) (lv := []) (ks := [4]) (e' := [(4, .bool true)]) rfl trivial fun a hk => ?_
      refine wpListIn_nil ?_
      refine then_n ?_
      refine wpIn_ret ?_
      obtain rfl := Option.some.inj H
      exact x_retG hk (rs := [.tmp 4]) (vs := [.bool true]) rfl ⟨rfl, trivial⟩ ⟨fun b_ => if b_ < w.heap.size then o b_ else (fun _ => 0) (o62 b_), rfl, hs.close0 o (fun _ => 0)⟩
    refine x_seq ?_
    refine wpIn_region_lit ?_
    refine x_run tab hk (k := 3) (lv := []) (ks := [0, 1, 12, 13]) (e' := [(0, .slice Ap0 (p0).length cp0), (1, .slice Ap1 (p1).length cp1), (12, .int .i64 ((p0).length : Int)), (13, .int .i64 0)]) rfl trivial fun a hk => ?_
    refine wpListIn_nil ?_
    refine then_n ?_
    refine wpIn_block ?_
    refine x_loop (fun j_ a_ w_ => ∃ o83 : Nat → Nat, ∃ x84 : Int, Kn 26 a_ [(0, .slice Ap0 (p0).length cp0), (1, .slice Ap1 (p1).length cp1), (12, .int .i64 ((p0).length : Int)), (13, .int .i64 x84)] ∧ St [] w (fun _ => 0) w_ o83 ∧ Ft (RdC (encInt .i64) Ap0 p0) w_ o83 0 ∧ Ft (RdC (encInt .i64) Ap1 p1) w_ o83 0 ∧ tidewracklaw01_Same_l2 p0 p1 j_ x84 = some r) (k := K) ⟨o0, 0, (by exact Kn.pick (ks := [0, 1, 12, 13]) hk rfl), hs, f900000, f900020, H⟩ (by rintro _ _ ⟨_, _, _, _, _, _, H_⟩; exact absurd (show (none : Option Bool) = some r from H_) (by simp)) ?_
    rintro k102 a w101 ⟨o83, x84, hk, hs, f900000, f900020, H⟩
    rw [tidewracklaw01_Same_l2] at H
    obtain ⟨lp103, hlp104⟩ : ∃ lp_, lp_ = tidewracklaw01_Same_l2 p0 p1 k102 := ⟨_, rfl⟩
    rw [← hlp104] at H
    refine x_seq ?_
    refine wpIn_region_lit ?_
    refine x_run tab hk (k := 1) (lv := []) (ks := [0, 1, 12, 13, 14]) (e' := [(0, .slice Ap0 (p0).length cp0), (1, .slice Ap1 (p1).length cp1), (12, .int .i64 ((p0).length : Int)), (13, .int .i64 x84), (14, .bool (decide (x84 < ((p0).length : Int))))]) rfl trivial fun a hk => ?_
    refine wpListIn_nil ?_
    refine then_n ?_
    refine x_seq ?_
    cases b105 : (decide (x84 < ((p0).length : Int)))
    · rw [b105] at hk H
      replace H := bifF H
      refine x_if hk (b := false) rfl ?_
      refine (show Code.wpIn _ _ _ _ _ _ _ from ?_)
      refine wpIn_exit ?_
      refine then_x ?_
      refine then_x ?_
      refine blk_x ?_
      refine then_n ?_
      exact ⟨o83, (by exact Kn.pick (ks := []) hk rfl), hs, H⟩
    · rw [b105] at hk H
      replace H := bifT H
      refine x_if hk (b := true) rfl ?_
      refine (show Code.wpIn _ _ _ _ _ _ _ from ?_)
      refine wpIn_skip ?_
      refine then_n ?_
      refine x_seq ?_
      refine wpIn_block ?_
      refine x_seq ?_
      refine wpIn_region_lit ?_
      refine x_run tab hk (k := 2) (lv := []) (ks := [0, 1, 5, 12, 13]) (e' := [(0, .slice Ap0 (p0).length cp0), (1, .slice Ap1 (p1).length cp1), (5, .int .i64 x84), (12, .int .i64 ((p0).length : Int)), (13, .int .i64 x84)]) rfl trivial fun a hk => ?_
      refine wpListIn_nil ?_
      refine then_n ?_
      refine x_seq ?_
      refine xd_begin (o := o83) (fun W_ => (RdC (encInt .i64) Ap0 p0) W_ ∧ (RdC (encInt .i64) Ap1 p1) W_ ∧ True) mixed rfl rfl fun w114 st115 => ?_
      replace f900000 := f900000.st st115 (by decide)
      replace f900020 := f900020.st st115 (by decide)
      replace hs := hs.loc0 st115 (by decide)
      obtain ⟨q116, H⟩ := ifS H
      obtain ⟨ad117, hAad117⟩ := RdC.addr f900000.now q116
      have hk_C := hk
      have f900000_C := f900000
      have f900020_C := f900020
      subst hAad117
      have hk := hk_C
      clear hk_C
      have f900000 := f900000_C
      clear f900000_C
      have f900020 := f900020_C
      clear f900020_C
      obtain ⟨q118, H⟩ := ifS H
      obtain ⟨ad119, hAad119⟩ := RdC.addr f900020.now q118
      have hk_C := hk
      have f900000_C := f900000
      have f900020_C := f900020
      subst hAad119
      have hk := hk_C
      clear hk_C
      have f900000 := f900000_C
      clear f900000_C
      have f900020 := f900020_C
      clear f900020_C
      refine xd_take tab hk (k := 0) (is := [0, 1, 2, 3, 4, 5, 6, 7, 8]) (ls' := #[true, true, true, true, true, true, true, true, true]) (lv := [.int .i64 (rdD 0 p0 x84), .int .i64 (rdD 0 p1 x84)]) (ks := [0, 1, 12, 13, 24]) (e' := [(0, .slice (some ad117) (p0).length cp0), (1, .slice (some ad119) (p1).length cp1), (12, .int .i64 ((p0).length : Int)), (13, .int .i64 x84), (24, .bool ((rdD 0 p0 x84) != (rdD 0 p1 x84)))]) (by kernel_rfl) rfl rfl (by kernel_rfl) (np_then (np_blk (np_then (np_then (np_blk (np_then np_body)))))) ⟨f900000.now, f900020.now, trivial⟩ (fun W_ hS => ⟨q116, (load1 tab rfl (RdC.at0 (E := (encInt .i64)) (d := 0) (i := x84) hS.1 q116 rfl)), q118, (load1 tab rfl (RdC.at0 (E := (encInt .i64)) (d := 0) (i := x84) hS.2.1 q118 rfl)), trivial⟩) fun a hk => ?_
      refine xd_done (by kernel_rfl) ?_
      refine then_n ?_
      cases b120 : ((rdD 0 p0 x84) != (rdD 0 p1 x84))
      · rw [b120] at hk H
        replace H := bifF H
        refine x_if hk (b := false) rfl ?_
        refine (show Code.wpIn _ _ _ _ _ _ _ from ?_)
        refine wpIn_skip ?_
        refine blk_n ?_
        refine then_n ?_
        refine wpIn_region_lit ?_
        refine x_run tab hk (k := 2) (lv := []) (ks := [0, 1, 12, 13]) (e' := [(0, .slice (some ad117) (p0).length cp0), (1, .slice (some ad119) (p1).length cp1), (12, .int .i64 ((p0).length : Int)), (13, .int .i64 (IntKind.wrap .i64 (x84 + 1)))]) rfl trivial fun a hk => ?_
        refine wpListIn_nil ?_
        refine then_n ?_
        exact ⟨k102, Nat.le_refl _, o83, (IntKind.wrap .i64 (x84 + 1)), (by exact Kn.pick (ks := [0, 1, 12, 13]) hk rfl), hs, f900000, f900020, (hlp104 ▸ H)⟩
      · rw [b120] at hk H
        replace H := bifT H
        refine x_if hk (b := true) rfl ?_
        refine (show Code.wpIn _ _ _ _ _ _ _ from ?_)
        refine x_seq ?_
        refine wpIn_region_lit ?_
        refine x_run tab hk (k := 1) (lv := []) (ks := [4]) (e' := [(4, .bool false)]) rfl trivial fun a hk => ?_
        refine wpListIn_nil ?_
        refine then_n ?_
        refine wpIn_ret ?_
        refine blk_r ?_
        refine then_r ?_
        refine then_r ?_
        refine blk_r ?_
        refine then_r ?_
        obtain rfl := Option.some.inj H
        exact x_retG hk (rs := [.tmp 4]) (vs := [.bool false]) rfl ⟨rfl, trivial⟩ ⟨fun b_ => if b_ < w.heap.size then o b_ else (fun _ => 0) (o83 b_), rfl, hs.close0 o (fun _ => 0)⟩
  · rw [b1] at hk H
    replace H := bifT H
    refine x_if hk (b := true) rfl ?_
    refine (show Code.wpIn _ _ _ _ _ _ _ from ?_)
    refine x_seq ?_
    refine wpIn_region_lit ?_
    refine x_run tab hk (k := 1) (lv := []) (ks := [4]) (e' := [(4, .bool false)]) rfl trivial fun a hk => ?_
    refine wpListIn_nil ?_
    refine then_n ?_
    refine wpIn_ret ?_
    refine then_r ?_
    obtain rfl := Option.some.inj H
    exact x_retG hk (rs := [.tmp 4]) (vs := [.bool false]) rfl ⟨rfl, trivial⟩ ⟨fun b_ => if b_ < w.heap.size then o b_ else (fun _ => 0) (o0 b_), rfl, hs.close0 o (fun _ => 0)⟩

/-! tidewrack/tidewracklaw25.Is -/
set_option maxHeartbeats 4000000 in
theorem tidewracklaw25_Is_calls (K : Nat) (bp0 : Nat) (Ap0_0 : Option Addr) (cp0_0 : Nat) (p0 : T55) (Ap1_0 : Option Addr) (cp1_0 : Nat) (p1 : T46) (w : World) (o : Nat → Nat) (Lp0 : Nat) (hp0 : Ft (Bx bp0 56 [.int .i64 p0.most, .int .i64 p0.lost, .slice Ap0_0 (p0.l).length cp0_0]) w o Lp0) (Lp0_0 : Nat) (hp0_0 : Ft (RdC ET28 Ap0_0 p0.l) w o Lp0_0) (hcp0_0 : (p0.l).length ≤ cp0_0) (Lp1_0 : Nat) (hp1_0 : Ft (RdC ET28 Ap1_0 p1.L) w o Lp1_0) (hcp1_0 : (p1.L).length ≤ cp1_0)  (r : Bool) (H : tidewracklaw25_Is K p0 p1 = some r) :
    Calls Try.prog 20 #[.pointer (some ⟨bp0, 0, none⟩), .agg #[.int .i64 p1.Most, .int .i64 p1.Lost, .slice Ap1_0 (p1.L).length cp1_0]] w (Ret fun v_ w' => ∃ o' : Nat → Nat, v_ = .bool r ∧ St [] w o w' o') := by
  refine x_enter (vs := [.pointer (some ⟨bp0, 0, none⟩), .agg #[.int .i64 p1.Most, .int .i64 p1.Lost, .slice Ap1_0 (p1.L).length cp1_0]]) Try.func20 rfl rfl rfl fun a hk => ?_
  obtain ⟨o0, hs, h0⟩ := St.start w o
  have f900000 := h0 _ _ hp0_0
  have f900019 := h0 _ _ hp0
  have f900020 := h0 _ _ hp1_0
  clear h0
  rw [tidewracklaw25_Is] at H
  refine x_seq ?_
  refine wpIn_region_lit ?_
  refine x_op hk rfl ?_
  refine op_box (o := o0) (t := 47) (v := .agg #[.int .i64 p1.Most, .int .i64 p1.Lost, .slice Ap1_0 (p1.L).length cp1_0]) (cs := [.int .i64 p1.Most, .int .i64 p1.Lost, .slice Ap1_0 (p1.L).length cp1_0]) hk rfl rfl 1 fun bx4 w1 o2 st3 f5 => ?_
  replace f900000 := f900000.st st3 (by decide)
  replace f900019 := f900019.st st3 (by decide)
  replace f900020 := f900020.st st3 (by decide)
  replace hs := hs.loc0 st3 (by decide)
  have hk := hk.put 3 (.pointer (some ⟨bx4, 0, none⟩)) rfl
  refine x_run tab hk (k := 1) (lv := []) (ks := [0, 3]) (e' := [(0, .pointer (some ⟨bp0, 0, none⟩)), (3, .pointer (some ⟨bx4, 0, none⟩))]) rfl trivial fun a hk => ?_
  refine wpListIn_nil ?_
  refine then_n ?_
  refine x_seq ?_
  refine wpIn_region_lit ?_
  refine x_run tab hk (k := 1) (lv := []) (ks := [0, 3, 11]) (e' := [(0, .pointer (some ⟨bp0, 0, none⟩)), (3, .pointer (some ⟨bx4, 0, none⟩)), (11, .pointer (some ⟨bp0, 0, none⟩))]) rfl trivial fun a hk => ?_
  refine x_op hk rfl ?_
  obtain ⟨t9, hc10, H⟩ := bindS H
  refine op_call hk ent_31 (vs := [.pointer (some ⟨bp0, 0, none⟩)]) rfl (net_Net_All_calls bp0 Ap0_0 cp0_0 p0 _ o2 0 f900019 _ f900000 hcp0_0 2  _ hc10) ?_
  rintro _ w11 ⟨o12, A14, c15, rfl, st13, f16, hc17⟩
  replace f5 := f5.st st13 (by decide)
  replace f900000 := f900000.st st13 (by decide)
  replace f900019 := f900019.st st13 (by decide)
  replace f900020 := f900020.st st13 (by decide)
  replace hs := hs.loc0 st13 (by decide)
  have hk := hk.put 12 (.slice A14 (t9).length c15) rfl
  refine x_run tab hk (k := 1) (lv := []) (ks := [0, 3, 5]) (e' := [(0, .pointer (some ⟨bp0, 0, none⟩)), (3, .pointer (some ⟨bx4, 0, none⟩)), (5, .slice A14 (t9).length c15)]) rfl trivial fun a hk => ?_
  refine wpListIn_nil ?_
  refine then_n ?_
  refine x_mid (fun a_ w_ => ∃ o78 : Nat → Nat, Kn 75 a_ [(0, .pointer (some ⟨bp0, 0, none⟩)), (3, .pointer (some ⟨bx4, 0, none⟩)), (5, .slice A14 (t9).length c15)] ∧ St [] w (fun _ => 0) w_ o78 ∧ Ft (Own ET28 29 (.slice A14 (t9).length c15) t9) w_ o78 4 ∧ Ft (Bx bx4 47 [.int .i64 p1.Most, .int .i64 p1.Lost, .slice Ap1_0 (p1.L).length cp1_0]) w_ o78 3 ∧ Ft (RdC ET28 Ap0_0 p0.l) w_ o78 0 ∧ Ft (Bx bp0 56 [.int .i64 p0.most, .int .i64 p0.lost, .slice Ap0_0 (p0.l).length cp0_0]) w_ o78 0 ∧ Ft (RdC ET28 Ap1_0 p1.L) w_ o78 0 ∧ tidewracklaw25_Is_j1 K p0 p1 t9 = some r) ?_ ?_
  rotate_left
  · rintro a w79 ⟨o78, hk, hs, f16, f5, f900000, f900019, f900020, H⟩
    rw [tidewracklaw25_Is_j1] at H
    refine x_mid (fun a_ w_ => ∃ o1862 : Nat → Nat, Kn 75 a_ [] ∧ St [] w (fun _ => 0) w_ o1862 ∧ Ft (RdC ET28 Ap0_0 p0.l) w_ o1862 0 ∧ Ft (Bx bp0 56 [.int .i64 p0.most, .int .i64 p0.lost, .slice Ap0_0 (p0.l).length cp0_0]) w_ o1862 0 ∧ tidewracklaw25_Is_j2 = some r) ?_ ?_
    rotate_left
    · rintro a w1863 ⟨o1862, hk, hs, f900000, f900019, H⟩
      rw [tidewracklaw25_Is_j2] at H
      refine x_seq ?_
      refine wpIn_region_lit ?_
      refine x_run tab hk (k := 1) (lv := []) (ks := [4]) (e' := [(4, .bool true)]) rfl trivial fun a hk => ?_
      refine wpListIn_nil ?_
      refine then_n ?_
      refine wpIn_ret ?_
      obtain rfl := Option.some.inj H
      exact x_retG hk (rs := [.tmp 4]) (vs := [.bool true]) rfl ⟨rfl, trivial⟩ ⟨fun b_ => if b_ < w.heap.size then o b_ else (fun _ => 0) (o1862 b_), rfl, hs.close0 o (fun _ => 0)⟩
    refine x_seq ?_
    refine wpIn_region_lit ?_
    refine x_run tab hk (k := 4) (lv := [.slice Ap1_0 (p1.L).length cp1_0]) (ks := [0, 3, 5, 34, 35, 36]) (e' := [(0, .pointer (some ⟨bp0, 0, none⟩)), (3, .pointer (some ⟨bx4, 0, none⟩)), (5, .slice A14 (t9).length c15), (34, .slice Ap1_0 (p1.L).length cp1_0), (35, .int .i64 ((p1.L).length : Int)), (36, .int .i64 0)]) rfl ⟨(load1 tab rfl ((Bx.cell f5.now 2).trans rfl)), trivial⟩ fun a hk => ?_
    refine wpListIn_nil ?_
    refine then_n ?_
    refine wpIn_block ?_
    refine x_loop (fun j_ a_ w_ => ∃ o2445 : Nat → Nat, ∃ A2446 : Option Addr, ∃ c2447 : Nat, ∃ A2450 : Option Addr, ∃ c2451 : Nat, ∃ A2454 : Option Addr, ∃ c2455 : Nat, ∃ x2458 : Int, Kn 75 a_ [(0, .pointer (some ⟨bp0, 0, none⟩)), (3, .pointer (some ⟨bx4, 0, none⟩)), (5, .slice A2450 (t9).length c2451), (34, .slice A2454 (p1.L).length c2455), (35, .int .i64 ((p1.L).length : Int)), (36, .int .i64 x2458)] ∧ St [] w (fun _ => 0) w_ o2445 ∧ Ft (RdC ET28 A2446 p1.L) w_ o2445 0 ∧ Ft (Own ET28 29 (.slice A2450 (t9).length c2451) t9) w_ o2445 312 ∧ Ft (RdC ET28 A2454 p1.L) w_ o2445 0 ∧ Ft (Bx bx4 47 [.int .i64 p1.Most, .int .i64 p1.Lost, .slice A2446 (p1.L).length c2447]) w_ o2445 311 ∧ Ft (RdC ET28 Ap0_0 p0.l) w_ o2445 0 ∧ Ft (Bx bp0 56 [.int .i64 p0.most, .int .i64 p0.lost, .slice Ap0_0 (p0.l).length cp0_0]) w_ o2445 0 ∧ (p1.L).length ≤ c2447 ∧ (t9).length ≤ c2451 ∧ (p1.L).length ≤ c2455 ∧ tidewracklaw25_Is_l3 K p0 p1 t9 j_ x2458 = some r) (k := K) ⟨(fun b_ => (fun l_ => if l_ = 3 then 311 else if l_ = 4 then 312 else l_) (o78 b_)), Ap1_0, cp1_0, A14, c15, Ap1_0, cp1_0, 0, (by exact Kn.pick (ks := [0, 3, 5, 34, 35, 36]) hk rfl), (hs.relab0 (fun l_ => if l_ = 3 then 311 else if l_ = 4 then 312 else l_) rfl), (f900020.relab (fun l_ => if l_ = 3 then 311 else if l_ = 4 then 312 else l_) rfl), (f16.relab (fun l_ => if l_ = 3 then 311 else if l_ = 4 then 312 else l_) rfl), (f900020.relab (fun l_ => if l_ = 3 then 311 else if l_ = 4 then 312 else l_) rfl), (f5.relab (fun l_ => if l_ = 3 then 311 else if l_ = 4 then 312 else l_) rfl), (f900000.relab (fun l_ => if l_ = 3 then 311 else if l_ = 4 then 312 else l_) rfl), (f900019.relab (fun l_ => if l_ = 3 then 311 else if l_ = 4 then 312 else l_) rfl), hcp1_0, hc17, hcp1_0, H⟩ (by rintro _ _ ⟨_, _, _, _, _, _, _, _, _, _, _, _, _, _, _, _, _, _, _, H_⟩; exact absurd (show (none : Option Bool) = some r from H_) (by simp)) ?_
    rintro k3050 a w3049 ⟨o2445, A2446, c2447, A2450, c2451, A2454, c2455, x2458, hk, hs, f2448, f2452, f2456, f5, f900000, f900019, hc2449, hc2453, hc2457, H⟩
    rw [tidewracklaw25_Is_l3] at H
    obtain ⟨lp3051, hlp3052⟩ : ∃ lp_, lp_ = tidewracklaw25_Is_l3 K p0 p1 t9 k3050 := ⟨_, rfl⟩
    rw [← hlp3052] at H
    refine x_seq ?_
    refine wpIn_region_lit ?_
    refine x_run tab hk (k := 1) (lv := []) (ks := [0, 3, 5, 34, 35, 36, 37]) (e' := [(0, .pointer (some ⟨bp0, 0, none⟩)), (3, .pointer (some ⟨bx4, 0, none⟩)), (5, .slice A2450 (t9).length c2451), (34, .slice A2454 (p1.L).length c2455), (35, .int .i64 ((p1.L).length : Int)), (36, .int .i64 x2458), (37, .bool (decide (x2458 < ((p1.L).length : Int))))]) rfl trivial fun a hk => ?_
    refine wpListIn_nil ?_
    refine then_n ?_
    refine x_seq ?_
    cases b3053 : (decide (x2458 < ((p1.L).length : Int)))
    · rw [b3053] at hk H
      replace H := bifF H
      refine x_if hk (b := false) rfl ?_
      refine (show Code.wpIn _ _ _ _ _ _ _ from ?_)
      refine wpIn_exit ?_
      refine then_x ?_
      refine then_x ?_
      refine blk_x ?_
      refine then_n ?_
      exact ⟨o2445, (by exact Kn.pick (ks := []) hk rfl), hs, f900000, f900019, H⟩
    · rw [b3053] at hk H
      replace H := bifT H
      refine x_if hk (b := true) rfl ?_
      refine (show Code.wpIn _ _ _ _ _ _ _ from ?_)
      refine wpIn_skip ?_
      refine then_n ?_
      refine x_mid (fun a_ w_ => ∃ o3350 : Nat → Nat, ∃ A3351 : Option Addr, ∃ c3352 : Nat, ∃ A3355 : Option Addr, ∃ c3356 : Nat, Kn 75 a_ [(0, .pointer (some ⟨bp0, 0, none⟩)), (3, .pointer (some ⟨bx4, 0, none⟩)), (5, .slice A3351 (t9).length c3352), (34, .slice A3355 (p1.L).length c3356), (35, .int .i64 ((p1.L).length : Int)), (36, .int .i64 x2458)] ∧ St [] w (fun _ => 0) w_ o3350 ∧ Ft (RdC ET28 A2446 p1.L) w_ o3350 0 ∧ Ft (Own ET28 29 (.slice A3351 (t9).length c3352) t9) w_ o3350 427 ∧ Ft (RdC ET28 A3355 p1.L) w_ o3350 0 ∧ Ft (Bx bx4 47 [.int .i64 p1.Most, .int .i64 p1.Lost, .slice A2446 (p1.L).length c2447]) w_ o3350 426 ∧ Ft (RdC ET28 Ap0_0 p0.l) w_ o3350 0 ∧ Ft (Bx bp0 56 [.int .i64 p0.most, .int .i64 p0.lost, .slice Ap0_0 (p0.l).length cp0_0]) w_ o3350 0 ∧ (t9).length ≤ c3352 ∧ (p1.L).length ≤ c3356 ∧ tidewracklaw25_Is_j4 x2458 lp3051 = some r) ?_ ?_
      rotate_left
      · rintro a w3359 ⟨o3350, A3351, c3352, A3355, c3356, hk, hs, f2448, f3353, f3357, f5, f900000, f900019, hc3354, hc3358, H⟩
        rw [tidewracklaw25_Is_j4] at H
        refine wpIn_region_lit ?_
        refine x_run tab hk (k := 2) (lv := []) (ks := [0, 3, 5, 34, 35, 36]) (e' := [(0, .pointer (some ⟨bp0, 0, none⟩)), (3, .pointer (some ⟨bx4, 0, none⟩)), (5, .slice A3351 (t9).length c3352), (34, .slice A3355 (p1.L).length c3356), (35, .int .i64 ((p1.L).length : Int)), (36, .int .i64 (IntKind.wrap .i64 (x2458 + 1)))]) rfl trivial fun a hk => ?_
        refine wpListIn_nil ?_
        refine then_n ?_
        exact ⟨k3050, Nat.le_refl _, (fun b_ => (fun l_ => if l_ = 426 then 311 else if l_ = 427 then 312 else l_) (o3350 b_)), A2446, c2447, A3351, c3352, A3355, c3356, (IntKind.wrap .i64 (x2458 + 1)), (by exact Kn.pick (ks := [0, 3, 5, 34, 35, 36]) hk rfl), (hs.relab0 (fun l_ => if l_ = 426 then 311 else if l_ = 427 then 312 else l_) rfl), (f2448.relab (fun l_ => if l_ = 426 then 311 else if l_ = 427 then 312 else l_) rfl), (f3353.relab (fun l_ => if l_ = 426 then 311 else if l_ = 427 then 312 else l_) rfl), (f3357.relab (fun l_ => if l_ = 426 then 311 else if l_ = 427 then 312 else l_) rfl), (f5.relab (fun l_ => if l_ = 426 then 311 else if l_ = 427 then 312 else l_) rfl), (f900000.relab (fun l_ => if l_ = 426 then 311 else if l_ = 427 then 312 else l_) rfl), (f900019.relab (fun l_ => if l_ = 426 then 311 else if l_ = 427 then 312 else l_) rfl), hc2449, hc3354, hc3358, (hlp3052 ▸ H)⟩
      refine wpIn_block ?_
      refine x_seq ?_
      refine wpIn_region_lit ?_
      obtain ⟨q3360, H⟩ := ifS H
      obtain ⟨ad3361, hAad3361⟩ := RdC.addr f2456.now q3360
      have hk_C := hk
      have f2448_C := f2448
      have f2452_C := f2452
      have f2456_C := f2456
      have f5_C := f5
      have f900000_C := f900000
      have f900019_C := f900019
      subst hAad3361
      have hk := hk_C
      clear hk_C
      have f2448 := f2448_C
      clear f2448_C
      have f2452 := f2452_C
      clear f2452_C
      have f2456 := f2456_C
      clear f2456_C
      have f5 := f5_C
      clear f5_C
      have f900000 := f900000_C
      clear f900000_C
      have f900019 := f900019_C
      clear f900019_C
      refine x_run tab hk (k := 3) (lv := [.agg #[.int .i64 ((rdD zT28 p1.L x2458).From), .int .i64 ((rdD zT28 p1.L x2458).To), .string ((rdD zT28 p1.L x2458).Data)]]) (ks := [0, 3, 5, 34, 35, 36, 38, 40]) (e' := [(0, .pointer (some ⟨bp0, 0, none⟩)), (3, .pointer (some ⟨bx4, 0, none⟩)), (5, .slice A2450 (t9).length c2451), (34, .slice (some ad3361) (p1.L).length c2455), (35, .int .i64 ((p1.L).length : Int)), (36, .int .i64 x2458), (38, .int .i64 x2458), (40, .agg #[.int .i64 ((rdD zT28 p1.L x2458).From), .int .i64 ((rdD zT28 p1.L x2458).To), .string ((rdD zT28 p1.L x2458).Data)])]) rfl ⟨q3360, (load_elem (E := ET28) (i := x2458) (dx := zT28) tab rfl rfl f2456.now q3360), trivial⟩ fun a hk => ?_
      refine x_op hk rfl ?_
      refine op_alloc (o := o2445) tab (t := 39) (cs := [.int .i64 0, .int .i64 0, .string (⟨#[]⟩ : ByteArray)]) rfl rfl 428 fun bx3365 w3362 o3363 st3364 f3366 => ?_
      replace f2448 := f2448.st st3364 (by decide)
      replace f2452 := f2452.st st3364 (by decide)
      replace f2456 := f2456.st st3364 (by decide)
      replace f5 := f5.st st3364 (by decide)
      replace f900000 := f900000.st st3364 (by decide)
      replace f900019 := f900019.st st3364 (by decide)
      replace hs := hs.loc0 st3364 (by decide)
      have hk := hk.put 7 (.pointer (some ⟨bx3365, 0, none⟩)) rfl
      refine x_run tab hk (k := 1) (lv := []) (ks := [0, 3, 5, 6, 7, 34, 35, 36, 40]) (e' := [(0, .pointer (some ⟨bp0, 0, none⟩)), (3, .pointer (some ⟨bx4, 0, none⟩)), (5, .slice A2450 (t9).length c2451), (6, .int .i64 x2458), (7, .pointer (some ⟨bx3365, 0, none⟩)), (34, .slice (some ad3361) (p1.L).length c2455), (35, .int .i64 ((p1.L).length : Int)), (36, .int .i64 x2458), (40, .agg #[.int .i64 ((rdD zT28 p1.L x2458).From), .int .i64 ((rdD zT28 p1.L x2458).To), .string ((rdD zT28 p1.L x2458).Data)])]) rfl trivial fun a hk => ?_
      refine x_op hk rfl ?_
      refine op_store tab hk (t := 39) (v := .agg #[.int .i64 ((rdD zT28 p1.L x2458).From), .int .i64 ((rdD zT28 p1.L x2458).To), .string ((rdD zT28 p1.L x2458).Data)]) (b := bx3365) (k := 0) (cs' := [.int .i64 ((rdD zT28 p1.L x2458).From), .int .i64 ((rdD zT28 p1.L x2458).To), .string ((rdD zT28 p1.L x2458).Data)]) rfl rfl rfl rfl rfl rfl f3366 rfl rfl fun w3367 o3368 st3369 f3366_ => ?_
      replace f2448 := f2448.st st3369 (by decide)
      replace f2452 := f2452.st st3369 (by decide)
      replace f2456 := f2456.st st3369 (by decide)
      replace f5 := f5.st st3369 (by decide)
      replace f900000 := f900000.st st3369 (by decide)
      replace f900019 := f900019.st st3369 (by decide)
      replace hs := hs.loc0 st3369 (by decide)
      replace f3366 := f3366_
      refine wpListIn_nil ?_
      refine then_n ?_
      refine x_seq ?_
      refine wpIn_region_lit ?_
      refine x_run tab hk (k := 1) (lv := []) (ks := [0, 3, 5, 6, 7, 8, 34, 35, 36]) (e' := [(0, .pointer (some ⟨bp0, 0, none⟩)), (3, .pointer (some ⟨bx4, 0, none⟩)), (5, .slice A2450 (t9).length c2451), (6, .int .i64 x2458), (7, .pointer (some ⟨bx3365, 0, none⟩)), (8, .slice none 0 0), (34, .slice (some ad3361) (p1.L).length c2455), (35, .int .i64 ((p1.L).length : Int)), (36, .int .i64 x2458)]) rfl trivial fun a hk => ?_
      refine wpListIn_nil ?_
      refine then_n ?_
      refine x_mid (fun a_ w_ => ∃ o3472 : Nat → Nat, ∃ A3473 : Option Addr, ∃ c3474 : Nat, ∃ l3475 : List Int, Kn 75 a_ [(0, .pointer (some ⟨bp0, 0, none⟩)), (3, .pointer (some ⟨bx4, 0, none⟩)), (5, .slice A2450 (t9).length c2451), (6, .int .i64 x2458), (7, .pointer (some ⟨bx3365, 0, none⟩)), (8, .slice A3473 (l3475).length c3474), (34, .slice (some ad3361) (p1.L).length c2455), (35, .int .i64 ((p1.L).length : Int)), (36, .int .i64 x2458)] ∧ St [] w (fun _ => 0) w_ o3472 ∧ Ft (RdC ET28 A2446 p1.L) w_ o3472 0 ∧ Ft (Own ET28 29 (.slice A2450 (t9).length c2451) t9) w_ o3472 445 ∧ Ft (RdC ET28 (some ad3361) p1.L) w_ o3472 0 ∧ Ft (Bx bx3365 39 [.int .i64 ((rdD zT28 p1.L x2458).From), .int .i64 ((rdD zT28 p1.L x2458).To), .string ((rdD zT28 p1.L x2458).Data)]) w_ o3472 446 ∧ Ft (Own (encInt .i64) 3 (.slice A3473 (l3475).length c3474) l3475) w_ o3472 447 ∧ Ft (Bx bx4 47 [.int .i64 p1.Most, .int .i64 p1.Lost, .slice A2446 (p1.L).length c2447]) w_ o3472 444 ∧ Ft (RdC ET28 Ap0_0 p0.l) w_ o3472 0 ∧ Ft (Bx bp0 56 [.int .i64 p0.most, .int .i64 p0.lost, .slice Ap0_0 (p0.l).length cp0_0]) w_ o3472 0 ∧ (l3475).length ≤ c3474 ∧ tidewracklaw25_Is_j5 K p0 p1 t9 x2458 lp3051 l3475 = some r) ?_ ?_
      rotate_left
      · rintro a w3478 ⟨o3472, A3473, c3474, l3475, hk, hs, f2448, f2452, f2456, f3366, f3476, f5, f900000, f900019, hc3477, H⟩
        rw [tidewracklaw25_Is_j5] at H
        refine x_seq ?_
        refine xd_begin (o := o3472) (fun W_ => (Own ET28 29 (.slice A2450 (t9).length c2451) t9) W_ ∧ (Bx bx3365 39 [.int .i64 ((rdD zT28 p1.L x2458).From), .int .i64 ((rdD zT28 p1.L x2458).To), .string ((rdD zT28 p1.L x2458).Data)]) W_ ∧ True) mixed rfl rfl fun w3525 st3526 => ?_
        replace f2448 := f2448.st st3526 (by decide)
        replace f2452 := f2452.st st3526 (by decide)
        replace f2456 := f2456.st st3526 (by decide)
        replace f3366 := f3366.st st3526 (by decide)
        replace f3476 := f3476.st st3526 (by decide)
        replace f5 := f5.st st3526 (by decide)
        replace f900000 := f900000.st st3526 (by decide)
        replace f900019 := f900019.st st3526 (by decide)
        replace hs := hs.loc0 st3526 (by decide)
        obtain ⟨q3527, H⟩ := ifS H
        obtain ⟨ad3528, hAad3528⟩ := RdC.addr (Own.rd f2452.now) q3527
        have hk_C := hk
        have f2448_C := f2448
        have f2452_C := f2452
        have f2456_C := f2456
        have f3366_C := f3366
        have f3476_C := f3476
        have f5_C := f5
        have f900000_C := f900000
        have f900019_C := f900019
        subst hAad3528
        have hk := hk_C
        clear hk_C
        have f2448 := f2448_C
        clear f2448_C
        have f2452 := f2452_C
        clear f2452_C
        have f2456 := f2456_C
        clear f2456_C
        have f3366 := f3366_C
        clear f3366_C
        have f3476 := f3476_C
        clear f3476_C
        have f5 := f5_C
        clear f5_C
        have f900000 := f900000_C
        clear f900000_C
        have f900019 := f900019_C
        clear f900019_C
        refine xd_take tab hk (k := 8) (is := [0, 1, 2, 3, 4, 5, 6]) (ls' := #[true, true, true, true, true, true, true, false, false, false, false, false, false, false, false]) (lv := [.agg #[.int .i64 ((rdD zT28 t9 x2458).From), .int .i64 ((rdD zT28 t9 x2458).To), .string ((rdD zT28 t9 x2458).Data)], .agg #[.int .i64 ((rdD zT28 p1.L x2458).From), .int .i64 ((rdD zT28 p1.L x2458).To), .string ((rdD zT28 p1.L x2458).Data)], .bool (!(eqT28 (rdD zT28 t9 x2458) (rdD zT28 p1.L x2458)))]) (ks := [0, 3, 5, 7, 8, 34, 35, 36, 65]) (e' := [(0, .pointer (some ⟨bp0, 0, none⟩)), (3, .pointer (some ⟨bx4, 0, none⟩)), (5, .slice (some ad3528) (t9).length c2451), (7, .pointer (some ⟨bx3365, 0, none⟩)), (8, .slice A3473 (l3475).length c3474), (34, .slice (some ad3361) (p1.L).length c2455), (35, .int .i64 ((p1.L).length : Int)), (36, .int .i64 x2458), (65, .bool (!(eqT28 (rdD zT28 t9 x2458) (rdD zT28 p1.L x2458))))]) (by kernel_rfl) rfl rfl (by kernel_rfl) (np_then (np_blk (np_then (np_then (np_blk (np_then np_body)))))) ⟨f2452.now, f3366.now, trivial⟩ (fun W_ hS => ⟨q3527, (load_elem (E := ET28) (i := x2458) (dx := zT28) tab rfl rfl (Own.rd hS.1) q3527), (load_box tab rfl rfl hS.2.1 (k := 0) rfl rfl), (ask_neq tab stood rfl rfl rfl rfl), trivial⟩) fun a hk => ?_
        cases b3529 : (!(eqT28 (rdD zT28 t9 x2458) (rdD zT28 p1.L x2458)))
        · rw [b3529] at hk H
          replace H := bifF H
          refine xd_take tab hk (k := 4) (is := [7, 8, 9, 11]) (ls' := #[true, true, true, true, true, true, true, true, true, true, false, true, false, false, false]) (lv := [.int .i64 ((rdD zT28 p1.L x2458).To)]) (ks := [0, 3, 5, 34, 35, 36, 65, 66, 68, 70]) (e' := [(0, .pointer (some ⟨bp0, 0, none⟩)), (3, .pointer (some ⟨bx4, 0, none⟩)), (5, .slice (some ad3528) (t9).length c2451), (34, .slice (some ad3361) (p1.L).length c2455), (35, .int .i64 ((p1.L).length : Int)), (36, .int .i64 x2458), (65, .bool false), (66, .pointer (some ⟨bp0, 0, none⟩)), (68, .int .i64 ((rdD zT28 p1.L x2458).To)), (70, .slice A3473 (l3475).length c3474)]) (by kernel_rfl) rfl rfl (by kernel_rfl) (np_then (np_blk (np_then (np_then (np_blk (np_then np_body)))))) ⟨f2452.now, f3366.now, trivial⟩ (fun W_ hS => ⟨(load1 tab rfl ((Bx.cell hS.2.1 1).trans rfl)), trivial⟩) fun a hk => ?_
          refine xd_op hk (i := 10) (by kernel_rfl) rfl rfl ?_
          obtain ⟨t3533, hc3534, H⟩ := bindS H
          refine op_call hk ent_11 (vs := [.pointer (some ⟨bp0, 0, none⟩), .int .i64 ((rdD zT28 p1.L x2458).To)]) rfl (net_Net_For_calls K bp0 Ap0_0 cp0_0 p0 ((rdD zT28 p1.L x2458).To) _ o3472 0 f900019 _ f900000 hcp0_0 450  _ hc3534) ?_
          rintro _ w3535 ⟨o3536, A3538, c3539, rfl, st3537, f3540, hc3541⟩
          replace f2448 := f2448.st st3537 (by decide)
          replace f2452 := f2452.st st3537 (by decide)
          replace f2456 := f2456.st st3537 (by decide)
          replace f3366 := f3366.st st3537 (by decide)
          replace f3476 := f3476.st st3537 (by decide)
          replace f5 := f5.st st3537 (by decide)
          replace f900000 := f900000.st st3537 (by decide)
          replace f900019 := f900019.st st3537 (by decide)
          replace hs := hs.loc0 st3537 (by decide)
          have hk := hk.put 69 (.slice A3538 (t3533).length c3539) rfl
          refine ⟨.inr ⟨f2452.now, f3366.now, trivial⟩, ?_⟩
          refine xd_op hk (i := 12) (by kernel_rfl) rfl rfl ?_
          obtain ⟨t3545, hc3546, H⟩ := bindS H
          refine op_call hk ent_32 (vs := [.slice A3538 (t3533).length c3539, .slice A3473 (l3475).length c3474]) rfl (tidewracklaw01_Same_calls K A3538 c3539 t3533 A3473 c3474 l3475 _ o3536 _ (f3540.imp fun _ h_ => Own.rd h_) hc3541 _ (f3476.imp fun _ h_ => Own.rd h_) hc3477   _ hc3546) ?_
          rintro _ w3547 ⟨o3548, rfl, st3549⟩
          replace f2448 := f2448.st st3549 (by decide)
          replace f2452 := f2452.st st3549 (by decide)
          replace f2456 := f2456.st st3549 (by decide)
          replace f3366 := f3366.st st3549 (by decide)
          replace f3476 := f3476.st st3549 (by decide)
          replace f3540 := f3540.st st3549 (by decide)
          replace f5 := f5.st st3549 (by decide)
          replace f900000 := f900000.st st3549 (by decide)
          replace f900019 := f900019.st st3549 (by decide)
          replace hs := hs.loc0 st3549 (by decide)
          have hk := hk.put 71 (.bool t3545) rfl
          refine ⟨.inr ⟨f2452.now, f3366.now, trivial⟩, ?_⟩
          refine xd_take tab hk (k := 0) (is := [13, 14]) (ls' := #[true, true, true, true, true, true, true, true, true, true, true, true, true, true, true]) (lv := []) (ks := [0, 3, 5, 34, 35, 36, 73]) (e' := [(0, .pointer (some ⟨bp0, 0, none⟩)), (3, .pointer (some ⟨bx4, 0, none⟩)), (5, .slice (some ad3528) (t9).length c2451), (34, .slice (some ad3361) (p1.L).length c2455), (35, .int .i64 ((p1.L).length : Int)), (36, .int .i64 x2458), (73, .bool (!t3545))]) (by kernel_rfl) rfl rfl (by kernel_rfl) (np_then (np_blk (np_then (np_then (np_blk (np_then np_body)))))) ⟨f2452.now, f3366.now, trivial⟩ (fun W_ hS => trivial) fun a hk => ?_
          refine xd_done (by kernel_rfl) ?_
          refine then_n ?_
          cases b3550 : (!t3545)
          · rw [b3550] at hk H
            replace H := bifF H
            refine x_if hk (b := false) rfl ?_
            refine (show Code.wpIn _ _ _ _ _ _ _ from ?_)
            refine wpIn_skip ?_
            refine blk_n ?_
            refine then_n ?_
            exact ⟨(fun b_ => (fun l_ => if l_ = 444 then 426 else if l_ = 445 then 427 else l_) (o3548 b_)), (some ad3528), c2451, (some ad3361), c2455, (by exact Kn.pick (ks := [0, 3, 5, 34, 35, 36]) hk rfl), (hs.relab0 (fun l_ => if l_ = 444 then 426 else if l_ = 445 then 427 else l_) rfl), (f2448.relab (fun l_ => if l_ = 444 then 426 else if l_ = 445 then 427 else l_) rfl), (f2452.relab (fun l_ => if l_ = 444 then 426 else if l_ = 445 then 427 else l_) rfl), (f2456.relab (fun l_ => if l_ = 444 then 426 else if l_ = 445 then 427 else l_) rfl), (f5.relab (fun l_ => if l_ = 444 then 426 else if l_ = 445 then 427 else l_) rfl), (f900000.relab (fun l_ => if l_ = 444 then 426 else if l_ = 445 then 427 else l_) rfl), (f900019.relab (fun l_ => if l_ = 444 then 426 else if l_ = 445 then 427 else l_) rfl), hc2453, hc2457, H⟩
          · rw [b3550] at hk H
            replace H := bifT H
            refine x_if hk (b := true) rfl ?_
            refine (show Code.wpIn _ _ _ _ _ _ _ from ?_)
            refine x_seq ?_
            refine wpIn_region_lit ?_
            refine x_run tab hk (k := 1) (lv := []) (ks := [4]) (e' := [(4, .bool false)]) rfl trivial fun a hk => ?_
            refine wpListIn_nil ?_
            refine then_n ?_
            refine wpIn_ret ?_
            refine blk_r ?_
            refine then_r ?_
            refine then_r ?_
            refine blk_r ?_
            refine then_r ?_
            obtain rfl := Option.some.inj H
            exact x_retG hk (rs := [.tmp 4]) (vs := [.bool false]) rfl ⟨rfl, trivial⟩ ⟨fun b_ => if b_ < w.heap.size then o b_ else (fun _ => 0) (o3548 b_), rfl, hs.close0 o (fun _ => 0)⟩
        · rw [b3529] at hk H
          replace H := bifT H
          refine xd_take tab hk (k := 0) (is := [7, 8, 9, 10, 11, 12, 13, 14]) (ls' := #[true, true, true, true, true, true, true, true, true, true, true, true, true, true, true]) (lv := []) (ks := [0, 3, 5, 34, 35, 36, 73]) (e' := [(0, .pointer (some ⟨bp0, 0, none⟩)), (3, .pointer (some ⟨bx4, 0, none⟩)), (5, .slice (some ad3528) (t9).length c2451), (34, .slice (some ad3361) (p1.L).length c2455), (35, .int .i64 ((p1.L).length : Int)), (36, .int .i64 x2458), (73, .bool true)]) (by kernel_rfl) rfl rfl (by kernel_rfl) (np_then (np_blk (np_then (np_then (np_blk (np_then np_body)))))) ⟨f2452.now, f3366.now, trivial⟩ (fun W_ hS => trivial) fun a hk => ?_
          refine xd_done (by kernel_rfl) ?_
          refine then_n ?_
          refine x_if hk (b := true) rfl ?_
          refine (show Code.wpIn _ _ _ _ _ _ _ from ?_)
          refine x_seq ?_
          refine wpIn_region_lit ?_
          refine x_run tab hk (k := 1) (lv := []) (ks := [4]) (e' := [(4, .bool false)]) rfl trivial fun a hk => ?_
          refine wpListIn_nil ?_
          refine then_n ?_
          refine wpIn_ret ?_
          refine blk_r ?_
          refine then_r ?_
          refine then_r ?_
          refine blk_r ?_
          refine then_r ?_
          obtain rfl := Option.some.inj H
          exact x_retG hk (rs := [.tmp 4]) (vs := [.bool false]) rfl ⟨rfl, trivial⟩ ⟨fun b_ => if b_ < w.heap.size then o b_ else (fun _ => 0) (o3472 b_), rfl, hs.close0 o (fun _ => 0)⟩
      refine x_seq ?_
      refine wpIn_region_lit ?_
      refine x_run tab hk (k := 4) (lv := [.slice A2446 (p1.L).length c2447]) (ks := [0, 3, 5, 6, 7, 8, 34, 35, 36, 42, 43, 44]) (e' := [(0, .pointer (some ⟨bp0, 0, none⟩)), (3, .pointer (some ⟨bx4, 0, none⟩)), (5, .slice A2450 (t9).length c2451), (6, .int .i64 x2458), (7, .pointer (some ⟨bx3365, 0, none⟩)), (8, .slice none 0 0), (34, .slice (some ad3361) (p1.L).length c2455), (35, .int .i64 ((p1.L).length : Int)), (36, .int .i64 x2458), (42, .slice A2446 (p1.L).length c2447), (43, .int .i64 ((p1.L).length : Int)), (44, .int .i64 0)]) rfl ⟨(load1 tab rfl ((Bx.cell f5.now 2).trans rfl)), trivial⟩ fun a hk => ?_
      refine wpListIn_nil ?_
      refine then_n ?_
      refine wpIn_block ?_
      refine x_loop (fun j_ a_ w_ => ∃ o3580 : Nat → Nat, ∃ A3581 : Option Addr, ∃ c3582 : Nat, ∃ l3583 : List Int, ∃ x3586 : Int, Kn 75 a_ [(0, .pointer (some ⟨bp0, 0, none⟩)), (3, .pointer (some ⟨bx4, 0, none⟩)), (5, .slice A2450 (t9).length c2451), (6, .int .i64 x2458), (7, .pointer (some ⟨bx3365, 0, none⟩)), (8, .slice A3581 (l3583).length c3582), (34, .slice (some ad3361) (p1.L).length c2455), (35, .int .i64 ((p1.L).length : Int)), (36, .int .i64 x2458), (42, .slice A2446 (p1.L).length c2447), (43, .int .i64 ((p1.L).length : Int)), (44, .int .i64 x3586)] ∧ St [] w (fun _ => 0) w_ o3580 ∧ Ft (RdC ET28 A2446 p1.L) w_ o3580 0 ∧ Ft (Own ET28 29 (.slice A2450 (t9).length c2451) t9) w_ o3580 458 ∧ Ft (RdC ET28 (some ad3361) p1.L) w_ o3580 0 ∧ Ft (Bx bx3365 39 [.int .i64 ((rdD zT28 p1.L x2458).From), .int .i64 ((rdD zT28 p1.L x2458).To), .string ((rdD zT28 p1.L x2458).Data)]) w_ o3580 459 ∧ Ft (Own (encInt .i64) 3 (.slice A3581 (l3583).length c3582) l3583) w_ o3580 460 ∧ Ft (Bx bx4 47 [.int .i64 p1.Most, .int .i64 p1.Lost, .slice A2446 (p1.L).length c2447]) w_ o3580 457 ∧ Ft (RdC ET28 Ap0_0 p0.l) w_ o3580 0 ∧ Ft (Bx bp0 56 [.int .i64 p0.most, .int .i64 p0.lost, .slice Ap0_0 (p0.l).length cp0_0]) w_ o3580 0 ∧ (l3583).length ≤ c3582 ∧ tidewracklaw25_Is_l6 K p0 p1 t9 x2458 lp3051 j_ l3583 x3586 = some r) (k := K) ⟨(fun b_ => (fun l_ => if l_ = 311 then 457 else if l_ = 312 then 458 else if l_ = 428 then 459 else l_) (o3368 b_)), none, 0, ([] : List Int), 0, (by exact Kn.pick (ks := [0, 3, 5, 6, 7, 8, 34, 35, 36, 42, 43, 44]) hk rfl), (hs.relab0 (fun l_ => if l_ = 311 then 457 else if l_ = 312 then 458 else if l_ = 428 then 459 else l_) rfl), (f2448.relab (fun l_ => if l_ = 311 then 457 else if l_ = 312 then 458 else if l_ = 428 then 459 else l_) rfl), (f2452.relab (fun l_ => if l_ = 311 then 457 else if l_ = 312 then 458 else if l_ = 428 then 459 else l_) rfl), (f2456.relab (fun l_ => if l_ = 311 then 457 else if l_ = 312 then 458 else if l_ = 428 then 459 else l_) rfl), (f3366.relab (fun l_ => if l_ = 311 then 457 else if l_ = 312 then 458 else if l_ = 428 then 459 else l_) rfl), (Ft.of_all (fun _ => Own.nil _ _ _) _ _ _), (f5.relab (fun l_ => if l_ = 311 then 457 else if l_ = 312 then 458 else if l_ = 428 then 459 else l_) rfl), (f900000.relab (fun l_ => if l_ = 311 then 457 else if l_ = 312 then 458 else if l_ = 428 then 459 else l_) rfl), (f900019.relab (fun l_ => if l_ = 311 then 457 else if l_ = 312 then 458 else if l_ = 428 then 459 else l_) rfl), (by simp), H⟩ (by rintro _ _ ⟨_, _, _, _, _, _, _, _, _, _, _, _, _, _, _, _, H_⟩; exact absurd (show (none : Option Bool) = some r from H_) (by simp)) ?_
      rintro k3614 a w3613 ⟨o3580, A3581, c3582, l3583, x3586, hk, hs, f2448, f2452, f2456, f3366, f3584, f5, f900000, f900019, hc3585, H⟩
      rw [tidewracklaw25_Is_l6] at H
      obtain ⟨lp3615, hlp3616⟩ : ∃ lp_, lp_ = tidewracklaw25_Is_l6 K p0 p1 t9 x2458 lp3051 k3614 := ⟨_, rfl⟩
      rw [← hlp3616] at H
      refine x_seq ?_
      refine wpIn_region_lit ?_
      refine x_run tab hk (k := 1) (lv := []) (ks := [0, 3, 5, 6, 7, 8, 34, 35, 36, 42, 43, 44, 45]) (e' := [(0, .pointer (some ⟨bp0, 0, none⟩)), (3, .pointer (some ⟨bx4, 0, none⟩)), (5, .slice A2450 (t9).length c2451), (6, .int .i64 x2458), (7, .pointer (some ⟨bx3365, 0, none⟩)), (8, .slice A3581 (l3583).length c3582), (34, .slice (some ad3361) (p1.L).length c2455), (35, .int .i64 ((p1.L).length : Int)), (36, .int .i64 x2458), (42, .slice A2446 (p1.L).length c2447), (43, .int .i64 ((p1.L).length : Int)), (44, .int .i64 x3586), (45, .bool (decide (x3586 < ((p1.L).length : Int))))]) rfl trivial fun a hk => ?_
      refine wpListIn_nil ?_
      refine then_n ?_
      refine x_seq ?_
      cases b3617 : (decide (x3586 < ((p1.L).length : Int)))
      · rw [b3617] at hk H
        replace H := bifF H
        refine x_if hk (b := false) rfl ?_
        refine (show Code.wpIn _ _ _ _ _ _ _ from ?_)
        refine wpIn_exit ?_
        refine then_x ?_
        refine then_x ?_
        refine blk_x ?_
        refine then_n ?_
        exact ⟨(fun b_ => (fun l_ => if l_ = 457 then 444 else if l_ = 458 then 445 else if l_ = 459 then 446 else if l_ = 460 then 447 else l_) (o3580 b_)), A3581, c3582, l3583, (by exact Kn.pick (ks := [0, 3, 5, 6, 7, 8, 34, 35, 36]) hk rfl), (hs.relab0 (fun l_ => if l_ = 457 then 444 else if l_ = 458 then 445 else if l_ = 459 then 446 else if l_ = 460 then 447 else l_) rfl), (f2448.relab (fun l_ => if l_ = 457 then 444 else if l_ = 458 then 445 else if l_ = 459 then 446 else if l_ = 460 then 447 else l_) rfl), (f2452.relab (fun l_ => if l_ = 457 then 444 else if l_ = 458 then 445 else if l_ = 459 then 446 else if l_ = 460 then 447 else l_) rfl), (f2456.relab (fun l_ => if l_ = 457 then 444 else if l_ = 458 then 445 else if l_ = 459 then 446 else if l_ = 460 then 447 else l_) rfl), (f3366.relab (fun l_ => if l_ = 457 then 444 else if l_ = 458 then 445 else if l_ = 459 then 446 else if l_ = 460 then 447 else l_) rfl), (f3584.relab (fun l_ => if l_ = 457 then 444 else if l_ = 458 then 445 else if l_ = 459 then 446 else if l_ = 460 then 447 else l_) rfl), (f5.relab (fun l_ => if l_ = 457 then 444 else if l_ = 458 then 445 else if l_ = 459 then 446 else if l_ = 460 then 447 else l_) rfl), (f900000.relab (fun l_ => if l_ = 457 then 444 else if l_ = 458 then 445 else if l_ = 459 then 446 else if l_ = 460 then 447 else l_) rfl), (f900019.relab (fun l_ => if l_ = 457 then 444 else if l_ = 458 then 445 else if l_ = 459 then 446 else if l_ = 460 then 447 else l_) rfl), hc3585, H⟩
      · rw [b3617] at hk H
        replace H := bifT H
        refine x_if hk (b := true) rfl ?_
        refine (show Code.wpIn _ _ _ _ _ _ _ from ?_)
        refine wpIn_skip ?_
        refine then_n ?_
        refine x_seq ?_
        refine wpIn_block ?_
        refine x_seq ?_
        refine wpIn_region_lit ?_
        obtain ⟨q3618, H⟩ := ifS H
        obtain ⟨ad3619, hAad3619⟩ := RdC.addr f2448.now q3618
        have hk_C := hk
        have f2448_C := f2448
        have f2452_C := f2452
        have f2456_C := f2456
        have f3366_C := f3366
        have f3584_C := f3584
        have f5_C := f5
        have f900000_C := f900000
        have f900019_C := f900019
        subst hAad3619
        have hk := hk_C
        clear hk_C
        have f2448 := f2448_C
        clear f2448_C
        have f2452 := f2452_C
        clear f2452_C
        have f2456 := f2456_C
        clear f2456_C
        have f3366 := f3366_C
        clear f3366_C
        have f3584 := f3584_C
        clear f3584_C
        have f5 := f5_C
        clear f5_C
        have f900000 := f900000_C
        clear f900000_C
        have f900019 := f900019_C
        clear f900019_C
        refine x_run tab hk (k := 3) (lv := [.agg #[.int .i64 ((rdD zT28 p1.L x3586).From), .int .i64 ((rdD zT28 p1.L x3586).To), .string ((rdD zT28 p1.L x3586).Data)]]) (ks := [0, 3, 5, 6, 7, 8, 34, 35, 36, 42, 43, 44, 46, 48]) (e' := [(0, .pointer (some ⟨bp0, 0, none⟩)), (3, .pointer (some ⟨bx4, 0, none⟩)), (5, .slice A2450 (t9).length c2451), (6, .int .i64 x2458), (7, .pointer (some ⟨bx3365, 0, none⟩)), (8, .slice A3581 (l3583).length c3582), (34, .slice (some ad3361) (p1.L).length c2455), (35, .int .i64 ((p1.L).length : Int)), (36, .int .i64 x2458), (42, .slice (some ad3619) (p1.L).length c2447), (43, .int .i64 ((p1.L).length : Int)), (44, .int .i64 x3586), (46, .int .i64 x3586), (48, .agg #[.int .i64 ((rdD zT28 p1.L x3586).From), .int .i64 ((rdD zT28 p1.L x3586).To), .string ((rdD zT28 p1.L x3586).Data)])]) rfl ⟨q3618, (load_elem (E := ET28) (i := x3586) (dx := zT28) tab rfl rfl f2448.now q3618), trivial⟩ fun a hk => ?_
        refine x_op hk rfl ?_
        refine op_alloc (o := o3580) tab (t := 39) (cs := [.int .i64 0, .int .i64 0, .string (⟨#[]⟩ : ByteArray)]) rfl rfl 463 fun bx3623 w3620 o3621 st3622 f3624 => ?_
        replace f2448 := f2448.st st3622 (by decide)
        replace f2452 := f2452.st st3622 (by decide)
        replace f2456 := f2456.st st3622 (by decide)
        replace f3366 := f3366.st st3622 (by decide)
        replace f3584 := f3584.st st3622 (by decide)
        replace f5 := f5.st st3622 (by decide)
        replace f900000 := f900000.st st3622 (by decide)
        replace f900019 := f900019.st st3622 (by decide)
        replace hs := hs.loc0 st3622 (by decide)
        have hk := hk.put 10 (.pointer (some ⟨bx3623, 0, none⟩)) rfl
        refine x_run tab hk (k := 1) (lv := []) (ks := [0, 3, 5, 6, 7, 8, 9, 10, 34, 35, 36, 42, 43, 44, 48]) (e' := [(0, .pointer (some ⟨bp0, 0, none⟩)), (3, .pointer (some ⟨bx4, 0, none⟩)), (5, .slice A2450 (t9).length c2451), (6, .int .i64 x2458), (7, .pointer (some ⟨bx3365, 0, none⟩)), (8, .slice A3581 (l3583).length c3582), (9, .int .i64 x3586), (10, .pointer (some ⟨bx3623, 0, none⟩)), (34, .slice (some ad3361) (p1.L).length c2455), (35, .int .i64 ((p1.L).length : Int)), (36, .int .i64 x2458), (42, .slice (some ad3619) (p1.L).length c2447), (43, .int .i64 ((p1.L).length : Int)), (44, .int .i64 x3586), (48, .agg #[.int .i64 ((rdD zT28 p1.L x3586).From), .int .i64 ((rdD zT28 p1.L x3586).To), .string ((rdD zT28 p1.L x3586).Data)])]) rfl trivial fun a hk => ?_
        refine x_op hk rfl ?_
        refine op_store tab hk (t := 39) (v := .agg #[.int .i64 ((rdD zT28 p1.L x3586).From), .int .i64 ((rdD zT28 p1.L x3586).To), .string ((rdD zT28 p1.L x3586).Data)]) (b := bx3623) (k := 0) (cs' := [.int .i64 ((rdD zT28 p1.L x3586).From), .int .i64 ((rdD zT28 p1.L x3586).To), .string ((rdD zT28 p1.L x3586).Data)]) rfl rfl rfl rfl rfl rfl f3624 rfl rfl fun w3625 o3626 st3627 f3624_ => ?_
        replace f2448 := f2448.st st3627 (by decide)
        replace f2452 := f2452.st st3627 (by decide)
        replace f2456 := f2456.st st3627 (by decide)
        replace f3366 := f3366.st st3627 (by decide)
        replace f3584 := f3584.st st3627 (by decide)
        replace f5 := f5.st st3627 (by decide)
        replace f900000 := f900000.st st3627 (by decide)
        replace f900019 := f900019.st st3627 (by decide)
        replace hs := hs.loc0 st3627 (by decide)
        replace f3624 := f3624_
        refine wpListIn_nil ?_
        refine then_n ?_
        refine x_seq ?_
        refine wpIn_region_lit ?_
        refine x_run tab hk (k := 5) (lv := [.int .i64 ((rdD zT28 p1.L x3586).To), .int .i64 ((rdD zT28 p1.L x2458).To)]) (ks := [0, 3, 5, 6, 7, 8, 9, 34, 35, 36, 42, 43, 44, 53]) (e' := [(0, .pointer (some ⟨bp0, 0, none⟩)), (3, .pointer (some ⟨bx4, 0, none⟩)), (5, .slice A2450 (t9).length c2451), (6, .int .i64 x2458), (7, .pointer (some ⟨bx3365, 0, none⟩)), (8, .slice A3581 (l3583).length c3582), (9, .int .i64 x3586), (34, .slice (some ad3361) (p1.L).length c2455), (35, .int .i64 ((p1.L).length : Int)), (36, .int .i64 x2458), (42, .slice (some ad3619) (p1.L).length c2447), (43, .int .i64 ((p1.L).length : Int)), (44, .int .i64 x3586), (53, .bool (((rdD zT28 p1.L x3586).To) == ((rdD zT28 p1.L x2458).To)))]) rfl ⟨(load1 tab rfl ((Bx.cell f3624.now 1).trans rfl)), (load1 tab rfl ((Bx.cell f3366.now 1).trans rfl)), trivial⟩ fun a hk => ?_
        refine wpListIn_nil ?_
        refine then_n ?_
        cases b3628 : (((rdD zT28 p1.L x3586).To) == ((rdD zT28 p1.L x2458).To))
        · rw [b3628] at hk H
          replace H := bifF H
          refine x_if hk (b := false) rfl ?_
          refine (show Code.wpIn _ _ _ _ _ _ _ from ?_)
          refine wpIn_skip ?_
          refine blk_n ?_
          refine then_n ?_
          refine wpIn_region_lit ?_
          refine x_run tab hk (k := 2) (lv := []) (ks := [0, 3, 5, 6, 7, 8, 34, 35, 36, 42, 43, 44]) (e' := [(0, .pointer (some ⟨bp0, 0, none⟩)), (3, .pointer (some ⟨bx4, 0, none⟩)), (5, .slice A2450 (t9).length c2451), (6, .int .i64 x2458), (7, .pointer (some ⟨bx3365, 0, none⟩)), (8, .slice A3581 (l3583).length c3582), (34, .slice (some ad3361) (p1.L).length c2455), (35, .int .i64 ((p1.L).length : Int)), (36, .int .i64 x2458), (42, .slice (some ad3619) (p1.L).length c2447), (43, .int .i64 ((p1.L).length : Int)), (44, .int .i64 (IntKind.wrap .i64 (x3586 + 1)))]) rfl trivial fun a hk => ?_
          refine wpListIn_nil ?_
          refine then_n ?_
          exact ⟨k3614, Nat.le_refl _, o3626, A3581, c3582, l3583, (IntKind.wrap .i64 (x3586 + 1)), (by exact Kn.pick (ks := [0, 3, 5, 6, 7, 8, 34, 35, 36, 42, 43, 44]) hk rfl), hs, f2448, f2452, f2456, f3366, f3584, f5, f900000, f900019, hc3585, (hlp3616 ▸ H)⟩
        · rw [b3628] at hk H
          replace H := bifT H
          refine x_if hk (b := true) rfl ?_
          refine (show Code.wpIn _ _ _ _ _ _ _ from ?_)
          refine wpIn_region_lit ?_
          refine x_run tab hk (k := 2) (lv := []) (ks := [0, 3, 5, 6, 7, 34, 35, 36, 42, 43, 44, 54, 55]) (e' := [(0, .pointer (some ⟨bp0, 0, none⟩)), (3, .pointer (some ⟨bx4, 0, none⟩)), (5, .slice A2450 (t9).length c2451), (6, .int .i64 x2458), (7, .pointer (some ⟨bx3365, 0, none⟩)), (34, .slice (some ad3361) (p1.L).length c2455), (35, .int .i64 ((p1.L).length : Int)), (36, .int .i64 x2458), (42, .slice (some ad3619) (p1.L).length c2447), (43, .int .i64 ((p1.L).length : Int)), (44, .int .i64 x3586), (54, .slice A3581 (l3583).length c3582), (55, .int .i64 x3586)]) rfl trivial fun a hk => ?_
          refine x_op hk rfl ?_
          refine op_slice (o := o3626) tab hk (vs := [.int .i64 x3586]) (cs := [.int .i64 x3586]) rfl rfl rfl rfl rfl rfl rfl rfl rfl 464 fun bx3632 w3629 o3630 st3631 f3633 => ?_
          replace f2448 := f2448.st st3631 (by decide)
          replace f2452 := f2452.st st3631 (by decide)
          replace f2456 := f2456.st st3631 (by decide)
          replace f3366 := f3366.st st3631 (by decide)
          replace f3584 := f3584.st st3631 (by decide)
          replace f5 := f5.st st3631 (by decide)
          replace f900000 := f900000.st st3631 (by decide)
          replace f900019 := f900019.st st3631 (by decide)
          replace hs := hs.loc0 st3631 (by decide)
          have f3634 : Ft (Own (encInt .i64) 3 (.slice (some ⟨bx3632, 0, none⟩) (([x3586] : List Int)).length 1) ([x3586] : List Int)) w3629 o3630 464 := f3633.imp fun _ h_ => Own.of_box h_ rfl (by simp)
          have hk := hk.put 56 (.slice (some ⟨bx3632, 0, none⟩) (([x3586] : List Int)).length 1) rfl
          refine x_op hk rfl ?_
          obtain ⟨q3638, H⟩ := ifS H
          refine op_append (o := o3630) (E := (encInt .i64)) (xs := l3583) (ys := ([x3586] : List Int)) tab hk rfl rfl rfl rfl rfl rfl rfl f3584 (Own.rd f3634.now) q3638 fun A3639 c3640 w3635 o3636 st3637 f3641 hc3642 => ?_
          replace f2448 := f2448.st st3637 (by decide)
          replace f2452 := f2452.st st3637 (by decide)
          replace f2456 := f2456.st st3637 (by decide)
          replace f3366 := f3366.st st3637 (by decide)
          replace f3634 := f3634.st st3637 (by decide)
          replace f5 := f5.st st3637 (by decide)
          replace f900000 := f900000.st st3637 (by decide)
          replace f900019 := f900019.st st3637 (by decide)
          replace hs := hs.loc0 st3637 (by decide)
          have hk := hk.put 57 (.slice A3639 ((l3583 ++ ([x3586] : List Int))).length c3640) rfl
          refine x_run tab hk (k := 1) (lv := []) (ks := [0, 3, 5, 6, 7, 8, 34, 35, 36, 42, 43, 44]) (e' := [(0, .pointer (some ⟨bp0, 0, none⟩)), (3, .pointer (some ⟨bx4, 0, none⟩)), (5, .slice A2450 (t9).length c2451), (6, .int .i64 x2458), (7, .pointer (some ⟨bx3365, 0, none⟩)), (8, .slice A3639 ((l3583 ++ ([x3586] : List Int))).length c3640), (34, .slice (some ad3361) (p1.L).length c2455), (35, .int .i64 ((p1.L).length : Int)), (36, .int .i64 x2458), (42, .slice (some ad3619) (p1.L).length c2447), (43, .int .i64 ((p1.L).length : Int)), (44, .int .i64 x3586)]) rfl trivial fun a hk => ?_
          refine wpListIn_nil ?_
          refine blk_n ?_
          refine then_n ?_
          refine wpIn_region_lit ?_
          refine x_run tab hk (k := 2) (lv := []) (ks := [0, 3, 5, 6, 7, 8, 34, 35, 36, 42, 43, 44]) (e' := [(0, .pointer (some ⟨bp0, 0, none⟩)), (3, .pointer (some ⟨bx4, 0, none⟩)), (5, .slice A2450 (t9).length c2451), (6, .int .i64 x2458), (7, .pointer (some ⟨bx3365, 0, none⟩)), (8, .slice A3639 ((l3583 ++ ([x3586] : List Int))).length c3640), (34, .slice (some ad3361) (p1.L).length c2455), (35, .int .i64 ((p1.L).length : Int)), (36, .int .i64 x2458), (42, .slice (some ad3619) (p1.L).length c2447), (43, .int .i64 ((p1.L).length : Int)), (44, .int .i64 (IntKind.wrap .i64 (x3586 + 1)))]) rfl trivial fun a hk => ?_
          refine wpListIn_nil ?_
          refine then_n ?_
          exact ⟨k3614, Nat.le_refl _, o3636, A3639, c3640, (l3583 ++ ([x3586] : List Int)), (IntKind.wrap .i64 (x3586 + 1)), (by exact Kn.pick (ks := [0, 3, 5, 6, 7, 8, 34, 35, 36, 42, 43, 44]) hk rfl), hs, f2448, f2452, f2456, f3366, f3641, f5, f900000, f900019, hc3642, (hlp3616 ▸ H)⟩
  refine x_seq ?_
  refine xd_begin (o := o12) (fun W_ => (Bx bx4 47 [.int .i64 p1.Most, .int .i64 p1.Lost, .slice Ap1_0 (p1.L).length cp1_0]) W_ ∧ True) mixed rfl rfl fun w3679 st3680 => ?_
  replace f16 := f16.st st3680 (by decide)
  replace f5 := f5.st st3680 (by decide)
  replace f900000 := f900000.st st3680 (by decide)
  replace f900019 := f900019.st st3680 (by decide)
  replace f900020 := f900020.st st3680 (by decide)
  replace hs := hs.loc0 st3680 (by decide)
  refine xd_take tab hk (k := 13) (is := [0, 1, 2, 3, 4, 5, 6]) (ls' := #[true, true, true, true, true, true, true, false, false, false, false, false, false, false, false, false, false, false, false, false]) (lv := [.slice Ap1_0 (p1.L).length cp1_0]) (ks := [0, 3, 5, 19]) (e' := [(0, .pointer (some ⟨bp0, 0, none⟩)), (3, .pointer (some ⟨bx4, 0, none⟩)), (5, .slice A14 (t9).length c15), (19, .bool (((t9).length : Int) != ((p1.L).length : Int)))]) (by kernel_rfl) rfl rfl (by kernel_rfl) (np_then (np_then np_body)) ⟨f5.now, trivial⟩ (fun W_ hS => ⟨(load1 tab rfl ((Bx.cell hS.1 2).trans rfl)), trivial⟩) fun a hk => ?_
  cases b3681 : (((t9).length : Int) != ((p1.L).length : Int))
  · rw [b3681] at hk H
    replace H := bifF H
    refine xd_take tab hk (k := 10) (is := [7, 9, 10]) (ls' := #[true, true, true, true, true, true, true, true, false, true, true, false, false, false, false, false, false, false, false, false]) (lv := []) (ks := [0, 3, 5, 19, 20, 23]) (e' := [(0, .pointer (some ⟨bp0, 0, none⟩)), (3, .pointer (some ⟨bx4, 0, none⟩)), (5, .slice A14 (t9).length c15), (19, .bool false), (20, .pointer (some ⟨bp0, 0, none⟩)), (23, .int .i64 ((t9).length : Int))]) (by kernel_rfl) rfl rfl (by kernel_rfl) (np_then (np_then np_body)) ⟨f5.now, trivial⟩ (fun W_ hS => trivial) fun a hk => ?_
    refine xd_op hk (i := 8) (by kernel_rfl) rfl rfl ?_
    obtain ⟨t3685, hc3686, H⟩ := bindS H
    refine op_call hk ent_13 (vs := [.pointer (some ⟨bp0, 0, none⟩)]) rfl (net_Net_Len_calls bp0 Ap0_0 cp0_0 p0 _ o12 0 f900019 _ f900000 hcp0_0   _ hc3686) ?_
    rintro _ w3687 ⟨o3688, rfl, st3689⟩
    replace f16 := f16.st st3689 (by decide)
    replace f5 := f5.st st3689 (by decide)
    replace f900000 := f900000.st st3689 (by decide)
    replace f900019 := f900019.st st3689 (by decide)
    replace f900020 := f900020.st st3689 (by decide)
    replace hs := hs.loc0 st3689 (by decide)
    have hk := hk.put 21 (.int .i64 t3685) rfl
    refine ⟨.inr ⟨f5.now, trivial⟩, ?_⟩
    refine xd_take tab hk (k := 6) (is := [11, 12, 13]) (ls' := #[true, true, true, true, true, true, true, true, true, true, true, true, true, true, false, false, false, false, false, false]) (lv := []) (ks := [0, 3, 5, 26]) (e' := [(0, .pointer (some ⟨bp0, 0, none⟩)), (3, .pointer (some ⟨bx4, 0, none⟩)), (5, .slice A14 (t9).length c15), (26, .bool (t3685 != ((t9).length : Int)))]) (by kernel_rfl) rfl rfl (by kernel_rfl) (np_then (np_then np_body)) ⟨f5.now, trivial⟩ (fun W_ hS => trivial) fun a hk => ?_
    cases b3690 : (t3685 != ((t9).length : Int))
    · rw [b3690] at hk H
      replace H := bifF H
      refine xd_take tab hk (k := 3) (is := [14, 16, 17]) (ls' := #[true, true, true, true, true, true, true, true, true, true, true, true, true, true, true, false, true, true, false, false]) (lv := [.int .i64 p1.Lost]) (ks := [0, 3, 5, 26, 27, 30]) (e' := [(0, .pointer (some ⟨bp0, 0, none⟩)), (3, .pointer (some ⟨bx4, 0, none⟩)), (5, .slice A14 (t9).length c15), (26, .bool false), (27, .pointer (some ⟨bp0, 0, none⟩)), (30, .int .i64 p1.Lost)]) (by kernel_rfl) rfl rfl (by kernel_rfl) (np_then (np_then np_body)) ⟨f5.now, trivial⟩ (fun W_ hS => ⟨(load1 tab rfl ((Bx.cell hS.1 1).trans rfl)), trivial⟩) fun a hk => ?_
      refine xd_op hk (i := 15) (by kernel_rfl) rfl rfl ?_
      obtain ⟨t3694, hc3695, H⟩ := bindS H
      refine op_call hk ent_14 (vs := [.pointer (some ⟨bp0, 0, none⟩)]) rfl (net_Net_Lost_calls bp0 Ap0_0 cp0_0 p0 _ o3688 0 f900019 _ f900000 hcp0_0   _ hc3695) ?_
      rintro _ w3696 ⟨o3697, rfl, st3698⟩
      replace f16 := f16.st st3698 (by decide)
      replace f5 := f5.st st3698 (by decide)
      replace f900000 := f900000.st st3698 (by decide)
      replace f900019 := f900019.st st3698 (by decide)
      replace f900020 := f900020.st st3698 (by decide)
      replace hs := hs.loc0 st3698 (by decide)
      have hk := hk.put 28 (.int .i64 t3694) rfl
      refine ⟨.inr ⟨f5.now, trivial⟩, ?_⟩
      refine xd_take tab hk (k := 0) (is := [18, 19]) (ls' := #[true, true, true, true, true, true, true, true, true, true, true, true, true, true, true, true, true, true, true, true]) (lv := []) (ks := [0, 3, 5, 32]) (e' := [(0, .pointer (some ⟨bp0, 0, none⟩)), (3, .pointer (some ⟨bx4, 0, none⟩)), (5, .slice A14 (t9).length c15), (32, .bool (t3694 != p1.Lost))]) (by kernel_rfl) rfl rfl (by kernel_rfl) (np_then (np_then np_body)) ⟨f5.now, trivial⟩ (fun W_ hS => trivial) fun a hk => ?_
      refine xd_done (by kernel_rfl) ?_
      refine then_n ?_
      cases b3699 : (t3694 != p1.Lost)
      · rw [b3699] at hk H
        replace H := bifF H
        refine x_if hk (b := false) rfl ?_
        refine (show Code.wpIn _ _ _ _ _ _ _ from ?_)
        refine wpIn_skip ?_
        refine then_n ?_
        exact ⟨(fun b_ => (fun l_ => if l_ = 1 then 3 else if l_ = 2 then 4 else l_) (o3697 b_)), (by exact Kn.pick (ks := [0, 3, 5]) hk rfl), (hs.relab0 (fun l_ => if l_ = 1 then 3 else if l_ = 2 then 4 else l_) rfl), (f16.relab (fun l_ => if l_ = 1 then 3 else if l_ = 2 then 4 else l_) rfl), (f5.relab (fun l_ => if l_ = 1 then 3 else if l_ = 2 then 4 else l_) rfl), (f900000.relab (fun l_ => if l_ = 1 then 3 else if l_ = 2 then 4 else l_) rfl), (f900019.relab (fun l_ => if l_ = 1 then 3 else if l_ = 2 then 4 else l_) rfl), (f900020.relab (fun l_ => if l_ = 1 then 3 else if l_ = 2 then 4 else l_) rfl), H⟩
      · rw [b3699] at hk H
        replace H := bifT H
        refine x_if hk (b := true) rfl ?_
        refine (show Code.wpIn _ _ _ _ _ _ _ from ?_)
        refine x_seq ?_
        refine wpIn_region_lit ?_
        refine x_run tab hk (k := 1) (lv := []) (ks := [4]) (e' := [(4, .bool false)]) rfl trivial fun a hk => ?_
        refine wpListIn_nil ?_
        refine then_n ?_
        refine wpIn_ret ?_
        refine then_r ?_
        obtain rfl := Option.some.inj H
        exact x_retG hk (rs := [.tmp 4]) (vs := [.bool false]) rfl ⟨rfl, trivial⟩ ⟨fun b_ => if b_ < w.heap.size then o b_ else (fun _ => 0) (o3697 b_), rfl, hs.close0 o (fun _ => 0)⟩
    · rw [b3690] at hk H
      replace H := bifT H
      refine xd_take tab hk (k := 0) (is := [14, 15, 16, 17, 18, 19]) (ls' := #[true, true, true, true, true, true, true, true, true, true, true, true, true, true, true, true, true, true, true, true]) (lv := []) (ks := [0, 3, 5, 32]) (e' := [(0, .pointer (some ⟨bp0, 0, none⟩)), (3, .pointer (some ⟨bx4, 0, none⟩)), (5, .slice A14 (t9).length c15), (32, .bool true)]) (by kernel_rfl) rfl rfl (by kernel_rfl) (np_then (np_then np_body)) ⟨f5.now, trivial⟩ (fun W_ hS => trivial) fun a hk => ?_
      refine xd_done (by kernel_rfl) ?_
      refine then_n ?_
      refine x_if hk (b := true) rfl ?_
      refine (show Code.wpIn _ _ _ _ _ _ _ from ?_)
      refine x_seq ?_
      refine wpIn_region_lit ?_
      refine x_run tab hk (k := 1) (lv := []) (ks := [4]) (e' := [(4, .bool false)]) rfl trivial fun a hk => ?_
      refine wpListIn_nil ?_
      refine then_n ?_
      refine wpIn_ret ?_
      refine then_r ?_
      obtain rfl := Option.some.inj H
      exact x_retG hk (rs := [.tmp 4]) (vs := [.bool false]) rfl ⟨rfl, trivial⟩ ⟨fun b_ => if b_ < w.heap.size then o b_ else (fun _ => 0) (o3688 b_), rfl, hs.close0 o (fun _ => 0)⟩
  · rw [b3681] at hk H
    replace H := bifT H
    refine xd_take tab hk (k := 0) (is := [7, 8, 9, 10, 11, 12, 13, 14, 15, 16, 17, 18, 19]) (ls' := #[true, true, true, true, true, true, true, true, true, true, true, true, true, true, true, true, true, true, true, true]) (lv := []) (ks := [0, 3, 5, 32]) (e' := [(0, .pointer (some ⟨bp0, 0, none⟩)), (3, .pointer (some ⟨bx4, 0, none⟩)), (5, .slice A14 (t9).length c15), (32, .bool true)]) (by kernel_rfl) rfl rfl (by kernel_rfl) (np_then (np_then np_body)) ⟨f5.now, trivial⟩ (fun W_ hS => trivial) fun a hk => ?_
    refine xd_done (by kernel_rfl) ?_
    refine then_n ?_
    refine x_if hk (b := true) rfl ?_
    refine (show Code.wpIn _ _ _ _ _ _ _ from ?_)
    refine x_seq ?_
    refine wpIn_region_lit ?_
    refine x_run tab hk (k := 1) (lv := []) (ks := [4]) (e' := [(4, .bool false)]) rfl trivial fun a hk => ?_
    refine wpListIn_nil ?_
    refine then_n ?_
    refine wpIn_ret ?_
    refine then_r ?_
    obtain rfl := Option.some.inj H
    exact x_retG hk (rs := [.tmp 4]) (vs := [.bool false]) rfl ⟨rfl, trivial⟩ ⟨fun b_ => if b_ < w.heap.size then o b_ else (fun _ => 0) (o12 b_), rfl, hs.close0 o (fun _ => 0)⟩

/-! (*tidewrack/net.Net).Clone -/
theorem net_Net_Clone_calls (bp0 : Nat) (Ap0_0 : Option Addr) (cp0_0 : Nat) (p0 : T55) (w : World) (o : Nat → Nat) (Lp0 : Nat) (hp0 : Ft (Bx bp0 56 [.int .i64 p0.most, .int .i64 p0.lost, .slice Ap0_0 (p0.l).length cp0_0]) w o Lp0) (Lp0_0 : Nat) (hp0_0 : Ft (RdC ET28 Ap0_0 p0.l) w o Lp0_0) (hcp0_0 : (p0.l).length ≤ cp0_0)  (R0 : Nat) (R1 : Nat) (r : T55) (H : net_Net_Clone p0 = some r) :
    Calls Try.prog 21 #[.pointer (some ⟨bp0, 0, none⟩)] w (Ret fun v_ w' => ∃ o' : Nat → Nat, ∃ b0 : Nat, ∃ A0 : Option Addr, ∃ c0 : Nat, v_ = .pointer (some ⟨b0, 0, none⟩) ∧ St [] w o w' o' ∧ Ft (Bx b0 56 [.int .i64 r.most, .int .i64 r.lost, .slice A0 (r.l).length c0]) w' o' R0 ∧ Ft (Own ET28 29 (.slice A0 (r.l).length c0) (r.l)) w' o' R1 ∧ (r.l).length ≤ c0) := by
  refine x_enter (vs := [.pointer (some ⟨bp0, 0, none⟩)]) Try.func21 rfl rfl rfl fun a hk => ?_
  obtain ⟨o0, hs, h0⟩ := St.start w o
  have f900000 := h0 _ _ hp0_0
  have f900019 := h0 _ _ hp0
  clear h0
  rw [net_Net_Clone] at H
  refine x_seq ?_
  refine wpIn_region_lit ?_
  refine x_run tab hk (k := 1) (lv := []) (ks := [0]) (e' := [(0, .pointer (some ⟨bp0, 0, none⟩))]) rfl trivial fun a hk => ?_
  refine wpListIn_nil ?_
  refine then_n ?_
  refine x_seq ?_
  refine xd_begin (o := o0) (fun W_ => (Bx bp0 56 [.int .i64 p0.most, .int .i64 p0.lost, .slice Ap0_0 (p0.l).length cp0_0]) W_ ∧ True) mixed rfl rfl fun w35 st36 => ?_
  replace f900000 := f900000.st st36 (by decide)
  replace f900019 := f900019.st st36 (by decide)
  replace hs := hs.loc0 st36 (by decide)
  refine xd_take tab hk (k := 4) (is := [0, 1, 2, 3, 4, 5, 6, 7, 8, 9, 10, 11]) (ls' := #[true, true, true, true, true, true, true, true, true, true, true, true, false, false, false, false]) (lv := [.int .i64 p0.most, .int .i64 p0.lost, .slice Ap0_0 (p0.l).length cp0_0]) (ks := [6, 10, 14]) (e' := [(6, .int .i64 p0.most), (10, .int .i64 p0.lost), (14, .slice Ap0_0 (p0.l).length cp0_0)]) (by kernel_rfl) rfl rfl (by kernel_rfl) (np_then np_body) ⟨f900019.now, trivial⟩ (fun W_ hS => ⟨(load1 tab rfl ((Bx.cell hS.1 0).trans rfl)), (load1 tab rfl ((Bx.cell hS.1 1).trans rfl)), (load1 tab rfl ((Bx.cell hS.1 2).trans rfl)), trivial⟩) fun a hk => ?_
  refine xd_op hk (i := 12) (by kernel_rfl) rfl rfl ?_
  obtain ⟨t40, hc41, H⟩ := bindS H
  refine op_call hk ent_33 (vs := [.slice Ap0_0 (p0.l).length cp0_0]) rfl (net_Gram'_calls Ap0_0 cp0_0 p0.l _ o0 _ f900000 hcp0_0 5  _ hc41) ?_
  rintro _ w42 ⟨o43, A45, c46, rfl, st44, f47, hc48⟩
  replace f900000 := f900000.st st44 (by decide)
  replace f900019 := f900019.st st44 (by decide)
  replace hs := hs.loc0 st44 (by decide)
  have hk := hk.put 15 (.slice A45 (t40).length c46) rfl
  refine ⟨.inr ⟨f900019.now, trivial⟩, ?_⟩
  refine xd_take tab hk (k := 2) (is := [13]) (ls' := #[true, true, true, true, true, true, true, true, true, true, true, true, true, true, false, false]) (lv := []) (ks := [16]) (e' := [(16, .agg #[.int .i64 p0.most, .int .i64 p0.lost, .slice A45 (t40).length c46])]) (by kernel_rfl) rfl rfl (by kernel_rfl) (np_then np_body) ⟨f900019.now, trivial⟩ (fun W_ hS => trivial) fun a hk => ?_
  refine xd_op hk (i := 14) (by kernel_rfl) rfl rfl ?_
  refine op_box (o := o43) (t := 56) (v := .agg #[.int .i64 p0.most, .int .i64 p0.lost, .slice A45 (t40).length c46]) (cs := [.int .i64 p0.most, .int .i64 p0.lost, .slice A45 (t40).length c46]) hk rfl rfl 6 fun bx52 w49 o50 st51 f53 => ?_
  replace f47 := f47.st st51 (by decide)
  replace f900000 := f900000.st st51 (by decide)
  replace f900019 := f900019.st st51 (by decide)
  replace hs := hs.loc0 st51 (by decide)
  have hk := hk.put 17 (.pointer (some ⟨bx52, 0, none⟩)) rfl
  refine ⟨.inr ⟨f900019.now, trivial⟩, ?_⟩
  refine xd_take tab hk (k := 0) (is := [15]) (ls' := #[true, true, true, true, true, true, true, true, true, true, true, true, true, true, true, true]) (lv := []) (ks := [2]) (e' := [(2, .pointer (some ⟨bx52, 0, none⟩))]) (by kernel_rfl) rfl rfl (by kernel_rfl) (np_then np_body) ⟨f900019.now, trivial⟩ (fun W_ hS => trivial) fun a hk => ?_
  refine xd_done (by kernel_rfl) ?_
  refine then_n ?_
  refine wpIn_ret ?_
  obtain rfl := Option.some.inj H
  exact x_retG hk (rs := [.tmp 2]) (vs := [.pointer (some ⟨bx52, 0, none⟩)]) rfl ⟨rfl, trivial⟩ ⟨fun b_ => if b_ < w.heap.size then o b_ else (fun l_ => if l_ = 5 then R1 else if l_ = 6 then R0 else 0) (o50 b_), bx52, A45, c46, rfl, hs.close0 o (fun l_ => if l_ = 5 then R1 else if l_ = 6 then R0 else 0), hs.close_ft (o := o) (ρ := fun l_ => if l_ = 5 then R1 else if l_ = 6 then R0 else 0) f53 (by decide) rfl, hs.close_ft (o := o) (ρ := fun l_ => if l_ = 5 then R1 else if l_ = 6 then R0 else 0) f47 (by decide) rfl, hc48⟩

/-! tidewrack/tidewracklaw25.NetPlays -/
set_option maxHeartbeats 4000000 in
theorem tidewracklaw25_NetPlays_calls (K : Nat) (p0 : Int) (Ap1 : Option Addr) (cp1 : Nat) (p1 : List T40) (Ap2 : Option Addr) (cp2 : Nat) (p2 : List T40) (w : World) (o : Nat → Nat) (Lp1 : Nat) (hp1 : Ft (RdC ET40 Ap1 p1) w o Lp1) (hcp1 : (p1).length ≤ cp1) (Lp2 : Nat) (hp2 : Ft (RdC ET40 Ap2 p2) w o Lp2) (hcp2 : (p2).length ≤ cp2)  (r : Bool) (H : tidewracklaw25_NetPlays K p0 p1 p2 = some r) :
    Calls Try.prog 5 #[.int .i64 p0, .slice Ap1 (p1).length cp1, .slice Ap2 (p2).length cp2] w (Ret fun v_ w' => ∃ o' : Nat → Nat, v_ = .bool r ∧ St [] w o w' o') := by
  refine x_enter (vs := [.int .i64 p0, .slice Ap1 (p1).length cp1, .slice Ap2 (p2).length cp2]) Try.func5 rfl rfl rfl fun a hk => ?_
  obtain ⟨o0, hs, h0⟩ := St.start w o
  have f900020 := h0 _ _ hp1
  have f900040 := h0 _ _ hp2
  clear h0
  rw [tidewracklaw25_NetPlays] at H
  refine x_seq ?_
  refine wpIn_region_lit ?_
  refine x_run tab hk (k := 1) (lv := []) (ks := [0, 1, 2]) (e' := [(0, .int .i64 p0), (1, .slice Ap1 (p1).length cp1), (2, .slice Ap2 (p2).length cp2)]) rfl trivial fun a hk => ?_
  refine wpListIn_nil ?_
  refine then_n ?_
  refine x_seq ?_
  refine x_seq ?_
  refine wpIn_region_lit ?_
  refine x_op hk rfl ?_
  obtain ⟨t4, hc5, H⟩ := bindS H
  refine op_call hk ent_6 (vs := []) rfl (tidewracklaw25_awake_calls K  _ o0    _ hc5) ?_
  rintro _ w6 ⟨o7, rfl, st8⟩
  replace f900020 := f900020.st st8 (by decide)
  replace f900040 := f900040.st st8 (by decide)
  replace hs := hs.loc0 st8 (by decide)
  have hk := hk.put 14 (.bool t4) rfl
  refine x_run tab hk (k := 1) (lv := []) (ks := [0, 1, 2, 15]) (e' := [(0, .int .i64 p0), (1, .slice Ap1 (p1).length cp1), (2, .slice Ap2 (p2).length cp2), (15, .bool (!t4))]) rfl trivial fun a hk => ?_
  refine wpListIn_nil ?_
  refine then_n ?_
  cases b9 : (!t4)
  · rw [b9] at hk H
    replace H := bifF H
    refine x_if hk (b := false) rfl ?_
    refine (show Code.wpIn _ _ _ _ _ _ _ from ?_)
    refine wpIn_skip ?_
    refine then_n ?_
    refine x_seq ?_
    refine wpIn_region_lit ?_
    refine x_run tab hk (k := 1) (lv := []) (ks := [0, 1, 2, 16]) (e' := [(0, .int .i64 p0), (1, .slice Ap1 (p1).length cp1), (2, .slice Ap2 (p2).length cp2), (16, .int .i64 p0)]) rfl trivial fun a hk => ?_
    refine x_op hk rfl ?_
    obtain ⟨t13, hc14, H⟩ := bindS H
    refine op_call hk ent_7 (vs := [.int .i64 p0]) rfl (net_New_calls p0 _ o7  1 2  _ hc14) ?_
    rintro _ w15 ⟨o16, bx18, A20, c21, rfl, st17, f19, f22, hc23⟩
    replace f900020 := f900020.st st17 (by decide)
    replace f900040 := f900040.st st17 (by decide)
    replace hs := hs.loc0 st17 (by decide)
    have hk := hk.put 17 (.pointer (some ⟨bx18, 0, none⟩)) rfl
    refine x_run tab hk (k := 1) (lv := []) (ks := [0, 1, 2, 17, 18]) (e' := [(0, .int .i64 p0), (1, .slice Ap1 (p1).length cp1), (2, .slice Ap2 (p2).length cp2), (17, .pointer (some ⟨bx18, 0, none⟩)), (18, .int .i64 p0)]) rfl trivial fun a hk => ?_
    refine x_op hk rfl ?_
    obtain ⟨t27, hc28, H⟩ := bindS H
    refine op_call hk ent_18 (vs := [.int .i64 p0]) rfl (tidewrackref25_New_calls p0 _ o16  3  _ hc28) ?_
    rintro _ w29 ⟨o30, A32, c33, rfl, st31, f34, hc35⟩
    replace f19 := f19.st st31 (by decide)
    replace f22 := f22.st st31 (by decide)
    replace f900020 := f900020.st st31 (by decide)
    replace f900040 := f900040.st st31 (by decide)
    replace hs := hs.loc0 st31 (by decide)
    have hk := hk.put 19 (.agg #[.int .i64 t27.Most, .int .i64 t27.Lost, .slice A32 (t27.L).length c33]) rfl
    refine x_op hk rfl ?_
    refine op_alloc (o := o30) tab (t := 47) (cs := [.int .i64 0, .int .i64 0, .slice none 0 0]) rfl rfl 4 fun bx39 w36 o37 st38 f40 => ?_
    replace f19 := f19.st st38 (by decide)
    replace f22 := f22.st st38 (by decide)
    replace f34 := f34.st st38 (by decide)
    replace f900020 := f900020.st st38 (by decide)
    replace f900040 := f900040.st st38 (by decide)
    replace hs := hs.loc0 st38 (by decide)
    have hk := hk.put 8 (.pointer (some ⟨bx39, 0, none⟩)) rfl
    refine x_run tab hk (k := 1) (lv := []) (ks := [0, 1, 2, 7, 8, 19]) (e' := [(0, .int .i64 p0), (1, .slice Ap1 (p1).length cp1), (2, .slice Ap2 (p2).length cp2), (7, .pointer (some ⟨bx18, 0, none⟩)), (8, .pointer (some ⟨bx39, 0, none⟩)), (19, .agg #[.int .i64 t27.Most, .int .i64 t27.Lost, .slice A32 (t27.L).length c33])]) rfl trivial fun a hk => ?_
    refine x_op hk rfl ?_
    refine op_store tab hk (t := 47) (v := .agg #[.int .i64 t27.Most, .int .i64 t27.Lost, .slice A32 (t27.L).length c33]) (b := bx39) (k := 0) (cs' := [.int .i64 t27.Most, .int .i64 t27.Lost, .slice A32 (t27.L).length c33]) rfl rfl rfl rfl rfl rfl f40 rfl rfl fun w41 o42 st43 f40_ => ?_
    replace f19 := f19.st st43 (by decide)
    replace f22 := f22.st st43 (by decide)
    replace f34 := f34.st st43 (by decide)
    replace f900020 := f900020.st st43 (by decide)
    replace f900040 := f900040.st st43 (by decide)
    replace hs := hs.loc0 st43 (by decide)
    replace f40 := f40_
    refine wpListIn_nil ?_
    refine then_n ?_
    refine x_seq ?_
    refine x_seq ?_
    refine wpIn_region_lit ?_
    refine x_run tab hk (k := 2) (lv := []) (ks := [0, 1, 2, 7, 8, 21]) (e' := [(0, .int .i64 p0), (1, .slice Ap1 (p1).length cp1), (2, .slice Ap2 (p2).length cp2), (7, .pointer (some ⟨bx18, 0, none⟩)), (8, .pointer (some ⟨bx39, 0, none⟩)), (21, .bool false)]) rfl trivial fun a hk => ?_
    refine wpListIn_nil ?_
    refine then_n ?_
    refine x_if hk (b := false) rfl ?_
    refine (show Code.wpIn _ _ _ _ _ _ _ from ?_)
    refine wpIn_skip ?_
    refine then_n ?_
    refine x_seq ?_
    refine wpIn_region_lit ?_
    refine x_run tab hk (k := 1) (lv := []) (ks := [0, 1, 2, 7, 8]) (e' := [(0, .int .i64 p0), (1, .slice Ap1 (p1).length cp1), (2, .slice Ap2 (p2).length cp2), (7, .pointer (some ⟨bx18, 0, none⟩)), (8, .pointer (some ⟨bx39, 0, none⟩))]) rfl trivial fun a hk => ?_
    refine wpListIn_nil ?_
    refine then_n ?_
    refine x_mid (fun a_ w_ => ∃ o374 : Nat → Nat, ∃ x375 : Int, ∃ x376 : Int, ∃ A377 : Option Addr, ∃ c378 : Nat, ∃ l379 : List T28, ∃ x382 : Int, ∃ x383 : Int, ∃ A384 : Option Addr, ∃ c385 : Nat, ∃ l386 : List T28, Kn 93 a_ [(2, .slice Ap2 (p2).length cp2), (7, .pointer (some ⟨bx18, 0, none⟩)), (8, .pointer (some ⟨bx39, 0, none⟩))] ∧ St [] w (fun _ => 0) w_ o374 ∧ Ft (Bx bx18 56 [.int .i64 x375, .int .i64 x376, .slice A377 (l379).length c378]) w_ o374 26 ∧ Ft (Own ET28 29 (.slice A377 (l379).length c378) l379) w_ o374 25 ∧ Ft (RdC ET28 A384 l386) w_ o374 27 ∧ Ft (Bx bx39 47 [.int .i64 x382, .int .i64 x383, .slice A384 (l386).length c385]) w_ o374 28 ∧ Ft (RdC ET40 Ap2 p2) w_ o374 0 ∧ (l379).length ≤ c378 ∧ (l386).length ≤ c385 ∧ tidewracklaw25_NetPlays_j1 K p2 x375 x376 l379 x382 x383 l386 = some r) ?_ ?_
    rotate_left
    · rintro a w389 ⟨o374, x375, x376, A377, c378, l379, x382, x383, A384, c385, l386, hk, hs, f19, f380, f387, f40, f900040, hc381, hc388, H⟩
      rw [tidewracklaw25_NetPlays_j1] at H
      refine x_seq ?_
      refine x_cut (fun a_ w_ => ∃ o580 : Nat → Nat, ∃ bx581 : Nat, ∃ x583 : Int, ∃ x584 : Int, ∃ A585 : Option Addr, ∃ c586 : Nat, ∃ l587 : List T28, ∃ bx590 : Nat, Kn 93 a_ [(2, .slice Ap2 (p2).length cp2), (7, .pointer (some ⟨bx18, 0, none⟩)), (8, .pointer (some ⟨bx39, 0, none⟩)), (11, .pointer (some ⟨bx581, 0, none⟩)), (12, .pointer (some ⟨bx590, 0, none⟩))] ∧ St [] w (fun _ => 0) w_ o580 ∧ Ft (Bx bx18 56 [.int .i64 x375, .int .i64 x376, .slice A377 (l379).length c378]) w_ o580 62 ∧ Ft (Own ET28 29 (.slice A377 (l379).length c378) l379) w_ o580 61 ∧ Ft (RdC ET28 A384 l386) w_ o580 63 ∧ Ft (Bx bx39 47 [.int .i64 x382, .int .i64 x383, .slice A384 (l386).length c385]) w_ o580 64 ∧ Ft (Bx bx581 56 [.int .i64 x583, .int .i64 x584, .slice A585 (l587).length c586]) w_ o580 66 ∧ Ft (Own ET28 29 (.slice A585 (l587).length c586) l587) w_ o580 65 ∧ Ft (Bx bx590 47 [.int .i64 x382, .int .i64 x383, .slice A384 (l386).length c385]) w_ o580 67 ∧ Ft (RdC ET40 Ap2 p2) w_ o580 0 ∧ (l587).length ≤ c586 ∧ tidewracklaw25_NetPlays_j2 K p2 x375 x376 l379 x382 x383 l386 x583 x584 l587 = some r) ?_ ?_
      rotate_left
      · rintro a w592 ⟨o580, bx581, x583, x584, A585, c586, l587, bx590, hk, hs, f19, f380, f387, f40, f582, f588, f591, f900040, hc589, H⟩
        rw [tidewracklaw25_NetPlays_j2] at H
        refine then_n ?_
        refine x_seq ?_
        refine x_seq ?_
        refine wpIn_region_lit ?_
        refine x_run tab hk (k := 2) (lv := []) (ks := [2, 7, 8, 11, 12, 62]) (e' := [(2, .slice Ap2 (p2).length cp2), (7, .pointer (some ⟨bx18, 0, none⟩)), (8, .pointer (some ⟨bx39, 0, none⟩)), (11, .pointer (some ⟨bx581, 0, none⟩)), (12, .pointer (some ⟨bx590, 0, none⟩)), (62, .bool false)]) rfl trivial fun a hk => ?_
        refine wpListIn_nil ?_
        refine then_n ?_
        refine x_if hk (b := false) rfl ?_
        refine (show Code.wpIn _ _ _ _ _ _ _ from ?_)
        refine wpIn_skip ?_
        refine then_n ?_
        refine x_mid (fun a_ w_ => ∃ o870 : Nat → Nat, ∃ x871 : Int, ∃ x872 : Int, ∃ A873 : Option Addr, ∃ c874 : Nat, ∃ l875 : List T28, ∃ x878 : Int, ∃ x879 : Int, ∃ A880 : Option Addr, ∃ c881 : Nat, ∃ l882 : List T28, Kn 93 a_ [(7, .pointer (some ⟨bx18, 0, none⟩)), (8, .pointer (some ⟨bx39, 0, none⟩)), (11, .pointer (some ⟨bx581, 0, none⟩)), (12, .pointer (some ⟨bx590, 0, none⟩))] ∧ St [] w (fun _ => 0) w_ o870 ∧ Ft (Bx bx18 56 [.int .i64 x375, .int .i64 x376, .slice A377 (l379).length c378]) w_ o870 106 ∧ Ft (Own ET28 29 (.slice A377 (l379).length c378) l379) w_ o870 105 ∧ Ft (RdC ET28 A384 l386) w_ o870 107 ∧ Ft (Bx bx39 47 [.int .i64 x382, .int .i64 x383, .slice A384 (l386).length c385]) w_ o870 108 ∧ Ft (Bx bx581 56 [.int .i64 x871, .int .i64 x872, .slice A873 (l875).length c874]) w_ o870 110 ∧ Ft (Bx bx590 47 [.int .i64 x878, .int .i64 x879, .slice A880 (l882).length c881]) w_ o870 111 ∧ Ft (Own ET28 29 (.slice A873 (l875).length c874) l875) w_ o870 109 ∧ Ft (RdC ET28 A880 l882) w_ o870 107 ∧ (l875).length ≤ c874 ∧ (l882).length ≤ c881 ∧ tidewracklaw25_NetPlays_j3 K x375 x376 l379 x382 x383 l386 x871 x872 l875 x878 x879 l882 = some r) ?_ ?_
        rotate_left
        · rintro a w885 ⟨o870, x871, x872, A873, c874, l875, x878, x879, A880, c881, l882, hk, hs, f19, f380, f387, f40, f582, f591, f876, f883, hc877, hc884, H⟩
          rw [tidewracklaw25_NetPlays_j3] at H
          refine x_seq ?_
          refine wpIn_region_lit ?_
          refine x_run tab hk (k := 2) (lv := [.agg #[.int .i64 x382, .int .i64 x383, .slice A384 (l386).length c385]]) (ks := [11, 12, 85, 86]) (e' := [(11, .pointer (some ⟨bx581, 0, none⟩)), (12, .pointer (some ⟨bx590, 0, none⟩)), (85, .pointer (some ⟨bx18, 0, none⟩)), (86, .agg #[.int .i64 x382, .int .i64 x383, .slice A384 (l386).length c385])]) rfl ⟨(load_box tab rfl rfl f40.now (k := 0) rfl rfl), trivial⟩ fun a hk => ?_
          refine x_op hk rfl ?_
          obtain ⟨t889, hc890, H⟩ := bindS H
          refine op_call hk ent_20 (vs := [.pointer (some ⟨bx18, 0, none⟩), .agg #[.int .i64 x382, .int .i64 x383, .slice A384 (l386).length c385]]) rfl (tidewracklaw25_Is_calls K bx18 A377 c378 (⟨x375, x376, l379⟩ : T55) A384 c385 (⟨x382, x383, l386⟩ : T46) _ o870 106 f19 _ (f380.imp fun _ h_ => Own.rd h_) hc381 _ f387 hc388   _ hc890) ?_
          rintro _ w891 ⟨o892, rfl, st893⟩
          replace f19 := f19.st st893 (by decide)
          replace f380 := f380.st st893 (by decide)
          replace f387 := f387.st st893 (by decide)
          replace f582 := f582.st st893 (by decide)
          replace f591 := f591.st st893 (by decide)
          replace f876 := f876.st st893 (by decide)
          replace f883 := f883.st st893 (by decide)
          replace hs := hs.loc0 st893 (by decide)
          have hk := hk.put 87 (.bool t889) rfl
          refine x_run tab hk (k := 1) (lv := []) (ks := [11, 12, 88]) (e' := [(11, .pointer (some ⟨bx581, 0, none⟩)), (12, .pointer (some ⟨bx590, 0, none⟩)), (88, .bool t889)]) rfl trivial fun a hk => ?_
          cases b894 : t889
          · rw [b894] at hk H
            replace H := bifF H
            refine x_run tab hk (k := 5) (lv := []) (ks := [6]) (e' := [(6, .bool false)]) rfl trivial fun a hk => ?_
            refine wpListIn_nil ?_
            refine then_n ?_
            refine wpIn_ret ?_
            obtain rfl := Option.some.inj H
            exact x_retG hk (rs := [.tmp 6]) (vs := [.bool false]) rfl ⟨rfl, trivial⟩ ⟨fun b_ => if b_ < w.heap.size then o b_ else (fun _ => 0) (o892 b_), rfl, hs.close0 o (fun _ => 0)⟩
          · rw [b894] at hk H
            replace H := bifT H
            refine x_run tab hk (k := 2) (lv := [.agg #[.int .i64 x878, .int .i64 x879, .slice A880 (l882).length c881]]) (ks := [88, 89, 90]) (e' := [(88, .bool true), (89, .pointer (some ⟨bx581, 0, none⟩)), (90, .agg #[.int .i64 x878, .int .i64 x879, .slice A880 (l882).length c881])]) rfl ⟨(load_box tab rfl rfl f591.now (k := 0) rfl rfl), trivial⟩ fun a hk => ?_
            refine x_op hk rfl ?_
            obtain ⟨t898, hc899, H⟩ := bindS H
            refine op_call hk ent_20 (vs := [.pointer (some ⟨bx581, 0, none⟩), .agg #[.int .i64 x878, .int .i64 x879, .slice A880 (l882).length c881]]) rfl (tidewracklaw25_Is_calls K bx581 A873 c874 (⟨x871, x872, l875⟩ : T55) A880 c881 (⟨x878, x879, l882⟩ : T46) _ o892 110 f582 _ (f876.imp fun _ h_ => Own.rd h_) hc877 _ f883 hc884   _ hc899) ?_
            rintro _ w900 ⟨o901, rfl, st902⟩
            replace f582 := f582.st st902 (by decide)
            replace f876 := f876.st st902 (by decide)
            replace f883 := f883.st st902 (by decide)
            replace hs := hs.loc0 st902 (by decide)
            have hk := hk.put 91 (.bool t898) rfl
            refine x_run tab hk (k := 2) (lv := []) (ks := [6]) (e' := [(6, .bool t898)]) rfl trivial fun a hk => ?_
            refine wpListIn_nil ?_
            refine then_n ?_
            refine wpIn_ret ?_
            obtain rfl := Option.some.inj H
            exact x_retG hk (rs := [.tmp 6]) (vs := [.bool t898]) rfl ⟨rfl, trivial⟩ ⟨fun b_ => if b_ < w.heap.size then o b_ else (fun _ => 0) (o901 b_), rfl, hs.close0 o (fun _ => 0)⟩
        refine x_seq ?_
        refine wpIn_region_lit ?_
        refine x_run tab hk (k := 1) (lv := []) (ks := [2, 7, 8, 11, 12, 13]) (e' := [(2, .slice Ap2 (p2).length cp2), (7, .pointer (some ⟨bx18, 0, none⟩)), (8, .pointer (some ⟨bx39, 0, none⟩)), (11, .pointer (some ⟨bx581, 0, none⟩)), (12, .pointer (some ⟨bx590, 0, none⟩)), (13, .int .i64 0)]) rfl trivial fun a hk => ?_
        refine wpListIn_nil ?_
        refine then_n ?_
        refine wpIn_block ?_
        refine x_loop (fun j_ a_ w_ => ∃ o985 : Nat → Nat, ∃ x986 : Int, ∃ x987 : Int, ∃ A988 : Option Addr, ∃ c989 : Nat, ∃ l990 : List T28, ∃ x993 : Int, ∃ x994 : Int, ∃ A995 : Option Addr, ∃ c996 : Nat, ∃ l997 : List T28, ∃ x1000 : Int, Kn 93 a_ [(2, .slice Ap2 (p2).length cp2), (7, .pointer (some ⟨bx18, 0, none⟩)), (8, .pointer (some ⟨bx39, 0, none⟩)), (11, .pointer (some ⟨bx581, 0, none⟩)), (12, .pointer (some ⟨bx590, 0, none⟩)), (13, .int .i64 x1000)] ∧ St [] w (fun _ => 0) w_ o985 ∧ Ft (Bx bx18 56 [.int .i64 x375, .int .i64 x376, .slice A377 (l379).length c378]) w_ o985 129 ∧ Ft (Own ET28 29 (.slice A377 (l379).length c378) l379) w_ o985 128 ∧ Ft (RdC ET28 A384 l386) w_ o985 130 ∧ Ft (Bx bx39 47 [.int .i64 x382, .int .i64 x383, .slice A384 (l386).length c385]) w_ o985 131 ∧ Ft (Bx bx581 56 [.int .i64 x986, .int .i64 x987, .slice A988 (l990).length c989]) w_ o985 133 ∧ Ft (Bx bx590 47 [.int .i64 x993, .int .i64 x994, .slice A995 (l997).length c996]) w_ o985 134 ∧ Ft (RdC ET40 Ap2 p2) w_ o985 0 ∧ Ft (Own ET28 29 (.slice A988 (l990).length c989) l990) w_ o985 132 ∧ Ft (RdC ET28 A995 l997) w_ o985 130 ∧ (l990).length ≤ c989 ∧ (l997).length ≤ c996 ∧ tidewracklaw25_NetPlays_l4 K p2 x375 x376 l379 x382 x383 l386 j_ x986 x987 l990 x993 x994 l997 x1000 = some r) (k := K) ⟨(fun b_ => (fun l_ => if l_ = 61 then 128 else if l_ = 62 then 129 else if l_ = 63 then 130 else if l_ = 64 then 131 else if l_ = 65 then 132 else if l_ = 66 then 133 else if l_ = 67 then 134 else l_) (o580 b_)), x583, x584, A585, c586, l587, x382, x383, A384, c385, l386, 0, (by exact Kn.pick (ks := [2, 7, 8, 11, 12, 13]) hk rfl), (hs.relab0 (fun l_ => if l_ = 61 then 128 else if l_ = 62 then 129 else if l_ = 63 then 130 else if l_ = 64 then 131 else if l_ = 65 then 132 else if l_ = 66 then 133 else if l_ = 67 then 134 else l_) rfl), (f19.relab (fun l_ => if l_ = 61 then 128 else if l_ = 62 then 129 else if l_ = 63 then 130 else if l_ = 64 then 131 else if l_ = 65 then 132 else if l_ = 66 then 133 else if l_ = 67 then 134 else l_) rfl), (f380.relab (fun l_ => if l_ = 61 then 128 else if l_ = 62 then 129 else if l_ = 63 then 130 else if l_ = 64 then 131 else if l_ = 65 then 132 else if l_ = 66 then 133 else if l_ = 67 then 134 else l_) rfl), (f387.relab (fun l_ => if l_ = 61 then 128 else if l_ = 62 then 129 else if l_ = 63 then 130 else if l_ = 64 then 131 else if l_ = 65 then 132 else if l_ = 66 then 133 else if l_ = 67 then 134 else l_) rfl), (f40.relab (fun l_ => if l_ = 61 then 128 else if l_ = 62 then 129 else if l_ = 63 then 130 else if l_ = 64 then 131 else if l_ = 65 then 132 else if l_ = 66 then 133 else if l_ = 67 then 134 else l_) rfl), (f582.relab (fun l_ => if l_ = 61 then 128 else if l_ = 62 then 129 else if l_ = 63 then 130 else if l_ = 64 then 131 else if l_ = 65 then 132 else if l_ = 66 then 133 else if l_ = 67 then 134 else l_) rfl), (f591.relab (fun l_ => if l_ = 61 then 128 else if l_ = 62 then 129 else if l_ = 63 then 130 else if l_ = 64 then 131 else if l_ = 65 then 132 else if l_ = 66 then 133 else if l_ = 67 then 134 else l_) rfl), (f900040.relab (fun l_ => if l_ = 61 then 128 else if l_ = 62 then 129 else if l_ = 63 then 130 else if l_ = 64 then 131 else if l_ = 65 then 132 else if l_ = 66 then 133 else if l_ = 67 then 134 else l_) rfl), (f588.relab (fun l_ => if l_ = 61 then 128 else if l_ = 62 then 129 else if l_ = 63 then 130 else if l_ = 64 then 131 else if l_ = 65 then 132 else if l_ = 66 then 133 else if l_ = 67 then 134 else l_) rfl), (f387.relab (fun l_ => if l_ = 61 then 128 else if l_ = 62 then 129 else if l_ = 63 then 130 else if l_ = 64 then 131 else if l_ = 65 then 132 else if l_ = 66 then 133 else if l_ = 67 then 134 else l_) rfl), hc589, hc388, H⟩ (by rintro _ _ ⟨_, _, _, _, _, _, _, _, _, _, _, _, _, _, _, _, _, _, _, _, _, _, _, _, _, H_⟩; exact absurd (show (none : Option Bool) = some r from H_) (by simp)) ?_
        rintro k1080 a w1079 ⟨o985, x986, x987, A988, c989, l990, x993, x994, A995, c996, l997, x1000, hk, hs, f19, f380, f387, f40, f582, f591, f900040, f991, f998, hc992, hc999, H⟩
        rw [tidewracklaw25_NetPlays_l4] at H
        obtain ⟨lp1081, hlp1082⟩ : ∃ lp_, lp_ = tidewracklaw25_NetPlays_l4 K p2 x375 x376 l379 x382 x383 l386 k1080 := ⟨_, rfl⟩
        rw [← hlp1082] at H
        refine x_mid (fun a_ w_ => ∃ o1088 : Nat → Nat, Kn 93 a_ [(2, .slice Ap2 (p2).length cp2), (7, .pointer (some ⟨bx18, 0, none⟩)), (8, .pointer (some ⟨bx39, 0, none⟩)), (11, .pointer (some ⟨bx581, 0, none⟩)), (12, .pointer (some ⟨bx590, 0, none⟩)), (13, .int .i64 x1000)] ∧ St [] w (fun _ => 0) w_ o1088 ∧ Ft (Bx bx18 56 [.int .i64 x375, .int .i64 x376, .slice A377 (l379).length c378]) w_ o1088 143 ∧ Ft (Own ET28 29 (.slice A377 (l379).length c378) l379) w_ o1088 142 ∧ Ft (RdC ET28 A384 l386) w_ o1088 144 ∧ Ft (Bx bx39 47 [.int .i64 x382, .int .i64 x383, .slice A384 (l386).length c385]) w_ o1088 145 ∧ Ft (Bx bx581 56 [.int .i64 x986, .int .i64 x987, .slice A988 (l990).length c989]) w_ o1088 147 ∧ Ft (Bx bx590 47 [.int .i64 x993, .int .i64 x994, .slice A995 (l997).length c996]) w_ o1088 148 ∧ Ft (RdC ET40 Ap2 p2) w_ o1088 0 ∧ Ft (Own ET28 29 (.slice A988 (l990).length c989) l990) w_ o1088 146 ∧ Ft (RdC ET28 A995 l997) w_ o1088 144 ∧ tidewracklaw25_NetPlays_j5 K p2 x986 x987 l990 x993 x994 l997 x1000 lp1081 = some r) ?_ ?_
        rotate_left
        · rintro a w1089 ⟨o1088, hk, hs, f19, f380, f387, f40, f582, f591, f900040, f991, f998, H⟩
          rw [tidewracklaw25_NetPlays_j5] at H
          refine x_seq ?_
          refine wpIn_block ?_
          refine x_seq ?_
          refine xd_begin (o := o1088) (fun W_ => (RdC ET40 Ap2 p2) W_ ∧ True) mixed rfl rfl fun w1134 st1135 => ?_
          replace f19 := f19.st st1135 (by decide)
          replace f380 := f380.st st1135 (by decide)
          replace f387 := f387.st st1135 (by decide)
          replace f40 := f40.st st1135 (by decide)
          replace f582 := f582.st st1135 (by decide)
          replace f591 := f591.st st1135 (by decide)
          replace f900040 := f900040.st st1135 (by decide)
          replace f991 := f991.st st1135 (by decide)
          replace f998 := f998.st st1135 (by decide)
          replace hs := hs.loc0 st1135 (by decide)
          obtain ⟨q1136, H⟩ := ifS H
          obtain ⟨ad1137, hAad1137⟩ := RdC.addr f900040.now q1136
          have hk_C := hk
          have f19_C := f19
          have f380_C := f380
          have f387_C := f387
          have f40_C := f40
          have f582_C := f582
          have f591_C := f591
          have f900040_C := f900040
          have f991_C := f991
          have f998_C := f998
          subst hAad1137
          have hk := hk_C
          clear hk_C
          have f19 := f19_C
          clear f19_C
          have f380 := f380_C
          clear f380_C
          have f387 := f387_C
          clear f387_C
          have f40 := f40_C
          clear f40_C
          have f582 := f582_C
          clear f582_C
          have f591 := f591_C
          clear f591_C
          have f900040 := f900040_C
          clear f900040_C
          have f991 := f991_C
          clear f991_C
          have f998 := f998_C
          clear f998_C
          refine xd_take tab hk (k := 7) (is := [0, 2, 3, 4, 5]) (ls' := #[true, false, true, true, true, true, false, false, false, false, false, false]) (lv := [.agg #[.int .i64 ((rdD zT40 p2 x1000).Kind), .int .i64 ((rdD zT40 p2 x1000).I), .int .i64 ((rdD zT40 p2 x1000).At), .int .u32 ((rdD zT40 p2 x1000).Mask), .int .i64 ((rdD zT40 p2 x1000).Gram_From), .int .i64 ((rdD zT40 p2 x1000).Gram_To), .string ((rdD zT40 p2 x1000).Gram_Data)]]) (ks := [2, 7, 8, 11, 12, 13, 74, 79]) (e' := [(2, .slice (some ad1137) (p2).length cp2), (7, .pointer (some ⟨bx18, 0, none⟩)), (8, .pointer (some ⟨bx39, 0, none⟩)), (11, .pointer (some ⟨bx581, 0, none⟩)), (12, .pointer (some ⟨bx590, 0, none⟩)), (13, .int .i64 x1000), (74, .pointer (some ⟨bx581, 0, none⟩)), (79, .agg #[.int .i64 ((rdD zT40 p2 x1000).Kind), .int .i64 ((rdD zT40 p2 x1000).I), .int .i64 ((rdD zT40 p2 x1000).At), .int .u32 ((rdD zT40 p2 x1000).Mask), .int .i64 ((rdD zT40 p2 x1000).Gram_From), .int .i64 ((rdD zT40 p2 x1000).Gram_To), .string ((rdD zT40 p2 x1000).Gram_Data)])]) (by kernel_rfl) rfl rfl (by kernel_rfl) (np_then (np_blk (np_then (np_then (np_blk (np_then np_body)))))) ⟨f900040.now, trivial⟩ (fun W_ hS => ⟨q1136, (load_elem (E := ET40) (i := x1000) (dx := zT40) tab rfl rfl hS.1 q1136), trivial⟩) fun a hk => ?_
          refine xd_op hk (i := 1) (by kernel_rfl) rfl rfl ?_
          refine op_quiet tab hk (lv := [.agg #[.int .i64 x993, .int .i64 x994, .slice A995 (l997).length c996]]) (v := .agg #[.int .i64 x993, .int .i64 x994, .slice A995 (l997).length c996]) rfl ⟨(load_box tab rfl rfl f591.now (k := 0) rfl rfl), trivial⟩ ?_
          have hk := hk.put 75 (.agg #[.int .i64 x993, .int .i64 x994, .slice A995 (l997).length c996]) rfl
          refine ⟨.inr ⟨f900040.now, trivial⟩, ?_⟩
          refine xd_op hk (i := 6) (by kernel_rfl) rfl rfl ?_
          obtain ⟨t1141, hc1142, H⟩ := bindS H
          refine op_call hk ent_19 (vs := [.pointer (some ⟨bx581, 0, none⟩), .agg #[.int .i64 x993, .int .i64 x994, .slice A995 (l997).length c996], .agg #[.int .i64 ((rdD zT40 p2 x1000).Kind), .int .i64 ((rdD zT40 p2 x1000).I), .int .i64 ((rdD zT40 p2 x1000).At), .int .u32 ((rdD zT40 p2 x1000).Mask), .int .i64 ((rdD zT40 p2 x1000).Gram_From), .int .i64 ((rdD zT40 p2 x1000).Gram_To), .string ((rdD zT40 p2 x1000).Gram_Data)]]) rfl (tidewracklaw25_do_calls K bx581 A988 c989 (⟨x986, x987, l990⟩ : T55) A995 c996 (⟨x993, x994, l997⟩ : T46) (rdD zT40 p2 x1000) _ o1088 147 f582 146 f991 hc992 144 f998 hc999 (by decide)   _ hc1142) ?_
          rintro _ w1143 ⟨o1144, A1146, c1147, A1151, c1152, rfl, st1145, f1148, hc1149, f1150, f1153, hc1154⟩
          replace f19 := f19.st st1145 (by decide)
          replace f380 := f380.st st1145 (by decide)
          replace f387 := f387.st st1145 (by decide)
          replace f40 := f40.st st1145 (by decide)
          replace f591 := f591.st st1145 (by decide)
          replace f900040 := f900040.st st1145 (by decide)
          replace f998 := f998.st st1145 (by decide)
          replace hs := hs.loc0 st1145 (by decide)
          have hk := hk.put 80 (.tuple #[.agg #[.int .i64 t1141.1.Most, .int .i64 t1141.1.Lost, .slice A1146 (t1141.1.L).length c1147], .bool t1141.2.1]) rfl
          refine ⟨.inr ⟨f900040.now, trivial⟩, ?_⟩
          refine xd_take tab hk (k := 2) (is := [7, 8, 9]) (ls' := #[true, true, true, true, true, true, true, true, true, true, false, false]) (lv := []) (ks := [2, 7, 8, 11, 12, 13, 81, 82]) (e' := [(2, .slice (some ad1137) (p2).length cp2), (7, .pointer (some ⟨bx18, 0, none⟩)), (8, .pointer (some ⟨bx39, 0, none⟩)), (11, .pointer (some ⟨bx581, 0, none⟩)), (12, .pointer (some ⟨bx590, 0, none⟩)), (13, .int .i64 x1000), (81, .agg #[.int .i64 t1141.1.Most, .int .i64 t1141.1.Lost, .slice A1146 (t1141.1.L).length c1147]), (82, .bool t1141.2.1)]) (by kernel_rfl) rfl rfl (by kernel_rfl) (np_then (np_blk (np_then (np_then (np_blk (np_then np_body)))))) ⟨f900040.now, trivial⟩ (fun W_ hS => trivial) fun a hk => ?_
          refine xd_op hk (i := 10) (by kernel_rfl) rfl rfl ?_
          refine op_store tab hk (t := 47) (v := .agg #[.int .i64 t1141.1.Most, .int .i64 t1141.1.Lost, .slice A1146 (t1141.1.L).length c1147]) (b := bx590) (k := 0) (cs' := [.int .i64 t1141.1.Most, .int .i64 t1141.1.Lost, .slice A1146 (t1141.1.L).length c1147]) rfl rfl rfl rfl rfl rfl f591 rfl rfl fun w1155 o1156 st1157 f591_ => ?_
          replace f1148 := f1148.st st1157 (by decide)
          replace f1150 := f1150.st st1157 (by decide)
          replace f1153 := f1153.st st1157 (by decide)
          replace f19 := f19.st st1157 (by decide)
          replace f380 := f380.st st1157 (by decide)
          replace f387 := f387.st st1157 (by decide)
          replace f40 := f40.st st1157 (by decide)
          replace f900040 := f900040.st st1157 (by decide)
          replace f998 := f998.st st1157 (by decide)
          replace hs := hs.loc0 st1157 (by decide)
          replace f591 := f591_
          refine ⟨.inr ⟨f900040.now, trivial⟩, ?_⟩
          refine xd_take tab hk (k := 0) (is := [11]) (ls' := #[true, true, true, true, true, true, true, true, true, true, true, true]) (lv := []) (ks := [2, 7, 8, 9, 11, 12, 13]) (e' := [(2, .slice (some ad1137) (p2).length cp2), (7, .pointer (some ⟨bx18, 0, none⟩)), (8, .pointer (some ⟨bx39, 0, none⟩)), (9, .bool t1141.2.1), (11, .pointer (some ⟨bx581, 0, none⟩)), (12, .pointer (some ⟨bx590, 0, none⟩)), (13, .int .i64 x1000)]) (by kernel_rfl) rfl rfl (by kernel_rfl) (np_then (np_blk (np_then (np_then (np_blk (np_then np_body)))))) ⟨f900040.now, trivial⟩ (fun W_ hS => trivial) fun a hk => ?_
          refine xd_done (by kernel_rfl) ?_
          refine then_n ?_
          refine x_seq ?_
          refine wpIn_region_lit ?_
          refine x_run tab hk (k := 2) (lv := []) (ks := [2, 7, 8, 11, 12, 13, 84]) (e' := [(2, .slice (some ad1137) (p2).length cp2), (7, .pointer (some ⟨bx18, 0, none⟩)), (8, .pointer (some ⟨bx39, 0, none⟩)), (11, .pointer (some ⟨bx581, 0, none⟩)), (12, .pointer (some ⟨bx590, 0, none⟩)), (13, .int .i64 x1000), (84, .bool (!t1141.2.1))]) rfl trivial fun a hk => ?_
          refine wpListIn_nil ?_
          refine then_n ?_
          cases b1158 : (!t1141.2.1)
          · rw [b1158] at hk H
            replace H := bifF H
            refine x_if hk (b := false) rfl ?_
            refine (show Code.wpIn _ _ _ _ _ _ _ from ?_)
            refine wpIn_skip ?_
            refine blk_n ?_
            refine then_n ?_
            refine wpIn_region_lit ?_
            refine x_run tab hk (k := 3) (lv := []) (ks := [2, 7, 8, 11, 12, 13]) (e' := [(2, .slice (some ad1137) (p2).length cp2), (7, .pointer (some ⟨bx18, 0, none⟩)), (8, .pointer (some ⟨bx39, 0, none⟩)), (11, .pointer (some ⟨bx581, 0, none⟩)), (12, .pointer (some ⟨bx590, 0, none⟩)), (13, .int .i64 (IntKind.wrap .i64 (x1000 + 1)))]) rfl trivial fun a hk => ?_
            refine wpListIn_nil ?_
            refine then_n ?_
            exact ⟨k1080, Nat.le_refl _, (fun b_ => (fun l_ => if l_ = 142 then 128 else if l_ = 143 then 129 else if l_ = 144 then 130 else if l_ = 145 then 131 else if l_ = 146 then 132 else if l_ = 147 then 133 else if l_ = 148 then 134 else l_) (o1156 b_)), t1141.2.2.most, t1141.2.2.lost, A1151, c1152, t1141.2.2.l, t1141.1.Most, t1141.1.Lost, A1146, c1147, t1141.1.L, (IntKind.wrap .i64 (x1000 + 1)), (by exact Kn.pick (ks := [2, 7, 8, 11, 12, 13]) hk rfl), (hs.relab0 (fun l_ => if l_ = 142 then 128 else if l_ = 143 then 129 else if l_ = 144 then 130 else if l_ = 145 then 131 else if l_ = 146 then 132 else if l_ = 147 then 133 else if l_ = 148 then 134 else l_) rfl), (f19.relab (fun l_ => if l_ = 142 then 128 else if l_ = 143 then 129 else if l_ = 144 then 130 else if l_ = 145 then 131 else if l_ = 146 then 132 else if l_ = 147 then 133 else if l_ = 148 then 134 else l_) rfl), (f380.relab (fun l_ => if l_ = 142 then 128 else if l_ = 143 then 129 else if l_ = 144 then 130 else if l_ = 145 then 131 else if l_ = 146 then 132 else if l_ = 147 then 133 else if l_ = 148 then 134 else l_) rfl), (f387.relab (fun l_ => if l_ = 142 then 128 else if l_ = 143 then 129 else if l_ = 144 then 130 else if l_ = 145 then 131 else if l_ = 146 then 132 else if l_ = 147 then 133 else if l_ = 148 then 134 else l_) rfl), (f40.relab (fun l_ => if l_ = 142 then 128 else if l_ = 143 then 129 else if l_ = 144 then 130 else if l_ = 145 then 131 else if l_ = 146 then 132 else if l_ = 147 then 133 else if l_ = 148 then 134 else l_) rfl), (f1150.relab (fun l_ => if l_ = 142 then 128 else if l_ = 143 then 129 else if l_ = 144 then 130 else if l_ = 145 then 131 else if l_ = 146 then 132 else if l_ = 147 then 133 else if l_ = 148 then 134 else l_) rfl), (f591.relab (fun l_ => if l_ = 142 then 128 else if l_ = 143 then 129 else if l_ = 144 then 130 else if l_ = 145 then 131 else if l_ = 146 then 132 else if l_ = 147 then 133 else if l_ = 148 then 134 else l_) rfl), (f900040.relab (fun l_ => if l_ = 142 then 128 else if l_ = 143 then 129 else if l_ = 144 then 130 else if l_ = 145 then 131 else if l_ = 146 then 132 else if l_ = 147 then 133 else if l_ = 148 then 134 else l_) rfl), (f1153.relab (fun l_ => if l_ = 142 then 128 else if l_ = 143 then 129 else if l_ = 144 then 130 else if l_ = 145 then 131 else if l_ = 146 then 132 else if l_ = 147 then 133 else if l_ = 148 then 134 else l_) rfl), (f1148.relab (fun l_ => if l_ = 142 then 128 else if l_ = 143 then 129 else if l_ = 144 then 130 else if l_ = 145 then 131 else if l_ = 146 then 132 else if l_ = 147 then 133 else if l_ = 148 then 134 else l_) rfl), hc1154, hc1149, (hlp1082 ▸ H)⟩
          · rw [b1158] at hk H
            replace H := bifT H
            refine x_if hk (b := true) rfl ?_
            refine (show Code.wpIn _ _ _ _ _ _ _ from ?_)
            refine x_seq ?_
            refine wpIn_region_lit ?_
            refine x_run tab hk (k := 1) (lv := []) (ks := [6]) (e' := [(6, .bool false)]) rfl trivial fun a hk => ?_
            refine wpListIn_nil ?_
            refine then_n ?_
            refine wpIn_ret ?_
            refine blk_r ?_
            refine then_r ?_
            refine then_r ?_
            refine blk_r ?_
            refine then_r ?_
            obtain rfl := Option.some.inj H
            exact x_retG hk (rs := [.tmp 6]) (vs := [.bool false]) rfl ⟨rfl, trivial⟩ ⟨fun b_ => if b_ < w.heap.size then o b_ else (fun _ => 0) (o1156 b_), rfl, hs.close0 o (fun _ => 0)⟩
        refine x_seq ?_
        refine wpIn_region_lit ?_
        refine x_run tab hk (k := 5) (lv := []) (ks := [2, 7, 8, 11, 12, 13, 67]) (e' := [(2, .slice Ap2 (p2).length cp2), (7, .pointer (some ⟨bx18, 0, none⟩)), (8, .pointer (some ⟨bx39, 0, none⟩)), (11, .pointer (some ⟨bx581, 0, none⟩)), (12, .pointer (some ⟨bx590, 0, none⟩)), (13, .int .i64 x1000), (67, .bool (decide (x1000 < ((p2).length : Int))))]) rfl trivial fun a hk => ?_
        cases b1159 : (decide (x1000 < ((p2).length : Int)))
        · rw [b1159] at hk H
          replace H := bifF H
          refine x_run tab hk (k := 3) (lv := []) (ks := [2, 7, 8, 11, 12, 13, 70]) (e' := [(2, .slice Ap2 (p2).length cp2), (7, .pointer (some ⟨bx18, 0, none⟩)), (8, .pointer (some ⟨bx39, 0, none⟩)), (11, .pointer (some ⟨bx581, 0, none⟩)), (12, .pointer (some ⟨bx590, 0, none⟩)), (13, .int .i64 x1000), (70, .bool false)]) rfl trivial fun a hk => ?_
          refine wpListIn_nil ?_
          refine then_n ?_
          refine x_if hk (b := false) rfl ?_
          refine (show Code.wpIn _ _ _ _ _ _ _ from ?_)
          refine wpIn_exit ?_
          refine then_x ?_
          refine then_x ?_
          refine blk_x ?_
          refine then_n ?_
          exact ⟨(fun b_ => (fun l_ => if l_ = 128 then 105 else if l_ = 129 then 106 else if l_ = 130 then 107 else if l_ = 131 then 108 else if l_ = 132 then 109 else if l_ = 133 then 110 else if l_ = 134 then 111 else l_) (o985 b_)), x986, x987, A988, c989, l990, x993, x994, A995, c996, l997, (by exact Kn.pick (ks := [7, 8, 11, 12]) hk rfl), (hs.relab0 (fun l_ => if l_ = 128 then 105 else if l_ = 129 then 106 else if l_ = 130 then 107 else if l_ = 131 then 108 else if l_ = 132 then 109 else if l_ = 133 then 110 else if l_ = 134 then 111 else l_) rfl), (f19.relab (fun l_ => if l_ = 128 then 105 else if l_ = 129 then 106 else if l_ = 130 then 107 else if l_ = 131 then 108 else if l_ = 132 then 109 else if l_ = 133 then 110 else if l_ = 134 then 111 else l_) rfl), (f380.relab (fun l_ => if l_ = 128 then 105 else if l_ = 129 then 106 else if l_ = 130 then 107 else if l_ = 131 then 108 else if l_ = 132 then 109 else if l_ = 133 then 110 else if l_ = 134 then 111 else l_) rfl), (f387.relab (fun l_ => if l_ = 128 then 105 else if l_ = 129 then 106 else if l_ = 130 then 107 else if l_ = 131 then 108 else if l_ = 132 then 109 else if l_ = 133 then 110 else if l_ = 134 then 111 else l_) rfl), (f40.relab (fun l_ => if l_ = 128 then 105 else if l_ = 129 then 106 else if l_ = 130 then 107 else if l_ = 131 then 108 else if l_ = 132 then 109 else if l_ = 133 then 110 else if l_ = 134 then 111 else l_) rfl), (f582.relab (fun l_ => if l_ = 128 then 105 else if l_ = 129 then 106 else if l_ = 130 then 107 else if l_ = 131 then 108 else if l_ = 132 then 109 else if l_ = 133 then 110 else if l_ = 134 then 111 else l_) rfl), (f591.relab (fun l_ => if l_ = 128 then 105 else if l_ = 129 then 106 else if l_ = 130 then 107 else if l_ = 131 then 108 else if l_ = 132 then 109 else if l_ = 133 then 110 else if l_ = 134 then 111 else l_) rfl), (f991.relab (fun l_ => if l_ = 128 then 105 else if l_ = 129 then 106 else if l_ = 130 then 107 else if l_ = 131 then 108 else if l_ = 132 then 109 else if l_ = 133 then 110 else if l_ = 134 then 111 else l_) rfl), (f998.relab (fun l_ => if l_ = 128 then 105 else if l_ = 129 then 106 else if l_ = 130 then 107 else if l_ = 131 then 108 else if l_ = 132 then 109 else if l_ = 133 then 110 else if l_ = 134 then 111 else l_) rfl), hc992, hc999, H⟩
        · rw [b1159] at hk H
          replace H := bifT H
          refine x_run tab hk (k := 3) (lv := []) (ks := [2, 7, 8, 11, 12, 13, 70]) (e' := [(2, .slice Ap2 (p2).length cp2), (7, .pointer (some ⟨bx18, 0, none⟩)), (8, .pointer (some ⟨bx39, 0, none⟩)), (11, .pointer (some ⟨bx581, 0, none⟩)), (12, .pointer (some ⟨bx590, 0, none⟩)), (13, .int .i64 x1000), (70, .bool (decide (x1000 < (15 : Int))))]) rfl trivial fun a hk => ?_
          refine wpListIn_nil ?_
          refine then_n ?_
          cases b1160 : (decide (x1000 < (15 : Int)))
          · rw [b1160] at hk H
            replace H := bifF H
            refine x_if hk (b := false) rfl ?_
            refine (show Code.wpIn _ _ _ _ _ _ _ from ?_)
            refine wpIn_exit ?_
            refine then_x ?_
            refine then_x ?_
            refine blk_x ?_
            refine then_n ?_
            exact ⟨(fun b_ => (fun l_ => if l_ = 128 then 105 else if l_ = 129 then 106 else if l_ = 130 then 107 else if l_ = 131 then 108 else if l_ = 132 then 109 else if l_ = 133 then 110 else if l_ = 134 then 111 else l_) (o985 b_)), x986, x987, A988, c989, l990, x993, x994, A995, c996, l997, (by exact Kn.pick (ks := [7, 8, 11, 12]) hk rfl), (hs.relab0 (fun l_ => if l_ = 128 then 105 else if l_ = 129 then 106 else if l_ = 130 then 107 else if l_ = 131 then 108 else if l_ = 132 then 109 else if l_ = 133 then 110 else if l_ = 134 then 111 else l_) rfl), (f19.relab (fun l_ => if l_ = 128 then 105 else if l_ = 129 then 106 else if l_ = 130 then 107 else if l_ = 131 then 108 else if l_ = 132 then 109 else if l_ = 133 then 110 else if l_ = 134 then 111 else l_) rfl), (f380.relab (fun l_ => if l_ = 128 then 105 else if l_ = 129 then 106 else if l_ = 130 then 107 else if l_ = 131 then 108 else if l_ = 132 then 109 else if l_ = 133 then 110 else if l_ = 134 then 111 else l_) rfl), (f387.relab (fun l_ => if l_ = 128 then 105 else if l_ = 129 then 106 else if l_ = 130 then 107 else if l_ = 131 then 108 else if l_ = 132 then 109 else if l_ = 133 then 110 else if l_ = 134 then 111 else l_) rfl), (f40.relab (fun l_ => if l_ = 128 then 105 else if l_ = 129 then 106 else if l_ = 130 then 107 else if l_ = 131 then 108 else if l_ = 132 then 109 else if l_ = 133 then 110 else if l_ = 134 then 111 else l_) rfl), (f582.relab (fun l_ => if l_ = 128 then 105 else if l_ = 129 then 106 else if l_ = 130 then 107 else if l_ = 131 then 108 else if l_ = 132 then 109 else if l_ = 133 then 110 else if l_ = 134 then 111 else l_) rfl), (f591.relab (fun l_ => if l_ = 128 then 105 else if l_ = 129 then 106 else if l_ = 130 then 107 else if l_ = 131 then 108 else if l_ = 132 then 109 else if l_ = 133 then 110 else if l_ = 134 then 111 else l_) rfl), (f991.relab (fun l_ => if l_ = 128 then 105 else if l_ = 129 then 106 else if l_ = 130 then 107 else if l_ = 131 then 108 else if l_ = 132 then 109 else if l_ = 133 then 110 else if l_ = 134 then 111 else l_) rfl), (f998.relab (fun l_ => if l_ = 128 then 105 else if l_ = 129 then 106 else if l_ = 130 then 107 else if l_ = 131 then 108 else if l_ = 132 then 109 else if l_ = 133 then 110 else if l_ = 134 then 111 else l_) rfl), hc992, hc999, H⟩
          · rw [b1160] at hk H
            replace H := bifT H
            refine x_if hk (b := true) rfl ?_
            refine (show Code.wpIn _ _ _ _ _ _ _ from ?_)
            refine wpIn_skip ?_
            refine then_n ?_
            exact ⟨(fun b_ => (fun l_ => if l_ = 128 then 142 else if l_ = 129 then 143 else if l_ = 130 then 144 else if l_ = 131 then 145 else if l_ = 132 then 146 else if l_ = 133 then 147 else if l_ = 134 then 148 else l_) (o985 b_)), (by exact Kn.pick (ks := [2, 7, 8, 11, 12, 13]) hk rfl), (hs.relab0 (fun l_ => if l_ = 128 then 142 else if l_ = 129 then 143 else if l_ = 130 then 144 else if l_ = 131 then 145 else if l_ = 132 then 146 else if l_ = 133 then 147 else if l_ = 134 then 148 else l_) rfl), (f19.relab (fun l_ => if l_ = 128 then 142 else if l_ = 129 then 143 else if l_ = 130 then 144 else if l_ = 131 then 145 else if l_ = 132 then 146 else if l_ = 133 then 147 else if l_ = 134 then 148 else l_) rfl), (f380.relab (fun l_ => if l_ = 128 then 142 else if l_ = 129 then 143 else if l_ = 130 then 144 else if l_ = 131 then 145 else if l_ = 132 then 146 else if l_ = 133 then 147 else if l_ = 134 then 148 else l_) rfl), (f387.relab (fun l_ => if l_ = 128 then 142 else if l_ = 129 then 143 else if l_ = 130 then 144 else if l_ = 131 then 145 else if l_ = 132 then 146 else if l_ = 133 then 147 else if l_ = 134 then 148 else l_) rfl), (f40.relab (fun l_ => if l_ = 128 then 142 else if l_ = 129 then 143 else if l_ = 130 then 144 else if l_ = 131 then 145 else if l_ = 132 then 146 else if l_ = 133 then 147 else if l_ = 134 then 148 else l_) rfl), (f582.relab (fun l_ => if l_ = 128 then 142 else if l_ = 129 then 143 else if l_ = 130 then 144 else if l_ = 131 then 145 else if l_ = 132 then 146 else if l_ = 133 then 147 else if l_ = 134 then 148 else l_) rfl), (f591.relab (fun l_ => if l_ = 128 then 142 else if l_ = 129 then 143 else if l_ = 130 then 144 else if l_ = 131 then 145 else if l_ = 132 then 146 else if l_ = 133 then 147 else if l_ = 134 then 148 else l_) rfl), (f900040.relab (fun l_ => if l_ = 128 then 142 else if l_ = 129 then 143 else if l_ = 130 then 144 else if l_ = 131 then 145 else if l_ = 132 then 146 else if l_ = 133 then 147 else if l_ = 134 then 148 else l_) rfl), (f991.relab (fun l_ => if l_ = 128 then 142 else if l_ = 129 then 143 else if l_ = 130 then 144 else if l_ = 131 then 145 else if l_ = 132 then 146 else if l_ = 133 then 147 else if l_ = 134 then 148 else l_) rfl), (f998.relab (fun l_ => if l_ = 128 then 142 else if l_ = 129 then 143 else if l_ = 130 then 144 else if l_ = 131 then 145 else if l_ = 132 then 146 else if l_ = 133 then 147 else if l_ = 134 then 148 else l_) rfl), H⟩
      obtain ⟨t1183, hc1184, H⟩ := bindS H
      refine xd_begin (o := o374) (fun W_ => (Bx bx39 47 [.int .i64 x382, .int .i64 x383, .slice A384 (l386).length c385]) W_ ∧ True) mixed rfl rfl fun w1242 st1243 => ?_
      replace f19 := f19.st st1243 (by decide)
      replace f380 := f380.st st1243 (by decide)
      replace f387 := f387.st st1243 (by decide)
      replace f40 := f40.st st1243 (by decide)
      replace f900040 := f900040.st st1243 (by decide)
      replace hs := hs.loc0 st1243 (by decide)
      refine xd_abs fun G hG => ?_
      have N1275 : ∀ (a_ : Act) (w_ : World), (∃ o1267 : Nat → Nat, ∃ bx1268 : Nat, ∃ A1270 : Option Addr, ∃ c1271 : Nat, Kn 93 a_ [(2, .slice Ap2 (p2).length cp2), (7, .pointer (some ⟨bx18, 0, none⟩)), (8, .pointer (some ⟨bx39, 0, none⟩)), (59, .pointer (some ⟨bx1268, 0, none⟩)), (60, .agg #[.int .i64 x382, .int .i64 x383, .slice A384 (l386).length c385])] ∧ St [] w (fun _ => 0) w_ o1267 ∧ Ft (Bx bx1268 56 [.int .i64 t1183.most, .int .i64 t1183.lost, .slice A1270 (t1183.l).length c1271]) w_ o1267 168 ∧ Ft (Own ET28 29 (.slice A1270 (t1183.l).length c1271) t1183.l) w_ o1267 167 ∧ Ft (Bx bx18 56 [.int .i64 x375, .int .i64 x376, .slice A377 (l379).length c378]) w_ o1267 166 ∧ Ft (Own ET28 29 (.slice A377 (l379).length c378) l379) w_ o1267 165 ∧ Ft (RdC ET28 A384 l386) w_ o1267 163 ∧ Ft (Bx bx39 47 [.int .i64 x382, .int .i64 x383, .slice A384 (l386).length c385]) w_ o1267 164 ∧ Ft (RdC ET40 Ap2 p2) w_ o1267 0 ∧ (t1183.l).length ≤ c1271) → G 3 #[true, true, true, false, false, false] a_ w_ := by
        rintro a w1274 ⟨o1267, bx1268, A1270, c1271, hk, hs, f1269, f1272, f19, f380, f387, f40, f900040, hc1273⟩
        refine xd_of hG ?_
        refine xd_op hk (i := 3) (by kernel_rfl) rfl rfl ?_
        refine op_alloc (o := o1267) tab (t := 47) (cs := [.int .i64 0, .int .i64 0, .slice none 0 0]) rfl rfl 169 fun bx1279 w1276 o1277 st1278 f1280 => ?_
        replace f1269 := f1269.st st1278 (by decide)
        replace f1272 := f1272.st st1278 (by decide)
        replace f19 := f19.st st1278 (by decide)
        replace f380 := f380.st st1278 (by decide)
        replace f387 := f387.st st1278 (by decide)
        replace f40 := f40.st st1278 (by decide)
        replace f900040 := f900040.st st1278 (by decide)
        replace hs := hs.loc0 st1278 (by decide)
        have hk := hk.put 12 (.pointer (some ⟨bx1279, 0, none⟩)) rfl
        refine ⟨.inr ⟨f40.now, trivial⟩, ?_⟩
        refine xd_take tab hk (k := 1) (is := [4]) (ls' := #[true, true, true, true, true, false]) (lv := []) (ks := [2, 7, 8, 11, 12, 60]) (e' := [(2, .slice Ap2 (p2).length cp2), (7, .pointer (some ⟨bx18, 0, none⟩)), (8, .pointer (some ⟨bx39, 0, none⟩)), (11, .pointer (some ⟨bx1268, 0, none⟩)), (12, .pointer (some ⟨bx1279, 0, none⟩)), (60, .agg #[.int .i64 x382, .int .i64 x383, .slice A384 (l386).length c385])]) (by kernel_rfl) rfl rfl (by kernel_rfl) (np_then (np_then np_body)) ⟨f40.now, trivial⟩ (fun W_ hS => trivial) fun a hk => ?_
        refine xd_op hk (i := 5) (by kernel_rfl) rfl rfl ?_
        refine op_store tab hk (t := 47) (v := .agg #[.int .i64 x382, .int .i64 x383, .slice A384 (l386).length c385]) (b := bx1279) (k := 0) (cs' := [.int .i64 x382, .int .i64 x383, .slice A384 (l386).length c385]) rfl rfl rfl rfl rfl rfl f1280 rfl rfl fun w1281 o1282 st1283 f1280_ => ?_
        replace f1269 := f1269.st st1283 (by decide)
        replace f1272 := f1272.st st1283 (by decide)
        replace f19 := f19.st st1283 (by decide)
        replace f380 := f380.st st1283 (by decide)
        replace f387 := f387.st st1283 (by decide)
        replace f40 := f40.st st1283 (by decide)
        replace f900040 := f900040.st st1283 (by decide)
        replace hs := hs.loc0 st1283 (by decide)
        replace f1280 := f1280_
        refine ⟨.inl (by kernel_rfl), ?_⟩
        refine xd_done (by kernel_rfl) ?_
        refine then_n ?_
        exact ⟨(fun b_ => (fun l_ => if l_ = 163 then 63 else if l_ = 164 then 64 else if l_ = 165 then 61 else if l_ = 166 then 62 else if l_ = 167 then 65 else if l_ = 168 then 66 else if l_ = 169 then 67 else l_) (o1282 b_)), bx1268, t1183.most, t1183.lost, A1270, c1271, t1183.l, bx1279, (by exact Kn.pick (ks := [2, 7, 8, 11, 12]) hk rfl), (hs.relab0 (fun l_ => if l_ = 163 then 63 else if l_ = 164 then 64 else if l_ = 165 then 61 else if l_ = 166 then 62 else if l_ = 167 then 65 else if l_ = 168 then 66 else if l_ = 169 then 67 else l_) rfl), (f19.relab (fun l_ => if l_ = 163 then 63 else if l_ = 164 then 64 else if l_ = 165 then 61 else if l_ = 166 then 62 else if l_ = 167 then 65 else if l_ = 168 then 66 else if l_ = 169 then 67 else l_) rfl), (f380.relab (fun l_ => if l_ = 163 then 63 else if l_ = 164 then 64 else if l_ = 165 then 61 else if l_ = 166 then 62 else if l_ = 167 then 65 else if l_ = 168 then 66 else if l_ = 169 then 67 else l_) rfl), (f387.relab (fun l_ => if l_ = 163 then 63 else if l_ = 164 then 64 else if l_ = 165 then 61 else if l_ = 166 then 62 else if l_ = 167 then 65 else if l_ = 168 then 66 else if l_ = 169 then 67 else l_) rfl), (f40.relab (fun l_ => if l_ = 163 then 63 else if l_ = 164 then 64 else if l_ = 165 then 61 else if l_ = 166 then 62 else if l_ = 167 then 65 else if l_ = 168 then 66 else if l_ = 169 then 67 else l_) rfl), (f1269.relab (fun l_ => if l_ = 163 then 63 else if l_ = 164 then 64 else if l_ = 165 then 61 else if l_ = 166 then 62 else if l_ = 167 then 65 else if l_ = 168 then 66 else if l_ = 169 then 67 else l_) rfl), (f1272.relab (fun l_ => if l_ = 163 then 63 else if l_ = 164 then 64 else if l_ = 165 then 61 else if l_ = 166 then 62 else if l_ = 167 then 65 else if l_ = 168 then 66 else if l_ = 169 then 67 else l_) rfl), (f1280.relab (fun l_ => if l_ = 163 then 63 else if l_ = 164 then 64 else if l_ = 165 then 61 else if l_ = 166 then 62 else if l_ = 167 then 65 else if l_ = 168 then 66 else if l_ = 169 then 67 else l_) rfl), (f900040.relab (fun l_ => if l_ = 163 then 63 else if l_ = 164 then 64 else if l_ = 165 then 61 else if l_ = 166 then 62 else if l_ = 167 then 65 else if l_ = 168 then 66 else if l_ = 169 then 67 else l_) rfl), hc1273, H⟩
      have N1300 : ∀ (a_ : Act) (w_ : World), (∃ o1296 : Nat → Nat, ∃ bx1297 : Nat, Kn 93 a_ [(2, .slice Ap2 (p2).length cp2), (7, .pointer (some ⟨bx18, 0, none⟩)), (8, .pointer (some ⟨bx39, 0, none⟩)), (12, .pointer (some ⟨bx1297, 0, none⟩)), (58, .pointer (some ⟨bx18, 0, none⟩)), (60, .agg #[.int .i64 x382, .int .i64 x383, .slice A384 (l386).length c385])] ∧ St [] w (fun _ => 0) w_ o1296 ∧ Ft (Bx bx1297 47 [.int .i64 0, .int .i64 0, .slice none 0 0]) w_ o1296 175 ∧ Ft (Bx bx18 56 [.int .i64 x375, .int .i64 x376, .slice A377 (l379).length c378]) w_ o1296 174 ∧ Ft (Own ET28 29 (.slice A377 (l379).length c378) l379) w_ o1296 173 ∧ Ft (RdC ET28 A384 l386) w_ o1296 171 ∧ Ft (Bx bx39 47 [.int .i64 x382, .int .i64 x383, .slice A384 (l386).length c385]) w_ o1296 172 ∧ Ft (RdC ET40 Ap2 p2) w_ o1296 0) → G 3 #[true, false, true, true, false, false] a_ w_ := by
        rintro a w1299 ⟨o1296, bx1297, hk, hs, f1298, f19, f380, f387, f40, f900040⟩
        refine xd_of hG ?_
        refine xd_op hk (i := 1) (by kernel_rfl) rfl rfl ?_
        refine op_call hk ent_21 (vs := [.pointer (some ⟨bx18, 0, none⟩)]) rfl (net_Net_Clone_calls bx18 A377 c378 (⟨x375, x376, l379⟩ : T55) _ o1296 174 f19 _ (f380.imp fun _ h_ => Own.rd h_) hc381 176 177  _ hc1184) ?_
        rintro _ w1304 ⟨o1305, bx1307, A1309, c1310, rfl, st1306, f1308, f1311, hc1312⟩
        replace f1298 := f1298.st st1306 (by decide)
        replace f19 := f19.st st1306 (by decide)
        replace f380 := f380.st st1306 (by decide)
        replace f387 := f387.st st1306 (by decide)
        replace f40 := f40.st st1306 (by decide)
        replace f900040 := f900040.st st1306 (by decide)
        replace hs := hs.loc0 st1306 (by decide)
        have hk := hk.put 59 (.pointer (some ⟨bx1307, 0, none⟩)) rfl
        refine ⟨.inr ⟨f40.now, trivial⟩, ?_⟩
        refine xd_take tab hk (k := 1) (is := [4]) (ls' := #[true, true, true, true, true, false]) (lv := []) (ks := [2, 7, 8, 11, 12, 60]) (e' := [(2, .slice Ap2 (p2).length cp2), (7, .pointer (some ⟨bx18, 0, none⟩)), (8, .pointer (some ⟨bx39, 0, none⟩)), (11, .pointer (some ⟨bx1307, 0, none⟩)), (12, .pointer (some ⟨bx1297, 0, none⟩)), (60, .agg #[.int .i64 x382, .int .i64 x383, .slice A384 (l386).length c385])]) (by kernel_rfl) rfl rfl (by kernel_rfl) (np_then (np_then np_body)) ⟨f40.now, trivial⟩ (fun W_ hS => trivial) fun a hk => ?_
        refine xd_op hk (i := 5) (by kernel_rfl) rfl rfl ?_
        refine op_store tab hk (t := 47) (v := .agg #[.int .i64 x382, .int .i64 x383, .slice A384 (l386).length c385]) (b := bx1297) (k := 0) (cs' := [.int .i64 x382, .int .i64 x383, .slice A384 (l386).length c385]) rfl rfl rfl rfl rfl rfl f1298 rfl rfl fun w1313 o1314 st1315 f1298_ => ?_
        replace f1308 := f1308.st st1315 (by decide)
        replace f1311 := f1311.st st1315 (by decide)
        replace f19 := f19.st st1315 (by decide)
        replace f380 := f380.st st1315 (by decide)
        replace f387 := f387.st st1315 (by decide)
        replace f40 := f40.st st1315 (by decide)
        replace f900040 := f900040.st st1315 (by decide)
        replace hs := hs.loc0 st1315 (by decide)
        replace f1298 := f1298_
        refine ⟨.inl (by kernel_rfl), ?_⟩
        refine xd_done (by kernel_rfl) ?_
        refine then_n ?_
        exact ⟨(fun b_ => (fun l_ => if l_ = 171 then 63 else if l_ = 172 then 64 else if l_ = 173 then 61 else if l_ = 174 then 62 else if l_ = 175 then 67 else if l_ = 176 then 66 else if l_ = 177 then 65 else l_) (o1314 b_)), bx1307, t1183.most, t1183.lost, A1309, c1310, t1183.l, bx1297, (by exact Kn.pick (ks := [2, 7, 8, 11, 12]) hk rfl), (hs.relab0 (fun l_ => if l_ = 171 then 63 else if l_ = 172 then 64 else if l_ = 173 then 61 else if l_ = 174 then 62 else if l_ = 175 then 67 else if l_ = 176 then 66 else if l_ = 177 then 65 else l_) rfl), (f19.relab (fun l_ => if l_ = 171 then 63 else if l_ = 172 then 64 else if l_ = 173 then 61 else if l_ = 174 then 62 else if l_ = 175 then 67 else if l_ = 176 then 66 else if l_ = 177 then 65 else l_) rfl), (f380.relab (fun l_ => if l_ = 171 then 63 else if l_ = 172 then 64 else if l_ = 173 then 61 else if l_ = 174 then 62 else if l_ = 175 then 67 else if l_ = 176 then 66 else if l_ = 177 then 65 else l_) rfl), (f387.relab (fun l_ => if l_ = 171 then 63 else if l_ = 172 then 64 else if l_ = 173 then 61 else if l_ = 174 then 62 else if l_ = 175 then 67 else if l_ = 176 then 66 else if l_ = 177 then 65 else l_) rfl), (f40.relab (fun l_ => if l_ = 171 then 63 else if l_ = 172 then 64 else if l_ = 173 then 61 else if l_ = 174 then 62 else if l_ = 175 then 67 else if l_ = 176 then 66 else if l_ = 177 then 65 else l_) rfl), (f1308.relab (fun l_ => if l_ = 171 then 63 else if l_ = 172 then 64 else if l_ = 173 then 61 else if l_ = 174 then 62 else if l_ = 175 then 67 else if l_ = 176 then 66 else if l_ = 177 then 65 else l_) rfl), (f1311.relab (fun l_ => if l_ = 171 then 63 else if l_ = 172 then 64 else if l_ = 173 then 61 else if l_ = 174 then 62 else if l_ = 175 then 67 else if l_ = 176 then 66 else if l_ = 177 then 65 else l_) rfl), (f1298.relab (fun l_ => if l_ = 171 then 63 else if l_ = 172 then 64 else if l_ = 173 then 61 else if l_ = 174 then 62 else if l_ = 175 then 67 else if l_ = 176 then 66 else if l_ = 177 then 65 else l_) rfl), (f900040.relab (fun l_ => if l_ = 171 then 63 else if l_ = 172 then 64 else if l_ = 173 then 61 else if l_ = 174 then 62 else if l_ = 175 then 67 else if l_ = 176 then 66 else if l_ = 177 then 65 else l_) rfl), hc1312, H⟩
      refine xd_of hG ?_
      refine xd_take tab hk (k := 4) (is := [0, 2]) (ls' := #[true, false, true, false, false, false]) (lv := [.agg #[.int .i64 x382, .int .i64 x383, .slice A384 (l386).length c385]]) (ks := [2, 7, 8, 58, 60]) (e' := [(2, .slice Ap2 (p2).length cp2), (7, .pointer (some ⟨bx18, 0, none⟩)), (8, .pointer (some ⟨bx39, 0, none⟩)), (58, .pointer (some ⟨bx18, 0, none⟩)), (60, .agg #[.int .i64 x382, .int .i64 x383, .slice A384 (l386).length c385])]) (by kernel_rfl) rfl rfl (by kernel_rfl) (np_then (np_then np_body)) ⟨f40.now, trivial⟩ (fun W_ hS => ⟨(load_box tab rfl rfl hS.1 (k := 0) rfl rfl), trivial⟩) fun a hk => ?_
      refine xd_each [1, 3] (by kernel_rfl) rfl ⟨?_, ?_, trivial⟩
      · refine xd_one hk rfl rfl ?_
        refine op_call hk ent_21 (vs := [.pointer (some ⟨bx18, 0, none⟩)]) rfl (net_Net_Clone_calls bx18 A377 c378 (⟨x375, x376, l379⟩ : T55) _ o374 26 f19 _ (f380.imp fun _ h_ => Own.rd h_) hc381 161 162  _ hc1184) ?_
        rintro _ w1247 ⟨o1248, bx1250, A1252, c1253, rfl, st1249, f1251, f1254, hc1255⟩
        replace f19 := f19.st st1249 (by decide)
        replace f380 := f380.st st1249 (by decide)
        replace f387 := f387.st st1249 (by decide)
        replace f40 := f40.st st1249 (by decide)
        replace f900040 := f900040.st st1249 (by decide)
        replace hs := hs.loc0 st1249 (by decide)
        have hk := hk.put 59 (.pointer (some ⟨bx1250, 0, none⟩)) rfl
        refine ⟨.inr ⟨f40.now, trivial⟩, ?_⟩
        exact xd_to hG rfl (N1275 _ _ ⟨(fun b_ => (fun l_ => if l_ = 25 then 165 else if l_ = 26 then 166 else if l_ = 27 then 163 else if l_ = 28 then 164 else if l_ = 161 then 168 else if l_ = 162 then 167 else l_) (o1248 b_)), bx1250, A1252, c1253, (by exact Kn.pick (ks := [2, 7, 8, 59, 60]) hk rfl), (hs.relab0 (fun l_ => if l_ = 25 then 165 else if l_ = 26 then 166 else if l_ = 27 then 163 else if l_ = 28 then 164 else if l_ = 161 then 168 else if l_ = 162 then 167 else l_) rfl), (f1251.relab (fun l_ => if l_ = 25 then 165 else if l_ = 26 then 166 else if l_ = 27 then 163 else if l_ = 28 then 164 else if l_ = 161 then 168 else if l_ = 162 then 167 else l_) rfl), (f1254.relab (fun l_ => if l_ = 25 then 165 else if l_ = 26 then 166 else if l_ = 27 then 163 else if l_ = 28 then 164 else if l_ = 161 then 168 else if l_ = 162 then 167 else l_) rfl), (f19.relab (fun l_ => if l_ = 25 then 165 else if l_ = 26 then 166 else if l_ = 27 then 163 else if l_ = 28 then 164 else if l_ = 161 then 168 else if l_ = 162 then 167 else l_) rfl), (f380.relab (fun l_ => if l_ = 25 then 165 else if l_ = 26 then 166 else if l_ = 27 then 163 else if l_ = 28 then 164 else if l_ = 161 then 168 else if l_ = 162 then 167 else l_) rfl), (f387.relab (fun l_ => if l_ = 25 then 165 else if l_ = 26 then 166 else if l_ = 27 then 163 else if l_ = 28 then 164 else if l_ = 161 then 168 else if l_ = 162 then 167 else l_) rfl), (f40.relab (fun l_ => if l_ = 25 then 165 else if l_ = 26 then 166 else if l_ = 27 then 163 else if l_ = 28 then 164 else if l_ = 161 then 168 else if l_ = 162 then 167 else l_) rfl), (f900040.relab (fun l_ => if l_ = 25 then 165 else if l_ = 26 then 166 else if l_ = 27 then 163 else if l_ = 28 then 164 else if l_ = 161 then 168 else if l_ = 162 then 167 else l_) rfl), hc1255⟩)
      · refine xd_one hk rfl rfl ?_
        refine op_alloc (o := o374) tab (t := 47) (cs := [.int .i64 0, .int .i64 0, .slice none 0 0]) rfl rfl 170 fun bx1287 w1284 o1285 st1286 f1288 => ?_
        replace f19 := f19.st st1286 (by decide)
        replace f380 := f380.st st1286 (by decide)
        replace f387 := f387.st st1286 (by decide)
        replace f40 := f40.st st1286 (by decide)
        replace f900040 := f900040.st st1286 (by decide)
        replace hs := hs.loc0 st1286 (by decide)
        have hk := hk.put 12 (.pointer (some ⟨bx1287, 0, none⟩)) rfl
        refine ⟨.inr ⟨f40.now, trivial⟩, ?_⟩
        exact xd_to hG rfl (N1300 _ _ ⟨(fun b_ => (fun l_ => if l_ = 25 then 173 else if l_ = 26 then 174 else if l_ = 27 then 171 else if l_ = 28 then 172 else if l_ = 170 then 175 else l_) (o1285 b_)), bx1287, (by exact Kn.pick (ks := [2, 7, 8, 12, 58, 60]) hk rfl), (hs.relab0 (fun l_ => if l_ = 25 then 173 else if l_ = 26 then 174 else if l_ = 27 then 171 else if l_ = 28 then 172 else if l_ = 170 then 175 else l_) rfl), (f1288.relab (fun l_ => if l_ = 25 then 173 else if l_ = 26 then 174 else if l_ = 27 then 171 else if l_ = 28 then 172 else if l_ = 170 then 175 else l_) rfl), (f19.relab (fun l_ => if l_ = 25 then 173 else if l_ = 26 then 174 else if l_ = 27 then 171 else if l_ = 28 then 172 else if l_ = 170 then 175 else l_) rfl), (f380.relab (fun l_ => if l_ = 25 then 173 else if l_ = 26 then 174 else if l_ = 27 then 171 else if l_ = 28 then 172 else if l_ = 170 then 175 else l_) rfl), (f387.relab (fun l_ => if l_ = 25 then 173 else if l_ = 26 then 174 else if l_ = 27 then 171 else if l_ = 28 then 172 else if l_ = 170 then 175 else l_) rfl), (f40.relab (fun l_ => if l_ = 25 then 173 else if l_ = 26 then 174 else if l_ = 27 then 171 else if l_ = 28 then 172 else if l_ = 170 then 175 else l_) rfl), (f900040.relab (fun l_ => if l_ = 25 then 173 else if l_ = 26 then 174 else if l_ = 27 then 171 else if l_ = 28 then 172 else if l_ = 170 then 175 else l_) rfl)⟩)
    refine x_seq ?_
    refine wpIn_region_lit ?_
    refine x_run tab hk (k := 1) (lv := []) (ks := [0, 1, 2, 7, 8, 10]) (e' := [(0, .int .i64 p0), (1, .slice Ap1 (p1).length cp1), (2, .slice Ap2 (p2).length cp2), (7, .pointer (some ⟨bx18, 0, none⟩)), (8, .pointer (some ⟨bx39, 0, none⟩)), (10, .int .i64 0)]) rfl trivial fun a hk => ?_
    refine wpListIn_nil ?_
    refine then_n ?_
    refine wpIn_block ?_
    refine x_loop (fun j_ a_ w_ => ∃ o1415 : Nat → Nat, ∃ x1416 : Int, ∃ x1417 : Int, ∃ A1418 : Option Addr, ∃ c1419 : Nat, ∃ l1420 : List T28, ∃ x1423 : Int, ∃ x1424 : Int, ∃ A1425 : Option Addr, ∃ c1426 : Nat, ∃ l1427 : List T28, ∃ x1430 : Int, Kn 93 a_ [(0, .int .i64 p0), (1, .slice Ap1 (p1).length cp1), (2, .slice Ap2 (p2).length cp2), (7, .pointer (some ⟨bx18, 0, none⟩)), (8, .pointer (some ⟨bx39, 0, none⟩)), (10, .int .i64 x1430)] ∧ St [] w (fun _ => 0) w_ o1415 ∧ Ft (Own ET28 29 (.slice A1418 (l1420).length c1419) l1420) w_ o1415 186 ∧ Ft (RdC ET28 A1425 l1427) w_ o1415 188 ∧ Ft (Bx bx18 56 [.int .i64 x1416, .int .i64 x1417, .slice A1418 (l1420).length c1419]) w_ o1415 187 ∧ Ft (Bx bx39 47 [.int .i64 x1423, .int .i64 x1424, .slice A1425 (l1427).length c1426]) w_ o1415 189 ∧ Ft (RdC ET40 Ap1 p1) w_ o1415 0 ∧ Ft (RdC ET40 Ap2 p2) w_ o1415 0 ∧ (l1420).length ≤ c1419 ∧ (l1427).length ≤ c1426 ∧ tidewracklaw25_NetPlays_l6 K p0 p1 p2 j_ x1416 x1417 l1420 x1423 x1424 l1427 x1430 = some r) (k := K) ⟨(fun b_ => (fun l_ => if l_ = 1 then 187 else if l_ = 2 then 186 else if l_ = 3 then 188 else if l_ = 4 then 189 else l_) (o42 b_)), t13.most, t13.lost, A20, c21, t13.l, t27.Most, t27.Lost, A32, c33, t27.L, 0, (by exact Kn.pick (ks := [0, 1, 2, 7, 8, 10]) hk rfl), (hs.relab0 (fun l_ => if l_ = 1 then 187 else if l_ = 2 then 186 else if l_ = 3 then 188 else if l_ = 4 then 189 else l_) rfl), (f22.relab (fun l_ => if l_ = 1 then 187 else if l_ = 2 then 186 else if l_ = 3 then 188 else if l_ = 4 then 189 else l_) rfl), ((f34.imp fun _ h_ => Own.rd h_).relab (fun l_ => if l_ = 1 then 187 else if l_ = 2 then 186 else if l_ = 3 then 188 else if l_ = 4 then 189 else l_) rfl), (f19.relab (fun l_ => if l_ = 1 then 187 else if l_ = 2 then 186 else if l_ = 3 then 188 else if l_ = 4 then 189 else l_) rfl), (f40.relab (fun l_ => if l_ = 1 then 187 else if l_ = 2 then 186 else if l_ = 3 then 188 else if l_ = 4 then 189 else l_) rfl), (f900020.relab (fun l_ => if l_ = 1 then 187 else if l_ = 2 then 186 else if l_ = 3 then 188 else if l_ = 4 then 189 else l_) rfl), (f900040.relab (fun l_ => if l_ = 1 then 187 else if l_ = 2 then 186 else if l_ = 3 then 188 else if l_ = 4 then 189 else l_) rfl), hc23, hc35, H⟩ (by rintro _ _ ⟨_, _, _, _, _, _, _, _, _, _, _, _, _, _, _, _, _, _, _, _, _, _, H_⟩; exact absurd (show (none : Option Bool) = some r from H_) (by simp)) ?_
    rintro k1528 a w1527 ⟨o1415, x1416, x1417, A1418, c1419, l1420, x1423, x1424, A1425, c1426, l1427, x1430, hk, hs, f1421, f1428, f19, f40, f900020, f900040, hc1422, hc1429, H⟩
    rw [tidewracklaw25_NetPlays_l6] at H
    obtain ⟨lp1529, hlp1530⟩ : ∃ lp_, lp_ = tidewracklaw25_NetPlays_l6 K p0 p1 p2 k1528 := ⟨_, rfl⟩
    rw [← hlp1530] at H
    refine x_mid (fun a_ w_ => ∃ o1536 : Nat → Nat, Kn 93 a_ [(0, .int .i64 p0), (1, .slice Ap1 (p1).length cp1), (2, .slice Ap2 (p2).length cp2), (7, .pointer (some ⟨bx18, 0, none⟩)), (8, .pointer (some ⟨bx39, 0, none⟩)), (10, .int .i64 x1430)] ∧ St [] w (fun _ => 0) w_ o1536 ∧ Ft (Own ET28 29 (.slice A1418 (l1420).length c1419) l1420) w_ o1536 194 ∧ Ft (RdC ET28 A1425 l1427) w_ o1536 196 ∧ Ft (Bx bx18 56 [.int .i64 x1416, .int .i64 x1417, .slice A1418 (l1420).length c1419]) w_ o1536 195 ∧ Ft (Bx bx39 47 [.int .i64 x1423, .int .i64 x1424, .slice A1425 (l1427).length c1426]) w_ o1536 197 ∧ Ft (RdC ET40 Ap1 p1) w_ o1536 0 ∧ Ft (RdC ET40 Ap2 p2) w_ o1536 0 ∧ tidewracklaw25_NetPlays_j7 K p0 p1 x1416 x1417 l1420 x1423 x1424 l1427 x1430 lp1529 = some r) ?_ ?_
    rotate_left
    · rintro a w1537 ⟨o1536, hk, hs, f1421, f1428, f19, f40, f900020, f900040, H⟩
      rw [tidewracklaw25_NetPlays_j7] at H
      refine x_seq ?_
      refine wpIn_block ?_
      refine x_seq ?_
      refine xd_begin (o := o1536) (fun W_ => (RdC ET40 Ap1 p1) W_ ∧ True) mixed rfl rfl fun w1582 st1583 => ?_
      replace f1421 := f1421.st st1583 (by decide)
      replace f1428 := f1428.st st1583 (by decide)
      replace f19 := f19.st st1583 (by decide)
      replace f40 := f40.st st1583 (by decide)
      replace f900020 := f900020.st st1583 (by decide)
      replace f900040 := f900040.st st1583 (by decide)
      replace hs := hs.loc0 st1583 (by decide)
      obtain ⟨q1584, H⟩ := ifS H
      obtain ⟨ad1585, hAad1585⟩ := RdC.addr f900020.now q1584
      have hk_C := hk
      have f1421_C := f1421
      have f1428_C := f1428
      have f19_C := f19
      have f40_C := f40
      have f900020_C := f900020
      have f900040_C := f900040
      subst hAad1585
      have hk := hk_C
      clear hk_C
      have f1421 := f1421_C
      clear f1421_C
      have f1428 := f1428_C
      clear f1428_C
      have f19 := f19_C
      clear f19_C
      have f40 := f40_C
      clear f40_C
      have f900020 := f900020_C
      clear f900020_C
      have f900040 := f900040_C
      clear f900040_C
      refine xd_take tab hk (k := 7) (is := [0, 2, 3, 4, 5]) (ls' := #[true, false, true, true, true, true, false, false, false, false, false, false]) (lv := [.agg #[.int .i64 ((rdD zT40 p1 x1430).Kind), .int .i64 ((rdD zT40 p1 x1430).I), .int .i64 ((rdD zT40 p1 x1430).At), .int .u32 ((rdD zT40 p1 x1430).Mask), .int .i64 ((rdD zT40 p1 x1430).Gram_From), .int .i64 ((rdD zT40 p1 x1430).Gram_To), .string ((rdD zT40 p1 x1430).Gram_Data)]]) (ks := [0, 1, 2, 7, 8, 10, 33, 38]) (e' := [(0, .int .i64 p0), (1, .slice (some ad1585) (p1).length cp1), (2, .slice Ap2 (p2).length cp2), (7, .pointer (some ⟨bx18, 0, none⟩)), (8, .pointer (some ⟨bx39, 0, none⟩)), (10, .int .i64 x1430), (33, .pointer (some ⟨bx18, 0, none⟩)), (38, .agg #[.int .i64 ((rdD zT40 p1 x1430).Kind), .int .i64 ((rdD zT40 p1 x1430).I), .int .i64 ((rdD zT40 p1 x1430).At), .int .u32 ((rdD zT40 p1 x1430).Mask), .int .i64 ((rdD zT40 p1 x1430).Gram_From), .int .i64 ((rdD zT40 p1 x1430).Gram_To), .string ((rdD zT40 p1 x1430).Gram_Data)])]) (by kernel_rfl) rfl rfl (by kernel_rfl) (np_then (np_blk (np_then (np_then (np_blk (np_then np_body)))))) ⟨f900020.now, trivial⟩ (fun W_ hS => ⟨q1584, (load_elem (E := ET40) (i := x1430) (dx := zT40) tab rfl rfl hS.1 q1584), trivial⟩) fun a hk => ?_
      refine xd_op hk (i := 1) (by kernel_rfl) rfl rfl ?_
      refine op_quiet tab hk (lv := [.agg #[.int .i64 x1423, .int .i64 x1424, .slice A1425 (l1427).length c1426]]) (v := .agg #[.int .i64 x1423, .int .i64 x1424, .slice A1425 (l1427).length c1426]) rfl ⟨(load_box tab rfl rfl f40.now (k := 0) rfl rfl), trivial⟩ ?_
      have hk := hk.put 34 (.agg #[.int .i64 x1423, .int .i64 x1424, .slice A1425 (l1427).length c1426]) rfl
      refine ⟨.inr ⟨f900020.now, trivial⟩, ?_⟩
      refine xd_op hk (i := 6) (by kernel_rfl) rfl rfl ?_
      obtain ⟨t1589, hc1590, H⟩ := bindS H
      refine op_call hk ent_19 (vs := [.pointer (some ⟨bx18, 0, none⟩), .agg #[.int .i64 x1423, .int .i64 x1424, .slice A1425 (l1427).length c1426], .agg #[.int .i64 ((rdD zT40 p1 x1430).Kind), .int .i64 ((rdD zT40 p1 x1430).I), .int .i64 ((rdD zT40 p1 x1430).At), .int .u32 ((rdD zT40 p1 x1430).Mask), .int .i64 ((rdD zT40 p1 x1430).Gram_From), .int .i64 ((rdD zT40 p1 x1430).Gram_To), .string ((rdD zT40 p1 x1430).Gram_Data)]]) rfl (tidewracklaw25_do_calls K bx18 A1418 c1419 (⟨x1416, x1417, l1420⟩ : T55) A1425 c1426 (⟨x1423, x1424, l1427⟩ : T46) (rdD zT40 p1 x1430) _ o1536 195 f19 194 f1421 hc1422 196 f1428 hc1429 (by decide)   _ hc1590) ?_
      rintro _ w1591 ⟨o1592, A1594, c1595, A1599, c1600, rfl, st1593, f1596, hc1597, f1598, f1601, hc1602⟩
      replace f1428 := f1428.st st1593 (by decide)
      replace f40 := f40.st st1593 (by decide)
      replace f900020 := f900020.st st1593 (by decide)
      replace f900040 := f900040.st st1593 (by decide)
      replace hs := hs.loc0 st1593 (by decide)
      have hk := hk.put 39 (.tuple #[.agg #[.int .i64 t1589.1.Most, .int .i64 t1589.1.Lost, .slice A1594 (t1589.1.L).length c1595], .bool t1589.2.1]) rfl
      refine ⟨.inr ⟨f900020.now, trivial⟩, ?_⟩
      refine xd_take tab hk (k := 2) (is := [7, 8, 9]) (ls' := #[true, true, true, true, true, true, true, true, true, true, false, false]) (lv := []) (ks := [0, 1, 2, 7, 8, 10, 40, 41]) (e' := [(0, .int .i64 p0), (1, .slice (some ad1585) (p1).length cp1), (2, .slice Ap2 (p2).length cp2), (7, .pointer (some ⟨bx18, 0, none⟩)), (8, .pointer (some ⟨bx39, 0, none⟩)), (10, .int .i64 x1430), (40, .agg #[.int .i64 t1589.1.Most, .int .i64 t1589.1.Lost, .slice A1594 (t1589.1.L).length c1595]), (41, .bool t1589.2.1)]) (by kernel_rfl) rfl rfl (by kernel_rfl) (np_then (np_blk (np_then (np_then (np_blk (np_then np_body)))))) ⟨f900020.now, trivial⟩ (fun W_ hS => trivial) fun a hk => ?_
      refine xd_op hk (i := 10) (by kernel_rfl) rfl rfl ?_
      refine op_store tab hk (t := 47) (v := .agg #[.int .i64 t1589.1.Most, .int .i64 t1589.1.Lost, .slice A1594 (t1589.1.L).length c1595]) (b := bx39) (k := 0) (cs' := [.int .i64 t1589.1.Most, .int .i64 t1589.1.Lost, .slice A1594 (t1589.1.L).length c1595]) rfl rfl rfl rfl rfl rfl f40 rfl rfl fun w1603 o1604 st1605 f40_ => ?_
      replace f1428 := f1428.st st1605 (by decide)
      replace f1596 := f1596.st st1605 (by decide)
      replace f1598 := f1598.st st1605 (by decide)
      replace f1601 := f1601.st st1605 (by decide)
      replace f900020 := f900020.st st1605 (by decide)
      replace f900040 := f900040.st st1605 (by decide)
      replace hs := hs.loc0 st1605 (by decide)
      replace f40 := f40_
      refine ⟨.inr ⟨f900020.now, trivial⟩, ?_⟩
      refine xd_take tab hk (k := 0) (is := [11]) (ls' := #[true, true, true, true, true, true, true, true, true, true, true, true]) (lv := []) (ks := [0, 1, 2, 7, 8, 9, 10]) (e' := [(0, .int .i64 p0), (1, .slice (some ad1585) (p1).length cp1), (2, .slice Ap2 (p2).length cp2), (7, .pointer (some ⟨bx18, 0, none⟩)), (8, .pointer (some ⟨bx39, 0, none⟩)), (9, .bool t1589.2.1), (10, .int .i64 x1430)]) (by kernel_rfl) rfl rfl (by kernel_rfl) (np_then (np_blk (np_then (np_then (np_blk (np_then np_body)))))) ⟨f900020.now, trivial⟩ (fun W_ hS => trivial) fun a hk => ?_
      refine xd_done (by kernel_rfl) ?_
      refine then_n ?_
      refine x_seq ?_
      refine wpIn_region_lit ?_
      refine x_run tab hk (k := 3) (lv := []) (ks := [0, 1, 2, 7, 8, 10, 44]) (e' := [(0, .int .i64 p0), (1, .slice (some ad1585) (p1).length cp1), (2, .slice Ap2 (p2).length cp2), (7, .pointer (some ⟨bx18, 0, none⟩)), (8, .pointer (some ⟨bx39, 0, none⟩)), (10, .int .i64 x1430), (44, .bool (!t1589.2.1))]) rfl trivial fun a hk => ?_
      cases b1606 : (!t1589.2.1)
      · rw [b1606] at hk H
        replace H := bifF H
        refine x_run tab hk (k := 2) (lv := [.agg #[.int .i64 t1589.1.Most, .int .i64 t1589.1.Lost, .slice A1594 (t1589.1.L).length c1595]]) (ks := [0, 1, 2, 7, 8, 10, 44, 45, 46]) (e' := [(0, .int .i64 p0), (1, .slice (some ad1585) (p1).length cp1), (2, .slice Ap2 (p2).length cp2), (7, .pointer (some ⟨bx18, 0, none⟩)), (8, .pointer (some ⟨bx39, 0, none⟩)), (10, .int .i64 x1430), (44, .bool false), (45, .pointer (some ⟨bx18, 0, none⟩)), (46, .agg #[.int .i64 t1589.1.Most, .int .i64 t1589.1.Lost, .slice A1594 (t1589.1.L).length c1595])]) rfl ⟨(load_box tab rfl rfl f40.now (k := 0) rfl rfl), trivial⟩ fun a hk => ?_
        refine x_op hk rfl ?_
        obtain ⟨t1610, hc1611, H⟩ := bindS H
        refine op_call hk ent_20 (vs := [.pointer (some ⟨bx18, 0, none⟩), .agg #[.int .i64 t1589.1.Most, .int .i64 t1589.1.Lost, .slice A1594 (t1589.1.L).length c1595]]) rfl (tidewracklaw25_Is_calls K bx18 A1599 c1600 t1589.2.2 A1594 c1595 t1589.1 _ o1604 195 f1598 _ (f1601.imp fun _ h_ => Own.rd h_) hc1602 _ f1596 hc1597   _ hc1611) ?_
        rintro _ w1612 ⟨o1613, rfl, st1614⟩
        replace f1596 := f1596.st st1614 (by decide)
        replace f1598 := f1598.st st1614 (by decide)
        replace f1601 := f1601.st st1614 (by decide)
        replace f40 := f40.st st1614 (by decide)
        replace f900020 := f900020.st st1614 (by decide)
        replace f900040 := f900040.st st1614 (by decide)
        replace hs := hs.loc0 st1614 (by decide)
        have hk := hk.put 47 (.bool t1610) rfl
        refine x_run tab hk (k := 3) (lv := []) (ks := [0, 1, 2, 7, 8, 10, 50]) (e' := [(0, .int .i64 p0), (1, .slice (some ad1585) (p1).length cp1), (2, .slice Ap2 (p2).length cp2), (7, .pointer (some ⟨bx18, 0, none⟩)), (8, .pointer (some ⟨bx39, 0, none⟩)), (10, .int .i64 x1430), (50, .bool (!t1610))]) rfl trivial fun a hk => ?_
        cases b1615 : (!t1610)
        · rw [b1615] at hk H
          replace H := bifF H
          refine x_run tab hk (k := 1) (lv := []) (ks := [0, 1, 2, 7, 8, 10, 50, 51]) (e' := [(0, .int .i64 p0), (1, .slice (some ad1585) (p1).length cp1), (2, .slice Ap2 (p2).length cp2), (7, .pointer (some ⟨bx18, 0, none⟩)), (8, .pointer (some ⟨bx39, 0, none⟩)), (10, .int .i64 x1430), (50, .bool false), (51, .pointer (some ⟨bx18, 0, none⟩))]) rfl trivial fun a hk => ?_
          refine x_op hk rfl ?_
          obtain ⟨t1619, hc1620, H⟩ := bindS H
          refine op_call hk ent_13 (vs := [.pointer (some ⟨bx18, 0, none⟩)]) rfl (net_Net_Len_calls bx18 A1599 c1600 t1589.2.2 _ o1613 195 f1598 _ (f1601.imp fun _ h_ => Own.rd h_) hc1602   _ hc1620) ?_
          rintro _ w1621 ⟨o1622, rfl, st1623⟩
          replace f1596 := f1596.st st1623 (by decide)
          replace f1598 := f1598.st st1623 (by decide)
          replace f1601 := f1601.st st1623 (by decide)
          replace f40 := f40.st st1623 (by decide)
          replace f900020 := f900020.st st1623 (by decide)
          replace f900040 := f900040.st st1623 (by decide)
          replace hs := hs.loc0 st1623 (by decide)
          have hk := hk.put 52 (.int .i64 t1619) rfl
          refine x_run tab hk (k := 5) (lv := []) (ks := [0, 1, 2, 7, 8, 10, 57]) (e' := [(0, .int .i64 p0), (1, .slice (some ad1585) (p1).length cp1), (2, .slice Ap2 (p2).length cp2), (7, .pointer (some ⟨bx18, 0, none⟩)), (8, .pointer (some ⟨bx39, 0, none⟩)), (10, .int .i64 x1430), (57, .bool (decide (t1619 > (mxI 1 (mnI p0 4096)))))]) rfl trivial fun a hk => ?_
          refine wpListIn_nil ?_
          refine then_n ?_
          cases b1624 : (decide (t1619 > (mxI 1 (mnI p0 4096))))
          · rw [b1624] at hk H
            replace H := bifF H
            refine x_if hk (b := false) rfl ?_
            refine (show Code.wpIn _ _ _ _ _ _ _ from ?_)
            refine wpIn_skip ?_
            refine blk_n ?_
            refine then_n ?_
            refine wpIn_region_lit ?_
            refine x_run tab hk (k := 3) (lv := []) (ks := [0, 1, 2, 7, 8, 10]) (e' := [(0, .int .i64 p0), (1, .slice (some ad1585) (p1).length cp1), (2, .slice Ap2 (p2).length cp2), (7, .pointer (some ⟨bx18, 0, none⟩)), (8, .pointer (some ⟨bx39, 0, none⟩)), (10, .int .i64 (IntKind.wrap .i64 (x1430 + 1)))]) rfl trivial fun a hk => ?_
            refine wpListIn_nil ?_
            refine then_n ?_
            exact ⟨k1528, Nat.le_refl _, (fun b_ => (fun l_ => if l_ = 194 then 186 else if l_ = 195 then 187 else if l_ = 196 then 188 else if l_ = 197 then 189 else l_) (o1622 b_)), t1589.2.2.most, t1589.2.2.lost, A1599, c1600, t1589.2.2.l, t1589.1.Most, t1589.1.Lost, A1594, c1595, t1589.1.L, (IntKind.wrap .i64 (x1430 + 1)), (by exact Kn.pick (ks := [0, 1, 2, 7, 8, 10]) hk rfl), (hs.relab0 (fun l_ => if l_ = 194 then 186 else if l_ = 195 then 187 else if l_ = 196 then 188 else if l_ = 197 then 189 else l_) rfl), (f1601.relab (fun l_ => if l_ = 194 then 186 else if l_ = 195 then 187 else if l_ = 196 then 188 else if l_ = 197 then 189 else l_) rfl), (f1596.relab (fun l_ => if l_ = 194 then 186 else if l_ = 195 then 187 else if l_ = 196 then 188 else if l_ = 197 then 189 else l_) rfl), (f1598.relab (fun l_ => if l_ = 194 then 186 else if l_ = 195 then 187 else if l_ = 196 then 188 else if l_ = 197 then 189 else l_) rfl), (f40.relab (fun l_ => if l_ = 194 then 186 else if l_ = 195 then 187 else if l_ = 196 then 188 else if l_ = 197 then 189 else l_) rfl), (f900020.relab (fun l_ => if l_ = 194 then 186 else if l_ = 195 then 187 else if l_ = 196 then 188 else if l_ = 197 then 189 else l_) rfl), (f900040.relab (fun l_ => if l_ = 194 then 186 else if l_ = 195 then 187 else if l_ = 196 then 188 else if l_ = 197 then 189 else l_) rfl), hc1602, hc1597, (hlp1530 ▸ H)⟩
          · rw [b1624] at hk H
            replace H := bifT H
            refine x_if hk (b := true) rfl ?_
            refine (show Code.wpIn _ _ _ _ _ _ _ from ?_)
            refine x_seq ?_
            refine wpIn_region_lit ?_
            refine x_run tab hk (k := 1) (lv := []) (ks := [6]) (e' := [(6, .bool false)]) rfl trivial fun a hk => ?_
            refine wpListIn_nil ?_
            refine then_n ?_
            refine wpIn_ret ?_
            refine blk_r ?_
            refine then_r ?_
            refine then_r ?_
            refine blk_r ?_
            refine then_r ?_
            obtain rfl := Option.some.inj H
            exact x_retG hk (rs := [.tmp 6]) (vs := [.bool false]) rfl ⟨rfl, trivial⟩ ⟨fun b_ => if b_ < w.heap.size then o b_ else (fun _ => 0) (o1622 b_), rfl, hs.close0 o (fun _ => 0)⟩
        · rw [b1615] at hk H
          replace H := bifT H
          refine x_run tab hk (k := 7) (lv := []) (ks := [0, 1, 2, 7, 8, 10, 57]) (e' := [(0, .int .i64 p0), (1, .slice (some ad1585) (p1).length cp1), (2, .slice Ap2 (p2).length cp2), (7, .pointer (some ⟨bx18, 0, none⟩)), (8, .pointer (some ⟨bx39, 0, none⟩)), (10, .int .i64 x1430), (57, .bool true)]) rfl trivial fun a hk => ?_
          refine wpListIn_nil ?_
          refine then_n ?_
          refine x_if hk (b := true) rfl ?_
          refine (show Code.wpIn _ _ _ _ _ _ _ from ?_)
          refine x_seq ?_
          refine wpIn_region_lit ?_
          refine x_run tab hk (k := 1) (lv := []) (ks := [6]) (e' := [(6, .bool false)]) rfl trivial fun a hk => ?_
          refine wpListIn_nil ?_
          refine then_n ?_
          refine wpIn_ret ?_
          refine blk_r ?_
          refine then_r ?_
          refine then_r ?_
          refine blk_r ?_
          refine then_r ?_
          obtain rfl := Option.some.inj H
          exact x_retG hk (rs := [.tmp 6]) (vs := [.bool false]) rfl ⟨rfl, trivial⟩ ⟨fun b_ => if b_ < w.heap.size then o b_ else (fun _ => 0) (o1613 b_), rfl, hs.close0 o (fun _ => 0)⟩
      · rw [b1606] at hk H
        replace H := bifT H
        refine x_run tab hk (k := 12) (lv := []) (ks := [0, 1, 2, 7, 8, 10, 50, 56]) (e' := [(0, .int .i64 p0), (1, .slice (some ad1585) (p1).length cp1), (2, .slice Ap2 (p2).length cp2), (7, .pointer (some ⟨bx18, 0, none⟩)), (8, .pointer (some ⟨bx39, 0, none⟩)), (10, .int .i64 x1430), (50, .bool true), (56, undef)]) rfl trivial fun a hk => ?_
        refine x_run tab hk (k := 1) (lv := []) (ks := [0, 1, 2, 7, 8, 10, 57]) (e' := [(0, .int .i64 p0), (1, .slice (some ad1585) (p1).length cp1), (2, .slice Ap2 (p2).length cp2), (7, .pointer (some ⟨bx18, 0, none⟩)), (8, .pointer (some ⟨bx39, 0, none⟩)), (10, .int .i64 x1430), (57, .bool true)]) rfl trivial fun a hk => ?_
        refine wpListIn_nil ?_
        refine then_n ?_
        refine x_if hk (b := true) rfl ?_
        refine (show Code.wpIn _ _ _ _ _ _ _ from ?_)
        refine x_seq ?_
        refine wpIn_region_lit ?_
        refine x_run tab hk (k := 1) (lv := []) (ks := [6]) (e' := [(6, .bool false)]) rfl trivial fun a hk => ?_
        refine wpListIn_nil ?_
        refine then_n ?_
        refine wpIn_ret ?_
        refine blk_r ?_
        refine then_r ?_
        refine then_r ?_
        refine blk_r ?_
        refine then_r ?_
        obtain rfl := Option.some.inj H
        exact x_retG hk (rs := [.tmp 6]) (vs := [.bool false]) rfl ⟨rfl, trivial⟩ ⟨fun b_ => if b_ < w.heap.size then o b_ else (fun _ => 0) (o1604 b_), rfl, hs.close0 o (fun _ => 0)⟩
    refine x_seq ?_
    refine wpIn_region_lit ?_
    refine x_run tab hk (k := 5) (lv := []) (ks := [0, 1, 2, 7, 8, 10, 26]) (e' := [(0, .int .i64 p0), (1, .slice Ap1 (p1).length cp1), (2, .slice Ap2 (p2).length cp2), (7, .pointer (some ⟨bx18, 0, none⟩)), (8, .pointer (some ⟨bx39, 0, none⟩)), (10, .int .i64 x1430), (26, .bool (decide (x1430 < ((p1).length : Int))))]) rfl trivial fun a hk => ?_
    cases b1625 : (decide (x1430 < ((p1).length : Int)))
    · rw [b1625] at hk H
      replace H := bifF H
      refine x_run tab hk (k := 3) (lv := []) (ks := [0, 1, 2, 7, 8, 10, 29]) (e' := [(0, .int .i64 p0), (1, .slice Ap1 (p1).length cp1), (2, .slice Ap2 (p2).length cp2), (7, .pointer (some ⟨bx18, 0, none⟩)), (8, .pointer (some ⟨bx39, 0, none⟩)), (10, .int .i64 x1430), (29, .bool false)]) rfl trivial fun a hk => ?_
      refine wpListIn_nil ?_
      refine then_n ?_
      refine x_if hk (b := false) rfl ?_
      refine (show Code.wpIn _ _ _ _ _ _ _ from ?_)
      refine wpIn_exit ?_
      refine then_x ?_
      refine then_x ?_
      refine blk_x ?_
      refine then_n ?_
      exact ⟨(fun b_ => (fun l_ => if l_ = 186 then 25 else if l_ = 187 then 26 else if l_ = 188 then 27 else if l_ = 189 then 28 else l_) (o1415 b_)), x1416, x1417, A1418, c1419, l1420, x1423, x1424, A1425, c1426, l1427, (by exact Kn.pick (ks := [2, 7, 8]) hk rfl), (hs.relab0 (fun l_ => if l_ = 186 then 25 else if l_ = 187 then 26 else if l_ = 188 then 27 else if l_ = 189 then 28 else l_) rfl), (f19.relab (fun l_ => if l_ = 186 then 25 else if l_ = 187 then 26 else if l_ = 188 then 27 else if l_ = 189 then 28 else l_) rfl), (f1421.relab (fun l_ => if l_ = 186 then 25 else if l_ = 187 then 26 else if l_ = 188 then 27 else if l_ = 189 then 28 else l_) rfl), (f1428.relab (fun l_ => if l_ = 186 then 25 else if l_ = 187 then 26 else if l_ = 188 then 27 else if l_ = 189 then 28 else l_) rfl), (f40.relab (fun l_ => if l_ = 186 then 25 else if l_ = 187 then 26 else if l_ = 188 then 27 else if l_ = 189 then 28 else l_) rfl), (f900040.relab (fun l_ => if l_ = 186 then 25 else if l_ = 187 then 26 else if l_ = 188 then 27 else if l_ = 189 then 28 else l_) rfl), hc1422, hc1429, H⟩
    · rw [b1625] at hk H
      replace H := bifT H
      refine x_run tab hk (k := 3) (lv := []) (ks := [0, 1, 2, 7, 8, 10, 29]) (e' := [(0, .int .i64 p0), (1, .slice Ap1 (p1).length cp1), (2, .slice Ap2 (p2).length cp2), (7, .pointer (some ⟨bx18, 0, none⟩)), (8, .pointer (some ⟨bx39, 0, none⟩)), (10, .int .i64 x1430), (29, .bool (decide (x1430 < (30 : Int))))]) rfl trivial fun a hk => ?_
      refine wpListIn_nil ?_
      refine then_n ?_
      cases b1626 : (decide (x1430 < (30 : Int)))
      · rw [b1626] at hk H
        replace H := bifF H
        refine x_if hk (b := false) rfl ?_
        refine (show Code.wpIn _ _ _ _ _ _ _ from ?_)
        refine wpIn_exit ?_
        refine then_x ?_
        refine then_x ?_
        refine blk_x ?_
        refine then_n ?_
        exact ⟨(fun b_ => (fun l_ => if l_ = 186 then 25 else if l_ = 187 then 26 else if l_ = 188 then 27 else if l_ = 189 then 28 else l_) (o1415 b_)), x1416, x1417, A1418, c1419, l1420, x1423, x1424, A1425, c1426, l1427, (by exact Kn.pick (ks := [2, 7, 8]) hk rfl), (hs.relab0 (fun l_ => if l_ = 186 then 25 else if l_ = 187 then 26 else if l_ = 188 then 27 else if l_ = 189 then 28 else l_) rfl), (f19.relab (fun l_ => if l_ = 186 then 25 else if l_ = 187 then 26 else if l_ = 188 then 27 else if l_ = 189 then 28 else l_) rfl), (f1421.relab (fun l_ => if l_ = 186 then 25 else if l_ = 187 then 26 else if l_ = 188 then 27 else if l_ = 189 then 28 else l_) rfl), (f1428.relab (fun l_ => if l_ = 186 then 25 else if l_ = 187 then 26 else if l_ = 188 then 27 else if l_ = 189 then 28 else l_) rfl), (f40.relab (fun l_ => if l_ = 186 then 25 else if l_ = 187 then 26 else if l_ = 188 then 27 else if l_ = 189 then 28 else l_) rfl), (f900040.relab (fun l_ => if l_ = 186 then 25 else if l_ = 187 then 26 else if l_ = 188 then 27 else if l_ = 189 then 28 else l_) rfl), hc1422, hc1429, H⟩
      · rw [b1626] at hk H
        replace H := bifT H
        refine x_if hk (b := true) rfl ?_
        refine (show Code.wpIn _ _ _ _ _ _ _ from ?_)
        refine wpIn_skip ?_
        refine then_n ?_
        exact ⟨(fun b_ => (fun l_ => if l_ = 186 then 194 else if l_ = 187 then 195 else if l_ = 188 then 196 else if l_ = 189 then 197 else l_) (o1415 b_)), (by exact Kn.pick (ks := [0, 1, 2, 7, 8, 10]) hk rfl), (hs.relab0 (fun l_ => if l_ = 186 then 194 else if l_ = 187 then 195 else if l_ = 188 then 196 else if l_ = 189 then 197 else l_) rfl), (f1421.relab (fun l_ => if l_ = 186 then 194 else if l_ = 187 then 195 else if l_ = 188 then 196 else if l_ = 189 then 197 else l_) rfl), (f1428.relab (fun l_ => if l_ = 186 then 194 else if l_ = 187 then 195 else if l_ = 188 then 196 else if l_ = 189 then 197 else l_) rfl), (f19.relab (fun l_ => if l_ = 186 then 194 else if l_ = 187 then 195 else if l_ = 188 then 196 else if l_ = 189 then 197 else l_) rfl), (f40.relab (fun l_ => if l_ = 186 then 194 else if l_ = 187 then 195 else if l_ = 188 then 196 else if l_ = 189 then 197 else l_) rfl), (f900020.relab (fun l_ => if l_ = 186 then 194 else if l_ = 187 then 195 else if l_ = 188 then 196 else if l_ = 189 then 197 else l_) rfl), (f900040.relab (fun l_ => if l_ = 186 then 194 else if l_ = 187 then 195 else if l_ = 188 then 196 else if l_ = 189 then 197 else l_) rfl), H⟩
  · rw [b9] at hk H
    replace H := bifT H
    refine x_if hk (b := true) rfl ?_
    refine (show Code.wpIn _ _ _ _ _ _ _ from ?_)
    refine x_seq ?_
    refine wpIn_region_lit ?_
    refine x_run tab hk (k := 1) (lv := []) (ks := [6]) (e' := [(6, .bool false)]) rfl trivial fun a hk => ?_
    refine wpListIn_nil ?_
    refine then_n ?_
    refine wpIn_ret ?_
    refine then_r ?_
    obtain rfl := Option.some.inj H
    exact x_retG hk (rs := [.tmp 6]) (vs := [.bool false]) rfl ⟨rfl, trivial⟩ ⟨fun b_ => if b_ < w.heap.size then o b_ else (fun _ => 0) (o7 b_), rfl, hs.close0 o (fun _ => 0)⟩

end Go.Proofs.Ytknddjjgidaedaa
