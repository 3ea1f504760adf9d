/- Walks, printed by an own program: the machine's calls compute the plain functions. -/
import Derived.Test.YtmgopcmdljhjoaaW2
set_option linter.unusedVariables false
set_option linter.unusedSimpArgs false
namespace Go.Proofs.Ytmgopcmdljhjoaa
open Go Go.Proofs.XC
/-! tidewrack/tidewrackref21.Count -/
theorem tidewrackref21_Count_calls (K : Nat) (Ap0 : Option Addr) (cp0 : Nat) (p0 : List T30) (w : World) (o : Nat → Nat) (Lp0 : Nat) (hp0 : Ft (RdC ET30 Ap0 p0) w o Lp0) (hcp0 : (p0).length ≤ cp0)  (r : Int) (H : tidewrackref21_Count K p0 = some r) :
    Calls Try.prog 11 #[.slice Ap0 (p0).length cp0] w (Ret fun v_ w' => ∃ o' : Nat → Nat, v_ = .int .i64 r ∧ St [] w o w' o') := by
  refine x_enter (vs := [.slice Ap0 (p0).length cp0]) Try.func11 rfl rfl rfl fun a hk => ?_
  obtain ⟨o0, hs, h0⟩ := St.start w o
  have f900000 := h0 _ _ hp0
  clear h0
  rw [tidewrackref21_Count] at H
  refine x_seq ?_
  refine wpIn_region_lit ?_
  refine x_run tab hk (k := 1) (lv := []) (ks := [0]) (e' := [(0, .slice Ap0 (p0).length cp0)]) rfl trivial fun a hk => ?_
  refine wpListIn_nil ?_
  refine then_n ?_
  refine x_seq ?_
  refine wpIn_region_lit ?_
  refine x_run tab hk (k := 1) (lv := []) (ks := [0, 3]) (e' := [(0, .slice Ap0 (p0).length cp0), (3, .int .i64 0)]) rfl trivial fun a hk => ?_
  refine wpListIn_nil ?_
  refine then_n ?_
  refine x_mid (fun a_ w_ => ∃ o50 : Nat → Nat, ∃ x51 : Int, Kn 21 a_ [(3, .int .i64 x51)] ∧ St [] w (fun _ => 0) w_ o50 ∧ tidewrackref21_Count_j1 x51 = some r) ?_ ?_
  rotate_left
  · rintro a w52 ⟨o50, x51, hk, hs, H⟩
    rw [tidewrackref21_Count_j1] at H
    refine x_seq ?_
    refine wpIn_region_lit ?_
    refine x_run tab hk (k := 2) (lv := []) (ks := [2]) (e' := [(2, .int .i64 x51)]) rfl trivial fun a hk => ?_
    refine wpListIn_nil ?_
    refine then_n ?_
    refine wpIn_ret ?_
    obtain rfl := Option.some.inj H
    exact x_retG hk (rs := [.tmp 2]) (vs := [.int .i64 x51]) rfl ⟨rfl, trivial⟩ ⟨fun b_ => if b_ < w.heap.size then o b_ else (fun _ => 0) (o50 b_), rfl, hs.close0 o (fun _ => 0)⟩
  refine x_seq ?_
  refine wpIn_region_lit ?_
  refine x_run tab hk (k := 3) (lv := []) (ks := [3, 6, 7, 8]) (e' := [(3, .int .i64 0), (6, .slice Ap0 (p0).length cp0), (7, .int .i64 ((p0).length : Int)), (8, .int .i64 0)]) rfl trivial fun a hk => ?_
  refine wpListIn_nil ?_
  refine then_n ?_
  refine wpIn_block ?_
  refine x_loop (fun j_ a_ w_ => ∃ o67 : Nat → Nat, ∃ x68 : Int, ∃ x69 : Int, Kn 21 a_ [(3, .int .i64 x68), (6, .slice Ap0 (p0).length cp0), (7, .int .i64 ((p0).length : Int)), (8, .int .i64 x69)] ∧ St [] w (fun _ => 0) w_ o67 ∧ Ft (RdC ET30 Ap0 p0) w_ o67 0 ∧ tidewrackref21_Count_l2 p0 j_ x68 x69 = some r) (k := K) ⟨o0, 0, 0, (by exact Kn.pick (ks := [3, 6, 7, 8]) hk rfl), hs, f900000, H⟩ (by rintro _ _ ⟨_, _, _, _, _, _, H_⟩; exact absurd (show (none : Option Int) = some r from H_) (by simp)) ?_
  rintro k82 a w81 ⟨o67, x68, x69, hk, hs, f900000, H⟩
  rw [tidewrackref21_Count_l2] at H
  obtain ⟨lp83, hlp84⟩ : ∃ lp_, lp_ = tidewrackref21_Count_l2 p0 k82 := ⟨_, rfl⟩
  rw [← hlp84] at H
  refine x_seq ?_
  refine wpIn_region_lit ?_
  refine x_run tab hk (k := 1) (lv := []) (ks := [3, 6, 7, 8, 9]) (e' := [(3, .int .i64 x68), (6, .slice Ap0 (p0).length cp0), (7, .int .i64 ((p0).length : Int)), (8, .int .i64 x69), (9, .bool (decide (x69 < ((p0).length : Int))))]) rfl trivial fun a hk => ?_
  refine wpListIn_nil ?_
  refine then_n ?_
  refine x_seq ?_
  cases b85 : (decide (x69 < ((p0).length : Int)))
  · rw [b85] at hk H
    replace H := bifF H
    refine x_if hk (b := false) rfl ?_
    refine (show Code.wpIn _ _ _ _ _ _ _ from ?_)
    refine wpIn_exit ?_
    refine then_x ?_
    refine then_x ?_
    refine blk_x ?_
    refine then_n ?_
    exact ⟨o67, x68, (by exact Kn.pick (ks := [3]) hk rfl), hs, H⟩
  · rw [b85] at hk H
    replace H := bifT H
    refine x_if hk (b := true) rfl ?_
    refine (show Code.wpIn _ _ _ _ _ _ _ from ?_)
    refine wpIn_skip ?_
    refine then_n ?_
    refine x_seq ?_
    refine wpIn_block ?_
    refine x_seq ?_
    refine wpIn_region_lit ?_
    obtain ⟨q86, H⟩ := ifS H
    obtain ⟨ad87, hAad87⟩ := RdC.addr f900000.now q86
    have hk_C := hk
    have f900000_C := f900000
    subst hAad87
    have hk := hk_C
    clear hk_C
    have f900000 := f900000_C
    clear f900000_C
    refine x_run tab hk (k := 2) (lv := [.agg #[.int .i64 ((rdD zT30 p0 x69).From), .int .i64 ((rdD zT30 p0 x69).To)]]) (ks := [3, 6, 7, 8, 11]) (e' := [(3, .int .i64 x68), (6, .slice (some ad87) (p0).length cp0), (7, .int .i64 ((p0).length : Int)), (8, .int .i64 x69), (11, .agg #[.int .i64 ((rdD zT30 p0 x69).From), .int .i64 ((rdD zT30 p0 x69).To)])]) rfl ⟨q86, (load_elem (E := ET30) (i := x69) (dx := zT30) tab rfl rfl f900000.now q86), trivial⟩ fun a hk => ?_
    refine x_op hk rfl ?_
    refine op_alloc (o := o67) tab (t := 31) (cs := [.int .i64 0, .int .i64 0]) rfl rfl 6 fun bx91 w88 o89 st90 f92 => ?_
    replace f900000 := f900000.st st90 (by decide)
    replace hs := hs.loc0 st90 (by decide)
    have hk := hk.put 5 (.pointer (some ⟨bx91, 0, none⟩)) rfl
    refine x_op hk rfl ?_
    refine op_store tab hk (t := 31) (v := .agg #[.int .i64 ((rdD zT30 p0 x69).From), .int .i64 ((rdD zT30 p0 x69).To)]) (b := bx91) (k := 0) (cs' := [.int .i64 ((rdD zT30 p0 x69).From), .int .i64 ((rdD zT30 p0 x69).To)]) rfl rfl rfl rfl rfl rfl f92 rfl rfl fun w93 o94 st95 f92_ => ?_
    replace f900000 := f900000.st st95 (by decide)
    replace hs := hs.loc0 st95 (by decide)
    replace f92 := f92_
    refine wpListIn_nil ?_
    refine then_n ?_
    refine wpIn_region_lit ?_
    refine x_run tab hk (k := 8) (lv := [.int .i64 ((rdD zT30 p0 x69).To), .int .i64 ((rdD zT30 p0 x69).From)]) (ks := [3, 6, 7, 8]) (e' := [(3, .int .i64 (IntKind.wrap .i64 (x68 + (IntKind.wrap .i64 (((rdD zT30 p0 x69).To) - ((rdD zT30 p0 x69).From)))))), (6, .slice (some ad87) (p0).length cp0), (7, .int .i64 ((p0).length : Int)), (8, .int .i64 x69)]) rfl ⟨(load1 tab rfl ((Bx.cell f92.now 1).trans rfl)), (load1 tab rfl ((Bx.cell f92.now 0).trans rfl)), trivial⟩ fun a hk => ?_
    refine wpListIn_nil ?_
    refine blk_n ?_
    refine then_n ?_
    refine wpIn_region_lit ?_
    refine x_run tab hk (k := 2) (lv := []) (ks := [3, 6, 7, 8]) (e' := [(3, .int .i64 (IntKind.wrap .i64 (x68 + (IntKind.wrap .i64 (((rdD zT30 p0 x69).To) - ((rdD zT30 p0 x69).From)))))), (6, .slice (some ad87) (p0).length cp0), (7, .int .i64 ((p0).length : Int)), (8, .int .i64 (IntKind.wrap .i64 (x69 + 1)))]) rfl trivial fun a hk => ?_
    refine wpListIn_nil ?_
    refine then_n ?_
    exact ⟨k82, Nat.le_refl _, o94, (IntKind.wrap .i64 (x68 + (IntKind.wrap .i64 (((rdD zT30 p0 x69).To) - ((rdD zT30 p0 x69).From))))), (IntKind.wrap .i64 (x69 + 1)), (by exact Kn.pick (ks := [3, 6, 7, 8]) hk rfl), hs, f900000, (hlp84 ▸ H)⟩

/-! tidewrack/tidewrackref21.Got -/
theorem tidewrackref21_Got_calls (K : Nat) (Ap0_0 : Option Addr) (cp0_0 : Nat) (p0 : T27) (p1 : Int) (w : World) (o : Nat → Nat) (Lp0_0 : Nat) (hp0_0 : Ft (RdC ET30 Ap0_0 p0.L) w o Lp0_0) (hcp0_0 : (p0.L).length ≤ cp0_0) (hd0 : ([Lp0_0] : List Nat).Nodup) (r : T27 × Bool) (H : tidewrackref21_Got K p0 p1 = some r) :
    Calls Try.prog 18 #[.agg #[.int .i64 p0.Most, .int .i64 p0.Every, .int .i64 p0.Due, .slice Ap0_0 (p0.L).length cp0_0], .int .i64 p1] w (Ret fun v_ w' => ∃ o' : Nat → Nat, ∃ A0 : Option Addr, ∃ c0 : Nat, v_ = .tuple #[.agg #[.int .i64 r.1.Most, .int .i64 r.1.Every, .int .i64 r.1.Due, .slice A0 (r.1.L).length c0], .bool r.2] ∧ St [] w o w' o' ∧ Ft (RdC ET30 A0 r.1.L) w' o' Lp0_0 ∧ (r.1.L).length ≤ c0) := by
  refine x_enter (vs := [.agg #[.int .i64 p0.Most, .int .i64 p0.Every, .int .i64 p0.Due, .slice Ap0_0 (p0.L).length cp0_0], .int .i64 p1]) Try.func18 rfl rfl rfl fun a hk => ?_
  obtain ⟨oi, hs0, h0, h1, hob, hoz, hoa⟩ := St.startM2 w o (m := 1) hd0 rfl
  have hs := hs0 []
  have f900000 := h1 0 1 hp0_0 rfl rfl
  clear h0 h1 hs0
  rw [tidewrackref21_Got] at H
  refine x_seq ?_
  refine wpIn_region_lit ?_
  refine x_op hk rfl ?_
  refine op_box (o := oi) (t := 28) (v := .agg #[.int .i64 p0.Most, .int .i64 p0.Every, .int .i64 p0.Due, .slice Ap0_0 (p0.L).length cp0_0]) (cs := [.int .i64 p0.Most, .int .i64 p0.Every, .int .i64 p0.Due, .slice Ap0_0 (p0.L).length cp0_0]) hk rfl rfl 2 fun bx4 w1 o2 st3 f5 => ?_
  replace f900000 := f900000.st st3 (by decide)
  replace hs := hs.locQ st3 hob rfl
  have hk := hk.put 2 (.pointer (some ⟨bx4, 0, none⟩)) rfl
  refine x_op hk rfl ?_
  refine op_alloc (o := o2) tab (t := 28) (cs := [.int .i64 0, .int .i64 0, .int .i64 0, .slice none 0 0]) rfl rfl 3 fun bx9 w6 o7 st8 f10 => ?_
  replace f5 := f5.st st8 (by decide)
  replace f900000 := f900000.st st8 (by decide)
  replace hs := hs.locQ st8 hob rfl
  have hk := hk.put 4 (.pointer (some ⟨bx9, 0, none⟩)) rfl
  refine x_run tab hk (k := 1) (lv := []) (ks := [1, 2, 4]) (e' := [(1, .int .i64 p1), (2, .pointer (some ⟨bx4, 0, none⟩)), (4, .pointer (some ⟨bx9, 0, none⟩))]) rfl trivial fun a hk => ?_
  refine wpListIn_nil ?_
  refine then_n ?_
  refine x_seq ?_
  refine x_seq ?_
  refine wpIn_region_lit ?_
  refine x_run tab hk (k := 3) (lv := [.slice Ap0_0 (p0.L).length cp0_0]) (ks := [1, 2, 4, 7, 8]) (e' := [(1, .int .i64 p1), (2, .pointer (some ⟨bx4, 0, none⟩)), (4, .pointer (some ⟨bx9, 0, none⟩)), (7, .slice Ap0_0 (p0.L).length cp0_0), (8, .int .i64 p1)]) rfl ⟨(load1 tab rfl ((Bx.cell f5.now 3).trans rfl)), trivial⟩ fun a hk => ?_
  refine x_op hk rfl ?_
  obtain ⟨t14, hc15, H⟩ := bindS H
  refine op_call hk ent_31 (vs := [.slice Ap0_0 (p0.L).length cp0_0, .int .i64 p1]) rfl (tidewrackref13_Has_calls K Ap0_0 cp0_0 p0.L p1 _ o7 _ f900000 hcp0_0   _ hc15) ?_
  rintro _ w16 ⟨o17, rfl, st18⟩
  replace f10 := f10.st st18 (by decide)
  replace f5 := f5.st st18 (by decide)
  replace f900000 := f900000.st st18 (by decide)
  replace hs := hs.locQ st18 hob rfl
  have hk := hk.put 9 (.bool t14) rfl
  refine x_run tab hk (k := 1) (lv := []) (ks := [1, 2, 4, 10]) (e' := [(1, .int .i64 p1), (2, .pointer (some ⟨bx4, 0, none⟩)), (4, .pointer (some ⟨bx9, 0, none⟩)), (10, .bool (!t14))]) rfl trivial fun a hk => ?_
  refine wpListIn_nil ?_
  refine then_n ?_
  cases b19 : (!t14)
  · rw [b19] at hk H
    replace H := bifF H
    refine x_if hk (b := false) rfl ?_
    refine (show Code.wpIn _ _ _ _ _ _ _ from ?_)
    refine wpIn_skip ?_
    refine then_n ?_
    refine x_seq ?_
    refine wpIn_region_lit ?_
    refine x_run tab hk (k := 6) (lv := [.slice Ap0_0 (p0.L).length cp0_0]) (ks := [2, 4, 13, 17]) (e' := [(2, .pointer (some ⟨bx4, 0, none⟩)), (4, .pointer (some ⟨bx9, 0, none⟩)), (13, .slice Ap0_0 (p0.L).length cp0_0), (17, .agg #[.int .i64 p1, .int .i64 (IntKind.wrap .i64 (p1 + 1))])]) rfl ⟨(load1 tab rfl ((Bx.cell f5.now 3).trans rfl)), trivial⟩ fun a hk => ?_
    refine x_op hk rfl ?_
    obtain ⟨t23, hc24, H⟩ := bindS H
    refine op_call hk ent_30 (vs := [.slice Ap0_0 (p0.L).length cp0_0, .agg #[.int .i64 p1, .int .i64 (IntKind.wrap .i64 (p1 + 1))]]) rfl (tidewrackref13_Cut_calls K Ap0_0 cp0_0 p0.L (⟨p1, (IntKind.wrap .i64 (p1 + 1))⟩ : T30) _ o17 _ f900000 hcp0_0 4  _ hc24) ?_
    rintro _ w25 ⟨o26, A28, c29, rfl, st27, f30, hc31⟩
    replace f10 := f10.st st27 (by decide)
    replace f5 := f5.st st27 (by decide)
    replace f900000 := f900000.st st27 (by decide)
    replace hs := hs.locQ st27 hob rfl
    have hk := hk.put 18 (.slice A28 (t23).length c29) rfl
    refine x_run tab hk (k := 1) (lv := []) (ks := [2, 4, 18, 19]) (e' := [(2, .pointer (some ⟨bx4, 0, none⟩)), (4, .pointer (some ⟨bx9, 0, none⟩)), (18, .slice A28 (t23).length c29), (19, .pointer (some ((⟨bx4, 0, none⟩ : Addr).add 3)))]) rfl trivial fun a hk => ?_
    refine x_op hk rfl ?_
    refine op_store tab hk (t := 26) (v := .slice A28 (t23).length c29) (b := bx4) (k := 3) (cs' := [.int .i64 p0.Most, .int .i64 p0.Every, .int .i64 p0.Due, .slice A28 (t23).length c29]) rfl rfl rfl rfl rfl rfl f5 rfl rfl fun w32 o33 st34 f5_ => ?_
    replace f10 := f10.st st34 (by decide)
    replace f30 := f30.st st34 (by decide)
    replace f900000 := f900000.st st34 (by decide)
    replace hs := hs.locQ st34 hob rfl
    replace f5 := f5_
    refine wpListIn_nil ?_
    refine then_n ?_
    refine x_seq ?_
    refine wpIn_region_lit ?_
    refine x_run tab hk (k := 1) (lv := [.agg #[.int .i64 p0.Most, .int .i64 p0.Every, .int .i64 p0.Due, .slice A28 (t23).length c29]]) (ks := [4, 20]) (e' := [(4, .pointer (some ⟨bx9, 0, none⟩)), (20, .agg #[.int .i64 p0.Most, .int .i64 p0.Every, .int .i64 p0.Due, .slice A28 (t23).length c29])]) rfl ⟨(load_box tab rfl rfl f5.now (k := 0) rfl rfl), trivial⟩ fun a hk => ?_
    refine x_op hk rfl ?_
    refine op_store tab hk (t := 28) (v := .agg #[.int .i64 p0.Most, .int .i64 p0.Every, .int .i64 p0.Due, .slice A28 (t23).length c29]) (b := bx9) (k := 0) (cs' := [.int .i64 p0.Most, .int .i64 p0.Every, .int .i64 p0.Due, .slice A28 (t23).length c29]) rfl rfl rfl rfl rfl rfl f10 rfl rfl fun w35 o36 st37 f10_ => ?_
    replace f30 := f30.st st37 (by decide)
    replace hs := hs.locQ st37 hob rfl
    replace f10 := f10_
    refine x_run tab hk (k := 1) (lv := []) (ks := [4, 5]) (e' := [(4, .pointer (some ⟨bx9, 0, none⟩)), (5, .bool true)]) rfl trivial fun a hk => ?_
    refine wpListIn_nil ?_
    refine then_n ?_
    refine wpIn_ret ?_
    obtain rfl := Option.some.inj H
    exact x_retG hk (rs := [.cell 4 28, .tmp 5]) (vs := [.agg #[.int .i64 p0.Most, .int .i64 p0.Every, .int .i64 p0.Due, .slice A28 (t23).length c29], .bool true]) rfl ⟨⟨_, rfl, load_box tab rfl rfl f10.now (k := 0) rfl rfl⟩, rfl, trivial⟩ ⟨cl w oi o [] (fun l_ => if l_ = 4 then Lp0_0 else 0) o36, A28, c29, rfl, hs.closeQ (Lm := []) (Sh := [Lp0_0]) hoa rfl (fun l_ => if l_ = 4 then Lp0_0 else 0), ((hs.closeM_ft (o := o) (ρ := fun l_ => if l_ = 4 then Lp0_0 else 0) f30 (lab_none hob rfl) rfl).imp fun _ h_ => Own.rd h_), hc31⟩
  · rw [b19] at hk H
    replace H := bifT H
    refine x_if hk (b := true) rfl ?_
    refine (show Code.wpIn _ _ _ _ _ _ _ from ?_)
    refine x_seq ?_
    refine wpIn_region_lit ?_
    refine x_run tab hk (k := 1) (lv := [.agg #[.int .i64 p0.Most, .int .i64 p0.Every, .int .i64 p0.Due, .slice Ap0_0 (p0.L).length cp0_0]]) (ks := [4, 11]) (e' := [(4, .pointer (some ⟨bx9, 0, none⟩)), (11, .agg #[.int .i64 p0.Most, .int .i64 p0.Every, .int .i64 p0.Due, .slice Ap0_0 (p0.L).length cp0_0])]) rfl ⟨(load_box tab rfl rfl f5.now (k := 0) rfl rfl), trivial⟩ fun a hk => ?_
    refine x_op hk rfl ?_
    refine op_store tab hk (t := 28) (v := .agg #[.int .i64 p0.Most, .int .i64 p0.Every, .int .i64 p0.Due, .slice Ap0_0 (p0.L).length cp0_0]) (b := bx9) (k := 0) (cs' := [.int .i64 p0.Most, .int .i64 p0.Every, .int .i64 p0.Due, .slice Ap0_0 (p0.L).length cp0_0]) rfl rfl rfl rfl rfl rfl f10 rfl rfl fun w38 o39 st40 f10_ => ?_
    replace f900000 := f900000.st st40 (by decide)
    replace hs := hs.locQ st40 hob rfl
    replace f10 := f10_
    refine x_run tab hk (k := 1) (lv := []) (ks := [4, 5]) (e' := [(4, .pointer (some ⟨bx9, 0, none⟩)), (5, .bool false)]) rfl trivial fun a hk => ?_
    refine wpListIn_nil ?_
    refine then_n ?_
    refine wpIn_ret ?_
    refine then_r ?_
    obtain rfl := Option.some.inj H
    exact x_retG hk (rs := [.cell 4 28, .tmp 5]) (vs := [.agg #[.int .i64 p0.Most, .int .i64 p0.Every, .int .i64 p0.Due, .slice Ap0_0 (p0.L).length cp0_0], .bool false]) rfl ⟨⟨_, rfl, load_box tab rfl rfl f10.now (k := 0) rfl rfl⟩, rfl, trivial⟩ ⟨cl w oi o [] (fun l_ => if l_ = 1 then Lp0_0 else 0) o39, Ap0_0, cp0_0, rfl, hs.closeQ (Lm := []) (Sh := [Lp0_0]) hoa rfl (fun l_ => if l_ = 1 then Lp0_0 else 0), hs.closeM_ft (o := o) (ρ := fun l_ => if l_ = 1 then Lp0_0 else 0) f900000 (lab_at hoa (i := 0) rfl) rfl, hcp0_0⟩

/-! tidewrack/tidewrackref13.In -/
theorem tidewrackref13_In_calls (K : Nat) (Ap0 : Option Addr) (cp0 : Nat) (p0 : List T30) (p1 : T30) (w : World) (o : Nat → Nat) (Lp0 : Nat) (hp0 : Ft (RdC ET30 Ap0 p0) w o Lp0) (hcp0 : (p0).length ≤ cp0)  (R0 : Nat) (r : List T30) (H : tidewrackref13_In K p0 p1 = some r) :
    Calls Try.prog 32 #[.slice Ap0 (p0).length cp0, .agg #[.int .i64 p1.From, .int .i64 p1.To]] w (Ret fun v_ w' => ∃ o' : Nat → Nat, ∃ A0 : Option Addr, ∃ c0 : Nat, v_ = .slice A0 (r).length c0 ∧ St [] w o w' o' ∧ Ft (Own ET30 31 (.slice A0 (r).length c0) r) w' o' R0 ∧ (r).length ≤ c0) := by
  refine x_enter (vs := [.slice Ap0 (p0).length cp0, .agg #[.int .i64 p1.From, .int .i64 p1.To]]) Try.func32 rfl rfl rfl fun a hk => ?_
  obtain ⟨o0, hs, h0⟩ := St.start w o
  have f900000 := h0 _ _ hp0
  clear h0
  rw [tidewrackref13_In] at H
  refine x_seq ?_
  refine wpIn_region_lit ?_
  refine x_op hk rfl ?_
  refine op_box (o := o0) (t := 31) (v := .agg #[.int .i64 p1.From, .int .i64 p1.To]) (cs := [.int .i64 p1.From, .int .i64 p1.To]) hk rfl rfl 1 fun bx4 w1 o2 st3 f5 => ?_
  replace f900000 := f900000.st st3 (by decide)
  replace hs := hs.loc0 st3 (by decide)
  have hk := hk.put 3 (.pointer (some ⟨bx4, 0, none⟩)) rfl
  refine x_run tab hk (k := 1) (lv := []) (ks := [0, 3]) (e' := [(0, .slice Ap0 (p0).length cp0), (3, .pointer (some ⟨bx4, 0, none⟩))]) rfl trivial fun a hk => ?_
  refine wpListIn_nil ?_
  refine then_n ?_
  refine x_seq ?_
  refine wpIn_region_lit ?_
  refine x_run tab hk (k := 2) (lv := [.agg #[.int .i64 p1.From, .int .i64 p1.To]]) (ks := [5, 6]) (e' := [(5, .slice Ap0 (p0).length cp0), (6, .agg #[.int .i64 p1.From, .int .i64 p1.To])]) rfl ⟨(load_box tab rfl rfl f5.now (k := 0) rfl rfl), trivial⟩ fun a hk => ?_
  refine x_op hk rfl ?_
  obtain ⟨t9, hc10, H⟩ := bindS H
  refine op_call hk ent_41 (vs := [.agg #[.int .i64 p1.From, .int .i64 p1.To]]) rfl (tidewrackref13_one_calls p1 _ o2  2  _ hc10) ?_
  rintro _ w11 ⟨o12, A14, c15, rfl, st13, f16, hc17⟩
  replace f900000 := f900000.st st13 (by decide)
  replace hs := hs.loc0 st13 (by decide)
  have hk := hk.put 7 (.slice A14 (t9).length c15) rfl
  refine x_op hk rfl ?_
  obtain ⟨t21, hc22, H⟩ := bindS H
  refine op_call hk ent_40 (vs := [.slice Ap0 (p0).length cp0, .slice A14 (t9).length c15, .int .i64 2]) rfl (tidewrackref13_build_calls K Ap0 cp0 p0 A14 c15 t9 2 _ o12 _ f900000 hcp0 _ (f16.imp fun _ h_ => Own.rd h_) hc17 3  _ hc22) ?_
  rintro _ w23 ⟨o24, A26, c27, rfl, st25, f28, hc29⟩
  replace f16 := f16.st st25 (by decide)
  replace f900000 := f900000.st st25 (by decide)
  replace hs := hs.loc0 st25 (by decide)
  have hk := hk.put 8 (.slice A26 (t21).length c27) rfl
  refine x_run tab hk (k := 1) (lv := []) (ks := [4]) (e' := [(4, .slice A26 (t21).length c27)]) rfl trivial fun a hk => ?_
  refine wpListIn_nil ?_
  refine then_n ?_
  refine wpIn_ret ?_
  obtain rfl := Option.some.inj H
  exact x_retG hk (rs := [.tmp 4]) (vs := [.slice A26 (t21).length c27]) rfl ⟨rfl, trivial⟩ ⟨fun b_ => if b_ < w.heap.size then o b_ else (fun _ => R0) (o24 b_), A26, c27, rfl, hs.close0 o (fun _ => R0), hs.close_ft (o := o) (ρ := fun _ => R0) f28 (by decide) rfl, hc29⟩

/-! tidewrack/tidewrackref21.Ask -/
theorem tidewrackref21_Ask_calls (K : Nat) (Ap0_0 : Option Addr) (cp0_0 : Nat) (p0 : T27) (p1 : Int) (p2 : Int) (w : World) (o : Nat → Nat) (Lp0_0 : Nat) (hp0_0 : Ft (RdC ET30 Ap0_0 p0.L) w o Lp0_0) (hcp0_0 : (p0.L).length ≤ cp0_0) (hd0 : ([Lp0_0] : List Nat).Nodup) (R0 : Nat) (r : T27 × (List T30)) (H : tidewrackref21_Ask K p0 p1 p2 = some r) :
    Calls Try.prog 19 #[.agg #[.int .i64 p0.Most, .int .i64 p0.Every, .int .i64 p0.Due, .slice Ap0_0 (p0.L).length cp0_0], .int .i64 p1, .int .i64 p2] w (Ret fun v_ w' => ∃ o' : Nat → Nat, ∃ A0 : Option Addr, ∃ c0 : Nat, ∃ A1 : Option Addr, ∃ c1 : Nat, v_ = .tuple #[.agg #[.int .i64 r.1.Most, .int .i64 r.1.Every, .int .i64 r.1.Due, .slice A0 (r.1.L).length c0], .slice A1 (r.2).length c1] ∧ St [] w o w' o' ∧ Ft (RdC ET30 A0 r.1.L) w' o' Lp0_0 ∧ (r.1.L).length ≤ c0 ∧ Ft (Own ET30 31 (.slice A1 (r.2).length c1) r.2) w' o' R0 ∧ (r.2).length ≤ c1) := by
  refine x_enter (vs := [.agg #[.int .i64 p0.Most, .int .i64 p0.Every, .int .i64 p0.Due, .slice Ap0_0 (p0.L).length cp0_0], .int .i64 p1, .int .i64 p2]) Try.func19 rfl rfl rfl fun a hk => ?_
  obtain ⟨oi, hs0, h0, h1, hob, hoz, hoa⟩ := St.startM2 w o (m := 1) hd0 rfl
  have hs := hs0 []
  have f900000 := h1 0 1 hp0_0 rfl rfl
  clear h0 h1 hs0
  rw [tidewrackref21_Ask] at H
  refine x_seq ?_
  refine wpIn_region_lit ?_
  refine x_op hk rfl ?_
  refine op_box (o := oi) (t := 28) (v := .agg #[.int .i64 p0.Most, .int .i64 p0.Every, .int .i64 p0.Due, .slice Ap0_0 (p0.L).length cp0_0]) (cs := [.int .i64 p0.Most, .int .i64 p0.Every, .int .i64 p0.Due, .slice Ap0_0 (p0.L).length cp0_0]) hk rfl rfl 2 fun bx4 w1 o2 st3 f5 => ?_
  replace f900000 := f900000.st st3 (by decide)
  replace hs := hs.locQ st3 hob rfl
  have hk := hk.put 3 (.pointer (some ⟨bx4, 0, none⟩)) rfl
  refine x_op hk rfl ?_
  refine op_alloc (o := o2) tab (t := 28) (cs := [.int .i64 0, .int .i64 0, .int .i64 0, .slice none 0 0]) rfl rfl 3 fun bx9 w6 o7 st8 f10 => ?_
  replace f5 := f5.st st8 (by decide)
  replace f900000 := f900000.st st8 (by decide)
  replace hs := hs.locQ st8 hob rfl
  have hk := hk.put 6 (.pointer (some ⟨bx9, 0, none⟩)) rfl
  refine x_run tab hk (k := 1) (lv := []) (ks := [1, 2, 3, 6]) (e' := [(1, .int .i64 p1), (2, .int .i64 p2), (3, .pointer (some ⟨bx4, 0, none⟩)), (6, .pointer (some ⟨bx9, 0, none⟩))]) rfl trivial fun a hk => ?_
  refine wpListIn_nil ?_
  refine then_n ?_
  refine x_seq ?_
  refine wpIn_region_lit ?_
  refine x_run tab hk (k := 4) (lv := [.slice Ap0_0 (p0.L).length cp0_0]) (ks := [1, 3, 6, 10, 12]) (e' := [(1, .int .i64 p1), (3, .pointer (some ⟨bx4, 0, none⟩)), (6, .pointer (some ⟨bx9, 0, none⟩)), (10, .slice Ap0_0 (p0.L).length cp0_0), (12, .agg #[.int .i64 0, .int .i64 p2])]) rfl ⟨(load1 tab rfl ((Bx.cell f5.now 3).trans rfl)), trivial⟩ fun a hk => ?_
  refine x_op hk rfl ?_
  obtain ⟨t14, hc15, H⟩ := bindS H
  refine op_call hk ent_32 (vs := [.slice Ap0_0 (p0.L).length cp0_0, .agg #[.int .i64 0, .int .i64 p2]]) rfl (tidewrackref13_In_calls K Ap0_0 cp0_0 p0.L (⟨0, p2⟩ : T30) _ o7 _ f900000 hcp0_0 4  _ hc15) ?_
  rintro _ w16 ⟨o17, A19, c20, rfl, st18, f21, hc22⟩
  replace f10 := f10.st st18 (by decide)
  replace f5 := f5.st st18 (by decide)
  replace f900000 := f900000.st st18 (by decide)
  replace hs := hs.locQ st18 hob rfl
  have hk := hk.put 13 (.slice A19 (t14).length c20) rfl
  refine x_run tab hk (k := 1) (lv := []) (ks := [1, 3, 6, 8]) (e' := [(1, .int .i64 p1), (3, .pointer (some ⟨bx4, 0, none⟩)), (6, .pointer (some ⟨bx9, 0, none⟩)), (8, .slice A19 (t14).length c20)]) rfl trivial fun a hk => ?_
  refine wpListIn_nil ?_
  refine then_n ?_
  refine x_mid (fun a_ w_ => ∃ o41 : Nat → Nat, Kn 36 a_ [(1, .int .i64 p1), (3, .pointer (some ⟨bx4, 0, none⟩)), (6, .pointer (some ⟨bx9, 0, none⟩)), (8, .slice A19 (t14).length c20)] ∧ St [] w oi w_ o41 ∧ Ft (Bx bx9 28 [.int .i64 0, .int .i64 0, .int .i64 0, .slice none 0 0]) w_ o41 9 ∧ Ft (Own ET30 31 (.slice A19 (t14).length c20) t14) w_ o41 10 ∧ Ft (Bx bx4 28 [.int .i64 p0.Most, .int .i64 p0.Every, .int .i64 p0.Due, .slice Ap0_0 (p0.L).length cp0_0]) w_ o41 8 ∧ Ft (RdC ET30 Ap0_0 p0.L) w_ o41 1 ∧ tidewrackref21_Ask_j1 p0 p1 t14 = some r) ?_ ?_
  rotate_left
  · rintro a w42 ⟨o41, hk, hs, f10, f21, f5, f900000, H⟩
    rw [tidewrackref21_Ask_j1] at H
    refine x_seq ?_
    refine wpIn_region_lit ?_
    refine x_run tab hk (k := 5) (lv := [.int .i64 p0.Every]) (ks := [3, 6, 8, 27, 28]) (e' := [(3, .pointer (some ⟨bx4, 0, none⟩)), (6, .pointer (some ⟨bx9, 0, none⟩)), (8, .slice A19 (t14).length c20), (27, .int .i64 (IntKind.wrap .i64 (p1 + p0.Every))), (28, .pointer (some ((⟨bx4, 0, none⟩ : Addr).add 2)))]) rfl ⟨(load1 tab rfl ((Bx.cell f5.now 1).trans rfl)), trivial⟩ fun a hk => ?_
    refine x_op hk rfl ?_
    refine op_store tab hk (t := 3) (v := .int .i64 (IntKind.wrap .i64 (p1 + p0.Every))) (b := bx4) (k := 2) (cs' := [.int .i64 p0.Most, .int .i64 p0.Every, .int .i64 (IntKind.wrap .i64 (p1 + p0.Every)), .slice Ap0_0 (p0.L).length cp0_0]) rfl rfl rfl rfl rfl rfl f5 rfl rfl fun w43 o44 st45 f5_ => ?_
    replace f10 := f10.st st45 (by decide)
    replace f21 := f21.st st45 (by decide)
    replace f900000 := f900000.st st45 (by decide)
    replace hs := hs.locQ st45 hob rfl
    replace f5 := f5_
    refine wpListIn_nil ?_
    refine then_n ?_
    refine x_seq ?_
    refine x_seq ?_
    refine wpIn_region_lit ?_
    refine x_run tab hk (k := 3) (lv := []) (ks := [3, 6, 8, 31]) (e' := [(3, .pointer (some ⟨bx4, 0, none⟩)), (6, .pointer (some ⟨bx9, 0, none⟩)), (8, .slice A19 (t14).length c20), (31, .bool (decide (((t14).length : Int) > (8 : Int))))]) rfl trivial fun a hk => ?_
    refine wpListIn_nil ?_
    refine then_n ?_
    cases b46 : (decide (((t14).length : Int) > (8 : Int)))
    · rw [b46] at hk H
      replace H := bifF H
      refine x_if hk (b := false) rfl ?_
      refine (show Code.wpIn _ _ _ _ _ _ _ from ?_)
      refine wpIn_skip ?_
      refine then_n ?_
      refine x_seq ?_
      refine wpIn_region_lit ?_
      refine x_run tab hk (k := 2) (lv := [.agg #[.int .i64 p0.Most, .int .i64 p0.Every, .int .i64 (IntKind.wrap .i64 (p1 + p0.Every)), .slice Ap0_0 (p0.L).length cp0_0]]) (ks := [6, 34, 35]) (e' := [(6, .pointer (some ⟨bx9, 0, none⟩)), (34, .agg #[.int .i64 p0.Most, .int .i64 p0.Every, .int .i64 (IntKind.wrap .i64 (p1 + p0.Every)), .slice Ap0_0 (p0.L).length cp0_0]), (35, .slice A19 (t14).length c20)]) rfl ⟨(load_box tab rfl rfl f5.now (k := 0) rfl rfl), trivial⟩ fun a hk => ?_
      refine x_op hk rfl ?_
      refine op_store tab hk (t := 28) (v := .agg #[.int .i64 p0.Most, .int .i64 p0.Every, .int .i64 (IntKind.wrap .i64 (p1 + p0.Every)), .slice Ap0_0 (p0.L).length cp0_0]) (b := bx9) (k := 0) (cs' := [.int .i64 p0.Most, .int .i64 p0.Every, .int .i64 (IntKind.wrap .i64 (p1 + p0.Every)), .slice Ap0_0 (p0.L).length cp0_0]) rfl rfl rfl rfl rfl rfl f10 rfl rfl fun w47 o48 st49 f10_ => ?_
      replace f21 := f21.st st49 (by decide)
      replace f900000 := f900000.st st49 (by decide)
      replace hs := hs.locQ st49 hob rfl
      replace f10 := f10_
      refine x_run tab hk (k := 1) (lv := []) (ks := [6, 7]) (e' := [(6, .pointer (some ⟨bx9, 0, none⟩)), (7, .slice A19 (t14).length c20)]) rfl trivial fun a hk => ?_
      refine wpListIn_nil ?_
      refine then_n ?_
      refine wpIn_ret ?_
      obtain rfl := Option.some.inj H
      exact x_retG hk (rs := [.cell 6 28, .tmp 7]) (vs := [.agg #[.int .i64 p0.Most, .int .i64 p0.Every, .int .i64 (IntKind.wrap .i64 (p1 + p0.Every)), .slice Ap0_0 (p0.L).length cp0_0], .slice A19 (t14).length c20]) rfl ⟨⟨_, rfl, load_box tab rfl rfl f10.now (k := 0) rfl rfl⟩, rfl, trivial⟩ ⟨cl w oi o [] (fun l_ => if l_ = 1 then Lp0_0 else if l_ = 10 then R0 else 0) o48, Ap0_0, cp0_0, A19, c20, rfl, hs.closeQ (Lm := []) (Sh := [Lp0_0]) hoa rfl (fun l_ => if l_ = 1 then Lp0_0 else if l_ = 10 then R0 else 0), hs.closeM_ft (o := o) (ρ := fun l_ => if l_ = 1 then Lp0_0 else if l_ = 10 then R0 else 0) f900000 (lab_at hoa (i := 0) rfl) rfl, hcp0_0, hs.closeM_ft (o := o) (ρ := fun l_ => if l_ = 1 then Lp0_0 else if l_ = 10 then R0 else 0) f21 (lab_none hob rfl) rfl, hc22⟩
    · rw [b46] at hk H
      replace H := bifT H
      refine x_if hk (b := true) rfl ?_
      refine (show Code.wpIn _ _ _ _ _ _ _ from ?_)
      refine wpIn_region_lit ?_
      obtain ⟨q50, H⟩ := ifS H
      obtain ⟨A51, c52, ak54, f53, hc55⟩ := ask_take (P := Try.prog) tab (t := 26) rfl rfl f21 hc22 (k := .i64) 8 (show 0 ≤ (8 : Int) from by decide) q50
      refine x_run tab hk (k := 3) (lv := [.slice A51 ((List.take (Int.toNat 8) t14)).length c52]) (ks := [3, 6, 8]) (e' := [(3, .pointer (some ⟨bx4, 0, none⟩)), (6, .pointer (some ⟨bx9, 0, none⟩)), (8, .slice A51 ((List.take (Int.toNat 8) t14)).length c52)]) rfl ⟨(ak54 rfl rfl _), trivial⟩ fun a hk => ?_
      refine wpListIn_nil ?_
      refine then_n ?_
      refine x_seq ?_
      refine wpIn_region_lit ?_
      refine x_run tab hk (k := 2) (lv := [.agg #[.int .i64 p0.Most, .int .i64 p0.Every, .int .i64 (IntKind.wrap .i64 (p1 + p0.Every)), .slice Ap0_0 (p0.L).length cp0_0]]) (ks := [6, 34, 35]) (e' := [(6, .pointer (some ⟨bx9, 0, none⟩)), (34, .agg #[.int .i64 p0.Most, .int .i64 p0.Every, .int .i64 (IntKind.wrap .i64 (p1 + p0.Every)), .slice Ap0_0 (p0.L).length cp0_0]), (35, .slice A51 ((List.take (Int.toNat 8) t14)).length c52)]) rfl ⟨(load_box tab rfl rfl f5.now (k := 0) rfl rfl), trivial⟩ fun a hk => ?_
      refine x_op hk rfl ?_
      refine op_store tab hk (t := 28) (v := .agg #[.int .i64 p0.Most, .int .i64 p0.Every, .int .i64 (IntKind.wrap .i64 (p1 + p0.Every)), .slice Ap0_0 (p0.L).length cp0_0]) (b := bx9) (k := 0) (cs' := [.int .i64 p0.Most, .int .i64 p0.Every, .int .i64 (IntKind.wrap .i64 (p1 + p0.Every)), .slice Ap0_0 (p0.L).length cp0_0]) rfl rfl rfl rfl rfl rfl f10 rfl rfl fun w56 o57 st58 f10_ => ?_
      replace f53 := f53.st st58 (by decide)
      replace f900000 := f900000.st st58 (by decide)
      replace hs := hs.locQ st58 hob rfl
      replace f10 := f10_
      refine x_run tab hk (k := 1) (lv := []) (ks := [6, 7]) (e' := [(6, .pointer (some ⟨bx9, 0, none⟩)), (7, .slice A51 ((List.take (Int.toNat 8) t14)).length c52)]) rfl trivial fun a hk => ?_
      refine wpListIn_nil ?_
      refine then_n ?_
      refine wpIn_ret ?_
      obtain rfl := Option.some.inj H
      exact x_retG hk (rs := [.cell 6 28, .tmp 7]) (vs := [.agg #[.int .i64 p0.Most, .int .i64 p0.Every, .int .i64 (IntKind.wrap .i64 (p1 + p0.Every)), .slice Ap0_0 (p0.L).length cp0_0], .slice A51 ((List.take (Int.toNat 8) t14)).length c52]) rfl ⟨⟨_, rfl, load_box tab rfl rfl f10.now (k := 0) rfl rfl⟩, rfl, trivial⟩ ⟨cl w oi o [] (fun l_ => if l_ = 1 then Lp0_0 else if l_ = 10 then R0 else 0) o57, Ap0_0, cp0_0, A51, c52, rfl, hs.closeQ (Lm := []) (Sh := [Lp0_0]) hoa rfl (fun l_ => if l_ = 1 then Lp0_0 else if l_ = 10 then R0 else 0), hs.closeM_ft (o := o) (ρ := fun l_ => if l_ = 1 then Lp0_0 else if l_ = 10 then R0 else 0) f900000 (lab_at hoa (i := 0) rfl) rfl, hcp0_0, hs.closeM_ft (o := o) (ρ := fun l_ => if l_ = 1 then Lp0_0 else if l_ = 10 then R0 else 0) f53 (lab_none hob rfl) rfl, hc55⟩
  refine x_mid (fun a_ w_ => ∃ o66 : Nat → Nat, ∃ x67 : Bool, Kn 36 a_ [(1, .int .i64 p1), (3, .pointer (some ⟨bx4, 0, none⟩)), (6, .pointer (some ⟨bx9, 0, none⟩)), (8, .slice A19 (t14).length c20), (22, .bool x67)] ∧ St [] w oi w_ o66 ∧ Ft (Bx bx9 28 [.int .i64 0, .int .i64 0, .int .i64 0, .slice none 0 0]) w_ o66 12 ∧ Ft (Own ET30 31 (.slice A19 (t14).length c20) t14) w_ o66 13 ∧ Ft (Bx bx4 28 [.int .i64 p0.Most, .int .i64 p0.Every, .int .i64 p0.Due, .slice Ap0_0 (p0.L).length cp0_0]) w_ o66 11 ∧ Ft (RdC ET30 Ap0_0 p0.L) w_ o66 1 ∧ tidewrackref21_Ask_j2 p0 p1 t14 x67 = some r) ?_ ?_
  rotate_left
  · rintro a w68 ⟨o66, x67, hk, hs, f10, f21, f5, f900000, H⟩
    rw [tidewrackref21_Ask_j2] at H
    cases b69 : x67
    · rw [b69] at hk H
      replace H := bifF H
      refine x_if hk (b := false) rfl ?_
      refine (show Code.wpIn _ _ _ _ _ _ _ from ?_)
      refine wpIn_skip ?_
      refine then_n ?_
      exact ⟨(fun b_ => (fun l_ => if l_ = 11 then 8 else if l_ = 12 then 9 else if l_ = 13 then 10 else l_) (o66 b_)), (by exact Kn.pick (ks := [1, 3, 6, 8]) hk rfl), (hs.relabM hob (fun l_ => if l_ = 11 then 8 else if l_ = 12 then 9 else if l_ = 13 then 10 else l_) (by decide)), (f10.relab (fun l_ => if l_ = 11 then 8 else if l_ = 12 then 9 else if l_ = 13 then 10 else l_) rfl), (f21.relab (fun l_ => if l_ = 11 then 8 else if l_ = 12 then 9 else if l_ = 13 then 10 else l_) rfl), (f5.relab (fun l_ => if l_ = 11 then 8 else if l_ = 12 then 9 else if l_ = 13 then 10 else l_) rfl), (f900000.relab (fun l_ => if l_ = 11 then 8 else if l_ = 12 then 9 else if l_ = 13 then 10 else l_) rfl), H⟩
    · rw [b69] at hk H
      replace H := bifT H
      refine x_if hk (b := true) rfl ?_
      refine (show Code.wpIn _ _ _ _ _ _ _ from ?_)
      refine x_seq ?_
      refine wpIn_region_lit ?_
      refine x_run tab hk (k := 1) (lv := [.agg #[.int .i64 p0.Most, .int .i64 p0.Every, .int .i64 p0.Due, .slice Ap0_0 (p0.L).length cp0_0]]) (ks := [6, 23]) (e' := [(6, .pointer (some ⟨bx9, 0, none⟩)), (23, .agg #[.int .i64 p0.Most, .int .i64 p0.Every, .int .i64 p0.Due, .slice Ap0_0 (p0.L).length cp0_0])]) rfl ⟨(load_box tab rfl rfl f5.now (k := 0) rfl rfl), trivial⟩ fun a hk => ?_
      refine x_op hk rfl ?_
      refine op_store tab hk (t := 28) (v := .agg #[.int .i64 p0.Most, .int .i64 p0.Every, .int .i64 p0.Due, .slice Ap0_0 (p0.L).length cp0_0]) (b := bx9) (k := 0) (cs' := [.int .i64 p0.Most, .int .i64 p0.Every, .int .i64 p0.Due, .slice Ap0_0 (p0.L).length cp0_0]) rfl rfl rfl rfl rfl rfl f10 rfl rfl fun w70 o71 st72 f10_ => ?_
      replace f900000 := f900000.st st72 (by decide)
      replace hs := hs.locQ st72 hob rfl
      replace f10 := f10_
      refine x_run tab hk (k := 1) (lv := []) (ks := [6, 7]) (e' := [(6, .pointer (some ⟨bx9, 0, none⟩)), (7, .slice none 0 0)]) rfl trivial fun a hk => ?_
      refine wpListIn_nil ?_
      refine then_n ?_
      refine wpIn_ret ?_
      refine then_r ?_
      obtain rfl := Option.some.inj H
      exact x_retG hk (rs := [.cell 6 28, .tmp 7]) (vs := [.agg #[.int .i64 p0.Most, .int .i64 p0.Every, .int .i64 p0.Due, .slice Ap0_0 (p0.L).length cp0_0], .slice none 0 0]) rfl ⟨⟨_, rfl, load_box tab rfl rfl f10.now (k := 0) rfl rfl⟩, rfl, trivial⟩ ⟨cl w oi o [] (fun l_ => if l_ = 1 then Lp0_0 else 0) o71, Ap0_0, cp0_0, none, 0, rfl, hs.closeQ (Lm := []) (Sh := [Lp0_0]) hoa rfl (fun l_ => if l_ = 1 then Lp0_0 else 0), hs.closeM_ft (o := o) (ρ := fun l_ => if l_ = 1 then Lp0_0 else 0) f900000 (lab_at hoa (i := 0) rfl) rfl, hcp0_0, (Ft.of_all (fun _ => Own.nil _ _ _) _ _ _), (by simp)⟩
  refine wpIn_region_lit ?_
  refine x_run tab hk (k := 4) (lv := []) (ks := [1, 3, 6, 8, 17]) (e' := [(1, .int .i64 p1), (3, .pointer (some ⟨bx4, 0, none⟩)), (6, .pointer (some ⟨bx9, 0, none⟩)), (8, .slice A19 (t14).length c20), (17, .bool (((t14).length : Int) == (0 : Int)))]) rfl trivial fun a hk => ?_
  cases b73 : (((t14).length : Int) == (0 : Int))
  · rw [b73] at hk H
    replace H := bifF H
    refine x_run tab hk (k := 5) (lv := [.int .i64 p0.Due]) (ks := [1, 3, 6, 8, 22]) (e' := [(1, .int .i64 p1), (3, .pointer (some ⟨bx4, 0, none⟩)), (6, .pointer (some ⟨bx9, 0, none⟩)), (8, .slice A19 (t14).length c20), (22, .bool (decide (p1 < p0.Due)))]) rfl ⟨(load1 tab rfl ((Bx.cell f5.now 2).trans rfl)), trivial⟩ fun a hk => ?_
    refine wpListIn_nil ?_
    refine then_n ?_
    exact ⟨(fun b_ => (fun l_ => if l_ = 2 then 11 else if l_ = 3 then 12 else if l_ = 4 then 13 else l_) (o17 b_)), (decide (p1 < p0.Due)), (by exact Kn.pick (ks := [1, 3, 6, 8, 22]) hk rfl), (hs.relabM hob (fun l_ => if l_ = 2 then 11 else if l_ = 3 then 12 else if l_ = 4 then 13 else l_) (by decide)), (f10.relab (fun l_ => if l_ = 2 then 11 else if l_ = 3 then 12 else if l_ = 4 then 13 else l_) rfl), (f21.relab (fun l_ => if l_ = 2 then 11 else if l_ = 3 then 12 else if l_ = 4 then 13 else l_) rfl), (f5.relab (fun l_ => if l_ = 2 then 11 else if l_ = 3 then 12 else if l_ = 4 then 13 else l_) rfl), (f900000.relab (fun l_ => if l_ = 2 then 11 else if l_ = 3 then 12 else if l_ = 4 then 13 else l_) rfl), H⟩
  · rw [b73] at hk H
    replace H := bifT H
    refine x_run tab hk (k := 5) (lv := []) (ks := [1, 3, 6, 8, 22]) (e' := [(1, .int .i64 p1), (3, .pointer (some ⟨bx4, 0, none⟩)), (6, .pointer (some ⟨bx9, 0, none⟩)), (8, .slice A19 (t14).length c20), (22, .bool true)]) rfl trivial fun a hk => ?_
    refine wpListIn_nil ?_
    refine then_n ?_
    exact ⟨(fun b_ => (fun l_ => if l_ = 2 then 11 else if l_ = 3 then 12 else if l_ = 4 then 13 else l_) (o17 b_)), true, (by exact Kn.pick (ks := [1, 3, 6, 8, 22]) hk rfl), (hs.relabM hob (fun l_ => if l_ = 2 then 11 else if l_ = 3 then 12 else if l_ = 4 then 13 else l_) (by decide)), (f10.relab (fun l_ => if l_ = 2 then 11 else if l_ = 3 then 12 else if l_ = 4 then 13 else l_) rfl), (f21.relab (fun l_ => if l_ = 2 then 11 else if l_ = 3 then 12 else if l_ = 4 then 13 else l_) rfl), (f5.relab (fun l_ => if l_ = 2 then 11 else if l_ = 3 then 12 else if l_ = 4 then 13 else l_) rfl), (f900000.relab (fun l_ => if l_ = 2 then 11 else if l_ = 3 then 12 else if l_ = 4 then 13 else l_) rfl), H⟩

/-! tidewrack/tidewracklaw13.Same -/
theorem tidewracklaw13_Same_calls (K : Nat) (Ap0 : Option Addr) (cp0 : Nat) (p0 : List T30) (Ap1 : Option Addr) (cp1 : Nat) (p1 : List T30) (w : World) (o : Nat → Nat) (Lp0 : Nat) (hp0 : Ft (RdC ET30 Ap0 p0) w o Lp0) (hcp0 : (p0).length ≤ cp0) (Lp1 : Nat) (hp1 : Ft (RdC ET30 Ap1 p1) w o Lp1) (hcp1 : (p1).length ≤ cp1)  (r : Bool) (H : tidewracklaw13_Same K p0 p1 = some r) :
    Calls Try.prog 9 #[.slice Ap0 (p0).length cp0, .slice Ap1 (p1).length cp1] w (Ret fun v_ w' => ∃ o' : Nat → Nat, v_ = .bool r ∧ St [] w o w' o') := by
  refine x_enter (vs := [.slice Ap0 (p0).length cp0, .slice Ap1 (p1).length cp1]) Try.func9 rfl rfl rfl fun a hk => ?_
  obtain ⟨o0, hs, h0⟩ := St.start w o
  have f900000 := h0 _ _ hp0
  have f900020 := h0 _ _ hp1
  clear h0
  rw [tidewracklaw13_Same] at H
  refine x_seq ?_
  refine wpIn_region_lit ?_
  refine x_run tab hk (k := 1) (lv := []) (ks := [0, 1]) (e' := [(0, .slice Ap0 (p0).length cp0), (1, .slice Ap1 (p1).length cp1)]) rfl trivial fun a hk => ?_
  refine wpListIn_nil ?_
  refine then_n ?_
  refine x_seq ?_
  refine x_seq ?_
  refine wpIn_region_lit ?_
  refine x_run tab hk (k := 5) (lv := []) (ks := [0, 1, 10]) (e' := [(0, .slice Ap0 (p0).length cp0), (1, .slice Ap1 (p1).length cp1), (10, .bool (((p0).length : Int) != ((p1).length : Int)))]) rfl trivial fun a hk => ?_
  refine wpListIn_nil ?_
  refine then_n ?_
  cases b1 : (((p0).length : Int) != ((p1).length : Int))
  · rw [b1] at hk H
    replace H := bifF H
    refine x_if hk (b := false) rfl ?_
    refine (show Code.wpIn _ _ _ _ _ _ _ from ?_)
    refine wpIn_skip ?_
    refine then_n ?_
    refine x_mid (fun a_ w_ => ∃ o62 : Nat → Nat, Kn 26 a_ [] ∧ St [] w (fun _ => 0) w_ o62 ∧ tidewracklaw13_Same_j1 = some r) ?_ ?_
    rotate_left
    · rintro a w63 ⟨o62, hk, hs, H⟩
      rw [tidewracklaw13_Same_j1] at H
      refine x_seq ?_
      refine wpIn_region_lit ?_
      refine x_run tab hk (k := 1) (lv := []) (ks := [4]) (e' := [(4, .bool true)]) rfl trivial fun a hk => ?_
      refine wpListIn_nil ?_
      refine then_n ?_
      refine wpIn_ret ?_
      obtain rfl := Option.some.inj H
      exact x_retG hk (rs := [.tmp 4]) (vs := [.bool true]) rfl ⟨rfl, trivial⟩ ⟨fun b_ => if b_ < w.heap.size then o b_ else (fun _ => 0) (o62 b_), rfl, hs.close0 o (fun _ => 0)⟩
    refine x_seq ?_
    refine wpIn_region_lit ?_
    refine x_run tab hk (k := 3) (lv := []) (ks := [0, 1, 12, 13]) (e' := [(0, .slice Ap0 (p0).length cp0), (1, .slice Ap1 (p1).length cp1), (12, .int .i64 ((p1).length : Int)), (13, .int .i64 0)]) rfl trivial fun a hk => ?_
    refine wpListIn_nil ?_
    refine then_n ?_
    refine wpIn_block ?_
    refine x_loop (fun j_ a_ w_ => ∃ o83 : Nat → Nat, ∃ x84 : Int, Kn 26 a_ [(0, .slice Ap0 (p0).length cp0), (1, .slice Ap1 (p1).length cp1), (12, .int .i64 ((p1).length : Int)), (13, .int .i64 x84)] ∧ St [] w (fun _ => 0) w_ o83 ∧ Ft (RdC ET30 Ap0 p0) w_ o83 0 ∧ Ft (RdC ET30 Ap1 p1) w_ o83 0 ∧ tidewracklaw13_Same_l2 p0 p1 j_ x84 = some r) (k := K) ⟨o0, 0, (by exact Kn.pick (ks := [0, 1, 12, 13]) hk rfl), hs, f900000, f900020, H⟩ (by rintro _ _ ⟨_, _, _, _, _, _, H_⟩; exact absurd (show (none : Option Bool) = some r from H_) (by simp)) ?_
    rintro k102 a w101 ⟨o83, x84, hk, hs, f900000, f900020, H⟩
    rw [tidewracklaw13_Same_l2] at H
    obtain ⟨lp103, hlp104⟩ : ∃ lp_, lp_ = tidewracklaw13_Same_l2 p0 p1 k102 := ⟨_, rfl⟩
    rw [← hlp104] at H
    refine x_seq ?_
    refine wpIn_region_lit ?_
    refine x_run tab hk (k := 1) (lv := []) (ks := [0, 1, 12, 13, 14]) (e' := [(0, .slice Ap0 (p0).length cp0), (1, .slice Ap1 (p1).length cp1), (12, .int .i64 ((p1).length : Int)), (13, .int .i64 x84), (14, .bool (decide (x84 < ((p1).length : Int))))]) rfl trivial fun a hk => ?_
    refine wpListIn_nil ?_
    refine then_n ?_
    refine x_seq ?_
    cases b105 : (decide (x84 < ((p1).length : Int)))
    · rw [b105] at hk H
      replace H := bifF H
      refine x_if hk (b := false) rfl ?_
      refine (show Code.wpIn _ _ _ _ _ _ _ from ?_)
      refine wpIn_exit ?_
      refine then_x ?_
      refine then_x ?_
      refine blk_x ?_
      refine then_n ?_
      exact ⟨o83, (by exact Kn.pick (ks := []) hk rfl), hs, H⟩
    · rw [b105] at hk H
      replace H := bifT H
      refine x_if hk (b := true) rfl ?_
      refine (show Code.wpIn _ _ _ _ _ _ _ from ?_)
      refine wpIn_skip ?_
      refine then_n ?_
      refine x_seq ?_
      refine wpIn_block ?_
      refine x_seq ?_
      refine wpIn_region_lit ?_
      refine x_run tab hk (k := 2) (lv := []) (ks := [0, 1, 5, 12, 13]) (e' := [(0, .slice Ap0 (p0).length cp0), (1, .slice Ap1 (p1).length cp1), (5, .int .i64 x84), (12, .int .i64 ((p1).length : Int)), (13, .int .i64 x84)]) rfl trivial fun a hk => ?_
      refine wpListIn_nil ?_
      refine then_n ?_
      refine x_seq ?_
      refine xd_begin (o := o83) (fun W_ => (RdC ET30 Ap0 p0) W_ ∧ (RdC ET30 Ap1 p1) W_ ∧ True) mixed rfl rfl fun w114 st115 => ?_
      replace f900000 := f900000.st st115 (by decide)
      replace f900020 := f900020.st st115 (by decide)
      replace hs := hs.loc0 st115 (by decide)
      obtain ⟨q116, H⟩ := ifS H
      obtain ⟨ad117, hAad117⟩ := RdC.addr f900000.now q116
      have hk_C := hk
      have f900000_C := f900000
      have f900020_C := f900020
      subst hAad117
      have hk := hk_C
      clear hk_C
      have f900000 := f900000_C
      clear f900000_C
      have f900020 := f900020_C
      clear f900020_C
      obtain ⟨q118, H⟩ := ifS H
      obtain ⟨ad119, hAad119⟩ := RdC.addr f900020.now q118
      have hk_C := hk
      have f900000_C := f900000
      have f900020_C := f900020
      subst hAad119
      have hk := hk_C
      clear hk_C
      have f900000 := f900000_C
      clear f900000_C
      have f900020 := f900020_C
      clear f900020_C
      refine xd_take tab hk (k := 0) (is := [0, 1, 2, 3, 4, 5, 6, 7, 8]) (ls' := #[true, true, true, true, true, true, true, true, true]) (lv := [.agg #[.int .i64 ((rdD zT30 p0 x84).From), .int .i64 ((rdD zT30 p0 x84).To)], .agg #[.int .i64 ((rdD zT30 p1 x84).From), .int .i64 ((rdD zT30 p1 x84).To)], .bool (!(eqT30 (rdD zT30 p0 x84) (rdD zT30 p1 x84)))]) (ks := [0, 1, 12, 13, 24]) (e' := [(0, .slice (some ad117) (p0).length cp0), (1, .slice (some ad119) (p1).length cp1), (12, .int .i64 ((p1).length : Int)), (13, .int .i64 x84), (24, .bool (!(eqT30 (rdD zT30 p0 x84) (rdD zT30 p1 x84))))]) (by kernel_rfl) rfl rfl (by kernel_rfl) (np_then (np_blk (np_then (np_then (np_blk (np_then np_body)))))) ⟨f900000.now, f900020.now, trivial⟩ (fun W_ hS => ⟨q116, (load_elem (E := ET30) (i := x84) (dx := zT30) tab rfl rfl hS.1 q116), q118, (load_elem (E := ET30) (i := x84) (dx := zT30) tab rfl rfl hS.2.1 q118), (ask_neq tab stood rfl rfl rfl rfl), trivial⟩) fun a hk => ?_
      refine xd_done (by kernel_rfl) ?_
      refine then_n ?_
      cases b120 : (!(eqT30 (rdD zT30 p0 x84) (rdD zT30 p1 x84)))
      · rw [b120] at hk H
        replace H := bifF H
        refine x_if hk (b := false) rfl ?_
        refine (show Code.wpIn _ _ _ _ _ _ _ from ?_)
        refine wpIn_skip ?_
        refine blk_n ?_
        refine then_n ?_
        refine wpIn_region_lit ?_
        refine x_run tab hk (k := 2) (lv := []) (ks := [0, 1, 12, 13]) (e' := [(0, .slice (some ad117) (p0).length cp0), (1, .slice (some ad119) (p1).length cp1), (12, .int .i64 ((p1).length : Int)), (13, .int .i64 (IntKind.wrap .i64 (x84 + 1)))]) rfl trivial fun a hk => ?_
        refine wpListIn_nil ?_
        refine then_n ?_
        exact ⟨k102, Nat.le_refl _, o83, (IntKind.wrap .i64 (x84 + 1)), (by exact Kn.pick (ks := [0, 1, 12, 13]) hk rfl), hs, f900000, f900020, (hlp104 ▸ H)⟩
      · rw [b120] at hk H
        replace H := bifT H
        refine x_if hk (b := true) rfl ?_
        refine (show Code.wpIn _ _ _ _ _ _ _ from ?_)
        refine x_seq ?_
        refine wpIn_region_lit ?_
        refine x_run tab hk (k := 1) (lv := []) (ks := [4]) (e' := [(4, .bool false)]) rfl trivial fun a hk => ?_
        refine wpListIn_nil ?_
        refine then_n ?_
        refine wpIn_ret ?_
        refine blk_r ?_
        refine then_r ?_
        refine then_r ?_
        refine blk_r ?_
        refine then_r ?_
        obtain rfl := Option.some.inj H
        exact x_retG hk (rs := [.tmp 4]) (vs := [.bool false]) rfl ⟨rfl, trivial⟩ ⟨fun b_ => if b_ < w.heap.size then o b_ else (fun _ => 0) (o83 b_), rfl, hs.close0 o (fun _ => 0)⟩
  · rw [b1] at hk H
    replace H := bifT H
    refine x_if hk (b := true) rfl ?_
    refine (show Code.wpIn _ _ _ _ _ _ _ from ?_)
    refine x_seq ?_
    refine wpIn_region_lit ?_
    refine x_run tab hk (k := 1) (lv := []) (ks := [4]) (e' := [(4, .bool false)]) rfl trivial fun a hk => ?_
    refine wpListIn_nil ?_
    refine then_n ?_
    refine wpIn_ret ?_
    refine then_r ?_
    obtain rfl := Option.some.inj H
    exact x_retG hk (rs := [.tmp 4]) (vs := [.bool false]) rfl ⟨rfl, trivial⟩ ⟨fun b_ => if b_ < w.heap.size then o b_ else (fun _ => 0) (o0 b_), rfl, hs.close0 o (fun _ => 0)⟩

/-! tidewrack/tidewracklaw21.do -/
set_option maxHeartbeats 4000000 in
set_option maxRecDepth 20000 in
theorem tidewracklaw21_do_calls (K : Nat) (bp0 : Nat) (bq0_0 : Nat) (Ap0_0 : Option Addr) (cp0_0 : Nat) (p0 : T50) (Ap1_0 : Option Addr) (cp1_0 : Nat) (p1 : T27) (Ap2_0 : Option Addr) (cp2_0 : Nat) (p2 : T32) (p3 : Int) (w : World) (o : Nat → Nat) (Lp0 : Nat) (hp0 : Ft (Bx bp0 51 [.int .i64 p0.most, .int .i64 p0.every, .int .i64 p0.due, .pointer (some ⟨bq0_0, 0, none⟩)]) w o Lp0) (Lp0_0 : Nat) (hp0_0 : Ft (Own ET30 43 (.slice Ap0_0 (p0.want_l).length cp0_0) p0.want_l) w o Lp0_0) (hcp0_0 : (p0.want_l).length ≤ cp0_0) (Lq0_0 : Nat) (hq0_0 : Ft (Bx bq0_0 49 [.slice Ap0_0 (p0.want_l).length cp0_0]) w o Lq0_0) (Lp1_0 : Nat) (hp1_0 : Ft (RdC ET30 Ap1_0 p1.L) w o Lp1_0) (hcp1_0 : (p1.L).length ≤ cp1_0) (Lp2_0 : Nat) (hp2_0 : Ft (RdC ET30 Ap2_0 p2.Have) w o Lp2_0) (hcp2_0 : (p2.Have).length ≤ cp2_0) (hd0 : ([Lp0, Lp0_0, Lq0_0, Lp1_0] : List Nat).Nodup) (hd1 : Lp2_0 ∉ [Lp0, Lp0_0, Lq0_0, Lp1_0]) (r : T27 × Bool × T50) (H : tidewracklaw21_do K p0 p1 p2 p3 = some r) :
    Calls Try.prog 8 #[.pointer (some ⟨bp0, 0, none⟩), .agg #[.int .i64 p1.Most, .int .i64 p1.Every, .int .i64 p1.Due, .slice Ap1_0 (p1.L).length cp1_0], .agg #[.int .i64 p2.Kind, .int .i64 p2.N, .int .i64 p2.Later, .int .i64 p2.Span_From, .int .i64 p2.Span_To, .slice Ap2_0 (p2.Have).length cp2_0], .int .i64 p3] w (Ret fun v_ w' => ∃ o' : Nat → Nat, ∃ A0 : Option Addr, ∃ c0 : Nat, ∃ b0 : Nat, ∃ A1 : Option Addr, ∃ c1 : Nat, v_ = .tuple #[.agg #[.int .i64 r.1.Most, .int .i64 r.1.Every, .int .i64 r.1.Due, .slice A0 (r.1.L).length c0], .bool r.2.1] ∧ St [Lp0, Lp0_0, Lq0_0] w o w' o' ∧ Ft (RdC ET30 A0 r.1.L) w' o' Lp1_0 ∧ (r.1.L).length ≤ c0 ∧ Ft (Bx bp0 51 [.int .i64 r.2.2.most, .int .i64 r.2.2.every, .int .i64 r.2.2.due, .pointer (some ⟨b0, 0, none⟩)]) w' o' Lp0 ∧ Ft (Bx b0 49 [.slice A1 (r.2.2.want_l).length c1]) w' o' Lq0_0 ∧ Ft (Own ET30 43 (.slice A1 (r.2.2.want_l).length c1) r.2.2.want_l) w' o' Lp0_0 ∧ (r.2.2.want_l).length ≤ c1) := by
  refine x_enter (vs := [.pointer (some ⟨bp0, 0, none⟩), .agg #[.int .i64 p1.Most, .int .i64 p1.Every, .int .i64 p1.Due, .slice Ap1_0 (p1.L).length cp1_0], .agg #[.int .i64 p2.Kind, .int .i64 p2.N, .int .i64 p2.Later, .int .i64 p2.Span_From, .int .i64 p2.Span_To, .slice Ap2_0 (p2.Have).length cp2_0], .int .i64 p3]) Try.func8 rfl rfl rfl fun a hk => ?_
  obtain ⟨oi, hs0, h0, h1, hob, hoz, hoa⟩ := St.startM2 w o (m := 4) hd0 rfl
  have hs := hs0 [1, 2, 3]
  have f900000 := h1 1 2 hp0_0 rfl rfl
  have f900019 := h1 0 1 hp0 rfl rfl
  have f910000 := h1 2 3 hq0_0 rfl rfl
  have f900020 := h1 3 4 hp1_0 rfl rfl
  have f900040 := h0 _ _ hd1 hp2_0
  clear h0 h1 hs0
  rw [tidewracklaw21_do] at H
  refine x_seq ?_
  refine wpIn_region_lit ?_
  refine x_op hk rfl ?_
  refine op_box (o := oi) (t := 28) (v := .agg #[.int .i64 p1.Most, .int .i64 p1.Every, .int .i64 p1.Due, .slice Ap1_0 (p1.L).length cp1_0]) (cs := [.int .i64 p1.Most, .int .i64 p1.Every, .int .i64 p1.Due, .slice Ap1_0 (p1.L).length cp1_0]) hk rfl rfl 5 fun bx4 w1 o2 st3 f5 => ?_
  replace f900000 := f900000.st st3 (by decide)
  replace f900019 := f900019.st st3 (by decide)
  replace f900020 := f900020.st st3 (by decide)
  replace f900040 := f900040.st st3 (by decide)
  replace f910000 := f910000.st st3 (by decide)
  replace hs := hs.locQ st3 hob rfl
  have hk := hk.put 5 (.pointer (some ⟨bx4, 0, none⟩)) rfl
  refine x_op hk rfl ?_
  refine op_box (o := o2) (t := 33) (v := .agg #[.int .i64 p2.Kind, .int .i64 p2.N, .int .i64 p2.Later, .int .i64 p2.Span_From, .int .i64 p2.Span_To, .slice Ap2_0 (p2.Have).length cp2_0]) (cs := [.int .i64 p2.Kind, .int .i64 p2.N, .int .i64 p2.Later, .int .i64 p2.Span_From, .int .i64 p2.Span_To, .slice Ap2_0 (p2.Have).length cp2_0]) hk rfl rfl 6 fun bx9 w6 o7 st8 f10 => ?_
  replace f5 := f5.st st8 (by decide)
  replace f900000 := f900000.st st8 (by decide)
  replace f900019 := f900019.st st8 (by decide)
  replace f900020 := f900020.st st8 (by decide)
  replace f900040 := f900040.st st8 (by decide)
  replace f910000 := f910000.st st8 (by decide)
  replace hs := hs.locQ st8 hob rfl
  have hk := hk.put 6 (.pointer (some ⟨bx9, 0, none⟩)) rfl
  refine x_op hk rfl ?_
  refine op_alloc (o := o7) tab (t := 28) (cs := [.int .i64 0, .int .i64 0, .int .i64 0, .slice none 0 0]) rfl rfl 7 fun bx14 w11 o12 st13 f15 => ?_
  replace f10 := f10.st st13 (by decide)
  replace f5 := f5.st st13 (by decide)
  replace f900000 := f900000.st st13 (by decide)
  replace f900019 := f900019.st st13 (by decide)
  replace f900020 := f900020.st st13 (by decide)
  replace f900040 := f900040.st st13 (by decide)
  replace f910000 := f910000.st st13 (by decide)
  replace hs := hs.locQ st13 hob rfl
  have hk := hk.put 8 (.pointer (some ⟨bx14, 0, none⟩)) rfl
  refine x_run tab hk (k := 1) (lv := []) (ks := [0, 3, 5, 6, 8]) (e' := [(0, .pointer (some ⟨bp0, 0, none⟩)), (3, .int .i64 p3), (5, .pointer (some ⟨bx4, 0, none⟩)), (6, .pointer (some ⟨bx9, 0, none⟩)), (8, .pointer (some ⟨bx14, 0, none⟩))]) rfl trivial fun a hk => ?_
  refine wpListIn_nil ?_
  refine then_n ?_
  refine x_mid (fun a_ w_ => ∃ o516 : Nat → Nat, Kn 97 a_ [(0, .pointer (some ⟨bp0, 0, none⟩)), (5, .pointer (some ⟨bx4, 0, none⟩)), (8, .pointer (some ⟨bx14, 0, none⟩))] ∧ St [1, 2, 3] w oi w_ o516 ∧ Ft (Bx bx14 28 [.int .i64 0, .int .i64 0, .int .i64 0, .slice none 0 0]) w_ o516 50 ∧ Ft (Bx bx4 28 [.int .i64 p1.Most, .int .i64 p1.Every, .int .i64 p1.Due, .slice Ap1_0 (p1.L).length cp1_0]) w_ o516 49 ∧ Ft (Own ET30 43 (.slice Ap0_0 (p0.want_l).length cp0_0) p0.want_l) w_ o516 2 ∧ Ft (Bx bp0 51 [.int .i64 p0.most, .int .i64 p0.every, .int .i64 p0.due, .pointer (some ⟨bq0_0, 0, none⟩)]) w_ o516 1 ∧ Ft (RdC ET30 Ap1_0 p1.L) w_ o516 4 ∧ Ft (Bx bq0_0 49 [.slice Ap0_0 (p0.want_l).length cp0_0]) w_ o516 3 ∧ tidewracklaw21_do_j1 p0 p1 = some r) ?_ ?_
  rotate_left
  · rintro a w517 ⟨o516, hk, hs, f15, f5, f900000, f900019, f900020, f910000, H⟩
    rw [tidewracklaw21_do_j1] at H
    refine x_seq ?_
    refine wpIn_region_lit ?_
    refine x_run tab hk (k := 1) (lv := []) (ks := [5, 8, 90]) (e' := [(5, .pointer (some ⟨bx4, 0, none⟩)), (8, .pointer (some ⟨bx14, 0, none⟩)), (90, .pointer (some ⟨bp0, 0, none⟩))]) rfl trivial fun a hk => ?_
    refine x_op hk rfl ?_
    obtain ⟨t521, hc522, H⟩ := bindS H
    refine op_call hk ent_20 (vs := [.pointer (some ⟨bp0, 0, none⟩)]) rfl (fetch_Fetch_Reset_calls bp0 bq0_0 Ap0_0 cp0_0 p0 _ o516 1 f900019 2 f900000 hcp0_0 3 f910000 (by decide)   _ hc522) ?_
    rintro _ w523 ⟨o524, bx527, A529, c530, rfl, st525, f526, f528, f531, hc532⟩
    replace f15 := f15.st st525 (by decide)
    replace f5 := f5.st st525 (by decide)
    replace f900020 := f900020.st st525 (by decide)
    replace hs := hs.locQ st525 hob rfl
    have hk := hk.put 91 (.tuple #[]) rfl
    refine wpListIn_nil ?_
    refine then_n ?_
    refine x_seq ?_
    refine wpIn_region_lit ?_
    refine x_run tab hk (k := 5) (lv := [.int .i64 p1.Most, .int .i64 p1.Every]) (ks := [8, 96]) (e' := [(8, .pointer (some ⟨bx14, 0, none⟩)), (96, .agg #[.int .i64 p1.Most, .int .i64 p1.Every, .int .i64 0, .slice none 0 0])]) rfl ⟨(load1 tab rfl ((Bx.cell f5.now 0).trans rfl)), (load1 tab rfl ((Bx.cell f5.now 1).trans rfl)), trivial⟩ fun a hk => ?_
    refine x_op hk rfl ?_
    refine op_store tab hk (t := 28) (v := .agg #[.int .i64 p1.Most, .int .i64 p1.Every, .int .i64 0, .slice none 0 0]) (b := bx14) (k := 0) (cs' := [.int .i64 p1.Most, .int .i64 p1.Every, .int .i64 0, .slice none 0 0]) rfl rfl rfl rfl rfl rfl f15 rfl rfl fun w533 o534 st535 f15_ => ?_
    replace f526 := f526.st st535 (by decide)
    replace f528 := f528.st st535 (by decide)
    replace f531 := f531.st st535 (by decide)
    replace hs := hs.locQ st535 hob rfl
    replace f15 := f15_
    refine x_run tab hk (k := 1) (lv := []) (ks := [8, 9]) (e' := [(8, .pointer (some ⟨bx14, 0, none⟩)), (9, .bool true)]) rfl trivial fun a hk => ?_
    refine wpListIn_nil ?_
    refine then_n ?_
    refine wpIn_ret ?_
    obtain rfl := Option.some.inj H
    exact x_retG hk (rs := [.cell 8 28, .tmp 9]) (vs := [.agg #[.int .i64 p1.Most, .int .i64 p1.Every, .int .i64 0, .slice none 0 0], .bool true]) rfl ⟨⟨_, rfl, load_box tab rfl rfl f15.now (k := 0) rfl rfl⟩, rfl, trivial⟩ ⟨cl w oi o [1, 2, 3] (fun l_ => if l_ = 1 then Lp0 else if l_ = 2 then Lp0_0 else if l_ = 3 then Lq0_0 else 0) o534, none, 0, bx527, A529, c530, rfl, hs.closeQ (Lm := [Lp0, Lp0_0, Lq0_0]) (Sh := [Lp1_0]) hoa rfl (fun l_ => if l_ = 1 then Lp0 else if l_ = 2 then Lp0_0 else if l_ = 3 then Lq0_0 else 0), (Ft.of_all (fun _ => (fun h_ => absurd h_ (by simp))) _ _ _), (by simp), hs.closeM_ft (o := o) (ρ := fun l_ => if l_ = 1 then Lp0 else if l_ = 2 then Lp0_0 else if l_ = 3 then Lq0_0 else 0) f526 (lab_at hoa (i := 0) rfl) rfl, hs.closeM_ft (o := o) (ρ := fun l_ => if l_ = 1 then Lp0 else if l_ = 2 then Lp0_0 else if l_ = 3 then Lq0_0 else 0) f528 (lab_at hoa (i := 2) rfl) rfl, hs.closeM_ft (o := o) (ρ := fun l_ => if l_ = 1 then Lp0 else if l_ = 2 then Lp0_0 else if l_ = 3 then Lq0_0 else 0) f531 (lab_at hoa (i := 1) rfl) rfl, hc532⟩
  refine x_seq ?_
  refine wpIn_region_lit ?_
  refine x_run tab hk (k := 2) (lv := [.int .i64 p2.Kind]) (ks := [0, 3, 5, 6, 8, 20]) (e' := [(0, .pointer (some ⟨bp0, 0, none⟩)), (3, .int .i64 p3), (5, .pointer (some ⟨bx4, 0, none⟩)), (6, .pointer (some ⟨bx9, 0, none⟩)), (8, .pointer (some ⟨bx14, 0, none⟩)), (20, .int .i64 p2.Kind)]) rfl ⟨(load1 tab rfl ((Bx.cell f10.now 0).trans rfl)), trivial⟩ fun a hk => ?_
  refine wpListIn_nil ?_
  refine then_n ?_
  refine wpIn_block ?_
  refine x_seq ?_
  refine wpIn_region_lit ?_
  refine x_run tab hk (k := 2) (lv := []) (ks := [0, 3, 5, 6, 8, 20, 21]) (e' := [(0, .pointer (some ⟨bp0, 0, none⟩)), (3, .int .i64 p3), (5, .pointer (some ⟨bx4, 0, none⟩)), (6, .pointer (some ⟨bx9, 0, none⟩)), (8, .pointer (some ⟨bx14, 0, none⟩)), (20, .int .i64 p2.Kind), (21, .bool (p2.Kind == (0 : Int)))]) rfl trivial fun a hk => ?_
  refine wpListIn_nil ?_
  refine then_n ?_
  cases b536 : (p2.Kind == (0 : Int))
  · rw [b536] at hk H
    replace H := bifF H
    refine x_if hk (b := false) rfl ?_
    refine (show Code.wpIn _ _ _ _ _ _ _ from ?_)
    refine x_seq ?_
    refine wpIn_region_lit ?_
    refine x_run tab hk (k := 2) (lv := []) (ks := [0, 3, 5, 6, 8, 20, 56]) (e' := [(0, .pointer (some ⟨bp0, 0, none⟩)), (3, .int .i64 p3), (5, .pointer (some ⟨bx4, 0, none⟩)), (6, .pointer (some ⟨bx9, 0, none⟩)), (8, .pointer (some ⟨bx14, 0, none⟩)), (20, .int .i64 p2.Kind), (56, .bool (p2.Kind == (1 : Int)))]) rfl trivial fun a hk => ?_
    refine wpListIn_nil ?_
    refine then_n ?_
    cases b537 : (p2.Kind == (1 : Int))
    · rw [b537] at hk H
      replace H := bifF H
      refine x_if hk (b := false) rfl ?_
      refine (show Code.wpIn _ _ _ _ _ _ _ from ?_)
      refine x_seq ?_
      refine wpIn_region_lit ?_
      refine x_run tab hk (k := 2) (lv := []) (ks := [0, 3, 5, 6, 8, 72]) (e' := [(0, .pointer (some ⟨bp0, 0, none⟩)), (3, .int .i64 p3), (5, .pointer (some ⟨bx4, 0, none⟩)), (6, .pointer (some ⟨bx9, 0, none⟩)), (8, .pointer (some ⟨bx14, 0, none⟩)), (72, .bool (p2.Kind == (2 : Int)))]) rfl trivial fun a hk => ?_
      refine wpListIn_nil ?_
      refine then_n ?_
      cases b538 : (p2.Kind == (2 : Int))
      · rw [b538] at hk H
        replace H := bifF H
        refine x_if hk (b := false) rfl ?_
        refine (show Code.wpIn _ _ _ _ _ _ _ from ?_)
        refine wpIn_skip ?_
        refine blk_n ?_
        refine then_n ?_
        exact ⟨(fun b_ => (fun l_ => if l_ = 5 then 49 else if l_ = 7 then 50 else l_) (o12 b_)), (by exact Kn.pick (ks := [0, 5, 8]) hk rfl), (hs.relabM hob (fun l_ => if l_ = 5 then 49 else if l_ = 7 then 50 else l_) (by decide)), (f15.relab (fun l_ => if l_ = 5 then 49 else if l_ = 7 then 50 else l_) rfl), (f5.relab (fun l_ => if l_ = 5 then 49 else if l_ = 7 then 50 else l_) rfl), (f900000.relab (fun l_ => if l_ = 5 then 49 else if l_ = 7 then 50 else l_) rfl), (f900019.relab (fun l_ => if l_ = 5 then 49 else if l_ = 7 then 50 else l_) rfl), (f900020.relab (fun l_ => if l_ = 5 then 49 else if l_ = 7 then 50 else l_) rfl), (f910000.relab (fun l_ => if l_ = 5 then 49 else if l_ = 7 then 50 else l_) rfl), H⟩
      · rw [b538] at hk H
        replace H := bifT H
        refine x_if hk (b := true) rfl ?_
        refine (show Code.wpIn _ _ _ _ _ _ _ from ?_)
        refine x_seq ?_
        refine wpIn_region_lit ?_
        refine x_run tab hk (k := 4) (lv := [.agg #[.int .i64 p1.Most, .int .i64 p1.Every, .int .i64 p1.Due, .slice Ap1_0 (p1.L).length cp1_0], .int .i64 p2.N]) (ks := [0, 3, 6, 8, 75, 76, 78]) (e' := [(0, .pointer (some ⟨bp0, 0, none⟩)), (3, .int .i64 p3), (6, .pointer (some ⟨bx9, 0, none⟩)), (8, .pointer (some ⟨bx14, 0, none⟩)), (75, .agg #[.int .i64 p1.Most, .int .i64 p1.Every, .int .i64 p1.Due, .slice Ap1_0 (p1.L).length cp1_0]), (76, .int .i64 p3), (78, .int .i64 p2.N)]) rfl ⟨(load_box tab rfl rfl f5.now (k := 0) rfl rfl), (load1 tab rfl ((Bx.cell f10.now 1).trans rfl)), trivial⟩ fun a hk => ?_
        refine x_op hk rfl ?_
        obtain ⟨t542, hc543, H⟩ := bindS H
        refine op_call hk ent_19 (vs := [.agg #[.int .i64 p1.Most, .int .i64 p1.Every, .int .i64 p1.Due, .slice Ap1_0 (p1.L).length cp1_0], .int .i64 p3, .int .i64 p2.N]) rfl (tidewrackref21_Ask_calls K Ap1_0 cp1_0 p1 p3 p2.N _ o12 4 f900020 hcp1_0 (by decide) 51  _ hc543) ?_
        rintro _ w544 ⟨o545, A547, c548, A551, c552, rfl, st546, f549, hc550, f553, hc554⟩
        replace f10 := f10.st st546 (by decide)
        replace f15 := f15.st st546 (by decide)
        replace f900000 := f900000.st st546 (by decide)
        replace f900019 := f900019.st st546 (by decide)
        replace f900020 := f900020.st st546 (by decide)
        replace f900040 := f900040.st st546 (by decide)
        replace f910000 := f910000.st st546 (by decide)
        replace hs := hs.locQ st546 hob rfl
        have hk := hk.put 79 (.tuple #[.agg #[.int .i64 t542.1.Most, .int .i64 t542.1.Every, .int .i64 t542.1.Due, .slice A547 (t542.1.L).length c548], .slice A551 (t542.2).length c552]) rfl
        refine x_run tab hk (k := 3) (lv := []) (ks := [0, 3, 6, 8, 80, 81]) (e' := [(0, .pointer (some ⟨bp0, 0, none⟩)), (3, .int .i64 p3), (6, .pointer (some ⟨bx9, 0, none⟩)), (8, .pointer (some ⟨bx14, 0, none⟩)), (80, .agg #[.int .i64 t542.1.Most, .int .i64 t542.1.Every, .int .i64 t542.1.Due, .slice A547 (t542.1.L).length c548]), (81, .slice A551 (t542.2).length c552)]) rfl trivial fun a hk => ?_
        refine x_op hk rfl ?_
        refine op_alloc (o := o545) tab (t := 28) (cs := [.int .i64 0, .int .i64 0, .int .i64 0, .slice none 0 0]) rfl rfl 52 fun bx558 w555 o556 st557 f559 => ?_
        replace f10 := f10.st st557 (by decide)
        replace f15 := f15.st st557 (by decide)
        replace f549 := f549.st st557 (by decide)
        replace f553 := f553.st st557 (by decide)
        replace f900000 := f900000.st st557 (by decide)
        replace f900019 := f900019.st st557 (by decide)
        replace f900040 := f900040.st st557 (by decide)
        replace f910000 := f910000.st st557 (by decide)
        replace hs := hs.locQ st557 hob rfl
        have hk := hk.put 17 (.pointer (some ⟨bx558, 0, none⟩)) rfl
        refine x_op hk rfl ?_
        refine op_store tab hk (t := 28) (v := .agg #[.int .i64 t542.1.Most, .int .i64 t542.1.Every, .int .i64 t542.1.Due, .slice A547 (t542.1.L).length c548]) (b := bx558) (k := 0) (cs' := [.int .i64 t542.1.Most, .int .i64 t542.1.Every, .int .i64 t542.1.Due, .slice A547 (t542.1.L).length c548]) rfl rfl rfl rfl rfl rfl f559 rfl rfl fun w560 o561 st562 f559_ => ?_
        replace f10 := f10.st st562 (by decide)
        replace f15 := f15.st st562 (by decide)
        replace f549 := f549.st st562 (by decide)
        replace f553 := f553.st st562 (by decide)
        replace f900000 := f900000.st st562 (by decide)
        replace f900019 := f900019.st st562 (by decide)
        replace f900040 := f900040.st st562 (by decide)
        replace f910000 := f910000.st st562 (by decide)
        replace hs := hs.locQ st562 hob rfl
        replace f559 := f559_
        refine x_run tab hk (k := 1) (lv := []) (ks := [0, 3, 6, 8, 17, 18]) (e' := [(0, .pointer (some ⟨bp0, 0, none⟩)), (3, .int .i64 p3), (6, .pointer (some ⟨bx9, 0, none⟩)), (8, .pointer (some ⟨bx14, 0, none⟩)), (17, .pointer (some ⟨bx558, 0, none⟩)), (18, .slice A551 (t542.2).length c552)]) rfl trivial fun a hk => ?_
        refine wpListIn_nil ?_
        refine then_n ?_
        refine x_seq ?_
        refine xd_begin (o := o561) (fun W_ => (Bx bx9 33 [.int .i64 p2.Kind, .int .i64 p2.N, .int .i64 p2.Later, .int .i64 p2.Span_From, .int .i64 p2.Span_To, .slice Ap2_0 (p2.Have).length cp2_0]) W_ ∧ (Bx bx558 28 [.int .i64 t542.1.Most, .int .i64 t542.1.Every, .int .i64 t542.1.Due, .slice A547 (t542.1.L).length c548]) W_ ∧ True) mixed rfl rfl fun w623 st624 => ?_
        replace f10 := f10.st st624 (by decide)
        replace f15 := f15.st st624 (by decide)
        replace f549 := f549.st st624 (by decide)
        replace f553 := f553.st st624 (by decide)
        replace f559 := f559.st st624 (by decide)
        replace f900000 := f900000.st st624 (by decide)
        replace f900019 := f900019.st st624 (by decide)
        replace f900040 := f900040.st st624 (by decide)
        replace f910000 := f910000.st st624 (by decide)
        replace hs := hs.locQ st624 hob rfl
        refine xd_take tab hk (k := 4) (is := [0, 1, 2, 3, 4, 6]) (ls' := #[true, true, true, true, true, false, true, false, false, false]) (lv := [.agg #[.int .i64 t542.1.Most, .int .i64 t542.1.Every, .int .i64 t542.1.Due, .slice A547 (t542.1.L).length c548], .int .i64 p2.N]) (ks := [8, 82, 83, 84, 86, 88]) (e' := [(8, .pointer (some ⟨bx14, 0, none⟩)), (82, .agg #[.int .i64 t542.1.Most, .int .i64 t542.1.Every, .int .i64 t542.1.Due, .slice A547 (t542.1.L).length c548]), (83, .pointer (some ⟨bp0, 0, none⟩)), (84, .int .i64 p3), (86, .int .i64 p2.N), (88, .slice A551 (t542.2).length c552)]) (by kernel_rfl) rfl rfl (by kernel_rfl) (np_then (np_blk (np_then np_body))) ⟨f10.now, f559.now, trivial⟩ (fun W_ hS => ⟨(load_box tab rfl rfl hS.2.1 (k := 0) rfl rfl), (load1 tab rfl ((Bx.cell hS.1 1).trans rfl)), trivial⟩) fun a hk => ?_
        refine xd_op hk (i := 5) (by kernel_rfl) rfl rfl ?_
        obtain ⟨t628, hc629, H⟩ := bindS H
        refine op_call hk ent_13 (vs := [.pointer (some ⟨bp0, 0, none⟩), .int .i64 p3, .int .i64 p2.N]) rfl (fetch_Fetch_Ask_calls K bp0 bq0_0 Ap0_0 cp0_0 p0 p3 p2.N _ o561 1 f900019 2 f900000 hcp0_0 3 f910000 (by decide) 55  _ hc629) ?_
        rintro _ w630 ⟨o631, A633, c634, bx638, A640, c641, rfl, st632, f635, hc636, f637, f639, f642, hc643⟩
        replace f10 := f10.st st632 (by decide)
        replace f15 := f15.st st632 (by decide)
        replace f549 := f549.st st632 (by decide)
        replace f553 := f553.st st632 (by decide)
        replace f559 := f559.st st632 (by decide)
        replace f900040 := f900040.st st632 (by decide)
        replace hs := hs.locQ st632 hob rfl
        have hk := hk.put 87 (.slice A633 (t628.1).length c634) rfl
        refine ⟨.inr ⟨f10.now, f559.now, trivial⟩, ?_⟩
        refine xd_op hk (i := 7) (by kernel_rfl) rfl rfl ?_
        obtain ⟨t647, hc648, H⟩ := bindS H
        refine op_call hk ent_9 (vs := [.slice A633 (t628.1).length c634, .slice A551 (t542.2).length c552]) rfl (tidewracklaw13_Same_calls K A633 c634 t628.1 A551 c552 t542.2 _ o631 _ (f635.imp fun _ h_ => Own.rd h_) hc636 _ (f553.imp fun _ h_ => Own.rd h_) hc554   _ hc648) ?_
        rintro _ w649 ⟨o650, rfl, st651⟩
        replace f10 := f10.st st651 (by decide)
        replace f15 := f15.st st651 (by decide)
        replace f549 := f549.st st651 (by decide)
        replace f553 := f553.st st651 (by decide)
        replace f559 := f559.st st651 (by decide)
        replace f635 := f635.st st651 (by decide)
        replace f637 := f637.st st651 (by decide)
        replace f639 := f639.st st651 (by decide)
        replace f642 := f642.st st651 (by decide)
        replace f900040 := f900040.st st651 (by decide)
        replace hs := hs.locQ st651 hob rfl
        have hk := hk.put 89 (.bool t647) rfl
        refine ⟨.inr ⟨f10.now, f559.now, trivial⟩, ?_⟩
        refine xd_op hk (i := 8) (by kernel_rfl) rfl rfl ?_
        refine op_store tab hk (t := 28) (v := .agg #[.int .i64 t542.1.Most, .int .i64 t542.1.Every, .int .i64 t542.1.Due, .slice A547 (t542.1.L).length c548]) (b := bx14) (k := 0) (cs' := [.int .i64 t542.1.Most, .int .i64 t542.1.Every, .int .i64 t542.1.Due, .slice A547 (t542.1.L).length c548]) rfl rfl rfl rfl rfl rfl f15 rfl rfl fun w652 o653 st654 f15_ => ?_
        replace f10 := f10.st st654 (by decide)
        replace f549 := f549.st st654 (by decide)
        replace f553 := f553.st st654 (by decide)
        replace f559 := f559.st st654 (by decide)
        replace f635 := f635.st st654 (by decide)
        replace f637 := f637.st st654 (by decide)
        replace f639 := f639.st st654 (by decide)
        replace f642 := f642.st st654 (by decide)
        replace f900040 := f900040.st st654 (by decide)
        replace hs := hs.locQ st654 hob rfl
        replace f15 := f15_
        refine ⟨.inr ⟨f10.now, f559.now, trivial⟩, ?_⟩
        refine xd_take tab hk (k := 0) (is := [9]) (ls' := #[true, true, true, true, true, true, true, true, true, true]) (lv := []) (ks := [8, 9]) (e' := [(8, .pointer (some ⟨bx14, 0, none⟩)), (9, .bool t647)]) (by kernel_rfl) rfl rfl (by kernel_rfl) (np_then (np_blk (np_then np_body))) ⟨f10.now, f559.now, trivial⟩ (fun W_ hS => trivial) fun a hk => ?_
        refine xd_done (by kernel_rfl) ?_
        refine then_n ?_
        refine wpIn_ret ?_
        refine blk_r ?_
        refine then_r ?_
        obtain rfl := Option.some.inj H
        exact x_retG hk (rs := [.cell 8 28, .tmp 9]) (vs := [.agg #[.int .i64 t542.1.Most, .int .i64 t542.1.Every, .int .i64 t542.1.Due, .slice A547 (t542.1.L).length c548], .bool t647]) rfl ⟨⟨_, rfl, load_box tab rfl rfl f15.now (k := 0) rfl rfl⟩, rfl, trivial⟩ ⟨cl w oi o [1, 2, 3] (fun l_ => if l_ = 1 then Lp0 else if l_ = 2 then Lp0_0 else if l_ = 3 then Lq0_0 else if l_ = 4 then Lp1_0 else 0) o653, A547, c548, bx638, A640, c641, rfl, hs.closeQ (Lm := [Lp0, Lp0_0, Lq0_0]) (Sh := [Lp1_0]) hoa rfl (fun l_ => if l_ = 1 then Lp0 else if l_ = 2 then Lp0_0 else if l_ = 3 then Lq0_0 else if l_ = 4 then Lp1_0 else 0), hs.closeM_ft (o := o) (ρ := fun l_ => if l_ = 1 then Lp0 else if l_ = 2 then Lp0_0 else if l_ = 3 then Lq0_0 else if l_ = 4 then Lp1_0 else 0) f549 (lab_at hoa (i := 3) rfl) rfl, hc550, hs.closeM_ft (o := o) (ρ := fun l_ => if l_ = 1 then Lp0 else if l_ = 2 then Lp0_0 else if l_ = 3 then Lq0_0 else if l_ = 4 then Lp1_0 else 0) f637 (lab_at hoa (i := 0) rfl) rfl, hs.closeM_ft (o := o) (ρ := fun l_ => if l_ = 1 then Lp0 else if l_ = 2 then Lp0_0 else if l_ = 3 then Lq0_0 else if l_ = 4 then Lp1_0 else 0) f639 (lab_at hoa (i := 2) rfl) rfl, hs.closeM_ft (o := o) (ρ := fun l_ => if l_ = 1 then Lp0 else if l_ = 2 then Lp0_0 else if l_ = 3 then Lq0_0 else if l_ = 4 then Lp1_0 else 0) f642 (lab_at hoa (i := 1) rfl) rfl, hc643⟩
    · rw [b537] at hk H
      replace H := bifT H
      refine x_if hk (b := true) rfl ?_
      refine (show Code.wpIn _ _ _ _ _ _ _ from ?_)
      refine x_seq ?_
      refine wpIn_region_lit ?_
      refine x_run tab hk (k := 3) (lv := [.agg #[.int .i64 p1.Most, .int .i64 p1.Every, .int .i64 p1.Due, .slice Ap1_0 (p1.L).length cp1_0], .int .i64 p2.N]) (ks := [0, 6, 8, 59, 61]) (e' := [(0, .pointer (some ⟨bp0, 0, none⟩)), (6, .pointer (some ⟨bx9, 0, none⟩)), (8, .pointer (some ⟨bx14, 0, none⟩)), (59, .agg #[.int .i64 p1.Most, .int .i64 p1.Every, .int .i64 p1.Due, .slice Ap1_0 (p1.L).length cp1_0]), (61, .int .i64 p2.N)]) rfl ⟨(load_box tab rfl rfl f5.now (k := 0) rfl rfl), (load1 tab rfl ((Bx.cell f10.now 1).trans rfl)), trivial⟩ fun a hk => ?_
      refine x_op hk rfl ?_
      obtain ⟨t658, hc659, H⟩ := bindS H
      refine op_call hk ent_18 (vs := [.agg #[.int .i64 p1.Most, .int .i64 p1.Every, .int .i64 p1.Due, .slice Ap1_0 (p1.L).length cp1_0], .int .i64 p2.N]) rfl (tidewrackref21_Got_calls K Ap1_0 cp1_0 p1 p2.N _ o12 4 f900020 hcp1_0 (by decide)   _ hc659) ?_
      rintro _ w660 ⟨o661, A663, c664, rfl, st662, f665, hc666⟩
      replace f10 := f10.st st662 (by decide)
      replace f15 := f15.st st662 (by decide)
      replace f900000 := f900000.st st662 (by decide)
      replace f900019 := f900019.st st662 (by decide)
      replace f900020 := f900020.st st662 (by decide)
      replace f900040 := f900040.st st662 (by decide)
      replace f910000 := f910000.st st662 (by decide)
      replace hs := hs.locQ st662 hob rfl
      have hk := hk.put 62 (.tuple #[.agg #[.int .i64 t658.1.Most, .int .i64 t658.1.Every, .int .i64 t658.1.Due, .slice A663 (t658.1.L).length c664], .bool t658.2]) rfl
      refine x_run tab hk (k := 3) (lv := []) (ks := [0, 6, 8, 63, 64]) (e' := [(0, .pointer (some ⟨bp0, 0, none⟩)), (6, .pointer (some ⟨bx9, 0, none⟩)), (8, .pointer (some ⟨bx14, 0, none⟩)), (63, .agg #[.int .i64 t658.1.Most, .int .i64 t658.1.Every, .int .i64 t658.1.Due, .slice A663 (t658.1.L).length c664]), (64, .bool t658.2)]) rfl trivial fun a hk => ?_
      refine x_op hk rfl ?_
      refine op_alloc (o := o661) tab (t := 28) (cs := [.int .i64 0, .int .i64 0, .int .i64 0, .slice none 0 0]) rfl rfl 56 fun bx670 w667 o668 st669 f671 => ?_
      replace f10 := f10.st st669 (by decide)
      replace f15 := f15.st st669 (by decide)
      replace f665 := f665.st st669 (by decide)
      replace f900000 := f900000.st st669 (by decide)
      replace f900019 := f900019.st st669 (by decide)
      replace f900040 := f900040.st st669 (by decide)
      replace f910000 := f910000.st st669 (by decide)
      replace hs := hs.locQ st669 hob rfl
      have hk := hk.put 15 (.pointer (some ⟨bx670, 0, none⟩)) rfl
      refine x_op hk rfl ?_
      refine op_store tab hk (t := 28) (v := .agg #[.int .i64 t658.1.Most, .int .i64 t658.1.Every, .int .i64 t658.1.Due, .slice A663 (t658.1.L).length c664]) (b := bx670) (k := 0) (cs' := [.int .i64 t658.1.Most, .int .i64 t658.1.Every, .int .i64 t658.1.Due, .slice A663 (t658.1.L).length c664]) rfl rfl rfl rfl rfl rfl f671 rfl rfl fun w672 o673 st674 f671_ => ?_
      replace f10 := f10.st st674 (by decide)
      replace f15 := f15.st st674 (by decide)
      replace f665 := f665.st st674 (by decide)
      replace f900000 := f900000.st st674 (by decide)
      replace f900019 := f900019.st st674 (by decide)
      replace f900040 := f900040.st st674 (by decide)
      replace f910000 := f910000.st st674 (by decide)
      replace hs := hs.locQ st674 hob rfl
      replace f671 := f671_
      refine x_run tab hk (k := 1) (lv := []) (ks := [0, 6, 8, 15, 16]) (e' := [(0, .pointer (some ⟨bp0, 0, none⟩)), (6, .pointer (some ⟨bx9, 0, none⟩)), (8, .pointer (some ⟨bx14, 0, none⟩)), (15, .pointer (some ⟨bx670, 0, none⟩)), (16, .bool t658.2)]) rfl trivial fun a hk => ?_
      refine wpListIn_nil ?_
      refine then_n ?_
      refine x_seq ?_
      refine xd_begin (o := o673) (fun W_ => (Bx bx9 33 [.int .i64 p2.Kind, .int .i64 p2.N, .int .i64 p2.Later, .int .i64 p2.Span_From, .int .i64 p2.Span_To, .slice Ap2_0 (p2.Have).length cp2_0]) W_ ∧ (Bx bx670 28 [.int .i64 t658.1.Most, .int .i64 t658.1.Every, .int .i64 t658.1.Due, .slice A663 (t658.1.L).length c664]) W_ ∧ True) mixed rfl rfl fun w711 st712 => ?_
      replace f10 := f10.st st712 (by decide)
      replace f15 := f15.st st712 (by decide)
      replace f665 := f665.st st712 (by decide)
      replace f671 := f671.st st712 (by decide)
      replace f900000 := f900000.st st712 (by decide)
      replace f900019 := f900019.st st712 (by decide)
      replace f900040 := f900040.st st712 (by decide)
      replace f910000 := f910000.st st712 (by decide)
      replace hs := hs.locQ st712 hob rfl
      refine xd_take tab hk (k := 4) (is := [0, 1, 2, 3, 5]) (ls' := #[true, true, true, true, false, true, false, false, false]) (lv := [.agg #[.int .i64 t658.1.Most, .int .i64 t658.1.Every, .int .i64 t658.1.Due, .slice A663 (t658.1.L).length c664], .int .i64 p2.N]) (ks := [8, 65, 66, 68, 70]) (e' := [(8, .pointer (some ⟨bx14, 0, none⟩)), (65, .agg #[.int .i64 t658.1.Most, .int .i64 t658.1.Every, .int .i64 t658.1.Due, .slice A663 (t658.1.L).length c664]), (66, .pointer (some ⟨bp0, 0, none⟩)), (68, .int .i64 p2.N), (70, .bool t658.2)]) (by kernel_rfl) rfl rfl (by kernel_rfl) (np_then (np_blk (np_then np_body))) ⟨f10.now, f671.now, trivial⟩ (fun W_ hS => ⟨(load_box tab rfl rfl hS.2.1 (k := 0) rfl rfl), (load1 tab rfl ((Bx.cell hS.1 1).trans rfl)), trivial⟩) fun a hk => ?_
      refine xd_op hk (i := 4) (by kernel_rfl) rfl rfl ?_
      obtain ⟨t716, hc717, H⟩ := bindS H
      refine op_call hk ent_14 (vs := [.pointer (some ⟨bp0, 0, none⟩), .int .i64 p2.N]) rfl (fetch_Fetch_Got_calls K bp0 bq0_0 Ap0_0 cp0_0 p0 p2.N _ o673 1 f900019 2 f900000 hcp0_0 3 f910000 (by decide)   _ hc717) ?_
      rintro _ w718 ⟨o719, bx722, A724, c725, rfl, st720, f721, f723, f726, hc727⟩
      replace f10 := f10.st st720 (by decide)
      replace f15 := f15.st st720 (by decide)
      replace f665 := f665.st st720 (by decide)
      replace f671 := f671.st st720 (by decide)
      replace f900040 := f900040.st st720 (by decide)
      replace hs := hs.locQ st720 hob rfl
      have hk := hk.put 69 (.bool t716.1) rfl
      refine ⟨.inr ⟨f10.now, f671.now, trivial⟩, ?_⟩
      refine xd_take tab hk (k := 2) (is := [6]) (ls' := #[true, true, true, true, true, true, true, false, false]) (lv := []) (ks := [8, 65, 71]) (e' := [(8, .pointer (some ⟨bx14, 0, none⟩)), (65, .agg #[.int .i64 t658.1.Most, .int .i64 t658.1.Every, .int .i64 t658.1.Due, .slice A663 (t658.1.L).length c664]), (71, .bool (t716.1 == t658.2))]) (by kernel_rfl) rfl rfl (by kernel_rfl) (np_then (np_blk (np_then np_body))) ⟨f10.now, f671.now, trivial⟩ (fun W_ hS => trivial) fun a hk => ?_
      refine xd_op hk (i := 7) (by kernel_rfl) rfl rfl ?_
      refine op_store tab hk (t := 28) (v := .agg #[.int .i64 t658.1.Most, .int .i64 t658.1.Every, .int .i64 t658.1.Due, .slice A663 (t658.1.L).length c664]) (b := bx14) (k := 0) (cs' := [.int .i64 t658.1.Most, .int .i64 t658.1.Every, .int .i64 t658.1.Due, .slice A663 (t658.1.L).length c664]) rfl rfl rfl rfl rfl rfl f15 rfl rfl fun w728 o729 st730 f15_ => ?_
      replace f10 := f10.st st730 (by decide)
      replace f665 := f665.st st730 (by decide)
      replace f671 := f671.st st730 (by decide)
      replace f721 := f721.st st730 (by decide)
      replace f723 := f723.st st730 (by decide)
      replace f726 := f726.st st730 (by decide)
      replace f900040 := f900040.st st730 (by decide)
      replace hs := hs.locQ st730 hob rfl
      replace f15 := f15_
      refine ⟨.inr ⟨f10.now, f671.now, trivial⟩, ?_⟩
      refine xd_take tab hk (k := 0) (is := [8]) (ls' := #[true, true, true, true, true, true, true, true, true]) (lv := []) (ks := [8, 9]) (e' := [(8, .pointer (some ⟨bx14, 0, none⟩)), (9, .bool (t716.1 == t658.2))]) (by kernel_rfl) rfl rfl (by kernel_rfl) (np_then (np_blk (np_then np_body))) ⟨f10.now, f671.now, trivial⟩ (fun W_ hS => trivial) fun a hk => ?_
      refine xd_done (by kernel_rfl) ?_
      refine then_n ?_
      refine wpIn_ret ?_
      refine blk_r ?_
      refine then_r ?_
      obtain rfl := Option.some.inj H
      exact x_retG hk (rs := [.cell 8 28, .tmp 9]) (vs := [.agg #[.int .i64 t658.1.Most, .int .i64 t658.1.Every, .int .i64 t658.1.Due, .slice A663 (t658.1.L).length c664], .bool (t716.1 == t658.2)]) rfl ⟨⟨_, rfl, load_box tab rfl rfl f15.now (k := 0) rfl rfl⟩, rfl, trivial⟩ ⟨cl w oi o [1, 2, 3] (fun l_ => if l_ = 1 then Lp0 else if l_ = 2 then Lp0_0 else if l_ = 3 then Lq0_0 else if l_ = 4 then Lp1_0 else 0) o729, A663, c664, bx722, A724, c725, rfl, hs.closeQ (Lm := [Lp0, Lp0_0, Lq0_0]) (Sh := [Lp1_0]) hoa rfl (fun l_ => if l_ = 1 then Lp0 else if l_ = 2 then Lp0_0 else if l_ = 3 then Lq0_0 else if l_ = 4 then Lp1_0 else 0), hs.closeM_ft (o := o) (ρ := fun l_ => if l_ = 1 then Lp0 else if l_ = 2 then Lp0_0 else if l_ = 3 then Lq0_0 else if l_ = 4 then Lp1_0 else 0) f665 (lab_at hoa (i := 3) rfl) rfl, hc666, hs.closeM_ft (o := o) (ρ := fun l_ => if l_ = 1 then Lp0 else if l_ = 2 then Lp0_0 else if l_ = 3 then Lq0_0 else if l_ = 4 then Lp1_0 else 0) f721 (lab_at hoa (i := 0) rfl) rfl, hs.closeM_ft (o := o) (ρ := fun l_ => if l_ = 1 then Lp0 else if l_ = 2 then Lp0_0 else if l_ = 3 then Lq0_0 else if l_ = 4 then Lp1_0 else 0) f723 (lab_at hoa (i := 2) rfl) rfl, hs.closeM_ft (o := o) (ρ := fun l_ => if l_ = 1 then Lp0 else if l_ = 2 then Lp0_0 else if l_ = 3 then Lq0_0 else if l_ = 4 then Lp1_0 else 0) f726 (lab_at hoa (i := 1) rfl) rfl, hc727⟩
  · rw [b536] at hk H
    replace H := bifT H
    refine x_if hk (b := true) rfl ?_
    refine (show Code.wpIn _ _ _ _ _ _ _ from ?_)
    refine x_seq ?_
    refine wpIn_region_lit ?_
    refine x_run tab hk (k := 1) (lv := []) (ks := [0, 5, 6, 8, 10]) (e' := [(0, .pointer (some ⟨bp0, 0, none⟩)), (5, .pointer (some ⟨bx4, 0, none⟩)), (6, .pointer (some ⟨bx9, 0, none⟩)), (8, .pointer (some ⟨bx14, 0, none⟩)), (10, .slice none 0 0)]) rfl trivial fun a hk => ?_
    refine wpListIn_nil ?_
    refine then_n ?_
    refine x_seq ?_
    refine wpIn_region_lit ?_
    obtain ⟨q731, H⟩ := ifS H
    obtain ⟨q732, H⟩ := ifS H
    obtain ⟨A733, c734, ak736, f735, hc737⟩ := ask_cut (P := Try.prog) tab (t := 26) rfl rfl f900040 hcp2_0 none (some (.int .i64 (mnI ((p2.Have).length : Int) 6))) rfl ⟨q731, (by have := q732; have := hcp2_0; omega), trivial⟩ (by have := q731; have := q732; omega) (by have := q731; have := q732; omega)
    refine x_run tab hk (k := 8) (lv := [.slice Ap2_0 (p2.Have).length cp2_0, .slice Ap2_0 (p2.Have).length cp2_0, .slice A733 ((List.drop 0 (List.take (Int.toNat (mnI ((p2.Have).length : Int) 6)) p2.Have))).length c734]) (ks := [0, 5, 6, 8, 10, 11]) (e' := [(0, .pointer (some ⟨bp0, 0, none⟩)), (5, .pointer (some ⟨bx4, 0, none⟩)), (6, .pointer (some ⟨bx9, 0, none⟩)), (8, .pointer (some ⟨bx14, 0, none⟩)), (10, .slice none 0 0), (11, .slice A733 ((List.drop 0 (List.take (Int.toNat (mnI ((p2.Have).length : Int) 6)) p2.Have))).length c734)]) rfl ⟨(load1 tab rfl ((Bx.cell f10.now 5).trans rfl)), (load1 tab rfl ((Bx.cell f10.now 5).trans rfl)), (ak736 rfl rfl rfl _), trivial⟩ fun a hk => ?_
    refine wpListIn_nil ?_
    refine then_n ?_
    refine x_mid (fun a_ w_ => ∃ o837 : Nat → Nat, ∃ A838 : Option Addr, ∃ c839 : Nat, ∃ l840 : List T30, Kn 97 a_ [(0, .pointer (some ⟨bp0, 0, none⟩)), (5, .pointer (some ⟨bx4, 0, none⟩)), (6, .pointer (some ⟨bx9, 0, none⟩)), (8, .pointer (some ⟨bx14, 0, none⟩)), (10, .slice A838 (l840).length c839), (11, .slice A733 ((List.drop 0 (List.take (Int.toNat (mnI ((p2.Have).length : Int) 6)) p2.Have))).length c734)] ∧ St [1, 2, 3] w oi w_ o837 ∧ Ft (Bx bx9 33 [.int .i64 p2.Kind, .int .i64 p2.N, .int .i64 p2.Later, .int .i64 p2.Span_From, .int .i64 p2.Span_To, .slice Ap2_0 (p2.Have).length cp2_0]) w_ o837 73 ∧ Ft (Bx bx14 28 [.int .i64 0, .int .i64 0, .int .i64 0, .slice none 0 0]) w_ o837 74 ∧ Ft (Bx bx4 28 [.int .i64 p1.Most, .int .i64 p1.Every, .int .i64 p1.Due, .slice Ap1_0 (p1.L).length cp1_0]) w_ o837 72 ∧ Ft (RdC ET30 A733 (List.drop 0 (List.take (Int.toNat (mnI ((p2.Have).length : Int) 6)) p2.Have))) w_ o837 0 ∧ Ft (Own ET30 43 (.slice A838 (l840).length c839) l840) w_ o837 75 ∧ Ft (Own ET30 43 (.slice Ap0_0 (p0.want_l).length cp0_0) p0.want_l) w_ o837 2 ∧ Ft (Bx bp0 51 [.int .i64 p0.most, .int .i64 p0.every, .int .i64 p0.due, .pointer (some ⟨bq0_0, 0, none⟩)]) w_ o837 1 ∧ Ft (RdC ET30 Ap1_0 p1.L) w_ o837 4 ∧ Ft (RdC ET30 Ap2_0 p2.Have) w_ o837 0 ∧ Ft (Bx bq0_0 49 [.slice Ap0_0 (p0.want_l).length cp0_0]) w_ o837 3 ∧ (l840).length ≤ c839 ∧ tidewracklaw21_do_j2 K p0 p1 p2 l840 = some r) ?_ ?_
    rotate_left
    · rintro a w843 ⟨o837, A838, c839, l840, hk, hs, f10, f15, f5, f735, f841, f900000, f900019, f900020, f900040, f910000, hc842, H⟩
      rw [tidewracklaw21_do_j2] at H
      refine x_seq ?_
      refine wpIn_region_lit ?_
      refine x_run tab hk (k := 4) (lv := [.agg #[.int .i64 p1.Most, .int .i64 p1.Every, .int .i64 p1.Due, .slice Ap1_0 (p1.L).length cp1_0], .agg #[.int .i64 p2.Span_From, .int .i64 p2.Span_To]]) (ks := [0, 6, 8, 10, 41, 43, 44]) (e' := [(0, .pointer (some ⟨bp0, 0, none⟩)), (6, .pointer (some ⟨bx9, 0, none⟩)), (8, .pointer (some ⟨bx14, 0, none⟩)), (10, .slice A838 (l840).length c839), (41, .agg #[.int .i64 p1.Most, .int .i64 p1.Every, .int .i64 p1.Due, .slice Ap1_0 (p1.L).length cp1_0]), (43, .agg #[.int .i64 p2.Span_From, .int .i64 p2.Span_To]), (44, .slice A733 ((List.drop 0 (List.take (Int.toNat (mnI ((p2.Have).length : Int) 6)) p2.Have))).length c734)]) rfl ⟨(load_box tab rfl rfl f5.now (k := 0) rfl rfl), (load_box tab rfl rfl f10.now (k := 3) rfl rfl), trivial⟩ fun a hk => ?_
      refine x_op hk rfl ?_
      obtain ⟨t847, hc848, H⟩ := bindS H
      refine op_call hk ent_17 (vs := [.agg #[.int .i64 p1.Most, .int .i64 p1.Every, .int .i64 p1.Due, .slice Ap1_0 (p1.L).length cp1_0], .agg #[.int .i64 p2.Span_From, .int .i64 p2.Span_To], .slice A733 ((List.drop 0 (List.take (Int.toNat (mnI ((p2.Have).length : Int) 6)) p2.Have))).length c734]) rfl (tidewrackref21_Want_calls K Ap1_0 cp1_0 p1 (⟨p2.Span_From, p2.Span_To⟩ : T30) A733 c734 (List.drop 0 (List.take (Int.toNat (mnI ((p2.Have).length : Int) 6)) p2.Have)) _ o837 _ f900020 hcp1_0 _ f735 hc737 76  _ hc848) ?_
      rintro _ w849 ⟨o850, A852, c853, rfl, st851, f854, hc855⟩
      replace f10 := f10.st st851 (by decide)
      replace f15 := f15.st st851 (by decide)
      replace f735 := f735.st st851 (by decide)
      replace f841 := f841.st st851 (by decide)
      replace f900000 := f900000.st st851 (by decide)
      replace f900019 := f900019.st st851 (by decide)
      replace f900020 := f900020.st st851 (by decide)
      replace f900040 := f900040.st st851 (by decide)
      replace f910000 := f910000.st st851 (by decide)
      replace hs := hs.locQ st851 hob rfl
      have hk := hk.put 45 (.agg #[.int .i64 t847.Most, .int .i64 t847.Every, .int .i64 t847.Due, .slice A852 (t847.L).length c853]) rfl
      refine x_op hk rfl ?_
      refine op_alloc (o := o850) tab (t := 28) (cs := [.int .i64 0, .int .i64 0, .int .i64 0, .slice none 0 0]) rfl rfl 77 fun bx859 w856 o857 st858 f860 => ?_
      replace f10 := f10.st st858 (by decide)
      replace f15 := f15.st st858 (by decide)
      replace f735 := f735.st st858 (by decide)
      replace f841 := f841.st st858 (by decide)
      replace f854 := f854.st st858 (by decide)
      replace f900000 := f900000.st st858 (by decide)
      replace f900019 := f900019.st st858 (by decide)
      replace f900020 := f900020.st st858 (by decide)
      replace f900040 := f900040.st st858 (by decide)
      replace f910000 := f910000.st st858 (by decide)
      replace hs := hs.locQ st858 hob rfl
      have hk := hk.put 14 (.pointer (some ⟨bx859, 0, none⟩)) rfl
      refine x_op hk rfl ?_
      refine op_store tab hk (t := 28) (v := .agg #[.int .i64 t847.Most, .int .i64 t847.Every, .int .i64 t847.Due, .slice A852 (t847.L).length c853]) (b := bx859) (k := 0) (cs' := [.int .i64 t847.Most, .int .i64 t847.Every, .int .i64 t847.Due, .slice A852 (t847.L).length c853]) rfl rfl rfl rfl rfl rfl f860 rfl rfl fun w861 o862 st863 f860_ => ?_
      replace f10 := f10.st st863 (by decide)
      replace f15 := f15.st st863 (by decide)
      replace f735 := f735.st st863 (by decide)
      replace f841 := f841.st st863 (by decide)
      replace f854 := f854.st st863 (by decide)
      replace f900000 := f900000.st st863 (by decide)
      replace f900019 := f900019.st st863 (by decide)
      replace f900020 := f900020.st st863 (by decide)
      replace f900040 := f900040.st st863 (by decide)
      replace f910000 := f910000.st st863 (by decide)
      replace hs := hs.locQ st863 hob rfl
      replace f860 := f860_
      refine wpListIn_nil ?_
      refine then_n ?_
      refine x_seq ?_
      refine xd_begin (o := o862) (fun W_ => (Bx bx9 33 [.int .i64 p2.Kind, .int .i64 p2.N, .int .i64 p2.Later, .int .i64 p2.Span_From, .int .i64 p2.Span_To, .slice Ap2_0 (p2.Have).length cp2_0]) W_ ∧ (Bx bx859 28 [.int .i64 t847.Most, .int .i64 t847.Every, .int .i64 t847.Due, .slice A852 (t847.L).length c853]) W_ ∧ True) mixed rfl rfl fun w916 st917 => ?_
      replace f10 := f10.st st917 (by decide)
      replace f15 := f15.st st917 (by decide)
      replace f735 := f735.st st917 (by decide)
      replace f841 := f841.st st917 (by decide)
      replace f854 := f854.st st917 (by decide)
      replace f860 := f860.st st917 (by decide)
      replace f900000 := f900000.st st917 (by decide)
      replace f900019 := f900019.st st917 (by decide)
      replace f900020 := f900020.st st917 (by decide)
      replace f900040 := f900040.st st917 (by decide)
      replace f910000 := f910000.st st917 (by decide)
      replace hs := hs.locQ st917 hob rfl
      refine xd_take tab hk (k := 5) (is := [0, 1, 2, 3, 4, 6, 7]) (ls' := #[true, true, true, true, true, false, true, true, false, false, false, false]) (lv := [.agg #[.int .i64 t847.Most, .int .i64 t847.Every, .int .i64 t847.Due, .slice A852 (t847.L).length c853], .agg #[.int .i64 p2.Span_From, .int .i64 p2.Span_To], .slice A852 (t847.L).length c853]) (ks := [8, 46, 47, 49, 50, 53]) (e' := [(8, .pointer (some ⟨bx14, 0, none⟩)), (46, .agg #[.int .i64 t847.Most, .int .i64 t847.Every, .int .i64 t847.Due, .slice A852 (t847.L).length c853]), (47, .pointer (some ⟨bp0, 0, none⟩)), (49, .agg #[.int .i64 p2.Span_From, .int .i64 p2.Span_To]), (50, .slice A838 (l840).length c839), (53, .slice A852 (t847.L).length c853)]) (by kernel_rfl) rfl rfl (by kernel_rfl) (np_then (np_blk (np_then np_body))) ⟨f10.now, f860.now, trivial⟩ (fun W_ hS => ⟨(load_box tab rfl rfl hS.2.1 (k := 0) rfl rfl), (load_box tab rfl rfl hS.1 (k := 3) rfl rfl), (load1 tab rfl ((Bx.cell hS.2.1 3).trans rfl)), trivial⟩) fun a hk => ?_
      refine xd_op hk (i := 5) (by kernel_rfl) rfl rfl ?_
      obtain ⟨t921, hc922, H⟩ := bindS H
      refine op_call hk ent_12 (vs := [.pointer (some ⟨bp0, 0, none⟩), .agg #[.int .i64 p2.Span_From, .int .i64 p2.Span_To], .slice A838 (l840).length c839]) rfl (fetch_Fetch_Want_calls K bp0 bq0_0 Ap0_0 cp0_0 p0 (⟨p2.Span_From, p2.Span_To⟩ : T30) A838 c839 l840 _ o862 1 f900019 2 f900000 hcp0_0 3 f910000 _ (f841.imp fun _ h_ => Own.rd h_) hc842 (by decide) (by decide)   _ hc922) ?_
      rintro _ w923 ⟨o924, bx927, A929, c930, rfl, st925, f926, f928, f931, hc932⟩
      replace f10 := f10.st st925 (by decide)
      replace f15 := f15.st st925 (by decide)
      replace f735 := f735.st st925 (by decide)
      replace f841 := f841.st st925 (by decide)
      replace f854 := f854.st st925 (by decide)
      replace f860 := f860.st st925 (by decide)
      replace f900020 := f900020.st st925 (by decide)
      replace f900040 := f900040.st st925 (by decide)
      replace hs := hs.locQ st925 hob rfl
      have hk := hk.put 51 (.int .i64 t921.1) rfl
      refine ⟨.inr ⟨f10.now, f860.now, trivial⟩, ?_⟩
      refine xd_op hk (i := 8) (by kernel_rfl) rfl rfl ?_
      obtain ⟨t936, hc937, H⟩ := bindS H
      refine op_call hk ent_11 (vs := [.slice A852 (t847.L).length c853]) rfl (tidewrackref21_Count_calls K A852 c853 t847.L _ o924 _ (f854.imp fun _ h_ => Own.rd h_) hc855   _ hc937) ?_
      rintro _ w938 ⟨o939, rfl, st940⟩
      replace f10 := f10.st st940 (by decide)
      replace f15 := f15.st st940 (by decide)
      replace f735 := f735.st st940 (by decide)
      replace f841 := f841.st st940 (by decide)
      replace f854 := f854.st st940 (by decide)
      replace f860 := f860.st st940 (by decide)
      replace f900020 := f900020.st st940 (by decide)
      replace f900040 := f900040.st st940 (by decide)
      replace f926 := f926.st st940 (by decide)
      replace f928 := f928.st st940 (by decide)
      replace f931 := f931.st st940 (by decide)
      replace hs := hs.locQ st940 hob rfl
      have hk := hk.put 54 (.int .i64 t936) rfl
      refine ⟨.inr ⟨f10.now, f860.now, trivial⟩, ?_⟩
      refine xd_take tab hk (k := 2) (is := [9]) (ls' := #[true, true, true, true, true, true, true, true, true, true, false, false]) (lv := []) (ks := [8, 46, 55]) (e' := [(8, .pointer (some ⟨bx14, 0, none⟩)), (46, .agg #[.int .i64 t847.Most, .int .i64 t847.Every, .int .i64 t847.Due, .slice A852 (t847.L).length c853]), (55, .bool (t921.1 == t936))]) (by kernel_rfl) rfl rfl (by kernel_rfl) (np_then (np_blk (np_then np_body))) ⟨f10.now, f860.now, trivial⟩ (fun W_ hS => trivial) fun a hk => ?_
      refine xd_op hk (i := 10) (by kernel_rfl) rfl rfl ?_
      refine op_store tab hk (t := 28) (v := .agg #[.int .i64 t847.Most, .int .i64 t847.Every, .int .i64 t847.Due, .slice A852 (t847.L).length c853]) (b := bx14) (k := 0) (cs' := [.int .i64 t847.Most, .int .i64 t847.Every, .int .i64 t847.Due, .slice A852 (t847.L).length c853]) rfl rfl rfl rfl rfl rfl f15 rfl rfl fun w941 o942 st943 f15_ => ?_
      replace f10 := f10.st st943 (by decide)
      replace f735 := f735.st st943 (by decide)
      replace f841 := f841.st st943 (by decide)
      replace f854 := f854.st st943 (by decide)
      replace f860 := f860.st st943 (by decide)
      replace f900020 := f900020.st st943 (by decide)
      replace f900040 := f900040.st st943 (by decide)
      replace f926 := f926.st st943 (by decide)
      replace f928 := f928.st st943 (by decide)
      replace f931 := f931.st st943 (by decide)
      replace hs := hs.locQ st943 hob rfl
      replace f15 := f15_
      refine ⟨.inr ⟨f10.now, f860.now, trivial⟩, ?_⟩
      refine xd_take tab hk (k := 0) (is := [11]) (ls' := #[true, true, true, true, true, true, true, true, true, true, true, true]) (lv := []) (ks := [8, 9]) (e' := [(8, .pointer (some ⟨bx14, 0, none⟩)), (9, .bool (t921.1 == t936))]) (by kernel_rfl) rfl rfl (by kernel_rfl) (np_then (np_blk (np_then np_body))) ⟨f10.now, f860.now, trivial⟩ (fun W_ hS => trivial) fun a hk => ?_
      refine xd_done (by kernel_rfl) ?_
      refine then_n ?_
      refine wpIn_ret ?_
      refine blk_r ?_
      refine then_r ?_
      obtain rfl := Option.some.inj H
      exact x_retG hk (rs := [.cell 8 28, .tmp 9]) (vs := [.agg #[.int .i64 t847.Most, .int .i64 t847.Every, .int .i64 t847.Due, .slice A852 (t847.L).length c853], .bool (t921.1 == t936)]) rfl ⟨⟨_, rfl, load_box tab rfl rfl f15.now (k := 0) rfl rfl⟩, rfl, trivial⟩ ⟨cl w oi o [1, 2, 3] (fun l_ => if l_ = 1 then Lp0 else if l_ = 2 then Lp0_0 else if l_ = 3 then Lq0_0 else if l_ = 76 then Lp1_0 else 0) o942, A852, c853, bx927, A929, c930, rfl, hs.closeQ (Lm := [Lp0, Lp0_0, Lq0_0]) (Sh := [Lp1_0]) hoa rfl (fun l_ => if l_ = 1 then Lp0 else if l_ = 2 then Lp0_0 else if l_ = 3 then Lq0_0 else if l_ = 76 then Lp1_0 else 0), ((hs.closeM_ft (o := o) (ρ := fun l_ => if l_ = 1 then Lp0 else if l_ = 2 then Lp0_0 else if l_ = 3 then Lq0_0 else if l_ = 76 then Lp1_0 else 0) f854 (lab_none hob rfl) rfl).imp fun _ h_ => Own.rd h_), hc855, hs.closeM_ft (o := o) (ρ := fun l_ => if l_ = 1 then Lp0 else if l_ = 2 then Lp0_0 else if l_ = 3 then Lq0_0 else if l_ = 76 then Lp1_0 else 0) f926 (lab_at hoa (i := 0) rfl) rfl, hs.closeM_ft (o := o) (ρ := fun l_ => if l_ = 1 then Lp0 else if l_ = 2 then Lp0_0 else if l_ = 3 then Lq0_0 else if l_ = 76 then Lp1_0 else 0) f928 (lab_at hoa (i := 2) rfl) rfl, hs.closeM_ft (o := o) (ρ := fun l_ => if l_ = 1 then Lp0 else if l_ = 2 then Lp0_0 else if l_ = 3 then Lq0_0 else if l_ = 76 then Lp1_0 else 0) f931 (lab_at hoa (i := 1) rfl) rfl, hc932⟩
    refine x_seq ?_
    refine wpIn_region_lit ?_
    refine x_run tab hk (k := 3) (lv := []) (ks := [0, 5, 6, 8, 10, 11, 30, 31, 32]) (e' := [(0, .pointer (some ⟨bp0, 0, none⟩)), (5, .pointer (some ⟨bx4, 0, none⟩)), (6, .pointer (some ⟨bx9, 0, none⟩)), (8, .pointer (some ⟨bx14, 0, none⟩)), (10, .slice none 0 0), (11, .slice A733 ((List.drop 0 (List.take (Int.toNat (mnI ((p2.Have).length : Int) 6)) p2.Have))).length c734), (30, .slice A733 ((List.drop 0 (List.take (Int.toNat (mnI ((p2.Have).length : Int) 6)) p2.Have))).length c734), (31, .int .i64 (((List.drop 0 (List.take (Int.toNat (mnI ((p2.Have).length : Int) 6)) p2.Have))).length : Int)), (32, .int .i64 0)]) rfl trivial fun a hk => ?_
    refine wpListIn_nil ?_
    refine then_n ?_
    refine wpIn_block ?_
    refine x_loop (fun j_ a_ w_ => ∃ o972 : Nat → Nat, ∃ A973 : Option Addr, ∃ c974 : Nat, ∃ l975 : List T30, ∃ x978 : Int, Kn 97 a_ [(0, .pointer (some ⟨bp0, 0, none⟩)), (5, .pointer (some ⟨bx4, 0, none⟩)), (6, .pointer (some ⟨bx9, 0, none⟩)), (8, .pointer (some ⟨bx14, 0, none⟩)), (10, .slice A973 (l975).length c974), (11, .slice A733 ((List.drop 0 (List.take (Int.toNat (mnI ((p2.Have).length : Int) 6)) p2.Have))).length c734), (30, .slice A733 ((List.drop 0 (List.take (Int.toNat (mnI ((p2.Have).length : Int) 6)) p2.Have))).length c734), (31, .int .i64 (((List.drop 0 (List.take (Int.toNat (mnI ((p2.Have).length : Int) 6)) p2.Have))).length : Int)), (32, .int .i64 x978)] ∧ St [1, 2, 3] w oi w_ o972 ∧ Ft (Bx bx9 33 [.int .i64 p2.Kind, .int .i64 p2.N, .int .i64 p2.Later, .int .i64 p2.Span_From, .int .i64 p2.Span_To, .slice Ap2_0 (p2.Have).length cp2_0]) w_ o972 85 ∧ Ft (Bx bx14 28 [.int .i64 0, .int .i64 0, .int .i64 0, .slice none 0 0]) w_ o972 86 ∧ Ft (Bx bx4 28 [.int .i64 p1.Most, .int .i64 p1.Every, .int .i64 p1.Due, .slice Ap1_0 (p1.L).length cp1_0]) w_ o972 84 ∧ Ft (RdC ET30 A733 (List.drop 0 (List.take (Int.toNat (mnI ((p2.Have).length : Int) 6)) p2.Have))) w_ o972 0 ∧ Ft (Own ET30 43 (.slice Ap0_0 (p0.want_l).length cp0_0) p0.want_l) w_ o972 2 ∧ Ft (Bx bp0 51 [.int .i64 p0.most, .int .i64 p0.every, .int .i64 p0.due, .pointer (some ⟨bq0_0, 0, none⟩)]) w_ o972 1 ∧ Ft (RdC ET30 Ap1_0 p1.L) w_ o972 4 ∧ Ft (RdC ET30 Ap2_0 p2.Have) w_ o972 0 ∧ Ft (Bx bq0_0 49 [.slice Ap0_0 (p0.want_l).length cp0_0]) w_ o972 3 ∧ Ft (Own ET30 43 (.slice A973 (l975).length c974) l975) w_ o972 87 ∧ (l975).length ≤ c974 ∧ tidewracklaw21_do_l3 K p0 p1 p2 j_ l975 x978 = some r) (k := K) ⟨(fun b_ => (fun l_ => if l_ = 5 then 84 else if l_ = 6 then 85 else if l_ = 7 then 86 else l_) (o12 b_)), none, 0, ([] : List T30), 0, (by exact Kn.pick (ks := [0, 5, 6, 8, 10, 11, 30, 31, 32]) hk rfl), (hs.relabM hob (fun l_ => if l_ = 5 then 84 else if l_ = 6 then 85 else if l_ = 7 then 86 else l_) (by decide)), (f10.relab (fun l_ => if l_ = 5 then 84 else if l_ = 6 then 85 else if l_ = 7 then 86 else l_) rfl), (f15.relab (fun l_ => if l_ = 5 then 84 else if l_ = 6 then 85 else if l_ = 7 then 86 else l_) rfl), (f5.relab (fun l_ => if l_ = 5 then 84 else if l_ = 6 then 85 else if l_ = 7 then 86 else l_) rfl), (f735.relab (fun l_ => if l_ = 5 then 84 else if l_ = 6 then 85 else if l_ = 7 then 86 else l_) rfl), (f900000.relab (fun l_ => if l_ = 5 then 84 else if l_ = 6 then 85 else if l_ = 7 then 86 else l_) rfl), (f900019.relab (fun l_ => if l_ = 5 then 84 else if l_ = 6 then 85 else if l_ = 7 then 86 else l_) rfl), (f900020.relab (fun l_ => if l_ = 5 then 84 else if l_ = 6 then 85 else if l_ = 7 then 86 else l_) rfl), (f900040.relab (fun l_ => if l_ = 5 then 84 else if l_ = 6 then 85 else if l_ = 7 then 86 else l_) rfl), (f910000.relab (fun l_ => if l_ = 5 then 84 else if l_ = 6 then 85 else if l_ = 7 then 86 else l_) rfl), (Ft.of_all (fun _ => Own.nil _ _ _) _ _ _), (by simp), H⟩ (by rintro _ _ ⟨_, _, _, _, _, _, _, _, _, _, _, _, _, _, _, _, _, _, H_⟩; exact absurd (show (none : Option (T27 × Bool × T50)) = some r from H_) (by simp)) ?_
    rintro k1005 a w1004 ⟨o972, A973, c974, l975, x978, hk, hs, f10, f15, f5, f735, f900000, f900019, f900020, f900040, f910000, f976, hc977, H⟩
    rw [tidewracklaw21_do_l3] at H
    obtain ⟨lp1006, hlp1007⟩ : ∃ lp_, lp_ = tidewracklaw21_do_l3 K p0 p1 p2 k1005 := ⟨_, rfl⟩
    rw [← hlp1007] at H
    refine x_seq ?_
    refine wpIn_region_lit ?_
    refine x_run tab hk (k := 1) (lv := []) (ks := [0, 5, 6, 8, 10, 11, 30, 31, 32, 33]) (e' := [(0, .pointer (some ⟨bp0, 0, none⟩)), (5, .pointer (some ⟨bx4, 0, none⟩)), (6, .pointer (some ⟨bx9, 0, none⟩)), (8, .pointer (some ⟨bx14, 0, none⟩)), (10, .slice A973 (l975).length c974), (11, .slice A733 ((List.drop 0 (List.take (Int.toNat (mnI ((p2.Have).length : Int) 6)) p2.Have))).length c734), (30, .slice A733 ((List.drop 0 (List.take (Int.toNat (mnI ((p2.Have).length : Int) 6)) p2.Have))).length c734), (31, .int .i64 (((List.drop 0 (List.take (Int.toNat (mnI ((p2.Have).length : Int) 6)) p2.Have))).length : Int)), (32, .int .i64 x978), (33, .bool (decide (x978 < (((List.drop 0 (List.take (Int.toNat (mnI ((p2.Have).length : Int) 6)) p2.Have))).length : Int))))]) rfl trivial fun a hk => ?_
    refine wpListIn_nil ?_
    refine then_n ?_
    refine x_seq ?_
    cases b1008 : (decide (x978 < (((List.drop 0 (List.take (Int.toNat (mnI ((p2.Have).length : Int) 6)) p2.Have))).length : Int)))
    · rw [b1008] at hk H
      replace H := bifF H
      refine x_if hk (b := false) rfl ?_
      refine (show Code.wpIn _ _ _ _ _ _ _ from ?_)
      refine wpIn_exit ?_
      refine then_x ?_
      refine then_x ?_
      refine blk_x ?_
      refine then_n ?_
      exact ⟨(fun b_ => (fun l_ => if l_ = 84 then 72 else if l_ = 85 then 73 else if l_ = 86 then 74 else if l_ = 87 then 75 else l_) (o972 b_)), A973, c974, l975, (by exact Kn.pick (ks := [0, 5, 6, 8, 10, 11]) hk rfl), (hs.relabM hob (fun l_ => if l_ = 84 then 72 else if l_ = 85 then 73 else if l_ = 86 then 74 else if l_ = 87 then 75 else l_) (by decide)), (f10.relab (fun l_ => if l_ = 84 then 72 else if l_ = 85 then 73 else if l_ = 86 then 74 else if l_ = 87 then 75 else l_) rfl), (f15.relab (fun l_ => if l_ = 84 then 72 else if l_ = 85 then 73 else if l_ = 86 then 74 else if l_ = 87 then 75 else l_) rfl), (f5.relab (fun l_ => if l_ = 84 then 72 else if l_ = 85 then 73 else if l_ = 86 then 74 else if l_ = 87 then 75 else l_) rfl), (f735.relab (fun l_ => if l_ = 84 then 72 else if l_ = 85 then 73 else if l_ = 86 then 74 else if l_ = 87 then 75 else l_) rfl), (f976.relab (fun l_ => if l_ = 84 then 72 else if l_ = 85 then 73 else if l_ = 86 then 74 else if l_ = 87 then 75 else l_) rfl), (f900000.relab (fun l_ => if l_ = 84 then 72 else if l_ = 85 then 73 else if l_ = 86 then 74 else if l_ = 87 then 75 else l_) rfl), (f900019.relab (fun l_ => if l_ = 84 then 72 else if l_ = 85 then 73 else if l_ = 86 then 74 else if l_ = 87 then 75 else l_) rfl), (f900020.relab (fun l_ => if l_ = 84 then 72 else if l_ = 85 then 73 else if l_ = 86 then 74 else if l_ = 87 then 75 else l_) rfl), (f900040.relab (fun l_ => if l_ = 84 then 72 else if l_ = 85 then 73 else if l_ = 86 then 74 else if l_ = 87 then 75 else l_) rfl), (f910000.relab (fun l_ => if l_ = 84 then 72 else if l_ = 85 then 73 else if l_ = 86 then 74 else if l_ = 87 then 75 else l_) rfl), hc977, H⟩
    · rw [b1008] at hk H
      replace H := bifT H
      refine x_if hk (b := true) rfl ?_
      refine (show Code.wpIn _ _ _ _ _ _ _ from ?_)
      refine wpIn_skip ?_
      refine then_n ?_
      refine x_seq ?_
      refine wpIn_block ?_
      refine x_seq ?_
      refine wpIn_region_lit ?_
      obtain ⟨q1009, H⟩ := ifS H
      obtain ⟨ad1010, hAad1010⟩ := RdC.addr f735.now q1009
      have hk_C := hk
      have f10_C := f10
      have f15_C := f15
      have f5_C := f5
      have f735_C := f735
      have f900000_C := f900000
      have f900019_C := f900019
      have f900020_C := f900020
      have f900040_C := f900040
      have f910000_C := f910000
      have f976_C := f976
      subst hAad1010
      have hk := hk_C
      clear hk_C
      have f10 := f10_C
      clear f10_C
      have f15 := f15_C
      clear f15_C
      have f5 := f5_C
      clear f5_C
      have f735 := f735_C
      clear f735_C
      have f900000 := f900000_C
      clear f900000_C
      have f900019 := f900019_C
      clear f900019_C
      have f900020 := f900020_C
      clear f900020_C
      have f900040 := f900040_C
      clear f900040_C
      have f910000 := f910000_C
      clear f910000_C
      have f976 := f976_C
      clear f976_C
      refine x_run tab hk (k := 2) (lv := [.agg #[.int .i64 ((rdD zT30 (List.drop 0 (List.take (Int.toNat (mnI ((p2.Have).length : Int) 6)) p2.Have)) x978).From), .int .i64 ((rdD zT30 (List.drop 0 (List.take (Int.toNat (mnI ((p2.Have).length : Int) 6)) p2.Have)) x978).To)]]) (ks := [0, 5, 6, 8, 10, 11, 30, 31, 32, 35]) (e' := [(0, .pointer (some ⟨bp0, 0, none⟩)), (5, .pointer (some ⟨bx4, 0, none⟩)), (6, .pointer (some ⟨bx9, 0, none⟩)), (8, .pointer (some ⟨bx14, 0, none⟩)), (10, .slice A973 (l975).length c974), (11, .slice (some ad1010) ((List.drop 0 (List.take (Int.toNat (mnI ((p2.Have).length : Int) 6)) p2.Have))).length c734), (30, .slice (some ad1010) ((List.drop 0 (List.take (Int.toNat (mnI ((p2.Have).length : Int) 6)) p2.Have))).length c734), (31, .int .i64 (((List.drop 0 (List.take (Int.toNat (mnI ((p2.Have).length : Int) 6)) p2.Have))).length : Int)), (32, .int .i64 x978), (35, .agg #[.int .i64 ((rdD zT30 (List.drop 0 (List.take (Int.toNat (mnI ((p2.Have).length : Int) 6)) p2.Have)) x978).From), .int .i64 ((rdD zT30 (List.drop 0 (List.take (Int.toNat (mnI ((p2.Have).length : Int) 6)) p2.Have)) x978).To)])]) rfl ⟨q1009, (load_elem (E := ET30) (i := x978) (dx := zT30) tab rfl rfl f735.now q1009), trivial⟩ fun a hk => ?_
      refine x_op hk rfl ?_
      refine op_alloc (o := o972) tab (t := 31) (cs := [.int .i64 0, .int .i64 0]) rfl rfl 90 fun bx1014 w1011 o1012 st1013 f1015 => ?_
      replace f10 := f10.st st1013 (by decide)
      replace f15 := f15.st st1013 (by decide)
      replace f5 := f5.st st1013 (by decide)
      replace f735 := f735.st st1013 (by decide)
      replace f900000 := f900000.st st1013 (by decide)
      replace f900019 := f900019.st st1013 (by decide)
      replace f900020 := f900020.st st1013 (by decide)
      replace f900040 := f900040.st st1013 (by decide)
      replace f910000 := f910000.st st1013 (by decide)
      replace f976 := f976.st st1013 (by decide)
      replace hs := hs.locQ st1013 hob rfl
      have hk := hk.put 13 (.pointer (some ⟨bx1014, 0, none⟩)) rfl
      refine x_op hk rfl ?_
      refine op_store tab hk (t := 31) (v := .agg #[.int .i64 ((rdD zT30 (List.drop 0 (List.take (Int.toNat (mnI ((p2.Have).length : Int) 6)) p2.Have)) x978).From), .int .i64 ((rdD zT30 (List.drop 0 (List.take (Int.toNat (mnI ((p2.Have).length : Int) 6)) p2.Have)) x978).To)]) (b := bx1014) (k := 0) (cs' := [.int .i64 ((rdD zT30 (List.drop 0 (List.take (Int.toNat (mnI ((p2.Have).length : Int) 6)) p2.Have)) x978).From), .int .i64 ((rdD zT30 (List.drop 0 (List.take (Int.toNat (mnI ((p2.Have).length : Int) 6)) p2.Have)) x978).To)]) rfl rfl rfl rfl rfl rfl f1015 rfl rfl fun w1016 o1017 st1018 f1015_ => ?_
      replace f10 := f10.st st1018 (by decide)
      replace f15 := f15.st st1018 (by decide)
      replace f5 := f5.st st1018 (by decide)
      replace f735 := f735.st st1018 (by decide)
      replace f900000 := f900000.st st1018 (by decide)
      replace f900019 := f900019.st st1018 (by decide)
      replace f900020 := f900020.st st1018 (by decide)
      replace f900040 := f900040.st st1018 (by decide)
      replace f910000 := f910000.st st1018 (by decide)
      replace f976 := f976.st st1018 (by decide)
      replace hs := hs.locQ st1018 hob rfl
      replace f1015 := f1015_
      refine wpListIn_nil ?_
      refine then_n ?_
      refine wpIn_region_lit ?_
      refine x_run tab hk (k := 2) (lv := [.agg #[.int .i64 ((rdD zT30 (List.drop 0 (List.take (Int.toNat (mnI ((p2.Have).length : Int) 6)) p2.Have)) x978).From), .int .i64 ((rdD zT30 (List.drop 0 (List.take (Int.toNat (mnI ((p2.Have).length : Int) 6)) p2.Have)) x978).To)]]) (ks := [0, 5, 6, 8, 11, 30, 31, 32, 36, 37]) (e' := [(0, .pointer (some ⟨bp0, 0, none⟩)), (5, .pointer (some ⟨bx4, 0, none⟩)), (6, .pointer (some ⟨bx9, 0, none⟩)), (8, .pointer (some ⟨bx14, 0, none⟩)), (11, .slice (some ad1010) ((List.drop 0 (List.take (Int.toNat (mnI ((p2.Have).length : Int) 6)) p2.Have))).length c734), (30, .slice (some ad1010) ((List.drop 0 (List.take (Int.toNat (mnI ((p2.Have).length : Int) 6)) p2.Have))).length c734), (31, .int .i64 (((List.drop 0 (List.take (Int.toNat (mnI ((p2.Have).length : Int) 6)) p2.Have))).length : Int)), (32, .int .i64 x978), (36, .slice A973 (l975).length c974), (37, .agg #[.int .i64 ((rdD zT30 (List.drop 0 (List.take (Int.toNat (mnI ((p2.Have).length : Int) 6)) p2.Have)) x978).From), .int .i64 ((rdD zT30 (List.drop 0 (List.take (Int.toNat (mnI ((p2.Have).length : Int) 6)) p2.Have)) x978).To)])]) rfl ⟨(load_box tab rfl rfl f1015.now (k := 0) rfl rfl), trivial⟩ fun a hk => ?_
      refine x_op hk rfl ?_
      refine op_slice (o := o1017) tab hk (vs := [.agg #[.int .i64 ((rdD zT30 (List.drop 0 (List.take (Int.toNat (mnI ((p2.Have).length : Int) 6)) p2.Have)) x978).From), .int .i64 ((rdD zT30 (List.drop 0 (List.take (Int.toNat (mnI ((p2.Have).length : Int) 6)) p2.Have)) x978).To)]]) (cs := [.int .i64 ((rdD zT30 (List.drop 0 (List.take (Int.toNat (mnI ((p2.Have).length : Int) 6)) p2.Have)) x978).From), .int .i64 ((rdD zT30 (List.drop 0 (List.take (Int.toNat (mnI ((p2.Have).length : Int) 6)) p2.Have)) x978).To)]) rfl rfl rfl rfl rfl rfl rfl rfl rfl 91 fun bx1022 w1019 o1020 st1021 f1023 => ?_
      replace f10 := f10.st st1021 (by decide)
      replace f15 := f15.st st1021 (by decide)
      replace f5 := f5.st st1021 (by decide)
      replace f735 := f735.st st1021 (by decide)
      replace f900000 := f900000.st st1021 (by decide)
      replace f900019 := f900019.st st1021 (by decide)
      replace f900020 := f900020.st st1021 (by decide)
      replace f900040 := f900040.st st1021 (by decide)
      replace f910000 := f910000.st st1021 (by decide)
      replace f976 := f976.st st1021 (by decide)
      replace hs := hs.locQ st1021 hob rfl
      have f1024 : Ft (Own ET30 43 (.slice (some ⟨bx1022, 0, none⟩) (([(rdD zT30 (List.drop 0 (List.take (Int.toNat (mnI ((p2.Have).length : Int) 6)) p2.Have)) x978)] : List T30)).length 1) ([(rdD zT30 (List.drop 0 (List.take (Int.toNat (mnI ((p2.Have).length : Int) 6)) p2.Have)) x978)] : List T30)) w1019 o1020 91 := f1023.imp fun _ h_ => Own.of_box h_ rfl (by simp)
      have hk := hk.put 38 (.slice (some ⟨bx1022, 0, none⟩) (([(rdD zT30 (List.drop 0 (List.take (Int.toNat (mnI ((p2.Have).length : Int) 6)) p2.Have)) x978)] : List T30)).length 1) rfl
      refine x_op hk rfl ?_
      obtain ⟨q1028, H⟩ := ifS H
      refine op_append (o := o1020) (E := ET30) (xs := l975) (ys := ([(rdD zT30 (List.drop 0 (List.take (Int.toNat (mnI ((p2.Have).length : Int) 6)) p2.Have)) x978)] : List T30)) tab hk rfl rfl rfl rfl rfl rfl rfl f976 (Own.rd f1024.now) q1028 fun A1029 c1030 w1025 o1026 st1027 f1031 hc1032 => ?_
      replace f10 := f10.st st1027 (by decide)
      replace f1024 := f1024.st st1027 (by decide)
      replace f15 := f15.st st1027 (by decide)
      replace f5 := f5.st st1027 (by decide)
      replace f735 := f735.st st1027 (by decide)
      replace f900000 := f900000.st st1027 (by decide)
      replace f900019 := f900019.st st1027 (by decide)
      replace f900020 := f900020.st st1027 (by decide)
      replace f900040 := f900040.st st1027 (by decide)
      replace f910000 := f910000.st st1027 (by decide)
      replace hs := hs.locQ st1027 hob rfl
      have hk := hk.put 39 (.slice A1029 ((l975 ++ ([(rdD zT30 (List.drop 0 (List.take (Int.toNat (mnI ((p2.Have).length : Int) 6)) p2.Have)) x978)] : List T30))).length c1030) rfl
      refine x_run tab hk (k := 1) (lv := []) (ks := [0, 5, 6, 8, 10, 11, 30, 31, 32]) (e' := [(0, .pointer (some ⟨bp0, 0, none⟩)), (5, .pointer (some ⟨bx4, 0, none⟩)), (6, .pointer (some ⟨bx9, 0, none⟩)), (8, .pointer (some ⟨bx14, 0, none⟩)), (10, .slice A1029 ((l975 ++ ([(rdD zT30 (List.drop 0 (List.take (Int.toNat (mnI ((p2.Have).length : Int) 6)) p2.Have)) x978)] : List T30))).length c1030), (11, .slice (some ad1010) ((List.drop 0 (List.take (Int.toNat (mnI ((p2.Have).length : Int) 6)) p2.Have))).length c734), (30, .slice (some ad1010) ((List.drop 0 (List.take (Int.toNat (mnI ((p2.Have).length : Int) 6)) p2.Have))).length c734), (31, .int .i64 (((List.drop 0 (List.take (Int.toNat (mnI ((p2.Have).length : Int) 6)) p2.Have))).length : Int)), (32, .int .i64 x978)]) rfl trivial fun a hk => ?_
      refine wpListIn_nil ?_
      refine blk_n ?_
      refine then_n ?_
      refine wpIn_region_lit ?_
      refine x_run tab hk (k := 2) (lv := []) (ks := [0, 5, 6, 8, 10, 11, 30, 31, 32]) (e' := [(0, .pointer (some ⟨bp0, 0, none⟩)), (5, .pointer (some ⟨bx4, 0, none⟩)), (6, .pointer (some ⟨bx9, 0, none⟩)), (8, .pointer (some ⟨bx14, 0, none⟩)), (10, .slice A1029 ((l975 ++ ([(rdD zT30 (List.drop 0 (List.take (Int.toNat (mnI ((p2.Have).length : Int) 6)) p2.Have)) x978)] : List T30))).length c1030), (11, .slice (some ad1010) ((List.drop 0 (List.take (Int.toNat (mnI ((p2.Have).length : Int) 6)) p2.Have))).length c734), (30, .slice (some ad1010) ((List.drop 0 (List.take (Int.toNat (mnI ((p2.Have).length : Int) 6)) p2.Have))).length c734), (31, .int .i64 (((List.drop 0 (List.take (Int.toNat (mnI ((p2.Have).length : Int) 6)) p2.Have))).length : Int)), (32, .int .i64 (IntKind.wrap .i64 (x978 + 1)))]) rfl trivial fun a hk => ?_
      refine wpListIn_nil ?_
      refine then_n ?_
      exact ⟨k1005, Nat.le_refl _, o1026, A1029, c1030, (l975 ++ ([(rdD zT30 (List.drop 0 (List.take (Int.toNat (mnI ((p2.Have).length : Int) 6)) p2.Have)) x978)] : List T30)), (IntKind.wrap .i64 (x978 + 1)), (by exact Kn.pick (ks := [0, 5, 6, 8, 10, 11, 30, 31, 32]) hk rfl), hs, f10, f15, f5, f735, f900000, f900019, f900020, f900040, f910000, f1031, hc1032, (hlp1007 ▸ H)⟩

/-! (*tidewrack/spans.Set).Spans -/
theorem spans_Set_Spans_calls (bp0 : Nat) (Ap0_0 : Option Addr) (cp0_0 : Nat) (p0 : T48) (w : World) (o : Nat → Nat) (Lp0 : Nat) (hp0 : Ft (Bx bp0 49 [.slice Ap0_0 (p0.l).length cp0_0]) w o Lp0) (Lp0_0 : Nat) (hp0_0 : Ft (RdC ET30 Ap0_0 p0.l) w o Lp0_0) (hcp0_0 : (p0.l).length ≤ cp0_0)  (R0 : Nat) (r : List T30) (H : spans_Set_Spans p0 = some r) :
    Calls Try.prog 21 #[.pointer (some ⟨bp0, 0, none⟩)] w (Ret fun v_ w' => ∃ o' : Nat → Nat, ∃ A0 : Option Addr, ∃ c0 : Nat, v_ = .slice A0 (r).length c0 ∧ St [] w o w' o' ∧ Ft (Own ET30 43 (.slice A0 (r).length c0) r) w' o' R0 ∧ (r).length ≤ c0) := by
  refine x_enter (vs := [.pointer (some ⟨bp0, 0, none⟩)]) Try.func21 rfl rfl rfl fun a hk => ?_
  obtain ⟨o0, hs, h0⟩ := St.start w o
  have f900000 := h0 _ _ hp0_0
  have f900019 := h0 _ _ hp0
  clear h0
  rw [spans_Set_Spans] at H
  refine x_seq ?_
  refine wpIn_region_lit ?_
  refine x_run tab hk (k := 1) (lv := []) (ks := [0]) (e' := [(0, .pointer (some ⟨bp0, 0, none⟩))]) rfl trivial fun a hk => ?_
  refine wpListIn_nil ?_
  refine then_n ?_
  refine x_seq ?_
  refine wpIn_region_lit ?_
  refine x_run tab hk (k := 4) (lv := [.slice Ap0_0 (p0.l).length cp0_0]) (ks := [6]) (e' := [(6, .slice Ap0_0 (p0.l).length cp0_0)]) rfl ⟨(load1 tab rfl ((Bx.cell f900019.now 0).trans rfl)), trivial⟩ fun a hk => ?_
  refine x_op hk rfl ?_
  obtain ⟨t4, hc5, H⟩ := bindS H
  refine op_call hk ent_28 (vs := [.slice Ap0_0 (p0.l).length cp0_0]) rfl (slices_Clone_calls Ap0_0 cp0_0 p0.l _ o0 _ f900000 hcp0_0 1  _ hc5) ?_
  rintro _ w6 ⟨o7, A9, c10, rfl, st8, f11, hc12⟩
  replace f900000 := f900000.st st8 (by decide)
  replace f900019 := f900019.st st8 (by decide)
  replace hs := hs.loc0 st8 (by decide)
  have hk := hk.put 7 (.slice A9 (t4).length c10) rfl
  refine x_run tab hk (k := 1) (lv := []) (ks := [2]) (e' := [(2, .slice A9 (t4).length c10)]) rfl trivial fun a hk => ?_
  refine wpListIn_nil ?_
  refine then_n ?_
  refine wpIn_ret ?_
  obtain rfl := Option.some.inj H
  exact x_retG hk (rs := [.tmp 2]) (vs := [.slice A9 (t4).length c10]) rfl ⟨rfl, trivial⟩ ⟨fun b_ => if b_ < w.heap.size then o b_ else (fun _ => R0) (o7 b_), A9, c10, rfl, hs.close0 o (fun _ => R0), hs.close_ft (o := o) (ρ := fun _ => R0) f11 (by decide) rfl, hc12⟩

/-! (*tidewrack/fetch.Fetch).Wanted -/
theorem fetch_Fetch_Wanted_calls (bp0 : Nat) (bq0_0 : Nat) (Ap0_0 : Option Addr) (cp0_0 : Nat) (p0 : T50) (w : World) (o : Nat → Nat) (Lp0 : Nat) (hp0 : Ft (Bx bp0 51 [.int .i64 p0.most, .int .i64 p0.every, .int .i64 p0.due, .pointer (some ⟨bq0_0, 0, none⟩)]) w o Lp0) (Lp0_0 : Nat) (hp0_0 : Ft (RdC ET30 Ap0_0 p0.want_l) w o Lp0_0) (hcp0_0 : (p0.want_l).length ≤ cp0_0) (Lq0_0 : Nat) (hq0_0 : Ft (Bx bq0_0 49 [.slice Ap0_0 (p0.want_l).length cp0_0]) w o Lq0_0)  (R0 : Nat) (r : List T30) (H : fetch_Fetch_Wanted p0 = some r) :
    Calls Try.prog 10 #[.pointer (some ⟨bp0, 0, none⟩)] w (Ret fun v_ w' => ∃ o' : Nat → Nat, ∃ A0 : Option Addr, ∃ c0 : Nat, v_ = .slice A0 (r).length c0 ∧ St [] w o w' o' ∧ Ft (Own ET30 43 (.slice A0 (r).length c0) r) w' o' R0 ∧ (r).length ≤ c0) := by
  refine x_enter (vs := [.pointer (some ⟨bp0, 0, none⟩)]) Try.func10 rfl rfl rfl fun a hk => ?_
  obtain ⟨o0, hs, h0⟩ := St.start w o
  have f900000 := h0 _ _ hp0_0
  have f900019 := h0 _ _ hp0
  have f910000 := h0 _ _ hq0_0
  clear h0
  rw [fetch_Fetch_Wanted] at H
  refine x_seq ?_
  refine wpIn_region_lit ?_
  refine x_run tab hk (k := 1) (lv := []) (ks := [0]) (e' := [(0, .pointer (some ⟨bp0, 0, none⟩))]) rfl trivial fun a hk => ?_
  refine wpListIn_nil ?_
  refine then_n ?_
  refine x_seq ?_
  refine wpIn_region_lit ?_
  refine x_run tab hk (k := 4) (lv := [.pointer (some ⟨bq0_0, 0, none⟩)]) (ks := [6]) (e' := [(6, .pointer (some ⟨bq0_0, 0, none⟩))]) rfl ⟨(load1 tab rfl ((Bx.cell f900019.now 3).trans rfl)), trivial⟩ fun a hk => ?_
  refine x_op hk rfl ?_
  obtain ⟨t4, hc5, H⟩ := bindS H
  refine op_call hk ent_21 (vs := [.pointer (some ⟨bq0_0, 0, none⟩)]) rfl (spans_Set_Spans_calls bq0_0 Ap0_0 cp0_0 (⟨p0.want_l⟩ : T48) _ o0 0 f910000 _ f900000 hcp0_0 1  _ hc5) ?_
  rintro _ w6 ⟨o7, A9, c10, rfl, st8, f11, hc12⟩
  replace f900000 := f900000.st st8 (by decide)
  replace f900019 := f900019.st st8 (by decide)
  replace f910000 := f910000.st st8 (by decide)
  replace hs := hs.loc0 st8 (by decide)
  have hk := hk.put 7 (.slice A9 (t4).length c10) rfl
  refine x_run tab hk (k := 1) (lv := []) (ks := [2]) (e' := [(2, .slice A9 (t4).length c10)]) rfl trivial fun a hk => ?_
  refine wpListIn_nil ?_
  refine then_n ?_
  refine wpIn_ret ?_
  obtain rfl := Option.some.inj H
  exact x_retG hk (rs := [.tmp 2]) (vs := [.slice A9 (t4).length c10]) rfl ⟨rfl, trivial⟩ ⟨fun b_ => if b_ < w.heap.size then o b_ else (fun _ => R0) (o7 b_), A9, c10, rfl, hs.close0 o (fun _ => R0), hs.close_ft (o := o) (ρ := fun _ => R0) f11 (by decide) rfl, hc12⟩

/-! tidewrack/tidewracklaw21.FetchPlays -/
set_option maxHeartbeats 4000000 in
set_option maxRecDepth 20000 in
theorem tidewracklaw21_FetchPlays_calls (K : Nat) (p0 : Int) (p1 : Int) (Ap2 : Option Addr) (cp2 : Nat) (p2 : List T32) (w : World) (o : Nat → Nat) (LF : Nat) (Lp2 : Nat) (Fp2 : Nat) (hp2 : NRd dT32 Ap2 p2 w o Lp2 Fp2) (hcp2 : (p2).length ≤ cp2) (hd0 : ([LF] : List Nat).Nodup) (hd1 : Lp2 ∉ [LF]) (hd2 : Fp2 ∉ [LF]) (r : Bool) (H : tidewracklaw21_FetchPlays K p0 p1 p2 = some r) :
    Calls Try.prog 3 #[.int .i64 p0, .int .i64 p1, .slice Ap2 (p2).length cp2] w (Ret fun v_ w' => ∃ o' : Nat → Nat, v_ = .bool r ∧ St [] w o w' o') := by
  refine x_enter (vs := [.int .i64 p0, .int .i64 p1, .slice Ap2 (p2).length cp2]) Try.func3 rfl rfl rfl fun a hk => ?_
  obtain ⟨oi, hs0, h0, h1, hob, hoz, hoa⟩ := St.startM2 w o (m := 1) hd0 rfl
  have hs := hs0 []
  have f900040 := hp2.conv (fun P_ => h0 P_ _ hd1) (fun P_ => h0 P_ _ hd2)
  clear h0 h1 hs0
  rw [tidewracklaw21_FetchPlays] at H
  refine x_seq ?_
  refine wpIn_region_lit ?_
  refine x_run tab hk (k := 1) (lv := []) (ks := [0, 1, 2]) (e' := [(0, .int .i64 p0), (1, .int .i64 p1), (2, .slice Ap2 (p2).length cp2)]) rfl trivial fun a hk => ?_
  refine wpListIn_nil ?_
  refine then_n ?_
  refine x_seq ?_
  refine x_seq ?_
  refine wpIn_region_lit ?_
  refine x_op hk rfl ?_
  obtain ⟨t4, hc5, H⟩ := bindS H
  refine op_call hk ent_4 (vs := []) rfl (tidewracklaw21_awake_calls K  _ oi    _ hc5) ?_
  rintro _ w6 ⟨o7, rfl, st8⟩
  replace f900040 := f900040.st st8 (by decide)
  replace hs := hs.locQ st8 hob rfl
  have hk := hk.put 15 (.bool t4) rfl
  refine x_run tab hk (k := 1) (lv := []) (ks := [0, 1, 2, 16]) (e' := [(0, .int .i64 p0), (1, .int .i64 p1), (2, .slice Ap2 (p2).length cp2), (16, .bool (!t4))]) rfl trivial fun a hk => ?_
  refine wpListIn_nil ?_
  refine then_n ?_
  cases b9 : (!t4)
  · rw [b9] at hk H
    replace H := bifF H
    refine x_if hk (b := false) rfl ?_
    refine (show Code.wpIn _ _ _ _ _ _ _ from ?_)
    refine wpIn_skip ?_
    refine then_n ?_
    refine x_seq ?_
    refine wpIn_region_lit ?_
    refine x_run tab hk (k := 2) (lv := []) (ks := [0, 1, 2, 17, 18]) (e' := [(0, .int .i64 p0), (1, .int .i64 p1), (2, .slice Ap2 (p2).length cp2), (17, .int .i64 p0), (18, .int .i64 p1)]) rfl trivial fun a hk => ?_
    refine x_op hk rfl ?_
    obtain ⟨t13, hc14, H⟩ := bindS H
    refine op_call hk ent_5 (vs := [.int .i64 p0, .int .i64 p1]) rfl (fetch_New_calls p0 p1 _ o7  2 3 4  _ hc14) ?_
    rintro _ w15 ⟨o16, bx18, bx20, A22, c23, rfl, st17, f19, f21, f24, hc25⟩
    replace f900040 := f900040.st st17 (by decide)
    replace hs := hs.locQ st17 hob rfl
    have hk := hk.put 19 (.pointer (some ⟨bx18, 0, none⟩)) rfl
    refine x_run tab hk (k := 2) (lv := []) (ks := [2, 19, 20, 21]) (e' := [(2, .slice Ap2 (p2).length cp2), (19, .pointer (some ⟨bx18, 0, none⟩)), (20, .int .i64 p0), (21, .int .i64 p1)]) rfl trivial fun a hk => ?_
    refine x_op hk rfl ?_
    obtain ⟨t29, hc30, H⟩ := bindS H
    refine op_call hk ent_6 (vs := [.int .i64 p0, .int .i64 p1]) rfl (tidewrackref21_New_calls p0 p1 _ o16  5  _ hc30) ?_
    rintro _ w31 ⟨o32, A34, c35, rfl, st33, f36, hc37⟩
    replace f19 := f19.st st33 (by decide)
    replace f21 := f21.st st33 (by decide)
    replace f24 := f24.st st33 (by decide)
    replace f900040 := f900040.st st33 (by decide)
    replace hs := hs.locQ st33 hob rfl
    have hk := hk.put 22 (.agg #[.int .i64 t29.Most, .int .i64 t29.Every, .int .i64 t29.Due, .slice A34 (t29.L).length c35]) rfl
    refine x_op hk rfl ?_
    refine op_alloc (o := o32) tab (t := 28) (cs := [.int .i64 0, .int .i64 0, .int .i64 0, .slice none 0 0]) rfl rfl 6 fun bx41 w38 o39 st40 f42 => ?_
    replace f19 := f19.st st40 (by decide)
    replace f21 := f21.st st40 (by decide)
    replace f24 := f24.st st40 (by decide)
    replace f36 := f36.st st40 (by decide)
    replace f900040 := f900040.st st40 (by decide)
    replace hs := hs.locQ st40 hob rfl
    have hk := hk.put 8 (.pointer (some ⟨bx41, 0, none⟩)) rfl
    refine x_run tab hk (k := 1) (lv := []) (ks := [2, 7, 8, 22]) (e' := [(2, .slice Ap2 (p2).length cp2), (7, .pointer (some ⟨bx18, 0, none⟩)), (8, .pointer (some ⟨bx41, 0, none⟩)), (22, .agg #[.int .i64 t29.Most, .int .i64 t29.Every, .int .i64 t29.Due, .slice A34 (t29.L).length c35])]) rfl trivial fun a hk => ?_
    refine x_op hk rfl ?_
    refine op_store tab hk (t := 28) (v := .agg #[.int .i64 t29.Most, .int .i64 t29.Every, .int .i64 t29.Due, .slice A34 (t29.L).length c35]) (b := bx41) (k := 0) (cs' := [.int .i64 t29.Most, .int .i64 t29.Every, .int .i64 t29.Due, .slice A34 (t29.L).length c35]) rfl rfl rfl rfl rfl rfl f42 rfl rfl fun w43 o44 st45 f42_ => ?_
    replace f19 := f19.st st45 (by decide)
    replace f21 := f21.st st45 (by decide)
    replace f24 := f24.st st45 (by decide)
    replace f36 := f36.st st45 (by decide)
    replace f900040 := f900040.st st45 (by decide)
    replace hs := hs.locQ st45 hob rfl
    replace f42 := f42_
    refine wpListIn_nil ?_
    refine then_n ?_
    refine x_seq ?_
    refine x_seq ?_
    refine wpIn_region_lit ?_
    refine x_run tab hk (k := 2) (lv := []) (ks := [2, 7, 8, 24]) (e' := [(2, .slice Ap2 (p2).length cp2), (7, .pointer (some ⟨bx18, 0, none⟩)), (8, .pointer (some ⟨bx41, 0, none⟩)), (24, .bool false)]) rfl trivial fun a hk => ?_
    refine wpListIn_nil ?_
    refine then_n ?_
    refine x_if hk (b := false) rfl ?_
    refine (show Code.wpIn _ _ _ _ _ _ _ from ?_)
    refine wpIn_skip ?_
    refine then_n ?_
    refine x_seq ?_
    refine wpIn_region_lit ?_
    refine x_run tab hk (k := 2) (lv := []) (ks := [2, 7, 8, 9]) (e' := [(2, .slice Ap2 (p2).length cp2), (7, .pointer (some ⟨bx18, 0, none⟩)), (8, .pointer (some ⟨bx41, 0, none⟩)), (9, .int .i64 0)]) rfl trivial fun a hk => ?_
    refine wpListIn_nil ?_
    refine then_n ?_
    refine x_mid (fun a_ w_ => ∃ o2510 : Nat → Nat, Kn 88 a_ [] ∧ St [] w oi w_ o2510 ∧ tidewracklaw21_FetchPlays_j1 = some r) ?_ ?_
    rotate_left
    · rintro a w2511 ⟨o2510, hk, hs, H⟩
      rw [tidewracklaw21_FetchPlays_j1] at H
      refine x_seq ?_
      refine wpIn_region_lit ?_
      refine x_run tab hk (k := 1) (lv := []) (ks := [6]) (e' := [(6, .bool true)]) rfl trivial fun a hk => ?_
      refine wpListIn_nil ?_
      refine then_n ?_
      refine wpIn_ret ?_
      obtain rfl := Option.some.inj H
      exact x_retG hk (rs := [.tmp 6]) (vs := [.bool true]) rfl ⟨rfl, trivial⟩ ⟨cl w oi o [] (fun l_ => if l_ = 1 then LF else 0) o2510, rfl, hs.closeF (Lm := []) (Sh := []) hoa rfl (fun l_ => if l_ = 1 then LF else 0)⟩
    refine x_seq ?_
    refine wpIn_region_lit ?_
    refine x_run tab hk (k := 1) (lv := []) (ks := [2, 7, 8, 9, 11]) (e' := [(2, .slice Ap2 (p2).length cp2), (7, .pointer (some ⟨bx18, 0, none⟩)), (8, .pointer (some ⟨bx41, 0, none⟩)), (9, .int .i64 0), (11, .int .i64 0)]) rfl trivial fun a hk => ?_
    refine wpListIn_nil ?_
    refine then_n ?_
    refine wpIn_block ?_
    refine x_loop (fun j_ a_ w_ => ∃ o3326 : Nat → Nat, ∃ x3327 : Int, ∃ x3328 : Int, ∃ x3329 : Int, ∃ bx3330 : Nat, ∃ A3332 : Option Addr, ∃ c3333 : Nat, ∃ l3334 : List T30, ∃ x3337 : Int, ∃ x3338 : Int, ∃ x3339 : Int, ∃ A3340 : Option Addr, ∃ c3341 : Nat, ∃ l3342 : List T30, ∃ x3345 : Int, ∃ x3346 : Int, Kn 88 a_ [(2, .slice Ap2 (p2).length cp2), (7, .pointer (some ⟨bx18, 0, none⟩)), (8, .pointer (some ⟨bx41, 0, none⟩)), (9, .int .i64 x3345), (11, .int .i64 x3346)] ∧ St [] w oi w_ o3326 ∧ Ft (Bx bx18 51 [.int .i64 x3327, .int .i64 x3328, .int .i64 x3329, .pointer (some ⟨bx3330, 0, none⟩)]) w_ o3326 336 ∧ Ft (Bx bx3330 49 [.slice A3332 (l3334).length c3333]) w_ o3326 335 ∧ Ft (Own ET30 43 (.slice A3332 (l3334).length c3333) l3334) w_ o3326 334 ∧ Ft (RdC ET30 A3340 l3342) w_ o3326 337 ∧ Ft (Bx bx41 28 [.int .i64 x3337, .int .i64 x3338, .int .i64 x3339, .slice A3340 (l3342).length c3341]) w_ o3326 338 ∧ NRd dT32 Ap2 p2 w_ o3326 0 0 ∧ (l3334).length ≤ c3333 ∧ (l3342).length ≤ c3341 ∧ tidewracklaw21_FetchPlays_l2 K p2 j_ x3327 x3328 x3329 l3334 x3337 x3338 x3339 l3342 x3345 x3346 = some r) (k := K) ⟨(fun b_ => (fun l_ => if l_ = 2 then 336 else if l_ = 3 then 335 else if l_ = 4 then 334 else if l_ = 5 then 337 else if l_ = 6 then 338 else l_) (o44 b_)), t13.most, t13.every, t13.due, bx20, A22, c23, t13.want_l, t29.Most, t29.Every, t29.Due, A34, c35, t29.L, 0, 0, (by exact Kn.pick (ks := [2, 7, 8, 9, 11]) hk rfl), (hs.relabM hob (fun l_ => if l_ = 2 then 336 else if l_ = 3 then 335 else if l_ = 4 then 334 else if l_ = 5 then 337 else if l_ = 6 then 338 else l_) (by decide)), (f19.relab (fun l_ => if l_ = 2 then 336 else if l_ = 3 then 335 else if l_ = 4 then 334 else if l_ = 5 then 337 else if l_ = 6 then 338 else l_) rfl), (f21.relab (fun l_ => if l_ = 2 then 336 else if l_ = 3 then 335 else if l_ = 4 then 334 else if l_ = 5 then 337 else if l_ = 6 then 338 else l_) rfl), (f24.relab (fun l_ => if l_ = 2 then 336 else if l_ = 3 then 335 else if l_ = 4 then 334 else if l_ = 5 then 337 else if l_ = 6 then 338 else l_) rfl), ((f36.imp fun _ h_ => Own.rd h_).relab (fun l_ => if l_ = 2 then 336 else if l_ = 3 then 335 else if l_ = 4 then 334 else if l_ = 5 then 337 else if l_ = 6 then 338 else l_) rfl), (f42.relab (fun l_ => if l_ = 2 then 336 else if l_ = 3 then 335 else if l_ = 4 then 334 else if l_ = 5 then 337 else if l_ = 6 then 338 else l_) rfl), (f900040.relab (fun l_ => if l_ = 2 then 336 else if l_ = 3 then 335 else if l_ = 4 then 334 else if l_ = 5 then 337 else if l_ = 6 then 338 else l_) rfl), hc25, hc37, H⟩ (by rintro _ _ ⟨_, _, _, _, _, _, _, _, _, _, _, _, _, _, _, _, _, _, _, _, _, _, _, _, _, _, H_⟩; exact absurd (show (none : Option Bool) = some r from H_) (by simp)) ?_
    rintro k4159 a w4158 ⟨o3326, x3327, x3328, x3329, bx3330, A3332, c3333, l3334, x3337, x3338, x3339, A3340, c3341, l3342, x3345, x3346, hk, hs, f19, f3331, f3335, f3343, f42, f900040, hc3336, hc3344, H⟩
    rw [tidewracklaw21_FetchPlays_l2] at H
    obtain ⟨lp4160, hlp4161⟩ : ∃ lp_, lp_ = tidewracklaw21_FetchPlays_l2 K p2 k4159 := ⟨_, rfl⟩
    rw [← hlp4161] at H
    refine x_mid (fun a_ w_ => ∃ o4167 : Nat → Nat, Kn 88 a_ [(2, .slice Ap2 (p2).length cp2), (7, .pointer (some ⟨bx18, 0, none⟩)), (8, .pointer (some ⟨bx41, 0, none⟩)), (9, .int .i64 x3345), (11, .int .i64 x3346)] ∧ St [] w oi w_ o4167 ∧ Ft (Bx bx18 51 [.int .i64 x3327, .int .i64 x3328, .int .i64 x3329, .pointer (some ⟨bx3330, 0, none⟩)]) w_ o4167 419 ∧ Ft (Bx bx3330 49 [.slice A3332 (l3334).length c3333]) w_ o4167 418 ∧ Ft (Own ET30 43 (.slice A3332 (l3334).length c3333) l3334) w_ o4167 417 ∧ Ft (RdC ET30 A3340 l3342) w_ o4167 420 ∧ Ft (Bx bx41 28 [.int .i64 x3337, .int .i64 x3338, .int .i64 x3339, .slice A3340 (l3342).length c3341]) w_ o4167 421 ∧ NRd dT32 Ap2 p2 w_ o4167 0 0 ∧ tidewracklaw21_FetchPlays_j3 K p2 x3327 x3328 x3329 l3334 x3337 x3338 x3339 l3342 x3345 x3346 lp4160 = some r) ?_ ?_
    rotate_left
    · rintro a w4168 ⟨o4167, hk, hs, f19, f3331, f3335, f3343, f42, f900040, H⟩
      rw [tidewracklaw21_FetchPlays_j3] at H
      refine x_seq ?_
      refine wpIn_block ?_
      refine x_seq ?_
      refine wpIn_region_lit ?_
      obtain ⟨q4169, H⟩ := ifS H
      obtain ⟨ad4170, hAad4170⟩ := NRd.addr f900040 q4169
      have hk_C := hk
      have f19_C := f19
      have f3331_C := f3331
      have f3335_C := f3335
      have f3343_C := f3343
      have f42_C := f42
      have f900040_C := f900040
      subst hAad4170
      have hk := hk_C
      clear hk_C
      have f19 := f19_C
      clear f19_C
      have f3331 := f3331_C
      clear f3331_C
      have f3335 := f3335_C
      clear f3335_C
      have f3343 := f3343_C
      clear f3343_C
      have f42 := f42_C
      clear f42_C
      have f900040 := f900040_C
      clear f900040_C
      obtain ⟨A4171, c4172, f4173, f4174, hc4175⟩ := elT32 f900040 (i := x3346) q4169
      refine x_run tab hk (k := 9) (lv := [.int .i64 ((rdD zT32 p2 x3346).Later)]) (ks := [2, 7, 8, 9, 11]) (e' := [(2, .slice (some ad4170) (p2).length cp2), (7, .pointer (some ⟨bx18, 0, none⟩)), (8, .pointer (some ⟨bx41, 0, none⟩)), (9, .int .i64 (IntKind.wrap .i64 (x3345 + (bits .and .i64 ((rdD zT32 p2 x3346).Later) 255)))), (11, .int .i64 x3346)]) rfl ⟨q4169, (CellsAt.one f4173.now tab rfl 2 rfl), trivial⟩ fun a hk => ?_
      refine wpListIn_nil ?_
      refine then_n ?_
      refine x_seq ?_
      refine wpIn_region_lit ?_
      refine x_run tab hk (k := 1) (lv := []) (ks := [2, 7, 8, 9, 11, 43]) (e' := [(2, .slice (some ad4170) (p2).length cp2), (7, .pointer (some ⟨bx18, 0, none⟩)), (8, .pointer (some ⟨bx41, 0, none⟩)), (9, .int .i64 (IntKind.wrap .i64 (x3345 + (bits .and .i64 ((rdD zT32 p2 x3346).Later) 255)))), (11, .int .i64 x3346), (43, .pointer (some ⟨bx18, 0, none⟩))]) rfl trivial fun a hk => ?_
      refine x_op hk rfl ?_
      obtain ⟨t4179, hc4180, H⟩ := bindS H
      refine op_call hk ent_7 (vs := [.pointer (some ⟨bx18, 0, none⟩)]) rfl (fetch_Fetch_Clone_calls bx18 bx3330 A3332 c3333 (⟨x3327, x3328, x3329, l3334⟩ : T50) _ o4167 419 f19 _ (f3335.imp fun _ h_ => Own.rd h_) hc3336 418 f3331 422 423 424  _ hc4180) ?_
      rintro _ w4181 ⟨o4182, bx4184, bx4186, A4188, c4189, rfl, st4183, f4185, f4187, f4190, hc4191⟩
      replace f19 := f19.st st4183 (by decide)
      replace f3331 := f3331.st st4183 (by decide)
      replace f3335 := f3335.st st4183 (by decide)
      replace f3343 := f3343.st st4183 (by decide)
      replace f42 := f42.st st4183 (by decide)
      replace f900040 := f900040.st st4183 (by decide)
      replace hs := hs.locQ st4183 hob rfl
      have hk := hk.put 44 (.pointer (some ⟨bx4184, 0, none⟩)) rfl
      refine x_run tab hk (k := 1) (lv := []) (ks := [2, 7, 8, 9, 11, 12]) (e' := [(2, .slice (some ad4170) (p2).length cp2), (7, .pointer (some ⟨bx18, 0, none⟩)), (8, .pointer (some ⟨bx41, 0, none⟩)), (9, .int .i64 (IntKind.wrap .i64 (x3345 + (bits .and .i64 ((rdD zT32 p2 x3346).Later) 255)))), (11, .int .i64 x3346), (12, .pointer (some ⟨bx4184, 0, none⟩))]) rfl trivial fun a hk => ?_
      refine wpListIn_nil ?_
      refine then_n ?_
      refine x_seq ?_
      refine x_cut (fun a_ w_ => ∃ o4456 : Nat → Nat, ∃ x4457 : Int, ∃ x4458 : Int, ∃ x4459 : Int, ∃ bx4460 : Nat, ∃ A4462 : Option Addr, ∃ c4463 : Nat, ∃ l4464 : List T30, ∃ bx4467 : Nat, ∃ x4469 : Int, ∃ x4470 : Int, ∃ x4471 : Int, ∃ A4472 : Option Addr, ∃ c4473 : Nat, ∃ l4474 : List T30, ∃ x4477 : Bool, Kn 88 a_ [(2, .slice (some ad4170) (p2).length cp2), (7, .pointer (some ⟨bx18, 0, none⟩)), (8, .pointer (some ⟨bx41, 0, none⟩)), (9, .int .i64 (IntKind.wrap .i64 (x3345 + (bits .and .i64 ((rdD zT32 p2 x3346).Later) 255)))), (11, .int .i64 x3346), (12, .pointer (some ⟨bx4184, 0, none⟩)), (13, .pointer (some ⟨bx4467, 0, none⟩)), (14, .bool x4477)] ∧ St [] w oi w_ o4456 ∧ Ft (RdC ET30 A3340 l3342) w_ o4456 452 ∧ Ft (Bx bx4184 51 [.int .i64 t4179.most, .int .i64 t4179.every, .int .i64 t4179.due, .pointer (some ⟨bx4186, 0, none⟩)]) w_ o4456 456 ∧ Ft (Bx bx4186 49 [.slice A4188 (t4179.want_l).length c4189]) w_ o4456 455 ∧ Ft (Own ET30 43 (.slice A4188 (t4179.want_l).length c4189) t4179.want_l) w_ o4456 454 ∧ Ft (Bx bx41 28 [.int .i64 x3337, .int .i64 x3338, .int .i64 x3339, .slice A3340 (l3342).length c3341]) w_ o4456 453 ∧ Ft (Bx bx18 51 [.int .i64 x4457, .int .i64 x4458, .int .i64 x4459, .pointer (some ⟨bx4460, 0, none⟩)]) w_ o4456 451 ∧ Ft (Bx bx4460 49 [.slice A4462 (l4464).length c4463]) w_ o4456 450 ∧ Ft (Own ET30 43 (.slice A4462 (l4464).length c4463) l4464) w_ o4456 449 ∧ Ft (Bx bx4467 28 [.int .i64 x4469, .int .i64 x4470, .int .i64 x4471, .slice A4472 (l4474).length c4473]) w_ o4456 457 ∧ Ft (RdC ET30 A4472 l4474) w_ o4456 452 ∧ NRd dT32 (some ad4170) p2 w_ o4456 0 0 ∧ (l4464).length ≤ c4463 ∧ (l4474).length ≤ c4473 ∧ tidewracklaw21_FetchPlays_j4 K p2 x3337 l3342 x3345 x3346 lp4160 t4179 x4457 x4458 x4459 l4464 x4469 x4470 x4471 l4474 x4477 = some r) ?_ ?_
      rotate_left
      · rintro a w4478 ⟨o4456, x4457, x4458, x4459, bx4460, A4462, c4463, l4464, bx4467, x4469, x4470, x4471, A4472, c4473, l4474, x4477, hk, hs, f3343, f4185, f4187, f4190, f42, f4350, f4461, f4465, f4468, f4475, f900040, hc4466, hc4476, H⟩
        rw [tidewracklaw21_FetchPlays_j4] at H
        refine then_n ?_
        refine x_seq ?_
        refine x_seq ?_
        refine wpIn_region_lit ?_
        refine x_run tab hk (k := 2) (lv := []) (ks := [2, 7, 8, 9, 10, 11, 12, 13]) (e' := [(2, .slice (some ad4170) (p2).length cp2), (7, .pointer (some ⟨bx18, 0, none⟩)), (8, .pointer (some ⟨bx41, 0, none⟩)), (9, .int .i64 (IntKind.wrap .i64 (x3345 + (bits .and .i64 ((rdD zT32 p2 x3346).Later) 255)))), (10, .bool x4477), (11, .int .i64 x3346), (12, .pointer (some ⟨bx4184, 0, none⟩)), (13, .pointer (some ⟨bx4467, 0, none⟩))]) rfl trivial fun a hk => ?_
        refine wpListIn_nil ?_
        refine then_n ?_
        refine x_seq ?_
        cases b4530 : (!x4477)
        · rw [b4530] at H
          replace H := bifF H
          obtain ⟨t4534, hc4535, H⟩ := bindS H
          obtain ⟨t4546, hc4547, H⟩ := bindS H
          cases b4551 : (!t4546)
          · rw [b4551] at H
            replace H := bifF H
            obtain ⟨t4555, hc4556, H⟩ := bindS H
            obtain ⟨t4567, hc4568, H⟩ := bindS H
            cases b4572 : (!t4567)
            · rw [b4572] at H
              replace H := bifF H
              obtain ⟨t4576, hc4577, H⟩ := bindS H
              refine xd_begin (o := o4456) (fun W_ => (Bx bx41 28 [.int .i64 x3337, .int .i64 x3338, .int .i64 x3339, .slice A3340 (l3342).length c3341]) W_ ∧ (Bx bx4467 28 [.int .i64 x4469, .int .i64 x4470, .int .i64 x4471, .slice A4472 (l4474).length c4473]) W_ ∧ True) mixed rfl rfl fun w4619 st4620 => ?_
              replace f3343 := f3343.st st4620 (by decide)
              replace f4185 := f4185.st st4620 (by decide)
              replace f4187 := f4187.st st4620 (by decide)
              replace f4190 := f4190.st st4620 (by decide)
              replace f42 := f42.st st4620 (by decide)
              replace f4350 := f4350.st st4620 (by decide)
              replace f4461 := f4461.st st4620 (by decide)
              replace f4465 := f4465.st st4620 (by decide)
              replace f4468 := f4468.st st4620 (by decide)
              replace f4475 := f4475.st st4620 (by decide)
              replace f900040 := f900040.st st4620 (by decide)
              replace hs := hs.locQ st4620 hob rfl
              refine xd_take tab hk (k := 27) (is := [0, 1, 2]) (ls' := #[true, true, true, false, false, false, false, false, false, false, false, false, false, false, false, false, false, false, false, false, false, false, false, false, false, false, false, false, false, false]) (lv := []) (ks := [2, 7, 8, 9, 11, 12, 13, 59]) (e' := [(2, .slice (some ad4170) (p2).length cp2), (7, .pointer (some ⟨bx18, 0, none⟩)), (8, .pointer (some ⟨bx41, 0, none⟩)), (9, .int .i64 (IntKind.wrap .i64 (x3345 + (bits .and .i64 ((rdD zT32 p2 x3346).Later) 255)))), (11, .int .i64 x3346), (12, .pointer (some ⟨bx4184, 0, none⟩)), (13, .pointer (some ⟨bx4467, 0, none⟩)), (59, .bool (!x4477))]) (by kernel_rfl) rfl rfl (by kernel_rfl) (np_then (np_then (np_blk (np_then (np_then (np_blk (np_then np_body))))))) ⟨f42.now, f4468.now, trivial⟩ (fun W_ hS => trivial) fun a hk => ?_
              rw [b4530] at hk
              refine xd_take tab hk (k := 20) (is := [3, 4, 5, 6, 7, 9, 10]) (ls' := #[true, true, true, true, true, true, true, true, false, true, true, false, false, false, false, false, false, false, false, false, false, false, false, false, false, false, false, false, false, false]) (lv := [.slice A3340 (l3342).length c3341]) (ks := [2, 7, 8, 9, 11, 13, 63, 64, 67]) (e' := [(2, .slice (some ad4170) (p2).length cp2), (7, .pointer (some ⟨bx18, 0, none⟩)), (8, .pointer (some ⟨bx41, 0, none⟩)), (9, .int .i64 (IntKind.wrap .i64 (x3345 + (bits .and .i64 ((rdD zT32 p2 x3346).Later) 255)))), (11, .int .i64 x3346), (13, .pointer (some ⟨bx4467, 0, none⟩)), (63, .bool false), (64, .pointer (some ⟨bx4184, 0, none⟩)), (67, .slice A3340 (l3342).length c3341)]) (by kernel_rfl) rfl rfl (by kernel_rfl) (np_then (np_then (np_blk (np_then (np_then (np_blk (np_then np_body))))))) ⟨f42.now, f4468.now, trivial⟩ (fun W_ hS => ⟨(load1 tab rfl ((Bx.cell hS.1 3).trans rfl)), trivial⟩) fun a hk => ?_
              refine xd_op hk (i := 8) (by kernel_rfl) rfl rfl ?_
              refine op_call hk ent_10 (vs := [.pointer (some ⟨bx4184, 0, none⟩)]) rfl (fetch_Fetch_Wanted_calls bx4184 bx4186 A4188 c4189 t4179 _ o4456 456 f4185 _ (f4190.imp fun _ h_ => Own.rd h_) hc4191 455 f4187 464  _ hc4535) ?_
              rintro _ w4624 ⟨o4625, A4627, c4628, rfl, st4626, f4629, hc4630⟩
              replace f3343 := f3343.st st4626 (by decide)
              replace f4185 := f4185.st st4626 (by decide)
              replace f4187 := f4187.st st4626 (by decide)
              replace f4190 := f4190.st st4626 (by decide)
              replace f42 := f42.st st4626 (by decide)
              replace f4350 := f4350.st st4626 (by decide)
              replace f4461 := f4461.st st4626 (by decide)
              replace f4465 := f4465.st st4626 (by decide)
              replace f4468 := f4468.st st4626 (by decide)
              replace f4475 := f4475.st st4626 (by decide)
              replace f900040 := f900040.st st4626 (by decide)
              replace hs := hs.locQ st4626 hob rfl
              have hk := hk.put 65 (.slice A4627 (t4534).length c4628) rfl
              refine ⟨.inr ⟨f42.now, f4468.now, trivial⟩, ?_⟩
              refine xd_op hk (i := 11) (by kernel_rfl) rfl rfl ?_
              refine op_call hk ent_9 (vs := [.slice A4627 (t4534).length c4628, .slice A3340 (l3342).length c3341]) rfl (tidewracklaw13_Same_calls K A4627 c4628 t4534 A3340 c3341 l3342 _ o4625 _ (f4629.imp fun _ h_ => Own.rd h_) hc4630 _ f3343 hc3344   _ hc4547) ?_
              rintro _ w4634 ⟨o4635, rfl, st4636⟩
              replace f3343 := f3343.st st4636 (by decide)
              replace f4185 := f4185.st st4636 (by decide)
              replace f4187 := f4187.st st4636 (by decide)
              replace f4190 := f4190.st st4636 (by decide)
              replace f42 := f42.st st4636 (by decide)
              replace f4350 := f4350.st st4636 (by decide)
              replace f4461 := f4461.st st4636 (by decide)
              replace f4465 := f4465.st st4636 (by decide)
              replace f4468 := f4468.st st4636 (by decide)
              replace f4475 := f4475.st st4636 (by decide)
              replace f4629 := f4629.st st4636 (by decide)
              replace f900040 := f900040.st st4636 (by decide)
              replace hs := hs.locQ st4636 hob rfl
              have hk := hk.put 68 (.bool t4546) rfl
              refine ⟨.inr ⟨f42.now, f4468.now, trivial⟩, ?_⟩
              refine xd_take tab hk (k := 15) (is := [12, 13, 14]) (ls' := #[true, true, true, true, true, true, true, true, true, true, true, true, true, true, true, false, false, false, false, false, false, false, false, false, false, false, false, false, false, false]) (lv := []) (ks := [2, 7, 8, 9, 11, 13, 71]) (e' := [(2, .slice (some ad4170) (p2).length cp2), (7, .pointer (some ⟨bx18, 0, none⟩)), (8, .pointer (some ⟨bx41, 0, none⟩)), (9, .int .i64 (IntKind.wrap .i64 (x3345 + (bits .and .i64 ((rdD zT32 p2 x3346).Later) 255)))), (11, .int .i64 x3346), (13, .pointer (some ⟨bx4467, 0, none⟩)), (71, .bool (!t4546))]) (by kernel_rfl) rfl rfl (by kernel_rfl) (np_then (np_then (np_blk (np_then (np_then (np_blk (np_then np_body))))))) ⟨f42.now, f4468.now, trivial⟩ (fun W_ hS => trivial) fun a hk => ?_
              rw [b4551] at hk
              refine xd_take tab hk (k := 12) (is := [15, 17, 18]) (ls' := #[true, true, true, true, true, true, true, true, true, true, true, true, true, true, true, true, false, true, true, false, false, false, false, false, false, false, false, false, false, false]) (lv := [.slice A4472 (l4474).length c4473]) (ks := [2, 7, 8, 9, 11, 13, 71, 72, 75]) (e' := [(2, .slice (some ad4170) (p2).length cp2), (7, .pointer (some ⟨bx18, 0, none⟩)), (8, .pointer (some ⟨bx41, 0, none⟩)), (9, .int .i64 (IntKind.wrap .i64 (x3345 + (bits .and .i64 ((rdD zT32 p2 x3346).Later) 255)))), (11, .int .i64 x3346), (13, .pointer (some ⟨bx4467, 0, none⟩)), (71, .bool false), (72, .pointer (some ⟨bx18, 0, none⟩)), (75, .slice A4472 (l4474).length c4473)]) (by kernel_rfl) rfl rfl (by kernel_rfl) (np_then (np_then (np_blk (np_then (np_then (np_blk (np_then np_body))))))) ⟨f42.now, f4468.now, trivial⟩ (fun W_ hS => ⟨(load1 tab rfl ((Bx.cell hS.2.1 3).trans rfl)), trivial⟩) fun a hk => ?_
              refine xd_op hk (i := 16) (by kernel_rfl) rfl rfl ?_
              refine op_call hk ent_10 (vs := [.pointer (some ⟨bx18, 0, none⟩)]) rfl (fetch_Fetch_Wanted_calls bx18 bx4460 A4462 c4463 (⟨x4457, x4458, x4459, l4464⟩ : T50) _ o4635 451 f4350 _ (f4465.imp fun _ h_ => Own.rd h_) hc4466 450 f4461 465  _ hc4556) ?_
              rintro _ w4640 ⟨o4641, A4643, c4644, rfl, st4642, f4645, hc4646⟩
              replace f3343 := f3343.st st4642 (by decide)
              replace f4185 := f4185.st st4642 (by decide)
              replace f4187 := f4187.st st4642 (by decide)
              replace f4190 := f4190.st st4642 (by decide)
              replace f42 := f42.st st4642 (by decide)
              replace f4350 := f4350.st st4642 (by decide)
              replace f4461 := f4461.st st4642 (by decide)
              replace f4465 := f4465.st st4642 (by decide)
              replace f4468 := f4468.st st4642 (by decide)
              replace f4475 := f4475.st st4642 (by decide)
              replace f4629 := f4629.st st4642 (by decide)
              replace f900040 := f900040.st st4642 (by decide)
              replace hs := hs.locQ st4642 hob rfl
              have hk := hk.put 73 (.slice A4643 (t4555).length c4644) rfl
              refine ⟨.inr ⟨f42.now, f4468.now, trivial⟩, ?_⟩
              refine xd_op hk (i := 19) (by kernel_rfl) rfl rfl ?_
              refine op_call hk ent_9 (vs := [.slice A4643 (t4555).length c4644, .slice A4472 (l4474).length c4473]) rfl (tidewracklaw13_Same_calls K A4643 c4644 t4555 A4472 c4473 l4474 _ o4641 _ (f4645.imp fun _ h_ => Own.rd h_) hc4646 _ f4475 hc4476   _ hc4568) ?_
              rintro _ w4650 ⟨o4651, rfl, st4652⟩
              replace f3343 := f3343.st st4652 (by decide)
              replace f4185 := f4185.st st4652 (by decide)
              replace f4187 := f4187.st st4652 (by decide)
              replace f4190 := f4190.st st4652 (by decide)
              replace f42 := f42.st st4652 (by decide)
              replace f4350 := f4350.st st4652 (by decide)
              replace f4461 := f4461.st st4652 (by decide)
              replace f4465 := f4465.st st4652 (by decide)
              replace f4468 := f4468.st st4652 (by decide)
              replace f4475 := f4475.st st4652 (by decide)
              replace f4629 := f4629.st st4652 (by decide)
              replace f4645 := f4645.st st4652 (by decide)
              replace f900040 := f900040.st st4652 (by decide)
              replace hs := hs.locQ st4652 hob rfl
              have hk := hk.put 76 (.bool t4567) rfl
              refine ⟨.inr ⟨f42.now, f4468.now, trivial⟩, ?_⟩
              refine xd_take tab hk (k := 7) (is := [20, 21, 22]) (ls' := #[true, true, true, true, true, true, true, true, true, true, true, true, true, true, true, true, true, true, true, true, true, true, true, false, false, false, false, false, false, false]) (lv := []) (ks := [2, 7, 8, 9, 11, 13, 79]) (e' := [(2, .slice (some ad4170) (p2).length cp2), (7, .pointer (some ⟨bx18, 0, none⟩)), (8, .pointer (some ⟨bx41, 0, none⟩)), (9, .int .i64 (IntKind.wrap .i64 (x3345 + (bits .and .i64 ((rdD zT32 p2 x3346).Later) 255)))), (11, .int .i64 x3346), (13, .pointer (some ⟨bx4467, 0, none⟩)), (79, .bool (!t4567))]) (by kernel_rfl) rfl rfl (by kernel_rfl) (np_then (np_then (np_blk (np_then (np_then (np_blk (np_then np_body))))))) ⟨f42.now, f4468.now, trivial⟩ (fun W_ hS => trivial) fun a hk => ?_
              rw [b4572] at hk
              refine xd_take tab hk (k := 3) (is := [23, 24, 26, 27]) (ls' := #[true, true, true, true, true, true, true, true, true, true, true, true, true, true, true, true, true, true, true, true, true, true, true, true, true, false, true, true, false, false]) (lv := [.slice A4472 (l4474).length c4473, .int .i64 x3337]) (ks := [2, 7, 8, 9, 11, 13, 79, 81, 84]) (e' := [(2, .slice (some ad4170) (p2).length cp2), (7, .pointer (some ⟨bx18, 0, none⟩)), (8, .pointer (some ⟨bx41, 0, none⟩)), (9, .int .i64 (IntKind.wrap .i64 (x3345 + (bits .and .i64 ((rdD zT32 p2 x3346).Later) 255)))), (11, .int .i64 x3346), (13, .pointer (some ⟨bx4467, 0, none⟩)), (79, .bool false), (81, .slice A4472 (l4474).length c4473), (84, .int .i64 x3337)]) (by kernel_rfl) rfl rfl (by kernel_rfl) (np_then (np_then (np_blk (np_then (np_then (np_blk (np_then np_body))))))) ⟨f42.now, f4468.now, trivial⟩ (fun W_ hS => ⟨(load1 tab rfl ((Bx.cell hS.2.1 3).trans rfl)), (load1 tab rfl ((Bx.cell hS.1 0).trans rfl)), trivial⟩) fun a hk => ?_
              refine xd_op hk (i := 25) (by kernel_rfl) rfl rfl ?_
              refine op_call hk ent_11 (vs := [.slice A4472 (l4474).length c4473]) rfl (tidewrackref21_Count_calls K A4472 c4473 l4474 _ o4651 _ f4475 hc4476   _ hc4577) ?_
              rintro _ w4656 ⟨o4657, rfl, st4658⟩
              replace f3343 := f3343.st st4658 (by decide)
              replace f4185 := f4185.st st4658 (by decide)
              replace f4187 := f4187.st st4658 (by decide)
              replace f4190 := f4190.st st4658 (by decide)
              replace f42 := f42.st st4658 (by decide)
              replace f4350 := f4350.st st4658 (by decide)
              replace f4461 := f4461.st st4658 (by decide)
              replace f4465 := f4465.st st4658 (by decide)
              replace f4468 := f4468.st st4658 (by decide)
              replace f4475 := f4475.st st4658 (by decide)
              replace f4629 := f4629.st st4658 (by decide)
              replace f4645 := f4645.st st4658 (by decide)
              replace f900040 := f900040.st st4658 (by decide)
              replace hs := hs.locQ st4658 hob rfl
              have hk := hk.put 82 (.int .i64 t4576) rfl
              refine ⟨.inr ⟨f42.now, f4468.now, trivial⟩, ?_⟩
              refine xd_take tab hk (k := 0) (is := [28, 29]) (ls' := #[true, true, true, true, true, true, true, true, true, true, true, true, true, true, true, true, true, true, true, true, true, true, true, true, true, true, true, true, true, true]) (lv := []) (ks := [2, 7, 8, 9, 11, 13, 86]) (e' := [(2, .slice (some ad4170) (p2).length cp2), (7, .pointer (some ⟨bx18, 0, none⟩)), (8, .pointer (some ⟨bx41, 0, none⟩)), (9, .int .i64 (IntKind.wrap .i64 (x3345 + (bits .and .i64 ((rdD zT32 p2 x3346).Later) 255)))), (11, .int .i64 x3346), (13, .pointer (some ⟨bx4467, 0, none⟩)), (86, .bool (decide (t4576 > x3337)))]) (by kernel_rfl) rfl rfl (by kernel_rfl) (np_then (np_then (np_blk (np_then (np_then (np_blk (np_then np_body))))))) ⟨f42.now, f4468.now, trivial⟩ (fun W_ hS => trivial) fun a hk => ?_
              refine xd_done (by kernel_rfl) ?_
              refine then_n ?_
              cases b4659 : (decide (t4576 > x3337))
              · rw [b4659] at hk H
                replace H := bifF H
                refine x_if hk (b := false) rfl ?_
                refine (show Code.wpIn _ _ _ _ _ _ _ from ?_)
                refine wpIn_skip ?_
                refine then_n ?_
                refine wpIn_region_lit ?_
                refine x_run tab hk (k := 1) (lv := [.agg #[.int .i64 x4469, .int .i64 x4470, .int .i64 x4471, .slice A4472 (l4474).length c4473]]) (ks := [2, 7, 8, 9, 11, 87]) (e' := [(2, .slice (some ad4170) (p2).length cp2), (7, .pointer (some ⟨bx18, 0, none⟩)), (8, .pointer (some ⟨bx41, 0, none⟩)), (9, .int .i64 (IntKind.wrap .i64 (x3345 + (bits .and .i64 ((rdD zT32 p2 x3346).Later) 255)))), (11, .int .i64 x3346), (87, .agg #[.int .i64 x4469, .int .i64 x4470, .int .i64 x4471, .slice A4472 (l4474).length c4473])]) rfl ⟨(load_box tab rfl rfl f4468.now (k := 0) rfl rfl), trivial⟩ fun a hk => ?_
                refine x_op hk rfl ?_
                refine op_store tab hk (t := 28) (v := .agg #[.int .i64 x4469, .int .i64 x4470, .int .i64 x4471, .slice A4472 (l4474).length c4473]) (b := bx41) (k := 0) (cs' := [.int .i64 x4469, .int .i64 x4470, .int .i64 x4471, .slice A4472 (l4474).length c4473]) rfl rfl rfl rfl rfl rfl f42 rfl rfl fun w4660 o4661 st4662 f42_ => ?_
                replace f3343 := f3343.st st4662 (by decide)
                replace f4350 := f4350.st st4662 (by decide)
                replace f4461 := f4461.st st4662 (by decide)
                replace f4465 := f4465.st st4662 (by decide)
                replace f4475 := f4475.st st4662 (by decide)
                replace f900040 := f900040.st st4662 (by decide)
                replace hs := hs.locQ st4662 hob rfl
                replace f42 := f42_
                refine wpListIn_nil ?_
                refine blk_n ?_
                refine then_n ?_
                refine wpIn_region_lit ?_
                refine x_run tab hk (k := 3) (lv := []) (ks := [2, 7, 8, 9, 11]) (e' := [(2, .slice (some ad4170) (p2).length cp2), (7, .pointer (some ⟨bx18, 0, none⟩)), (8, .pointer (some ⟨bx41, 0, none⟩)), (9, .int .i64 (IntKind.wrap .i64 (x3345 + (bits .and .i64 ((rdD zT32 p2 x3346).Later) 255)))), (11, .int .i64 (IntKind.wrap .i64 (x3346 + 1)))]) rfl trivial fun a hk => ?_
                refine wpListIn_nil ?_
                refine then_n ?_
                exact ⟨k4159, Nat.le_refl _, (fun b_ => (fun l_ => if l_ = 449 then 334 else if l_ = 450 then 335 else if l_ = 451 then 336 else if l_ = 452 then 337 else if l_ = 453 then 338 else l_) (o4661 b_)), x4457, x4458, x4459, bx4460, A4462, c4463, l4464, x4469, x4470, x4471, A4472, c4473, l4474, (IntKind.wrap .i64 (x3345 + (bits .and .i64 ((rdD zT32 p2 x3346).Later) 255))), (IntKind.wrap .i64 (x3346 + 1)), (by exact Kn.pick (ks := [2, 7, 8, 9, 11]) hk rfl), (hs.relabM hob (fun l_ => if l_ = 449 then 334 else if l_ = 450 then 335 else if l_ = 451 then 336 else if l_ = 452 then 337 else if l_ = 453 then 338 else l_) (by decide)), (f4350.relab (fun l_ => if l_ = 449 then 334 else if l_ = 450 then 335 else if l_ = 451 then 336 else if l_ = 452 then 337 else if l_ = 453 then 338 else l_) rfl), (f4461.relab (fun l_ => if l_ = 449 then 334 else if l_ = 450 then 335 else if l_ = 451 then 336 else if l_ = 452 then 337 else if l_ = 453 then 338 else l_) rfl), (f4465.relab (fun l_ => if l_ = 449 then 334 else if l_ = 450 then 335 else if l_ = 451 then 336 else if l_ = 452 then 337 else if l_ = 453 then 338 else l_) rfl), (f4475.relab (fun l_ => if l_ = 449 then 334 else if l_ = 450 then 335 else if l_ = 451 then 336 else if l_ = 452 then 337 else if l_ = 453 then 338 else l_) rfl), (f42.relab (fun l_ => if l_ = 449 then 334 else if l_ = 450 then 335 else if l_ = 451 then 336 else if l_ = 452 then 337 else if l_ = 453 then 338 else l_) rfl), (f900040.relab (fun l_ => if l_ = 449 then 334 else if l_ = 450 then 335 else if l_ = 451 then 336 else if l_ = 452 then 337 else if l_ = 453 then 338 else l_) rfl), hc4466, hc4476, (hlp4161 ▸ H)⟩
              · rw [b4659] at hk H
                replace H := bifT H
                refine x_if hk (b := true) rfl ?_
                refine (show Code.wpIn _ _ _ _ _ _ _ from ?_)
                refine x_seq ?_
                refine wpIn_region_lit ?_
                refine x_run tab hk (k := 1) (lv := []) (ks := [6]) (e' := [(6, .bool false)]) rfl trivial fun a hk => ?_
                refine wpListIn_nil ?_
                refine then_n ?_
                refine wpIn_ret ?_
                refine then_r ?_
                refine blk_r ?_
                refine then_r ?_
                refine then_r ?_
                refine blk_r ?_
                refine then_r ?_
                obtain rfl := Option.some.inj H
                exact x_retG hk (rs := [.tmp 6]) (vs := [.bool false]) rfl ⟨rfl, trivial⟩ ⟨cl w oi o [] (fun l_ => if l_ = 1 then LF else 0) o4657, rfl, hs.closeF (Lm := []) (Sh := []) hoa rfl (fun l_ => if l_ = 1 then LF else 0)⟩
            · rw [b4572] at H
              replace H := bifT H
              refine xd_begin (o := o4456) (fun W_ => (Bx bx41 28 [.int .i64 x3337, .int .i64 x3338, .int .i64 x3339, .slice A3340 (l3342).length c3341]) W_ ∧ (Bx bx4467 28 [.int .i64 x4469, .int .i64 x4470, .int .i64 x4471, .slice A4472 (l4474).length c4473]) W_ ∧ True) mixed rfl rfl fun w4695 st4696 => ?_
              replace f3343 := f3343.st st4696 (by decide)
              replace f4185 := f4185.st st4696 (by decide)
              replace f4187 := f4187.st st4696 (by decide)
              replace f4190 := f4190.st st4696 (by decide)
              replace f42 := f42.st st4696 (by decide)
              replace f4350 := f4350.st st4696 (by decide)
              replace f4461 := f4461.st st4696 (by decide)
              replace f4465 := f4465.st st4696 (by decide)
              replace f4468 := f4468.st st4696 (by decide)
              replace f4475 := f4475.st st4696 (by decide)
              replace f900040 := f900040.st st4696 (by decide)
              replace hs := hs.locQ st4696 hob rfl
              refine xd_take tab hk (k := 27) (is := [0, 1, 2]) (ls' := #[true, true, true, false, false, false, false, false, false, false, false, false, false, false, false, false, false, false, false, false, false, false, false, false, false, false, false, false, false, false]) (lv := []) (ks := [2, 7, 8, 9, 11, 12, 13, 59]) (e' := [(2, .slice (some ad4170) (p2).length cp2), (7, .pointer (some ⟨bx18, 0, none⟩)), (8, .pointer (some ⟨bx41, 0, none⟩)), (9, .int .i64 (IntKind.wrap .i64 (x3345 + (bits .and .i64 ((rdD zT32 p2 x3346).Later) 255)))), (11, .int .i64 x3346), (12, .pointer (some ⟨bx4184, 0, none⟩)), (13, .pointer (some ⟨bx4467, 0, none⟩)), (59, .bool (!x4477))]) (by kernel_rfl) rfl rfl (by kernel_rfl) (np_then (np_then (np_blk (np_then (np_then (np_blk (np_then np_body))))))) ⟨f42.now, f4468.now, trivial⟩ (fun W_ hS => trivial) fun a hk => ?_
              rw [b4530] at hk
              refine xd_take tab hk (k := 20) (is := [3, 4, 5, 6, 7, 9, 10]) (ls' := #[true, true, true, true, true, true, true, true, false, true, true, false, false, false, false, false, false, false, false, false, false, false, false, false, false, false, false, false, false, false]) (lv := [.slice A3340 (l3342).length c3341]) (ks := [2, 7, 8, 9, 11, 13, 63, 64, 67]) (e' := [(2, .slice (some ad4170) (p2).length cp2), (7, .pointer (some ⟨bx18, 0, none⟩)), (8, .pointer (some ⟨bx41, 0, none⟩)), (9, .int .i64 (IntKind.wrap .i64 (x3345 + (bits .and .i64 ((rdD zT32 p2 x3346).Later) 255)))), (11, .int .i64 x3346), (13, .pointer (some ⟨bx4467, 0, none⟩)), (63, .bool false), (64, .pointer (some ⟨bx4184, 0, none⟩)), (67, .slice A3340 (l3342).length c3341)]) (by kernel_rfl) rfl rfl (by kernel_rfl) (np_then (np_then (np_blk (np_then (np_then (np_blk (np_then np_body))))))) ⟨f42.now, f4468.now, trivial⟩ (fun W_ hS => ⟨(load1 tab rfl ((Bx.cell hS.1 3).trans rfl)), trivial⟩) fun a hk => ?_
              refine xd_op hk (i := 8) (by kernel_rfl) rfl rfl ?_
              refine op_call hk ent_10 (vs := [.pointer (some ⟨bx4184, 0, none⟩)]) rfl (fetch_Fetch_Wanted_calls bx4184 bx4186 A4188 c4189 t4179 _ o4456 456 f4185 _ (f4190.imp fun _ h_ => Own.rd h_) hc4191 455 f4187 468  _ hc4535) ?_
              rintro _ w4700 ⟨o4701, A4703, c4704, rfl, st4702, f4705, hc4706⟩
              replace f3343 := f3343.st st4702 (by decide)
              replace f4185 := f4185.st st4702 (by decide)
              replace f4187 := f4187.st st4702 (by decide)
              replace f4190 := f4190.st st4702 (by decide)
              replace f42 := f42.st st4702 (by decide)
              replace f4350 := f4350.st st4702 (by decide)
              replace f4461 := f4461.st st4702 (by decide)
              replace f4465 := f4465.st st4702 (by decide)
              replace f4468 := f4468.st st4702 (by decide)
              replace f4475 := f4475.st st4702 (by decide)
              replace f900040 := f900040.st st4702 (by decide)
              replace hs := hs.locQ st4702 hob rfl
              have hk := hk.put 65 (.slice A4703 (t4534).length c4704) rfl
              refine ⟨.inr ⟨f42.now, f4468.now, trivial⟩, ?_⟩
              refine xd_op hk (i := 11) (by kernel_rfl) rfl rfl ?_
              refine op_call hk ent_9 (vs := [.slice A4703 (t4534).length c4704, .slice A3340 (l3342).length c3341]) rfl (tidewracklaw13_Same_calls K A4703 c4704 t4534 A3340 c3341 l3342 _ o4701 _ (f4705.imp fun _ h_ => Own.rd h_) hc4706 _ f3343 hc3344   _ hc4547) ?_
              rintro _ w4710 ⟨o4711, rfl, st4712⟩
              replace f3343 := f3343.st st4712 (by decide)
              replace f4185 := f4185.st st4712 (by decide)
              replace f4187 := f4187.st st4712 (by decide)
              replace f4190 := f4190.st st4712 (by decide)
              replace f42 := f42.st st4712 (by decide)
              replace f4350 := f4350.st st4712 (by decide)
              replace f4461 := f4461.st st4712 (by decide)
              replace f4465 := f4465.st st4712 (by decide)
              replace f4468 := f4468.st st4712 (by decide)
              replace f4475 := f4475.st st4712 (by decide)
              replace f4705 := f4705.st st4712 (by decide)
              replace f900040 := f900040.st st4712 (by decide)
              replace hs := hs.locQ st4712 hob rfl
              have hk := hk.put 68 (.bool t4546) rfl
              refine ⟨.inr ⟨f42.now, f4468.now, trivial⟩, ?_⟩
              refine xd_take tab hk (k := 15) (is := [12, 13, 14]) (ls' := #[true, true, true, true, true, true, true, true, true, true, true, true, true, true, true, false, false, false, false, false, false, false, false, false, false, false, false, false, false, false]) (lv := []) (ks := [2, 7, 8, 9, 11, 13, 71]) (e' := [(2, .slice (some ad4170) (p2).length cp2), (7, .pointer (some ⟨bx18, 0, none⟩)), (8, .pointer (some ⟨bx41, 0, none⟩)), (9, .int .i64 (IntKind.wrap .i64 (x3345 + (bits .and .i64 ((rdD zT32 p2 x3346).Later) 255)))), (11, .int .i64 x3346), (13, .pointer (some ⟨bx4467, 0, none⟩)), (71, .bool (!t4546))]) (by kernel_rfl) rfl rfl (by kernel_rfl) (np_then (np_then (np_blk (np_then (np_then (np_blk (np_then np_body))))))) ⟨f42.now, f4468.now, trivial⟩ (fun W_ hS => trivial) fun a hk => ?_
              rw [b4551] at hk
              refine xd_take tab hk (k := 12) (is := [15, 17, 18]) (ls' := #[true, true, true, true, true, true, true, true, true, true, true, true, true, true, true, true, false, true, true, false, false, false, false, false, false, false, false, false, false, false]) (lv := [.slice A4472 (l4474).length c4473]) (ks := [2, 7, 8, 9, 11, 13, 71, 72, 75]) (e' := [(2, .slice (some ad4170) (p2).length cp2), (7, .pointer (some ⟨bx18, 0, none⟩)), (8, .pointer (some ⟨bx41, 0, none⟩)), (9, .int .i64 (IntKind.wrap .i64 (x3345 + (bits .and .i64 ((rdD zT32 p2 x3346).Later) 255)))), (11, .int .i64 x3346), (13, .pointer (some ⟨bx4467, 0, none⟩)), (71, .bool false), (72, .pointer (some ⟨bx18, 0, none⟩)), (75, .slice A4472 (l4474).length c4473)]) (by kernel_rfl) rfl rfl (by kernel_rfl) (np_then (np_then (np_blk (np_then (np_then (np_blk (np_then np_body))))))) ⟨f42.now, f4468.now, trivial⟩ (fun W_ hS => ⟨(load1 tab rfl ((Bx.cell hS.2.1 3).trans rfl)), trivial⟩) fun a hk => ?_
              refine xd_op hk (i := 16) (by kernel_rfl) rfl rfl ?_
              refine op_call hk ent_10 (vs := [.pointer (some ⟨bx18, 0, none⟩)]) rfl (fetch_Fetch_Wanted_calls bx18 bx4460 A4462 c4463 (⟨x4457, x4458, x4459, l4464⟩ : T50) _ o4711 451 f4350 _ (f4465.imp fun _ h_ => Own.rd h_) hc4466 450 f4461 469  _ hc4556) ?_
              rintro _ w4716 ⟨o4717, A4719, c4720, rfl, st4718, f4721, hc4722⟩
              replace f3343 := f3343.st st4718 (by decide)
              replace f4185 := f4185.st st4718 (by decide)
              replace f4187 := f4187.st st4718 (by decide)
              replace f4190 := f4190.st st4718 (by decide)
              replace f42 := f42.st st4718 (by decide)
              replace f4350 := f4350.st st4718 (by decide)
              replace f4461 := f4461.st st4718 (by decide)
              replace f4465 := f4465.st st4718 (by decide)
              replace f4468 := f4468.st st4718 (by decide)
              replace f4475 := f4475.st st4718 (by decide)
              replace f4705 := f4705.st st4718 (by decide)
              replace f900040 := f900040.st st4718 (by decide)
              replace hs := hs.locQ st4718 hob rfl
              have hk := hk.put 73 (.slice A4719 (t4555).length c4720) rfl
              refine ⟨.inr ⟨f42.now, f4468.now, trivial⟩, ?_⟩
              refine xd_op hk (i := 19) (by kernel_rfl) rfl rfl ?_
              refine op_call hk ent_9 (vs := [.slice A4719 (t4555).length c4720, .slice A4472 (l4474).length c4473]) rfl (tidewracklaw13_Same_calls K A4719 c4720 t4555 A4472 c4473 l4474 _ o4717 _ (f4721.imp fun _ h_ => Own.rd h_) hc4722 _ f4475 hc4476   _ hc4568) ?_
              rintro _ w4726 ⟨o4727, rfl, st4728⟩
              replace f3343 := f3343.st st4728 (by decide)
              replace f4185 := f4185.st st4728 (by decide)
              replace f4187 := f4187.st st4728 (by decide)
              replace f4190 := f4190.st st4728 (by decide)
              replace f42 := f42.st st4728 (by decide)
              replace f4350 := f4350.st st4728 (by decide)
              replace f4461 := f4461.st st4728 (by decide)
              replace f4465 := f4465.st st4728 (by decide)
              replace f4468 := f4468.st st4728 (by decide)
              replace f4475 := f4475.st st4728 (by decide)
              replace f4705 := f4705.st st4728 (by decide)
              replace f4721 := f4721.st st4728 (by decide)
              replace f900040 := f900040.st st4728 (by decide)
              replace hs := hs.locQ st4728 hob rfl
              have hk := hk.put 76 (.bool t4567) rfl
              refine ⟨.inr ⟨f42.now, f4468.now, trivial⟩, ?_⟩
              refine xd_take tab hk (k := 7) (is := [20, 21, 22]) (ls' := #[true, true, true, true, true, true, true, true, true, true, true, true, true, true, true, true, true, true, true, true, true, true, true, false, false, false, false, false, false, false]) (lv := []) (ks := [2, 7, 8, 9, 11, 13, 79]) (e' := [(2, .slice (some ad4170) (p2).length cp2), (7, .pointer (some ⟨bx18, 0, none⟩)), (8, .pointer (some ⟨bx41, 0, none⟩)), (9, .int .i64 (IntKind.wrap .i64 (x3345 + (bits .and .i64 ((rdD zT32 p2 x3346).Later) 255)))), (11, .int .i64 x3346), (13, .pointer (some ⟨bx4467, 0, none⟩)), (79, .bool (!t4567))]) (by kernel_rfl) rfl rfl (by kernel_rfl) (np_then (np_then (np_blk (np_then (np_then (np_blk (np_then np_body))))))) ⟨f42.now, f4468.now, trivial⟩ (fun W_ hS => trivial) fun a hk => ?_
              rw [b4572] at hk
              refine xd_take tab hk (k := 0) (is := [23, 24, 25, 26, 27, 28, 29]) (ls' := #[true, true, true, true, true, true, true, true, true, true, true, true, true, true, true, true, true, true, true, true, true, true, true, true, true, true, true, true, true, true]) (lv := []) (ks := [2, 7, 8, 9, 11, 13, 86]) (e' := [(2, .slice (some ad4170) (p2).length cp2), (7, .pointer (some ⟨bx18, 0, none⟩)), (8, .pointer (some ⟨bx41, 0, none⟩)), (9, .int .i64 (IntKind.wrap .i64 (x3345 + (bits .and .i64 ((rdD zT32 p2 x3346).Later) 255)))), (11, .int .i64 x3346), (13, .pointer (some ⟨bx4467, 0, none⟩)), (86, .bool true)]) (by kernel_rfl) rfl rfl (by kernel_rfl) (np_then (np_then (np_blk (np_then (np_then (np_blk (np_then np_body))))))) ⟨f42.now, f4468.now, trivial⟩ (fun W_ hS => trivial) fun a hk => ?_
              refine xd_done (by kernel_rfl) ?_
              refine then_n ?_
              refine x_if hk (b := true) rfl ?_
              refine (show Code.wpIn _ _ _ _ _ _ _ from ?_)
              refine x_seq ?_
              refine wpIn_region_lit ?_
              refine x_run tab hk (k := 1) (lv := []) (ks := [6]) (e' := [(6, .bool false)]) rfl trivial fun a hk => ?_
              refine wpListIn_nil ?_
              refine then_n ?_
              refine wpIn_ret ?_
              refine then_r ?_
              refine blk_r ?_
              refine then_r ?_
              refine then_r ?_
              refine blk_r ?_
              refine then_r ?_
              obtain rfl := Option.some.inj H
              exact x_retG hk (rs := [.tmp 6]) (vs := [.bool false]) rfl ⟨rfl, trivial⟩ ⟨cl w oi o [] (fun l_ => if l_ = 1 then LF else 0) o4727, rfl, hs.closeF (Lm := []) (Sh := []) hoa rfl (fun l_ => if l_ = 1 then LF else 0)⟩
          · rw [b4551] at H
            replace H := bifT H
            refine xd_begin (o := o4456) (fun W_ => (Bx bx41 28 [.int .i64 x3337, .int .i64 x3338, .int .i64 x3339, .slice A3340 (l3342).length c3341]) W_ ∧ True) mixed rfl rfl fun w4745 st4746 => ?_
            replace f3343 := f3343.st st4746 (by decide)
            replace f4185 := f4185.st st4746 (by decide)
            replace f4187 := f4187.st st4746 (by decide)
            replace f4190 := f4190.st st4746 (by decide)
            replace f42 := f42.st st4746 (by decide)
            replace f4350 := f4350.st st4746 (by decide)
            replace f4461 := f4461.st st4746 (by decide)
            replace f4465 := f4465.st st4746 (by decide)
            replace f4468 := f4468.st st4746 (by decide)
            replace f4475 := f4475.st st4746 (by decide)
            replace f900040 := f900040.st st4746 (by decide)
            replace hs := hs.locQ st4746 hob rfl
            refine xd_take tab hk (k := 27) (is := [0, 1, 2]) (ls' := #[true, true, true, false, false, false, false, false, false, false, false, false, false, false, false, false, false, false, false, false, false, false, false, false, false, false, false, false, false, false]) (lv := []) (ks := [2, 7, 8, 9, 11, 12, 13, 59]) (e' := [(2, .slice (some ad4170) (p2).length cp2), (7, .pointer (some ⟨bx18, 0, none⟩)), (8, .pointer (some ⟨bx41, 0, none⟩)), (9, .int .i64 (IntKind.wrap .i64 (x3345 + (bits .and .i64 ((rdD zT32 p2 x3346).Later) 255)))), (11, .int .i64 x3346), (12, .pointer (some ⟨bx4184, 0, none⟩)), (13, .pointer (some ⟨bx4467, 0, none⟩)), (59, .bool (!x4477))]) (by kernel_rfl) rfl rfl (by kernel_rfl) (np_then (np_then (np_blk (np_then (np_then (np_blk (np_then np_body))))))) ⟨f42.now, trivial⟩ (fun W_ hS => trivial) fun a hk => ?_
            rw [b4530] at hk
            refine xd_take tab hk (k := 20) (is := [3, 4, 5, 6, 7, 9, 10]) (ls' := #[true, true, true, true, true, true, true, true, false, true, true, false, false, false, false, false, false, false, false, false, false, false, false, false, false, false, false, false, false, false]) (lv := [.slice A3340 (l3342).length c3341]) (ks := [2, 7, 8, 9, 11, 13, 63, 64, 67]) (e' := [(2, .slice (some ad4170) (p2).length cp2), (7, .pointer (some ⟨bx18, 0, none⟩)), (8, .pointer (some ⟨bx41, 0, none⟩)), (9, .int .i64 (IntKind.wrap .i64 (x3345 + (bits .and .i64 ((rdD zT32 p2 x3346).Later) 255)))), (11, .int .i64 x3346), (13, .pointer (some ⟨bx4467, 0, none⟩)), (63, .bool false), (64, .pointer (some ⟨bx4184, 0, none⟩)), (67, .slice A3340 (l3342).length c3341)]) (by kernel_rfl) rfl rfl (by kernel_rfl) (np_then (np_then (np_blk (np_then (np_then (np_blk (np_then np_body))))))) ⟨f42.now, trivial⟩ (fun W_ hS => ⟨(load1 tab rfl ((Bx.cell hS.1 3).trans rfl)), trivial⟩) fun a hk => ?_
            refine xd_op hk (i := 8) (by kernel_rfl) rfl rfl ?_
            refine op_call hk ent_10 (vs := [.pointer (some ⟨bx4184, 0, none⟩)]) rfl (fetch_Fetch_Wanted_calls bx4184 bx4186 A4188 c4189 t4179 _ o4456 456 f4185 _ (f4190.imp fun _ h_ => Own.rd h_) hc4191 455 f4187 471  _ hc4535) ?_
            rintro _ w4750 ⟨o4751, A4753, c4754, rfl, st4752, f4755, hc4756⟩
            replace f3343 := f3343.st st4752 (by decide)
            replace f4185 := f4185.st st4752 (by decide)
            replace f4187 := f4187.st st4752 (by decide)
            replace f4190 := f4190.st st4752 (by decide)
            replace f42 := f42.st st4752 (by decide)
            replace f4350 := f4350.st st4752 (by decide)
            replace f4461 := f4461.st st4752 (by decide)
            replace f4465 := f4465.st st4752 (by decide)
            replace f4468 := f4468.st st4752 (by decide)
            replace f4475 := f4475.st st4752 (by decide)
            replace f900040 := f900040.st st4752 (by decide)
            replace hs := hs.locQ st4752 hob rfl
            have hk := hk.put 65 (.slice A4753 (t4534).length c4754) rfl
            refine ⟨.inr ⟨f42.now, trivial⟩, ?_⟩
            refine xd_op hk (i := 11) (by kernel_rfl) rfl rfl ?_
            refine op_call hk ent_9 (vs := [.slice A4753 (t4534).length c4754, .slice A3340 (l3342).length c3341]) rfl (tidewracklaw13_Same_calls K A4753 c4754 t4534 A3340 c3341 l3342 _ o4751 _ (f4755.imp fun _ h_ => Own.rd h_) hc4756 _ f3343 hc3344   _ hc4547) ?_
            rintro _ w4760 ⟨o4761, rfl, st4762⟩
            replace f3343 := f3343.st st4762 (by decide)
            replace f4185 := f4185.st st4762 (by decide)
            replace f4187 := f4187.st st4762 (by decide)
            replace f4190 := f4190.st st4762 (by decide)
            replace f42 := f42.st st4762 (by decide)
            replace f4350 := f4350.st st4762 (by decide)
            replace f4461 := f4461.st st4762 (by decide)
            replace f4465 := f4465.st st4762 (by decide)
            replace f4468 := f4468.st st4762 (by decide)
            replace f4475 := f4475.st st4762 (by decide)
            replace f4755 := f4755.st st4762 (by decide)
            replace f900040 := f900040.st st4762 (by decide)
            replace hs := hs.locQ st4762 hob rfl
            have hk := hk.put 68 (.bool t4546) rfl
            refine ⟨.inr ⟨f42.now, trivial⟩, ?_⟩
            refine xd_take tab hk (k := 15) (is := [12, 13, 14]) (ls' := #[true, true, true, true, true, true, true, true, true, true, true, true, true, true, true, false, false, false, false, false, false, false, false, false, false, false, false, false, false, false]) (lv := []) (ks := [2, 7, 8, 9, 11, 13, 71]) (e' := [(2, .slice (some ad4170) (p2).length cp2), (7, .pointer (some ⟨bx18, 0, none⟩)), (8, .pointer (some ⟨bx41, 0, none⟩)), (9, .int .i64 (IntKind.wrap .i64 (x3345 + (bits .and .i64 ((rdD zT32 p2 x3346).Later) 255)))), (11, .int .i64 x3346), (13, .pointer (some ⟨bx4467, 0, none⟩)), (71, .bool (!t4546))]) (by kernel_rfl) rfl rfl (by kernel_rfl) (np_then (np_then (np_blk (np_then (np_then (np_blk (np_then np_body))))))) ⟨f42.now, trivial⟩ (fun W_ hS => trivial) fun a hk => ?_
            rw [b4551] at hk
            refine xd_take tab hk (k := 0) (is := [15, 16, 17, 18, 19, 20, 21, 22, 23, 24, 25, 26, 27, 28, 29]) (ls' := #[true, true, true, true, true, true, true, true, true, true, true, true, true, true, true, true, true, true, true, true, true, true, true, true, true, true, true, true, true, true]) (lv := []) (ks := [2, 7, 8, 9, 11, 13, 86]) (e' := [(2, .slice (some ad4170) (p2).length cp2), (7, .pointer (some ⟨bx18, 0, none⟩)), (8, .pointer (some ⟨bx41, 0, none⟩)), (9, .int .i64 (IntKind.wrap .i64 (x3345 + (bits .and .i64 ((rdD zT32 p2 x3346).Later) 255)))), (11, .int .i64 x3346), (13, .pointer (some ⟨bx4467, 0, none⟩)), (86, .bool true)]) (by kernel_rfl) rfl rfl (by kernel_rfl) (np_then (np_then (np_blk (np_then (np_then (np_blk (np_then np_body))))))) ⟨f42.now, trivial⟩ (fun W_ hS => trivial) fun a hk => ?_
            refine xd_done (by kernel_rfl) ?_
            refine then_n ?_
            refine x_if hk (b := true) rfl ?_
            refine (show Code.wpIn _ _ _ _ _ _ _ from ?_)
            refine x_seq ?_
            refine wpIn_region_lit ?_
            refine x_run tab hk (k := 1) (lv := []) (ks := [6]) (e' := [(6, .bool false)]) rfl trivial fun a hk => ?_
            refine wpListIn_nil ?_
            refine then_n ?_
            refine wpIn_ret ?_
            refine then_r ?_
            refine blk_r ?_
            refine then_r ?_
            refine then_r ?_
            refine blk_r ?_
            refine then_r ?_
            obtain rfl := Option.some.inj H
            exact x_retG hk (rs := [.tmp 6]) (vs := [.bool false]) rfl ⟨rfl, trivial⟩ ⟨cl w oi o [] (fun l_ => if l_ = 1 then LF else 0) o4761, rfl, hs.closeF (Lm := []) (Sh := []) hoa rfl (fun l_ => if l_ = 1 then LF else 0)⟩
        · rw [b4530] at H
          replace H := bifT H
          refine xd_begin (o := o4456) (fun W_ => True) mixed rfl rfl fun w4763 st4764 => ?_
          replace f3343 := f3343.st st4764 (by decide)
          replace f4185 := f4185.st st4764 (by decide)
          replace f4187 := f4187.st st4764 (by decide)
          replace f4190 := f4190.st st4764 (by decide)
          replace f42 := f42.st st4764 (by decide)
          replace f4350 := f4350.st st4764 (by decide)
          replace f4461 := f4461.st st4764 (by decide)
          replace f4465 := f4465.st st4764 (by decide)
          replace f4468 := f4468.st st4764 (by decide)
          replace f4475 := f4475.st st4764 (by decide)
          replace f900040 := f900040.st st4764 (by decide)
          replace hs := hs.locQ st4764 hob rfl
          refine xd_take tab hk (k := 27) (is := [0, 1, 2]) (ls' := #[true, true, true, false, false, false, false, false, false, false, false, false, false, false, false, false, false, false, false, false, false, false, false, false, false, false, false, false, false, false]) (lv := []) (ks := [2, 7, 8, 9, 11, 12, 13, 59]) (e' := [(2, .slice (some ad4170) (p2).length cp2), (7, .pointer (some ⟨bx18, 0, none⟩)), (8, .pointer (some ⟨bx41, 0, none⟩)), (9, .int .i64 (IntKind.wrap .i64 (x3345 + (bits .and .i64 ((rdD zT32 p2 x3346).Later) 255)))), (11, .int .i64 x3346), (12, .pointer (some ⟨bx4184, 0, none⟩)), (13, .pointer (some ⟨bx4467, 0, none⟩)), (59, .bool (!x4477))]) (by kernel_rfl) rfl rfl (by kernel_rfl) (np_then (np_then (np_blk (np_then (np_then (np_blk (np_then np_body))))))) trivial (fun W_ hS => trivial) fun a hk => ?_
          rw [b4530] at hk
          refine xd_take tab hk (k := 0) (is := [3, 4, 5, 6, 7, 8, 9, 10, 11, 12, 13, 14, 15, 16, 17, 18, 19, 20, 21, 22, 23, 24, 25, 26, 27, 28, 29]) (ls' := #[true, true, true, true, true, true, true, true, true, true, true, true, true, true, true, true, true, true, true, true, true, true, true, true, true, true, true, true, true, true]) (lv := []) (ks := [2, 7, 8, 9, 11, 13, 86]) (e' := [(2, .slice (some ad4170) (p2).length cp2), (7, .pointer (some ⟨bx18, 0, none⟩)), (8, .pointer (some ⟨bx41, 0, none⟩)), (9, .int .i64 (IntKind.wrap .i64 (x3345 + (bits .and .i64 ((rdD zT32 p2 x3346).Later) 255)))), (11, .int .i64 x3346), (13, .pointer (some ⟨bx4467, 0, none⟩)), (86, .bool true)]) (by kernel_rfl) rfl rfl (by kernel_rfl) (np_then (np_then (np_blk (np_then (np_then (np_blk (np_then np_body))))))) trivial (fun W_ hS => trivial) fun a hk => ?_
          refine xd_done (by kernel_rfl) ?_
          refine then_n ?_
          refine x_if hk (b := true) rfl ?_
          refine (show Code.wpIn _ _ _ _ _ _ _ from ?_)
          refine x_seq ?_
          refine wpIn_region_lit ?_
          refine x_run tab hk (k := 1) (lv := []) (ks := [6]) (e' := [(6, .bool false)]) rfl trivial fun a hk => ?_
          refine wpListIn_nil ?_
          refine then_n ?_
          refine wpIn_ret ?_
          refine then_r ?_
          refine blk_r ?_
          refine then_r ?_
          refine then_r ?_
          refine blk_r ?_
          refine then_r ?_
          obtain rfl := Option.some.inj H
          exact x_retG hk (rs := [.tmp 6]) (vs := [.bool false]) rfl ⟨rfl, trivial⟩ ⟨cl w oi o [] (fun l_ => if l_ = 1 then LF else 0) o4456, rfl, hs.closeF (Lm := []) (Sh := []) hoa rfl (fun l_ => if l_ = 1 then LF else 0)⟩
      obtain ⟨A4797, c4798, fx4799, f4800, hc4801⟩ := elT32 f900040 (i := x3346) q4169
      obtain ⟨t4805, hc4806, H⟩ := bindS H
      refine xd_begin (o := o4182) (fun W_ => (Bx bx41 28 [.int .i64 x3337, .int .i64 x3338, .int .i64 x3339, .slice A3340 (l3342).length c3341]) W_ ∧ (fun W => CellsAt (ad4170.add (Int.toNat x3346 * 6)) [.int .i64 ((rdD zT32 p2 x3346).Kind), .int .i64 ((rdD zT32 p2 x3346).N), .int .i64 ((rdD zT32 p2 x3346).Later), .int .i64 ((rdD zT32 p2 x3346).Span_From), .int .i64 ((rdD zT32 p2 x3346).Span_To), .slice A4797 ((rdD zT32 p2 x3346).Have).length c4798] W) W_ ∧ True) mixed rfl rfl fun w4879 st4880 => ?_
      replace f19 := f19.st st4880 (by decide)
      replace f3331 := f3331.st st4880 (by decide)
      replace f3335 := f3335.st st4880 (by decide)
      replace f3343 := f3343.st st4880 (by decide)
      replace f4185 := f4185.st st4880 (by decide)
      replace f4187 := f4187.st st4880 (by decide)
      replace f4190 := f4190.st st4880 (by decide)
      replace f42 := f42.st st4880 (by decide)
      replace f4800 := f4800.st st4880 (by decide)
      replace f900040 := f900040.st st4880 (by decide)
      replace fx4799 := fx4799.st st4880 (by decide)
      replace hs := hs.locQ st4880 hob rfl
      refine xd_abs fun G hG => ?_
      have N4925 : ∀ (a_ : Act) (w_ : World), (∃ o4913 : Nat → Nat, ∃ bx4914 : Nat, ∃ A4916 : Option Addr, ∃ c4917 : Nat, ∃ A4920 : Option Addr, ∃ c4921 : Nat, Kn 88 a_ [(2, .slice (some ad4170) (p2).length cp2), (7, .pointer (some ⟨bx18, 0, none⟩)), (8, .pointer (some ⟨bx41, 0, none⟩)), (9, .int .i64 (IntKind.wrap .i64 (x3345 + (bits .and .i64 ((rdD zT32 p2 x3346).Later) 255)))), (11, .int .i64 x3346), (12, .pointer (some ⟨bx4184, 0, none⟩)), (53, .tuple #[.agg #[.int .i64 t4805.1.Most, .int .i64 t4805.1.Every, .int .i64 t4805.1.Due, .slice A4920 (t4805.1.L).length c4921], .bool t4805.2.1])] ∧ St [] w oi w_ o4913 ∧ Ft (RdC ET30 A3340 l3342) w_ o4913 476 ∧ Ft (Bx bx4184 51 [.int .i64 t4179.most, .int .i64 t4179.every, .int .i64 t4179.due, .pointer (some ⟨bx4186, 0, none⟩)]) w_ o4913 483 ∧ Ft (Bx bx4186 49 [.slice A4188 (t4179.want_l).length c4189]) w_ o4913 482 ∧ Ft (Own ET30 43 (.slice A4188 (t4179.want_l).length c4189) t4179.want_l) w_ o4913 481 ∧ Ft (Bx bx41 28 [.int .i64 x3337, .int .i64 x3338, .int .i64 x3339, .slice A3340 (l3342).length c3341]) w_ o4913 477 ∧ Ft (Bx bx18 51 [.int .i64 t4805.2.2.most, .int .i64 t4805.2.2.every, .int .i64 t4805.2.2.due, .pointer (some ⟨bx4914, 0, none⟩)]) w_ o4913 480 ∧ Ft (Bx bx4914 49 [.slice A4916 (t4805.2.2.want_l).length c4917]) w_ o4913 479 ∧ Ft (Own ET30 43 (.slice A4916 (t4805.2.2.want_l).length c4917) t4805.2.2.want_l) w_ o4913 478 ∧ Ft (RdC ET30 A4920 t4805.1.L) w_ o4913 476 ∧ NRd dT32 (some ad4170) p2 w_ o4913 0 0 ∧ Ft (fun W => CellsAt (ad4170.add (Int.toNat x3346 * 6)) [.int .i64 ((rdD zT32 p2 x3346).Kind), .int .i64 ((rdD zT32 p2 x3346).N), .int .i64 ((rdD zT32 p2 x3346).Later), .int .i64 ((rdD zT32 p2 x3346).Span_From), .int .i64 ((rdD zT32 p2 x3346).Span_To), .slice A4797 ((rdD zT32 p2 x3346).Have).length c4798] W) w_ o4913 0 ∧ (t4805.2.2.want_l).length ≤ c4917 ∧ (t4805.1.L).length ≤ c4921) → G 6 #[true, true, true, true, true, true, true, true, false, false, false, false, false, false] a_ w_ := by
        rintro a w4924 ⟨o4913, bx4914, A4916, c4917, A4920, c4921, hk, hs, f3343, f4185, f4187, f4190, f42, f4891, f4915, f4918, f4922, f900040, fx4799, hc4919, hc4923⟩
        refine xd_of hG ?_
        refine xd_take tab hk (k := 3) (is := [8, 9, 10]) (ls' := #[true, true, true, true, true, true, true, true, true, true, true, false, false, false]) (lv := []) (ks := [2, 7, 8, 9, 11, 12, 54, 55]) (e' := [(2, .slice (some ad4170) (p2).length cp2), (7, .pointer (some ⟨bx18, 0, none⟩)), (8, .pointer (some ⟨bx41, 0, none⟩)), (9, .int .i64 (IntKind.wrap .i64 (x3345 + (bits .and .i64 ((rdD zT32 p2 x3346).Later) 255)))), (11, .int .i64 x3346), (12, .pointer (some ⟨bx4184, 0, none⟩)), (54, .agg #[.int .i64 t4805.1.Most, .int .i64 t4805.1.Every, .int .i64 t4805.1.Due, .slice A4920 (t4805.1.L).length c4921]), (55, .bool t4805.2.1)]) (by kernel_rfl) rfl rfl (by kernel_rfl) (np_then (np_then (np_blk (np_then (np_then (np_blk (np_then np_body))))))) ⟨f42.now, fx4799.now, trivial⟩ (fun W_ hS => trivial) fun a hk => ?_
        refine xd_op hk (i := 11) (by kernel_rfl) rfl rfl ?_
        refine op_alloc (o := o4913) tab (t := 28) (cs := [.int .i64 0, .int .i64 0, .int .i64 0, .slice none 0 0]) rfl rfl 484 fun bx4929 w4926 o4927 st4928 f4930 => ?_
        replace f3343 := f3343.st st4928 (by decide)
        replace f4185 := f4185.st st4928 (by decide)
        replace f4187 := f4187.st st4928 (by decide)
        replace f4190 := f4190.st st4928 (by decide)
        replace f42 := f42.st st4928 (by decide)
        replace f4891 := f4891.st st4928 (by decide)
        replace f4915 := f4915.st st4928 (by decide)
        replace f4918 := f4918.st st4928 (by decide)
        replace f4922 := f4922.st st4928 (by decide)
        replace f900040 := f900040.st st4928 (by decide)
        replace fx4799 := fx4799.st st4928 (by decide)
        replace hs := hs.locQ st4928 hob rfl
        have hk := hk.put 13 (.pointer (some ⟨bx4929, 0, none⟩)) rfl
        refine ⟨.inr ⟨f42.now, fx4799.now, trivial⟩, ?_⟩
        refine xd_op hk (i := 12) (by kernel_rfl) rfl rfl ?_
        refine op_store tab hk (t := 28) (v := .agg #[.int .i64 t4805.1.Most, .int .i64 t4805.1.Every, .int .i64 t4805.1.Due, .slice A4920 (t4805.1.L).length c4921]) (b := bx4929) (k := 0) (cs' := [.int .i64 t4805.1.Most, .int .i64 t4805.1.Every, .int .i64 t4805.1.Due, .slice A4920 (t4805.1.L).length c4921]) rfl rfl rfl rfl rfl rfl f4930 rfl rfl fun w4931 o4932 st4933 f4930_ => ?_
        replace f3343 := f3343.st st4933 (by decide)
        replace f4185 := f4185.st st4933 (by decide)
        replace f4187 := f4187.st st4933 (by decide)
        replace f4190 := f4190.st st4933 (by decide)
        replace f42 := f42.st st4933 (by decide)
        replace f4891 := f4891.st st4933 (by decide)
        replace f4915 := f4915.st st4933 (by decide)
        replace f4918 := f4918.st st4933 (by decide)
        replace f4922 := f4922.st st4933 (by decide)
        replace f900040 := f900040.st st4933 (by decide)
        replace fx4799 := fx4799.st st4933 (by decide)
        replace hs := hs.locQ st4933 hob rfl
        replace f4930 := f4930_
        refine ⟨.inr ⟨f42.now, fx4799.now, trivial⟩, ?_⟩
        refine xd_take tab hk (k := 0) (is := [13]) (ls' := #[true, true, true, true, true, true, true, true, true, true, true, true, true, true]) (lv := []) (ks := [2, 7, 8, 9, 11, 12, 13, 14]) (e' := [(2, .slice (some ad4170) (p2).length cp2), (7, .pointer (some ⟨bx18, 0, none⟩)), (8, .pointer (some ⟨bx41, 0, none⟩)), (9, .int .i64 (IntKind.wrap .i64 (x3345 + (bits .and .i64 ((rdD zT32 p2 x3346).Later) 255)))), (11, .int .i64 x3346), (12, .pointer (some ⟨bx4184, 0, none⟩)), (13, .pointer (some ⟨bx4929, 0, none⟩)), (14, .bool t4805.2.1)]) (by kernel_rfl) rfl rfl (by kernel_rfl) (np_then (np_then (np_blk (np_then (np_then (np_blk (np_then np_body))))))) ⟨f42.now, fx4799.now, trivial⟩ (fun W_ hS => trivial) fun a hk => ?_
        refine xd_done (by kernel_rfl) ?_
        refine then_n ?_
        exact ⟨(fun b_ => (fun l_ => if l_ = 476 then 452 else if l_ = 477 then 453 else if l_ = 478 then 449 else if l_ = 479 then 450 else if l_ = 480 then 451 else if l_ = 481 then 454 else if l_ = 482 then 455 else if l_ = 483 then 456 else if l_ = 484 then 457 else l_) (o4932 b_)), t4805.2.2.most, t4805.2.2.every, t4805.2.2.due, bx4914, A4916, c4917, t4805.2.2.want_l, bx4929, t4805.1.Most, t4805.1.Every, t4805.1.Due, A4920, c4921, t4805.1.L, t4805.2.1, (by exact Kn.pick (ks := [2, 7, 8, 9, 11, 12, 13, 14]) hk rfl), (hs.relabM hob (fun l_ => if l_ = 476 then 452 else if l_ = 477 then 453 else if l_ = 478 then 449 else if l_ = 479 then 450 else if l_ = 480 then 451 else if l_ = 481 then 454 else if l_ = 482 then 455 else if l_ = 483 then 456 else if l_ = 484 then 457 else l_) (by decide)), (f3343.relab (fun l_ => if l_ = 476 then 452 else if l_ = 477 then 453 else if l_ = 478 then 449 else if l_ = 479 then 450 else if l_ = 480 then 451 else if l_ = 481 then 454 else if l_ = 482 then 455 else if l_ = 483 then 456 else if l_ = 484 then 457 else l_) rfl), (f4185.relab (fun l_ => if l_ = 476 then 452 else if l_ = 477 then 453 else if l_ = 478 then 449 else if l_ = 479 then 450 else if l_ = 480 then 451 else if l_ = 481 then 454 else if l_ = 482 then 455 else if l_ = 483 then 456 else if l_ = 484 then 457 else l_) rfl), (f4187.relab (fun l_ => if l_ = 476 then 452 else if l_ = 477 then 453 else if l_ = 478 then 449 else if l_ = 479 then 450 else if l_ = 480 then 451 else if l_ = 481 then 454 else if l_ = 482 then 455 else if l_ = 483 then 456 else if l_ = 484 then 457 else l_) rfl), (f4190.relab (fun l_ => if l_ = 476 then 452 else if l_ = 477 then 453 else if l_ = 478 then 449 else if l_ = 479 then 450 else if l_ = 480 then 451 else if l_ = 481 then 454 else if l_ = 482 then 455 else if l_ = 483 then 456 else if l_ = 484 then 457 else l_) rfl), (f42.relab (fun l_ => if l_ = 476 then 452 else if l_ = 477 then 453 else if l_ = 478 then 449 else if l_ = 479 then 450 else if l_ = 480 then 451 else if l_ = 481 then 454 else if l_ = 482 then 455 else if l_ = 483 then 456 else if l_ = 484 then 457 else l_) rfl), (f4891.relab (fun l_ => if l_ = 476 then 452 else if l_ = 477 then 453 else if l_ = 478 then 449 else if l_ = 479 then 450 else if l_ = 480 then 451 else if l_ = 481 then 454 else if l_ = 482 then 455 else if l_ = 483 then 456 else if l_ = 484 then 457 else l_) rfl), (f4915.relab (fun l_ => if l_ = 476 then 452 else if l_ = 477 then 453 else if l_ = 478 then 449 else if l_ = 479 then 450 else if l_ = 480 then 451 else if l_ = 481 then 454 else if l_ = 482 then 455 else if l_ = 483 then 456 else if l_ = 484 then 457 else l_) rfl), (f4918.relab (fun l_ => if l_ = 476 then 452 else if l_ = 477 then 453 else if l_ = 478 then 449 else if l_ = 479 then 450 else if l_ = 480 then 451 else if l_ = 481 then 454 else if l_ = 482 then 455 else if l_ = 483 then 456 else if l_ = 484 then 457 else l_) rfl), (f4930.relab (fun l_ => if l_ = 476 then 452 else if l_ = 477 then 453 else if l_ = 478 then 449 else if l_ = 479 then 450 else if l_ = 480 then 451 else if l_ = 481 then 454 else if l_ = 482 then 455 else if l_ = 483 then 456 else if l_ = 484 then 457 else l_) rfl), (f4922.relab (fun l_ => if l_ = 476 then 452 else if l_ = 477 then 453 else if l_ = 478 then 449 else if l_ = 479 then 450 else if l_ = 480 then 451 else if l_ = 481 then 454 else if l_ = 482 then 455 else if l_ = 483 then 456 else if l_ = 484 then 457 else l_) rfl), (f900040.relab (fun l_ => if l_ = 476 then 452 else if l_ = 477 then 453 else if l_ = 478 then 449 else if l_ = 479 then 450 else if l_ = 480 then 451 else if l_ = 481 then 454 else if l_ = 482 then 455 else if l_ = 483 then 456 else if l_ = 484 then 457 else l_) rfl), hc4919, hc4923, H⟩
      have N4950 : ∀ (a_ : Act) (w_ : World), (∃ o4946 : Nat → Nat, ∃ bx4947 : Nat, Kn 88 a_ [(2, .slice (some ad4170) (p2).length cp2), (7, .pointer (some ⟨bx18, 0, none⟩)), (8, .pointer (some ⟨bx41, 0, none⟩)), (9, .int .i64 (IntKind.wrap .i64 (x3345 + (bits .and .i64 ((rdD zT32 p2 x3346).Later) 255)))), (11, .int .i64 x3346), (12, .pointer (some ⟨bx4184, 0, none⟩)), (13, .pointer (some ⟨bx4947, 0, none⟩)), (46, .pointer (some ⟨bx18, 0, none⟩)), (47, .agg #[.int .i64 x3337, .int .i64 x3338, .int .i64 x3339, .slice A3340 (l3342).length c3341]), (51, .agg #[.int .i64 ((rdD zT32 p2 x3346).Kind), .int .i64 ((rdD zT32 p2 x3346).N), .int .i64 ((rdD zT32 p2 x3346).Later), .int .i64 ((rdD zT32 p2 x3346).Span_From), .int .i64 ((rdD zT32 p2 x3346).Span_To), .slice A4797 ((rdD zT32 p2 x3346).Have).length c4798]), (52, .int .i64 (IntKind.wrap .i64 (x3345 + (bits .and .i64 ((rdD zT32 p2 x3346).Later) 255))))] ∧ St [] w oi w_ o4946 ∧ Ft (Bx bx18 51 [.int .i64 x3327, .int .i64 x3328, .int .i64 x3329, .pointer (some ⟨bx3330, 0, none⟩)]) w_ o4946 490 ∧ Ft (Bx bx3330 49 [.slice A3332 (l3334).length c3333]) w_ o4946 489 ∧ Ft (Own ET30 43 (.slice A3332 (l3334).length c3333) l3334) w_ o4946 488 ∧ Ft (RdC ET30 A3340 l3342) w_ o4946 486 ∧ Ft (Bx bx4184 51 [.int .i64 t4179.most, .int .i64 t4179.every, .int .i64 t4179.due, .pointer (some ⟨bx4186, 0, none⟩)]) w_ o4946 493 ∧ Ft (Bx bx4186 49 [.slice A4188 (t4179.want_l).length c4189]) w_ o4946 492 ∧ Ft (Own ET30 43 (.slice A4188 (t4179.want_l).length c4189) t4179.want_l) w_ o4946 491 ∧ Ft (Bx bx41 28 [.int .i64 x3337, .int .i64 x3338, .int .i64 x3339, .slice A3340 (l3342).length c3341]) w_ o4946 487 ∧ Ft (RdC ET30 A4797 ((rdD zT32 p2 x3346).Have)) w_ o4946 0 ∧ Ft (Bx bx4947 28 [.int .i64 0, .int .i64 0, .int .i64 0, .slice none 0 0]) w_ o4946 494 ∧ NRd dT32 (some ad4170) p2 w_ o4946 0 0 ∧ Ft (fun W => CellsAt (ad4170.add (Int.toNat x3346 * 6)) [.int .i64 ((rdD zT32 p2 x3346).Kind), .int .i64 ((rdD zT32 p2 x3346).N), .int .i64 ((rdD zT32 p2 x3346).Later), .int .i64 ((rdD zT32 p2 x3346).Span_From), .int .i64 ((rdD zT32 p2 x3346).Span_To), .slice A4797 ((rdD zT32 p2 x3346).Have).length c4798] W) w_ o4946 0) → G 6 #[true, true, true, true, true, true, true, false, false, false, false, true, false, false] a_ w_ := by
        rintro a w4949 ⟨o4946, bx4947, hk, hs, f19, f3331, f3335, f3343, f4185, f4187, f4190, f42, f4800, f4948, f900040, fx4799⟩
        refine xd_of hG ?_
        refine xd_op hk (i := 7) (by kernel_rfl) rfl rfl ?_
        refine op_call hk ent_8 (vs := [.pointer (some ⟨bx18, 0, none⟩), .agg #[.int .i64 x3337, .int .i64 x3338, .int .i64 x3339, .slice A3340 (l3342).length c3341], .agg #[.int .i64 ((rdD zT32 p2 x3346).Kind), .int .i64 ((rdD zT32 p2 x3346).N), .int .i64 ((rdD zT32 p2 x3346).Later), .int .i64 ((rdD zT32 p2 x3346).Span_From), .int .i64 ((rdD zT32 p2 x3346).Span_To), .slice A4797 ((rdD zT32 p2 x3346).Have).length c4798], .int .i64 (IntKind.wrap .i64 (x3345 + (bits .and .i64 ((rdD zT32 p2 x3346).Later) 255)))]) rfl (tidewracklaw21_do_calls K bx18 bx3330 A3332 c3333 (⟨x3327, x3328, x3329, l3334⟩ : T50) A3340 c3341 (⟨x3337, x3338, x3339, l3342⟩ : T27) A4797 c4798 (rdD zT32 p2 x3346) (IntKind.wrap .i64 (x3345 + (bits .and .i64 ((rdD zT32 p2 x3346).Later) 255))) _ o4946 490 f19 488 f3335 hc3336 489 f3331 486 f3343 hc3344 _ f4800 hc4801 (by decide) (by decide)   _ hc4806) ?_
        rintro _ w4954 ⟨o4955, A4957, c4958, bx4962, A4964, c4965, rfl, st4956, f4959, hc4960, f4961, f4963, f4966, hc4967⟩
        replace f3343 := f3343.st st4956 (by decide)
        replace f4185 := f4185.st st4956 (by decide)
        replace f4187 := f4187.st st4956 (by decide)
        replace f4190 := f4190.st st4956 (by decide)
        replace f42 := f42.st st4956 (by decide)
        replace f4800 := f4800.st st4956 (by decide)
        replace f4948 := f4948.st st4956 (by decide)
        replace f900040 := f900040.st st4956 (by decide)
        replace fx4799 := fx4799.st st4956 (by decide)
        replace hs := hs.locQ st4956 hob rfl
        have hk := hk.put 53 (.tuple #[.agg #[.int .i64 t4805.1.Most, .int .i64 t4805.1.Every, .int .i64 t4805.1.Due, .slice A4957 (t4805.1.L).length c4958], .bool t4805.2.1]) rfl
        refine ⟨.inr ⟨f42.now, fx4799.now, trivial⟩, ?_⟩
        refine xd_take tab hk (k := 2) (is := [8, 9, 10]) (ls' := #[true, true, true, true, true, true, true, true, true, true, true, true, false, false]) (lv := []) (ks := [2, 7, 8, 9, 11, 12, 13, 54, 55]) (e' := [(2, .slice (some ad4170) (p2).length cp2), (7, .pointer (some ⟨bx18, 0, none⟩)), (8, .pointer (some ⟨bx41, 0, none⟩)), (9, .int .i64 (IntKind.wrap .i64 (x3345 + (bits .and .i64 ((rdD zT32 p2 x3346).Later) 255)))), (11, .int .i64 x3346), (12, .pointer (some ⟨bx4184, 0, none⟩)), (13, .pointer (some ⟨bx4947, 0, none⟩)), (54, .agg #[.int .i64 t4805.1.Most, .int .i64 t4805.1.Every, .int .i64 t4805.1.Due, .slice A4957 (t4805.1.L).length c4958]), (55, .bool t4805.2.1)]) (by kernel_rfl) rfl rfl (by kernel_rfl) (np_then (np_then (np_blk (np_then (np_then (np_blk (np_then np_body))))))) ⟨f42.now, fx4799.now, trivial⟩ (fun W_ hS => trivial) fun a hk => ?_
        refine xd_op hk (i := 12) (by kernel_rfl) rfl rfl ?_
        refine op_store tab hk (t := 28) (v := .agg #[.int .i64 t4805.1.Most, .int .i64 t4805.1.Every, .int .i64 t4805.1.Due, .slice A4957 (t4805.1.L).length c4958]) (b := bx4947) (k := 0) (cs' := [.int .i64 t4805.1.Most, .int .i64 t4805.1.Every, .int .i64 t4805.1.Due, .slice A4957 (t4805.1.L).length c4958]) rfl rfl rfl rfl rfl rfl f4948 rfl rfl fun w4968 o4969 st4970 f4948_ => ?_
        replace f3343 := f3343.st st4970 (by decide)
        replace f4185 := f4185.st st4970 (by decide)
        replace f4187 := f4187.st st4970 (by decide)
        replace f4190 := f4190.st st4970 (by decide)
        replace f42 := f42.st st4970 (by decide)
        replace f4800 := f4800.st st4970 (by decide)
        replace f4959 := f4959.st st4970 (by decide)
        replace f4961 := f4961.st st4970 (by decide)
        replace f4963 := f4963.st st4970 (by decide)
        replace f4966 := f4966.st st4970 (by decide)
        replace f900040 := f900040.st st4970 (by decide)
        replace fx4799 := fx4799.st st4970 (by decide)
        replace hs := hs.locQ st4970 hob rfl
        replace f4948 := f4948_
        refine ⟨.inr ⟨f42.now, fx4799.now, trivial⟩, ?_⟩
        refine xd_take tab hk (k := 0) (is := [13]) (ls' := #[true, true, true, true, true, true, true, true, true, true, true, true, true, true]) (lv := []) (ks := [2, 7, 8, 9, 11, 12, 13, 14]) (e' := [(2, .slice (some ad4170) (p2).length cp2), (7, .pointer (some ⟨bx18, 0, none⟩)), (8, .pointer (some ⟨bx41, 0, none⟩)), (9, .int .i64 (IntKind.wrap .i64 (x3345 + (bits .and .i64 ((rdD zT32 p2 x3346).Later) 255)))), (11, .int .i64 x3346), (12, .pointer (some ⟨bx4184, 0, none⟩)), (13, .pointer (some ⟨bx4947, 0, none⟩)), (14, .bool t4805.2.1)]) (by kernel_rfl) rfl rfl (by kernel_rfl) (np_then (np_then (np_blk (np_then (np_then (np_blk (np_then np_body))))))) ⟨f42.now, fx4799.now, trivial⟩ (fun W_ hS => trivial) fun a hk => ?_
        refine xd_done (by kernel_rfl) ?_
        refine then_n ?_
        exact ⟨(fun b_ => (fun l_ => if l_ = 486 then 452 else if l_ = 487 then 453 else if l_ = 488 then 449 else if l_ = 489 then 450 else if l_ = 490 then 451 else if l_ = 491 then 454 else if l_ = 492 then 455 else if l_ = 493 then 456 else if l_ = 494 then 457 else l_) (o4969 b_)), t4805.2.2.most, t4805.2.2.every, t4805.2.2.due, bx4962, A4964, c4965, t4805.2.2.want_l, bx4947, t4805.1.Most, t4805.1.Every, t4805.1.Due, A4957, c4958, t4805.1.L, t4805.2.1, (by exact Kn.pick (ks := [2, 7, 8, 9, 11, 12, 13, 14]) hk rfl), (hs.relabM hob (fun l_ => if l_ = 486 then 452 else if l_ = 487 then 453 else if l_ = 488 then 449 else if l_ = 489 then 450 else if l_ = 490 then 451 else if l_ = 491 then 454 else if l_ = 492 then 455 else if l_ = 493 then 456 else if l_ = 494 then 457 else l_) (by decide)), (f3343.relab (fun l_ => if l_ = 486 then 452 else if l_ = 487 then 453 else if l_ = 488 then 449 else if l_ = 489 then 450 else if l_ = 490 then 451 else if l_ = 491 then 454 else if l_ = 492 then 455 else if l_ = 493 then 456 else if l_ = 494 then 457 else l_) rfl), (f4185.relab (fun l_ => if l_ = 486 then 452 else if l_ = 487 then 453 else if l_ = 488 then 449 else if l_ = 489 then 450 else if l_ = 490 then 451 else if l_ = 491 then 454 else if l_ = 492 then 455 else if l_ = 493 then 456 else if l_ = 494 then 457 else l_) rfl), (f4187.relab (fun l_ => if l_ = 486 then 452 else if l_ = 487 then 453 else if l_ = 488 then 449 else if l_ = 489 then 450 else if l_ = 490 then 451 else if l_ = 491 then 454 else if l_ = 492 then 455 else if l_ = 493 then 456 else if l_ = 494 then 457 else l_) rfl), (f4190.relab (fun l_ => if l_ = 486 then 452 else if l_ = 487 then 453 else if l_ = 488 then 449 else if l_ = 489 then 450 else if l_ = 490 then 451 else if l_ = 491 then 454 else if l_ = 492 then 455 else if l_ = 493 then 456 else if l_ = 494 then 457 else l_) rfl), (f42.relab (fun l_ => if l_ = 486 then 452 else if l_ = 487 then 453 else if l_ = 488 then 449 else if l_ = 489 then 450 else if l_ = 490 then 451 else if l_ = 491 then 454 else if l_ = 492 then 455 else if l_ = 493 then 456 else if l_ = 494 then 457 else l_) rfl), (f4961.relab (fun l_ => if l_ = 486 then 452 else if l_ = 487 then 453 else if l_ = 488 then 449 else if l_ = 489 then 450 else if l_ = 490 then 451 else if l_ = 491 then 454 else if l_ = 492 then 455 else if l_ = 493 then 456 else if l_ = 494 then 457 else l_) rfl), (f4963.relab (fun l_ => if l_ = 486 then 452 else if l_ = 487 then 453 else if l_ = 488 then 449 else if l_ = 489 then 450 else if l_ = 490 then 451 else if l_ = 491 then 454 else if l_ = 492 then 455 else if l_ = 493 then 456 else if l_ = 494 then 457 else l_) rfl), (f4966.relab (fun l_ => if l_ = 486 then 452 else if l_ = 487 then 453 else if l_ = 488 then 449 else if l_ = 489 then 450 else if l_ = 490 then 451 else if l_ = 491 then 454 else if l_ = 492 then 455 else if l_ = 493 then 456 else if l_ = 494 then 457 else l_) rfl), (f4948.relab (fun l_ => if l_ = 486 then 452 else if l_ = 487 then 453 else if l_ = 488 then 449 else if l_ = 489 then 450 else if l_ = 490 then 451 else if l_ = 491 then 454 else if l_ = 492 then 455 else if l_ = 493 then 456 else if l_ = 494 then 457 else l_) rfl), (f4959.relab (fun l_ => if l_ = 486 then 452 else if l_ = 487 then 453 else if l_ = 488 then 449 else if l_ = 489 then 450 else if l_ = 490 then 451 else if l_ = 491 then 454 else if l_ = 492 then 455 else if l_ = 493 then 456 else if l_ = 494 then 457 else l_) rfl), (f900040.relab (fun l_ => if l_ = 486 then 452 else if l_ = 487 then 453 else if l_ = 488 then 449 else if l_ = 489 then 450 else if l_ = 490 then 451 else if l_ = 491 then 454 else if l_ = 492 then 455 else if l_ = 493 then 456 else if l_ = 494 then 457 else l_) rfl), hc4967, hc4960, H⟩
      refine xd_of hG ?_
      refine xd_take tab hk (k := 7) (is := [0, 1, 2, 3, 4, 5, 6]) (ls' := #[true, true, true, true, true, true, true, false, false, false, false, false, false, false]) (lv := [.agg #[.int .i64 x3337, .int .i64 x3338, .int .i64 x3339, .slice A3340 (l3342).length c3341], .agg #[.int .i64 ((rdD zT32 p2 x3346).Kind), .int .i64 ((rdD zT32 p2 x3346).N), .int .i64 ((rdD zT32 p2 x3346).Later), .int .i64 ((rdD zT32 p2 x3346).Span_From), .int .i64 ((rdD zT32 p2 x3346).Span_To), .slice A4797 ((rdD zT32 p2 x3346).Have).length c4798]]) (ks := [2, 7, 8, 9, 11, 12, 46, 47, 51, 52]) (e' := [(2, .slice (some ad4170) (p2).length cp2), (7, .pointer (some ⟨bx18, 0, none⟩)), (8, .pointer (some ⟨bx41, 0, none⟩)), (9, .int .i64 (IntKind.wrap .i64 (x3345 + (bits .and .i64 ((rdD zT32 p2 x3346).Later) 255)))), (11, .int .i64 x3346), (12, .pointer (some ⟨bx4184, 0, none⟩)), (46, .pointer (some ⟨bx18, 0, none⟩)), (47, .agg #[.int .i64 x3337, .int .i64 x3338, .int .i64 x3339, .slice A3340 (l3342).length c3341]), (51, .agg #[.int .i64 ((rdD zT32 p2 x3346).Kind), .int .i64 ((rdD zT32 p2 x3346).N), .int .i64 ((rdD zT32 p2 x3346).Later), .int .i64 ((rdD zT32 p2 x3346).Span_From), .int .i64 ((rdD zT32 p2 x3346).Span_To), .slice A4797 ((rdD zT32 p2 x3346).Have).length c4798]), (52, .int .i64 (IntKind.wrap .i64 (x3345 + (bits .and .i64 ((rdD zT32 p2 x3346).Later) 255))))]) (by kernel_rfl) rfl rfl (by kernel_rfl) (np_then (np_then (np_blk (np_then (np_then (np_blk (np_then np_body))))))) ⟨f42.now, fx4799.now, trivial⟩ (fun W_ hS => ⟨(load_box tab rfl rfl hS.1 (k := 0) rfl rfl), q4169, (CellsAt.all hS.2.1 tab rfl rfl rfl), trivial⟩) fun a hk => ?_
      refine xd_each [7, 11] (by kernel_rfl) rfl ⟨?_, ?_, trivial⟩
      · refine xd_one hk rfl rfl ?_
        refine op_call hk ent_8 (vs := [.pointer (some ⟨bx18, 0, none⟩), .agg #[.int .i64 x3337, .int .i64 x3338, .int .i64 x3339, .slice A3340 (l3342).length c3341], .agg #[.int .i64 ((rdD zT32 p2 x3346).Kind), .int .i64 ((rdD zT32 p2 x3346).N), .int .i64 ((rdD zT32 p2 x3346).Later), .int .i64 ((rdD zT32 p2 x3346).Span_From), .int .i64 ((rdD zT32 p2 x3346).Span_To), .slice A4797 ((rdD zT32 p2 x3346).Have).length c4798], .int .i64 (IntKind.wrap .i64 (x3345 + (bits .and .i64 ((rdD zT32 p2 x3346).Later) 255)))]) rfl (tidewracklaw21_do_calls K bx18 bx3330 A3332 c3333 (⟨x3327, x3328, x3329, l3334⟩ : T50) A3340 c3341 (⟨x3337, x3338, x3339, l3342⟩ : T27) A4797 c4798 (rdD zT32 p2 x3346) (IntKind.wrap .i64 (x3345 + (bits .and .i64 ((rdD zT32 p2 x3346).Later) 255))) _ o4182 419 f19 417 f3335 hc3336 418 f3331 420 f3343 hc3344 _ f4800 hc4801 (by decide) (by decide)   _ hc4806) ?_
        rintro _ w4884 ⟨o4885, A4887, c4888, bx4892, A4894, c4895, rfl, st4886, f4889, hc4890, f4891, f4893, f4896, hc4897⟩
        replace f3343 := f3343.st st4886 (by decide)
        replace f4185 := f4185.st st4886 (by decide)
        replace f4187 := f4187.st st4886 (by decide)
        replace f4190 := f4190.st st4886 (by decide)
        replace f42 := f42.st st4886 (by decide)
        replace f4800 := f4800.st st4886 (by decide)
        replace f900040 := f900040.st st4886 (by decide)
        replace fx4799 := fx4799.st st4886 (by decide)
        replace hs := hs.locQ st4886 hob rfl
        have hk := hk.put 53 (.tuple #[.agg #[.int .i64 t4805.1.Most, .int .i64 t4805.1.Every, .int .i64 t4805.1.Due, .slice A4887 (t4805.1.L).length c4888], .bool t4805.2.1]) rfl
        refine ⟨.inr ⟨f42.now, fx4799.now, trivial⟩, ?_⟩
        exact xd_to hG rfl (N4925 _ _ ⟨(fun b_ => (fun l_ => if l_ = 417 then 478 else if l_ = 418 then 479 else if l_ = 419 then 480 else if l_ = 420 then 476 else if l_ = 421 then 477 else if l_ = 422 then 483 else if l_ = 423 then 482 else if l_ = 424 then 481 else l_) (o4885 b_)), bx4892, A4894, c4895, A4887, c4888, (by exact Kn.pick (ks := [2, 7, 8, 9, 11, 12, 53]) hk rfl), (hs.relabM hob (fun l_ => if l_ = 417 then 478 else if l_ = 418 then 479 else if l_ = 419 then 480 else if l_ = 420 then 476 else if l_ = 421 then 477 else if l_ = 422 then 483 else if l_ = 423 then 482 else if l_ = 424 then 481 else l_) (by decide)), (f3343.relab (fun l_ => if l_ = 417 then 478 else if l_ = 418 then 479 else if l_ = 419 then 480 else if l_ = 420 then 476 else if l_ = 421 then 477 else if l_ = 422 then 483 else if l_ = 423 then 482 else if l_ = 424 then 481 else l_) rfl), (f4185.relab (fun l_ => if l_ = 417 then 478 else if l_ = 418 then 479 else if l_ = 419 then 480 else if l_ = 420 then 476 else if l_ = 421 then 477 else if l_ = 422 then 483 else if l_ = 423 then 482 else if l_ = 424 then 481 else l_) rfl), (f4187.relab (fun l_ => if l_ = 417 then 478 else if l_ = 418 then 479 else if l_ = 419 then 480 else if l_ = 420 then 476 else if l_ = 421 then 477 else if l_ = 422 then 483 else if l_ = 423 then 482 else if l_ = 424 then 481 else l_) rfl), (f4190.relab (fun l_ => if l_ = 417 then 478 else if l_ = 418 then 479 else if l_ = 419 then 480 else if l_ = 420 then 476 else if l_ = 421 then 477 else if l_ = 422 then 483 else if l_ = 423 then 482 else if l_ = 424 then 481 else l_) rfl), (f42.relab (fun l_ => if l_ = 417 then 478 else if l_ = 418 then 479 else if l_ = 419 then 480 else if l_ = 420 then 476 else if l_ = 421 then 477 else if l_ = 422 then 483 else if l_ = 423 then 482 else if l_ = 424 then 481 else l_) rfl), (f4891.relab (fun l_ => if l_ = 417 then 478 else if l_ = 418 then 479 else if l_ = 419 then 480 else if l_ = 420 then 476 else if l_ = 421 then 477 else if l_ = 422 then 483 else if l_ = 423 then 482 else if l_ = 424 then 481 else l_) rfl), (f4893.relab (fun l_ => if l_ = 417 then 478 else if l_ = 418 then 479 else if l_ = 419 then 480 else if l_ = 420 then 476 else if l_ = 421 then 477 else if l_ = 422 then 483 else if l_ = 423 then 482 else if l_ = 424 then 481 else l_) rfl), (f4896.relab (fun l_ => if l_ = 417 then 478 else if l_ = 418 then 479 else if l_ = 419 then 480 else if l_ = 420 then 476 else if l_ = 421 then 477 else if l_ = 422 then 483 else if l_ = 423 then 482 else if l_ = 424 then 481 else l_) rfl), (f4889.relab (fun l_ => if l_ = 417 then 478 else if l_ = 418 then 479 else if l_ = 419 then 480 else if l_ = 420 then 476 else if l_ = 421 then 477 else if l_ = 422 then 483 else if l_ = 423 then 482 else if l_ = 424 then 481 else l_) rfl), (f900040.relab (fun l_ => if l_ = 417 then 478 else if l_ = 418 then 479 else if l_ = 419 then 480 else if l_ = 420 then 476 else if l_ = 421 then 477 else if l_ = 422 then 483 else if l_ = 423 then 482 else if l_ = 424 then 481 else l_) rfl), (fx4799.relab (fun l_ => if l_ = 417 then 478 else if l_ = 418 then 479 else if l_ = 419 then 480 else if l_ = 420 then 476 else if l_ = 421 then 477 else if l_ = 422 then 483 else if l_ = 423 then 482 else if l_ = 424 then 481 else l_) rfl), hc4897, hc4890⟩)
      · refine xd_one hk rfl rfl ?_
        refine op_alloc (o := o4182) tab (t := 28) (cs := [.int .i64 0, .int .i64 0, .int .i64 0, .slice none 0 0]) rfl rfl 485 fun bx4937 w4934 o4935 st4936 f4938 => ?_
        replace f19 := f19.st st4936 (by decide)
        replace f3331 := f3331.st st4936 (by decide)
        replace f3335 := f3335.st st4936 (by decide)
        replace f3343 := f3343.st st4936 (by decide)
        replace f4185 := f4185.st st4936 (by decide)
        replace f4187 := f4187.st st4936 (by decide)
        replace f4190 := f4190.st st4936 (by decide)
        replace f42 := f42.st st4936 (by decide)
        replace f4800 := f4800.st st4936 (by decide)
        replace f900040 := f900040.st st4936 (by decide)
        replace fx4799 := fx4799.st st4936 (by decide)
        replace hs := hs.locQ st4936 hob rfl
        have hk := hk.put 13 (.pointer (some ⟨bx4937, 0, none⟩)) rfl
        refine ⟨.inr ⟨f42.now, fx4799.now, trivial⟩, ?_⟩
        exact xd_to hG rfl (N4950 _ _ ⟨(fun b_ => (fun l_ => if l_ = 417 then 488 else if l_ = 418 then 489 else if l_ = 419 then 490 else if l_ = 420 then 486 else if l_ = 421 then 487 else if l_ = 422 then 493 else if l_ = 423 then 492 else if l_ = 424 then 491 else if l_ = 485 then 494 else l_) (o4935 b_)), bx4937, (by exact Kn.pick (ks := [2, 7, 8, 9, 11, 12, 13, 46, 47, 51, 52]) hk rfl), (hs.relabM hob (fun l_ => if l_ = 417 then 488 else if l_ = 418 then 489 else if l_ = 419 then 490 else if l_ = 420 then 486 else if l_ = 421 then 487 else if l_ = 422 then 493 else if l_ = 423 then 492 else if l_ = 424 then 491 else if l_ = 485 then 494 else l_) (by decide)), (f19.relab (fun l_ => if l_ = 417 then 488 else if l_ = 418 then 489 else if l_ = 419 then 490 else if l_ = 420 then 486 else if l_ = 421 then 487 else if l_ = 422 then 493 else if l_ = 423 then 492 else if l_ = 424 then 491 else if l_ = 485 then 494 else l_) rfl), (f3331.relab (fun l_ => if l_ = 417 then 488 else if l_ = 418 then 489 else if l_ = 419 then 490 else if l_ = 420 then 486 else if l_ = 421 then 487 else if l_ = 422 then 493 else if l_ = 423 then 492 else if l_ = 424 then 491 else if l_ = 485 then 494 else l_) rfl), (f3335.relab (fun l_ => if l_ = 417 then 488 else if l_ = 418 then 489 else if l_ = 419 then 490 else if l_ = 420 then 486 else if l_ = 421 then 487 else if l_ = 422 then 493 else if l_ = 423 then 492 else if l_ = 424 then 491 else if l_ = 485 then 494 else l_) rfl), (f3343.relab (fun l_ => if l_ = 417 then 488 else if l_ = 418 then 489 else if l_ = 419 then 490 else if l_ = 420 then 486 else if l_ = 421 then 487 else if l_ = 422 then 493 else if l_ = 423 then 492 else if l_ = 424 then 491 else if l_ = 485 then 494 else l_) rfl), (f4185.relab (fun l_ => if l_ = 417 then 488 else if l_ = 418 then 489 else if l_ = 419 then 490 else if l_ = 420 then 486 else if l_ = 421 then 487 else if l_ = 422 then 493 else if l_ = 423 then 492 else if l_ = 424 then 491 else if l_ = 485 then 494 else l_) rfl), (f4187.relab (fun l_ => if l_ = 417 then 488 else if l_ = 418 then 489 else if l_ = 419 then 490 else if l_ = 420 then 486 else if l_ = 421 then 487 else if l_ = 422 then 493 else if l_ = 423 then 492 else if l_ = 424 then 491 else if l_ = 485 then 494 else l_) rfl), (f4190.relab (fun l_ => if l_ = 417 then 488 else if l_ = 418 then 489 else if l_ = 419 then 490 else if l_ = 420 then 486 else if l_ = 421 then 487 else if l_ = 422 then 493 else if l_ = 423 then 492 else if l_ = 424 then 491 else if l_ = 485 then 494 else l_) rfl), (f42.relab (fun l_ => if l_ = 417 then 488 else if l_ = 418 then 489 else if l_ = 419 then 490 else if l_ = 420 then 486 else if l_ = 421 then 487 else if l_ = 422 then 493 else if l_ = 423 then 492 else if l_ = 424 then 491 else if l_ = 485 then 494 else l_) rfl), (f4800.relab (fun l_ => if l_ = 417 then 488 else if l_ = 418 then 489 else if l_ = 419 then 490 else if l_ = 420 then 486 else if l_ = 421 then 487 else if l_ = 422 then 493 else if l_ = 423 then 492 else if l_ = 424 then 491 else if l_ = 485 then 494 else l_) rfl), (f4938.relab (fun l_ => if l_ = 417 then 488 else if l_ = 418 then 489 else if l_ = 419 then 490 else if l_ = 420 then 486 else if l_ = 421 then 487 else if l_ = 422 then 493 else if l_ = 423 then 492 else if l_ = 424 then 491 else if l_ = 485 then 494 else l_) rfl), (f900040.relab (fun l_ => if l_ = 417 then 488 else if l_ = 418 then 489 else if l_ = 419 then 490 else if l_ = 420 then 486 else if l_ = 421 then 487 else if l_ = 422 then 493 else if l_ = 423 then 492 else if l_ = 424 then 491 else if l_ = 485 then 494 else l_) rfl), (fx4799.relab (fun l_ => if l_ = 417 then 488 else if l_ = 418 then 489 else if l_ = 419 then 490 else if l_ = 420 then 486 else if l_ = 421 then 487 else if l_ = 422 then 493 else if l_ = 423 then 492 else if l_ = 424 then 491 else if l_ = 485 then 494 else l_) rfl)⟩)
    refine x_seq ?_
    refine wpIn_region_lit ?_
    refine x_run tab hk (k := 5) (lv := []) (ks := [2, 7, 8, 9, 11, 29]) (e' := [(2, .slice Ap2 (p2).length cp2), (7, .pointer (some ⟨bx18, 0, none⟩)), (8, .pointer (some ⟨bx41, 0, none⟩)), (9, .int .i64 x3345), (11, .int .i64 x3346), (29, .bool (decide (x3346 < ((p2).length : Int))))]) rfl trivial fun a hk => ?_
    cases b4971 : (decide (x3346 < ((p2).length : Int)))
    · rw [b4971] at hk H
      replace H := bifF H
      refine x_run tab hk (k := 3) (lv := []) (ks := [2, 7, 8, 9, 11, 32]) (e' := [(2, .slice Ap2 (p2).length cp2), (7, .pointer (some ⟨bx18, 0, none⟩)), (8, .pointer (some ⟨bx41, 0, none⟩)), (9, .int .i64 x3345), (11, .int .i64 x3346), (32, .bool false)]) rfl trivial fun a hk => ?_
      refine wpListIn_nil ?_
      refine then_n ?_
      refine x_if hk (b := false) rfl ?_
      refine (show Code.wpIn _ _ _ _ _ _ _ from ?_)
      refine wpIn_exit ?_
      refine then_x ?_
      refine then_x ?_
      refine blk_x ?_
      refine then_n ?_
      exact ⟨o3326, (by exact Kn.pick (ks := []) hk rfl), hs, H⟩
    · rw [b4971] at hk H
      replace H := bifT H
      refine x_run tab hk (k := 3) (lv := []) (ks := [2, 7, 8, 9, 11, 32]) (e' := [(2, .slice Ap2 (p2).length cp2), (7, .pointer (some ⟨bx18, 0, none⟩)), (8, .pointer (some ⟨bx41, 0, none⟩)), (9, .int .i64 x3345), (11, .int .i64 x3346), (32, .bool (decide (x3346 < (30 : Int))))]) rfl trivial fun a hk => ?_
      refine wpListIn_nil ?_
      refine then_n ?_
      cases b4972 : (decide (x3346 < (30 : Int)))
      · rw [b4972] at hk H
        replace H := bifF H
        refine x_if hk (b := false) rfl ?_
        refine (show Code.wpIn _ _ _ _ _ _ _ from ?_)
        refine wpIn_exit ?_
        refine then_x ?_
        refine then_x ?_
        refine blk_x ?_
        refine then_n ?_
        exact ⟨o3326, (by exact Kn.pick (ks := []) hk rfl), hs, H⟩
      · rw [b4972] at hk H
        replace H := bifT H
        refine x_if hk (b := true) rfl ?_
        refine (show Code.wpIn _ _ _ _ _ _ _ from ?_)
        refine wpIn_skip ?_
        refine then_n ?_
        exact ⟨(fun b_ => (fun l_ => if l_ = 334 then 417 else if l_ = 335 then 418 else if l_ = 336 then 419 else if l_ = 337 then 420 else if l_ = 338 then 421 else l_) (o3326 b_)), (by exact Kn.pick (ks := [2, 7, 8, 9, 11]) hk rfl), (hs.relabM hob (fun l_ => if l_ = 334 then 417 else if l_ = 335 then 418 else if l_ = 336 then 419 else if l_ = 337 then 420 else if l_ = 338 then 421 else l_) (by decide)), (f19.relab (fun l_ => if l_ = 334 then 417 else if l_ = 335 then 418 else if l_ = 336 then 419 else if l_ = 337 then 420 else if l_ = 338 then 421 else l_) rfl), (f3331.relab (fun l_ => if l_ = 334 then 417 else if l_ = 335 then 418 else if l_ = 336 then 419 else if l_ = 337 then 420 else if l_ = 338 then 421 else l_) rfl), (f3335.relab (fun l_ => if l_ = 334 then 417 else if l_ = 335 then 418 else if l_ = 336 then 419 else if l_ = 337 then 420 else if l_ = 338 then 421 else l_) rfl), (f3343.relab (fun l_ => if l_ = 334 then 417 else if l_ = 335 then 418 else if l_ = 336 then 419 else if l_ = 337 then 420 else if l_ = 338 then 421 else l_) rfl), (f42.relab (fun l_ => if l_ = 334 then 417 else if l_ = 335 then 418 else if l_ = 336 then 419 else if l_ = 337 then 420 else if l_ = 338 then 421 else l_) rfl), (f900040.relab (fun l_ => if l_ = 334 then 417 else if l_ = 335 then 418 else if l_ = 336 then 419 else if l_ = 337 then 420 else if l_ = 338 then 421 else l_) rfl), H⟩
  · rw [b9] at hk H
    replace H := bifT H
    refine x_if hk (b := true) rfl ?_
    refine (show Code.wpIn _ _ _ _ _ _ _ from ?_)
    refine x_seq ?_
    refine wpIn_region_lit ?_
    refine x_run tab hk (k := 1) (lv := []) (ks := [6]) (e' := [(6, .bool false)]) rfl trivial fun a hk => ?_
    refine wpListIn_nil ?_
    refine then_n ?_
    refine wpIn_ret ?_
    refine then_r ?_
    obtain rfl := Option.some.inj H
    exact x_retG hk (rs := [.tmp 6]) (vs := [.bool false]) rfl ⟨rfl, trivial⟩ ⟨cl w oi o [] (fun l_ => if l_ = 1 then LF else 0) o7, rfl, hs.closeF (Lm := []) (Sh := []) hoa rfl (fun l_ => if l_ = 1 then LF else 0)⟩

end Go.Proofs.Ytmgopcmdljhjoaa
