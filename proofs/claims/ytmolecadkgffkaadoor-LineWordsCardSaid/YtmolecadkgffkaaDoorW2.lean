/- Walks, printed by an own program: the machine's calls compute the plain functions. -/
import Derived.Test.YtmolecadkgffkaaDoorW1
set_option linter.unusedVariables false
set_option linter.unusedSimpArgs false
namespace Go.Proofs.YtmolecadkgffkaaDoor
open Go Go.Proofs.XC
/-! tidewrack/tidewracklaw01.Cut -/
theorem tidewracklaw01_Cut_calls (p0 : ByteArray) (p1 : Int) (w : World) (o : Nat → Nat)   (r : ByteArray) (H : tidewracklaw01_Cut p0 p1 = some r) :
    Calls Tryd.prog 8 #[.string p0, .int .i64 p1] w (Ret fun v_ w' => ∃ o' : Nat → Nat, v_ = .string r ∧ St [] w o w' o') := by
  refine x_enter (vs := [.string p0, .int .i64 p1]) Tryd.func8 rfl rfl rfl fun a hk => ?_
  obtain ⟨o0, hs, h0⟩ := St.start w o
  clear h0
  rw [tidewracklaw01_Cut] at H
  refine x_seq ?_
  refine wpIn_region_lit ?_
  refine x_run tab hk (k := 1) (lv := []) (ks := [0, 1]) (e' := [(0, .string p0), (1, .int .i64 p1)]) rfl trivial fun a hk => ?_
  refine wpListIn_nil ?_
  refine then_n ?_
  refine x_seq ?_
  refine x_seq ?_
  refine wpIn_region_lit ?_
  refine x_run tab hk (k := 4) (lv := []) (ks := [0, 1, 8]) (e' := [(0, .string p0), (1, .int .i64 p1), (8, .bool (decide (((p0).size : Int) > p1)))]) rfl trivial fun a hk => ?_
  refine wpListIn_nil ?_
  refine then_n ?_
  cases b1 : (decide (((p0).size : Int) > p1))
  · rw [b1] at hk H
    replace H := bifF H
    refine x_if hk (b := false) rfl ?_
    refine (show Code.wpIn _ _ _ _ _ _ _ from ?_)
    refine wpIn_skip ?_
    refine then_n ?_
    refine x_seq ?_
    refine wpIn_region_lit ?_
    refine x_run tab hk (k := 2) (lv := []) (ks := [4]) (e' := [(4, .string p0)]) rfl trivial fun a hk => ?_
    refine wpListIn_nil ?_
    refine then_n ?_
    refine wpIn_ret ?_
    obtain rfl := Option.some.inj H
    exact x_retG hk (rs := [.tmp 4]) (vs := [.string p0]) rfl ⟨rfl, trivial⟩ ⟨fun b_ => if b_ < w.heap.size then o b_ else (fun _ => 0) (o0 b_), rfl, hs.close0 o (fun _ => 0)⟩
  · rw [b1] at hk H
    replace H := bifT H
    refine x_if hk (b := true) rfl ?_
    refine (show Code.wpIn _ _ _ _ _ _ _ from ?_)
    refine x_seq ?_
    refine wpIn_region_lit ?_
    obtain ⟨q2, H⟩ := ifS H
    obtain ⟨q3, H⟩ := ifS H
    refine x_run tab hk (k := 4) (lv := []) (ks := [4]) (e' := [(4, .string (ByteArray.extract p0 0 (Int.toNat p1)))]) rfl ⟨q2, q3, trivial⟩ fun a hk => ?_
    refine wpListIn_nil ?_
    refine then_n ?_
    refine wpIn_ret ?_
    refine then_r ?_
    obtain rfl := Option.some.inj H
    exact x_retG hk (rs := [.tmp 4]) (vs := [.string (ByteArray.extract p0 0 (Int.toNat p1))]) rfl ⟨rfl, trivial⟩ ⟨fun b_ => if b_ < w.heap.size then o b_ else (fun _ => 0) (o0 b_), rfl, hs.close0 o (fun _ => 0)⟩

/-! tidewrack/tidewracklaw01.Same -/
set_option maxHeartbeats 4000000 in
set_option maxRecDepth 20000 in
theorem tidewracklaw01_Same_calls (K : Nat) (Ap0 : Option Addr) (cp0 : Nat) (p0 : List Int) (Ap1 : Option Addr) (cp1 : Nat) (p1 : List Int) (w : World) (o : Nat → Nat) (Lp0 : Nat) (hp0 : Ft (RdC (encInt .i64) Ap0 p0) w o Lp0) (hcp0 : (p0).length ≤ cp0) (Lp1 : Nat) (hp1 : Ft (RdC (encInt .i64) Ap1 p1) w o Lp1) (hcp1 : (p1).length ≤ cp1)  (r : Bool) (H : tidewracklaw01_Same K p0 p1 = some r) :
    Calls Tryd.prog 21 #[.slice Ap0 (p0).length cp0, .slice Ap1 (p1).length cp1] w (Ret fun v_ w' => ∃ o' : Nat → Nat, v_ = .bool r ∧ St [] w o w' o') := by
  refine x_enter (vs := [.slice Ap0 (p0).length cp0, .slice Ap1 (p1).length cp1]) Tryd.func21 rfl rfl rfl fun a hk => ?_
  obtain ⟨o0, hs, h0⟩ := St.start w o
  have f900000 := h0 _ _ hp0
  have f900020 := h0 _ _ hp1
  clear h0
  rw [tidewracklaw01_Same] at H
  refine x_seq ?_
  refine wpIn_region_lit ?_
  refine x_run tab hk (k := 1) (lv := []) (ks := [0, 1]) (e' := [(0, .slice Ap0 (p0).length cp0), (1, .slice Ap1 (p1).length cp1)]) rfl trivial fun a hk => ?_
  refine wpListIn_nil ?_
  refine then_n ?_
  refine x_seq ?_
  refine x_seq ?_
  refine wpIn_region_lit ?_
  refine x_run tab hk (k := 5) (lv := []) (ks := [0, 1, 10]) (e' := [(0, .slice Ap0 (p0).length cp0), (1, .slice Ap1 (p1).length cp1), (10, .bool (((p0).length : Int) != ((p1).length : Int)))]) rfl trivial fun a hk => ?_
  refine wpListIn_nil ?_
  refine then_n ?_
  cases b1 : (((p0).length : Int) != ((p1).length : Int))
  · rw [b1] at hk H
    replace H := bifF H
    refine x_if hk (b := false) rfl ?_
    refine (show Code.wpIn _ _ _ _ _ _ _ from ?_)
    refine wpIn_skip ?_
    refine then_n ?_
    refine x_mid (fun a_ w_ => ∃ o62 : Nat → Nat, Kn 26 a_ [] ∧ St [] w (fun _ => 0) w_ o62 ∧ tidewracklaw01_Same_j1 = some r) ?_ ?_
    rotate_left
    · rintro a w63 ⟨o62, hk, hs, H⟩
      unfold tidewracklaw01_Same_j1 at H
      refine x_seq ?_
      refine wpIn_region_lit ?_
      refine x_run tab hk (k := 1) (lv := []) (ks := [4]) (e' := [(4, .bool true)]) rfl trivial fun a hk => ?_
      refine wpListIn_nil ?_
      refine then_n ?_
      refine wpIn_ret ?_
      obtain rfl := Option.some.inj H
      exact x_retG hk (rs := [.tmp 4]) (vs := [.bool true]) rfl ⟨rfl, trivial⟩ ⟨fun b_ => if b_ < w.heap.size then o b_ else (fun _ => 0) (o62 b_), rfl, hs.close0 o (fun _ => 0)⟩
    refine x_seq ?_
    refine wpIn_region_lit ?_
    refine x_run tab hk (k := 3) (lv := []) (ks := [0, 1, 12, 13]) (e' := [(0, .slice Ap0 (p0).length cp0), (1, .slice Ap1 (p1).length cp1), (12, .int .i64 ((p0).length : Int)), (13, .int .i64 0)]) rfl trivial fun a hk => ?_
    refine wpListIn_nil ?_
    refine then_n ?_
    refine wpIn_block ?_
    refine x_loop (fun j_ a_ w_ => ∃ o83 : Nat → Nat, ∃ x84 : Int, Kn 26 a_ [(0, .slice Ap0 (p0).length cp0), (1, .slice Ap1 (p1).length cp1), (12, .int .i64 ((p0).length : Int)), (13, .int .i64 x84)] ∧ St [] w (fun _ => 0) w_ o83 ∧ Ft (RdC (encInt .i64) Ap0 p0) w_ o83 0 ∧ Ft (RdC (encInt .i64) Ap1 p1) w_ o83 0 ∧ tidewracklaw01_Same_l2 p0 p1 j_ x84 = some r) (k := K) ⟨o0, 0, (by exact Kn.pick (ks := [0, 1, 12, 13]) hk rfl), hs, f900000, f900020, H⟩ (by rintro _ _ ⟨_, _, _, _, _, _, H_⟩; exact absurd (show (none : Option Bool) = some r from H_) (by simp)) ?_
    rintro k102 a w101 ⟨o83, x84, hk, hs, f900000, f900020, H⟩
    rw [tidewracklaw01_Same_l2] at H
    obtain ⟨lp103, hlp104⟩ : ∃ lp_, lp_ = tidewracklaw01_Same_l2 p0 p1 k102 := ⟨_, rfl⟩
    rw [← hlp104] at H
    refine x_seq ?_
    refine wpIn_region_lit ?_
    refine x_run tab hk (k := 1) (lv := []) (ks := [0, 1, 12, 13, 14]) (e' := [(0, .slice Ap0 (p0).length cp0), (1, .slice Ap1 (p1).length cp1), (12, .int .i64 ((p0).length : Int)), (13, .int .i64 x84), (14, .bool (decide (x84 < ((p0).length : Int))))]) rfl trivial fun a hk => ?_
    refine wpListIn_nil ?_
    refine then_n ?_
    refine x_seq ?_
    cases b105 : (decide (x84 < ((p0).length : Int)))
    · rw [b105] at hk H
      replace H := bifF H
      refine x_if hk (b := false) rfl ?_
      refine (show Code.wpIn _ _ _ _ _ _ _ from ?_)
      refine wpIn_exit ?_
      refine then_x ?_
      refine then_x ?_
      refine blk_x ?_
      refine then_n ?_
      exact ⟨o83, (by exact Kn.pick (ks := []) hk rfl), hs, H⟩
    · rw [b105] at hk H
      replace H := bifT H
      refine x_if hk (b := true) rfl ?_
      refine (show Code.wpIn _ _ _ _ _ _ _ from ?_)
      refine wpIn_skip ?_
      refine then_n ?_
      refine x_seq ?_
      refine wpIn_block ?_
      refine x_seq ?_
      refine wpIn_region_lit ?_
      refine x_run tab hk (k := 2) (lv := []) (ks := [0, 1, 5, 12, 13]) (e' := [(0, .slice Ap0 (p0).length cp0), (1, .slice Ap1 (p1).length cp1), (5, .int .i64 x84), (12, .int .i64 ((p0).length : Int)), (13, .int .i64 x84)]) rfl trivial fun a hk => ?_
      refine wpListIn_nil ?_
      refine then_n ?_
      refine x_seq ?_
      refine xd_begin (o := o83) (fun W_ => (RdC (encInt .i64) Ap0 p0) W_ ∧ (RdC (encInt .i64) Ap1 p1) W_ ∧ True) mixed rfl rfl fun w114 st115 => ?_
      replace f900000 := f900000.st st115 (by decide)
      replace f900020 := f900020.st st115 (by decide)
      replace hs := hs.loc0 st115 (by decide)
      obtain ⟨q116, H⟩ := ifS H
      obtain ⟨ad117, hAad117⟩ := RdC.addr f900000.now q116
      have hk_C := hk
      have f900000_C := f900000
      have f900020_C := f900020
      subst hAad117
      have hk := hk_C
      clear hk_C
      have f900000 := f900000_C
      clear f900000_C
      have f900020 := f900020_C
      clear f900020_C
      refine xd_take tab hk (k := 3) (is := [0, 1, 2, 3, 4, 5]) (ls' := #[true, true, true, true, true, true, false, false, false]) (lv := [.int .i64 (rdD 0 p0 x84)]) (ks := [0, 1, 12, 13, 19, 20, 21]) (e' := [(0, .slice (some ad117) (p0).length cp0), (1, .slice Ap1 (p1).length cp1), (12, .int .i64 ((p0).length : Int)), (13, .int .i64 x84), (19, .int .i64 (rdD 0 p0 x84)), (20, .slice Ap1 (p1).length cp1), (21, .int .i64 x84)]) (by kernel_rfl) rfl rfl (by kernel_rfl) (np_then (np_blk (np_then (np_then (np_blk (np_then np_body)))))) ⟨f900000.now, f900020.now, trivial⟩ (fun W_ hS => ⟨q116, (load1 tab rfl (RdC.at0 (E := (encInt .i64)) (d := 0) (i := x84) hS.1 q116 rfl)), trivial⟩) fun a hk => ?_
      obtain ⟨q118, H⟩ := ifS H
      obtain ⟨ad119, hAad119⟩ := RdC.addr f900020.now q118
      have hk_C := hk
      have f900000_C := f900000
      have f900020_C := f900020
      subst hAad119
      have hk := hk_C
      clear hk_C
      have f900000 := f900000_C
      clear f900000_C
      have f900020 := f900020_C
      clear f900020_C
      refine xd_take tab hk (k := 0) (is := [6, 7, 8]) (ls' := #[true, true, true, true, true, true, true, true, true]) (lv := [.int .i64 (rdD 0 p1 x84)]) (ks := [0, 1, 12, 13, 24]) (e' := [(0, .slice (some ad117) (p0).length cp0), (1, .slice (some ad119) (p1).length cp1), (12, .int .i64 ((p0).length : Int)), (13, .int .i64 x84), (24, .bool ((rdD 0 p0 x84) != (rdD 0 p1 x84)))]) (by kernel_rfl) rfl rfl (by kernel_rfl) (np_then (np_blk (np_then (np_then (np_blk (np_then np_body)))))) ⟨f900000.now, f900020.now, trivial⟩ (fun W_ hS => ⟨q118, (load1 tab rfl (RdC.at0 (E := (encInt .i64)) (d := 0) (i := x84) hS.2.1 q118 rfl)), trivial⟩) fun a hk => ?_
      refine xd_done (by kernel_rfl) ?_
      refine then_n ?_
      cases b120 : ((rdD 0 p0 x84) != (rdD 0 p1 x84))
      · rw [b120] at hk H
        replace H := bifF H
        refine x_if hk (b := false) rfl ?_
        refine (show Code.wpIn _ _ _ _ _ _ _ from ?_)
        refine wpIn_skip ?_
        refine blk_n ?_
        refine then_n ?_
        refine wpIn_region_lit ?_
        refine x_run tab hk (k := 2) (lv := []) (ks := [0, 1, 12, 13]) (e' := [(0, .slice (some ad117) (p0).length cp0), (1, .slice (some ad119) (p1).length cp1), (12, .int .i64 ((p0).length : Int)), (13, .int .i64 (IntKind.wrap .i64 (x84 + 1)))]) rfl trivial fun a hk => ?_
        refine wpListIn_nil ?_
        refine then_n ?_
        exact ⟨k102, Nat.le_refl _, o83, (IntKind.wrap .i64 (x84 + 1)), (by exact Kn.pick (ks := [0, 1, 12, 13]) hk rfl), hs, f900000, f900020, (hlp104 ▸ H)⟩
      · rw [b120] at hk H
        replace H := bifT H
        refine x_if hk (b := true) rfl ?_
        refine (show Code.wpIn _ _ _ _ _ _ _ from ?_)
        refine x_seq ?_
        refine wpIn_region_lit ?_
        refine x_run tab hk (k := 1) (lv := []) (ks := [4]) (e' := [(4, .bool false)]) rfl trivial fun a hk => ?_
        refine wpListIn_nil ?_
        refine then_n ?_
        refine wpIn_ret ?_
        refine blk_r ?_
        refine then_r ?_
        refine then_r ?_
        refine blk_r ?_
        refine then_r ?_
        obtain rfl := Option.some.inj H
        exact x_retG hk (rs := [.tmp 4]) (vs := [.bool false]) rfl ⟨rfl, trivial⟩ ⟨fun b_ => if b_ < w.heap.size then o b_ else (fun _ => 0) (o83 b_), rfl, hs.close0 o (fun _ => 0)⟩
  · rw [b1] at hk H
    replace H := bifT H
    refine x_if hk (b := true) rfl ?_
    refine (show Code.wpIn _ _ _ _ _ _ _ from ?_)
    refine x_seq ?_
    refine wpIn_region_lit ?_
    refine x_run tab hk (k := 1) (lv := []) (ks := [4]) (e' := [(4, .bool false)]) rfl trivial fun a hk => ?_
    refine wpListIn_nil ?_
    refine then_n ?_
    refine wpIn_ret ?_
    refine then_r ?_
    obtain rfl := Option.some.inj H
    exact x_retG hk (rs := [.tmp 4]) (vs := [.bool false]) rfl ⟨rfl, trivial⟩ ⟨fun b_ => if b_ < w.heap.size then o b_ else (fun _ => 0) (o0 b_), rfl, hs.close0 o (fun _ => 0)⟩

/-! tidewrack/tidewracklaw27.Is -/
theorem tidewracklaw27_Is_calls (K : Nat) (Ap0_0 : Option Addr) (cp0_0 : Nat) (p0 : T25) (Ap1_0 : Option Addr) (cp1_0 : Nat) (p1 : T25) (w : World) (o : Nat → Nat) (Lp0_0 : Nat) (hp0_0 : Ft (RdC (encInt .i64) Ap0_0 p0.Nums) w o Lp0_0) (hcp0_0 : (p0.Nums).length ≤ cp0_0) (Lp1_0 : Nat) (hp1_0 : Ft (RdC (encInt .i64) Ap1_0 p1.Nums) w o Lp1_0) (hcp1_0 : (p1.Nums).length ≤ cp1_0)  (r : Bool) (H : tidewracklaw27_Is K p0 p1 = some r) :
    Calls Tryd.prog 11 #[.agg #[.string p0.Word, .slice Ap0_0 (p0.Nums).length cp0_0, .string p0.Text], .agg #[.string p1.Word, .slice Ap1_0 (p1.Nums).length cp1_0, .string p1.Text]] w (Ret fun v_ w' => ∃ o' : Nat → Nat, v_ = .bool r ∧ St [] w o w' o') := by
  refine x_enter (vs := [.agg #[.string p0.Word, .slice Ap0_0 (p0.Nums).length cp0_0, .string p0.Text], .agg #[.string p1.Word, .slice Ap1_0 (p1.Nums).length cp1_0, .string p1.Text]]) Tryd.func11 rfl rfl rfl fun a hk => ?_
  obtain ⟨o0, hs, h0⟩ := St.start w o
  have f900000 := h0 _ _ hp0_0
  have f900020 := h0 _ _ hp1_0
  clear h0
  rw [tidewracklaw27_Is] at H
  refine x_seq ?_
  refine wpIn_region_lit ?_
  refine x_op hk rfl ?_
  refine op_box (o := o0) (t := 26) (v := .agg #[.string p0.Word, .slice Ap0_0 (p0.Nums).length cp0_0, .string p0.Text]) (cs := [.string p0.Word, .slice Ap0_0 (p0.Nums).length cp0_0, .string p0.Text]) hk rfl rfl 1 fun bx4 w1 o2 st3 f5 => ?_
  replace f900000 := f900000.st st3 (by decide)
  replace f900020 := f900020.st st3 (by decide)
  replace hs := hs.loc0 st3 (by decide)
  have hk := hk.put 2 (.pointer (some ⟨bx4, 0, none⟩)) rfl
  refine x_op hk rfl ?_
  refine op_box (o := o2) (t := 30) (v := .agg #[.string p1.Word, .slice Ap1_0 (p1.Nums).length cp1_0, .string p1.Text]) (cs := [.string p1.Word, .slice Ap1_0 (p1.Nums).length cp1_0, .string p1.Text]) hk rfl rfl 2 fun bx9 w6 o7 st8 f10 => ?_
  replace f5 := f5.st st8 (by decide)
  replace f900000 := f900000.st st8 (by decide)
  replace f900020 := f900020.st st8 (by decide)
  replace hs := hs.loc0 st8 (by decide)
  have hk := hk.put 3 (.pointer (some ⟨bx9, 0, none⟩)) rfl
  refine x_run tab hk (k := 1) (lv := []) (ks := [2, 3]) (e' := [(2, .pointer (some ⟨bx4, 0, none⟩)), (3, .pointer (some ⟨bx9, 0, none⟩))]) rfl trivial fun a hk => ?_
  refine wpListIn_nil ?_
  refine then_n ?_
  refine x_seq ?_
  refine wpIn_region_lit ?_
  refine x_run tab hk (k := 6) (lv := [.string p0.Word, .string p1.Word]) (ks := [2, 3, 10]) (e' := [(2, .pointer (some ⟨bx4, 0, none⟩)), (3, .pointer (some ⟨bx9, 0, none⟩)), (10, .bool (ByteArray.toList p0.Word == ByteArray.toList p1.Word))]) rfl ⟨(load1 tab rfl ((Bx.cell f5.now 0).trans rfl)), (load1 tab rfl ((Bx.cell f10.now 0).trans rfl)), trivial⟩ fun a hk => ?_
  cases b11 : (ByteArray.toList p0.Word == ByteArray.toList p1.Word)
  · rw [b11] at hk H
    replace H := bifF H
    refine x_run tab hk (k := 12) (lv := []) (ks := [17, 22]) (e' := [(17, .bool false), (22, undef)]) rfl trivial fun a hk => ?_
    refine x_run tab hk (k := 2) (lv := []) (ks := [4]) (e' := [(4, .bool false)]) rfl trivial fun a hk => ?_
    refine wpListIn_nil ?_
    refine then_n ?_
    refine wpIn_ret ?_
    obtain rfl := Option.some.inj H
    exact x_retG hk (rs := [.tmp 4]) (vs := [.bool false]) rfl ⟨rfl, trivial⟩ ⟨fun b_ => if b_ < w.heap.size then o b_ else (fun _ => 0) (o7 b_), rfl, hs.close0 o (fun _ => 0)⟩
  · rw [b11] at hk H
    replace H := bifT H
    refine x_run tab hk (k := 4) (lv := [.slice Ap0_0 (p0.Nums).length cp0_0, .slice Ap1_0 (p1.Nums).length cp1_0]) (ks := [2, 3, 10, 12, 14]) (e' := [(2, .pointer (some ⟨bx4, 0, none⟩)), (3, .pointer (some ⟨bx9, 0, none⟩)), (10, .bool true), (12, .slice Ap0_0 (p0.Nums).length cp0_0), (14, .slice Ap1_0 (p1.Nums).length cp1_0)]) rfl ⟨(load1 tab rfl ((Bx.cell f5.now 1).trans rfl)), (load1 tab rfl ((Bx.cell f10.now 1).trans rfl)), trivial⟩ fun a hk => ?_
    refine x_op hk rfl ?_
    obtain ⟨t15, hc16, H⟩ := bindS H
    refine op_call hk ent_21 (vs := [.slice Ap0_0 (p0.Nums).length cp0_0, .slice Ap1_0 (p1.Nums).length cp1_0]) rfl (tidewracklaw01_Same_calls K Ap0_0 cp0_0 p0.Nums Ap1_0 cp1_0 p1.Nums _ o7 _ f900000 hcp0_0 _ f900020 hcp1_0   _ hc16) ?_
    rintro _ w17 ⟨o18, rfl, st19⟩
    replace f10 := f10.st st19 (by decide)
    replace f5 := f5.st st19 (by decide)
    replace f900000 := f900000.st st19 (by decide)
    replace f900020 := f900020.st st19 (by decide)
    replace hs := hs.loc0 st19 (by decide)
    have hk := hk.put 15 (.bool t15) rfl
    refine x_run tab hk (k := 2) (lv := []) (ks := [2, 3, 17]) (e' := [(2, .pointer (some ⟨bx4, 0, none⟩)), (3, .pointer (some ⟨bx9, 0, none⟩)), (17, .bool t15)]) rfl trivial fun a hk => ?_
    cases b20 : t15
    · rw [b20] at hk H
      replace H := bifF H
      refine x_run tab hk (k := 7) (lv := []) (ks := [4]) (e' := [(4, .bool false)]) rfl trivial fun a hk => ?_
      refine wpListIn_nil ?_
      refine then_n ?_
      refine wpIn_ret ?_
      obtain rfl := Option.some.inj H
      exact x_retG hk (rs := [.tmp 4]) (vs := [.bool false]) rfl ⟨rfl, trivial⟩ ⟨fun b_ => if b_ < w.heap.size then o b_ else (fun _ => 0) (o18 b_), rfl, hs.close0 o (fun _ => 0)⟩
    · rw [b20] at hk H
      replace H := bifT H
      refine x_run tab hk (k := 7) (lv := [.string p0.Text, .string p1.Text]) (ks := [4]) (e' := [(4, .bool (ByteArray.toList p0.Text == ByteArray.toList p1.Text))]) rfl ⟨(load1 tab rfl ((Bx.cell f5.now 2).trans rfl)), (load1 tab rfl ((Bx.cell f10.now 2).trans rfl)), trivial⟩ fun a hk => ?_
      refine wpListIn_nil ?_
      refine then_n ?_
      refine wpIn_ret ?_
      obtain rfl := Option.some.inj H
      exact x_retG hk (rs := [.tmp 4]) (vs := [.bool (ByteArray.toList p0.Text == ByteArray.toList p1.Text)]) rfl ⟨rfl, trivial⟩ ⟨fun b_ => if b_ < w.heap.size then o b_ else (fun _ => 0) (o18 b_), rfl, hs.close0 o (fun _ => 0)⟩

/-! tidewrack/tidewracklaw27.LineTexts -/
set_option maxHeartbeats 4000000 in
set_option maxRecDepth 20000 in
theorem tidewracklaw27_LineTexts_calls (K : Nat) (p0 : ByteArray) (p1 : Int) (p2 : Int) (w : World) (o : Nat → Nat) (Lg0 : Nat) (hg0 : Ft (RdC ET47 (some ⟨0, 0, none⟩) glob0) w o Lg0) (Lg1 : Nat) (hg1 : Ft (GInt 1) w o Lg1) (Lg2 : Nat) (hg2 : Ft (GIface 2) w o Lg2) (Lg3 : Nat) (hg3 : Ft (GIface 3) w o Lg3) (Lg4 : Nat) (hg4 : Ft (GTab Tryd.prog "internal/strconv.uint64pow10" .u64 Lib.pow10Tab) w o Lg4)   (r : Bool) (H : tidewracklaw27_LineTexts K p0 p1 p2 = some r) :
    Calls Tryd.prog 4 #[.string p0, .int .u32 p1, .int .u32 p2] w (Ret fun v_ w' => ∃ o' : Nat → Nat, v_ = .bool r ∧ St [] w o w' o') := by
  refine x_enter (vs := [.string p0, .int .u32 p1, .int .u32 p2]) Tryd.func4 rfl rfl rfl fun a hk => ?_
  obtain ⟨o0, hs, h0⟩ := St.start w o
  have fg0 := h0 _ _ hg0
  have fg1 := h0 _ _ hg1
  have fg2 := h0 _ _ hg2
  have fg3 := h0 _ _ hg3
  have fg4 := h0 _ _ hg4
  clear h0
  rw [tidewracklaw27_LineTexts] at H
  refine x_seq ?_
  refine wpIn_region_lit ?_
  refine x_run tab hk (k := 1) (lv := []) (ks := [0, 1, 2]) (e' := [(0, .string p0), (1, .int .u32 p1), (2, .int .u32 p2)]) rfl trivial fun a hk => ?_
  refine wpListIn_nil ?_
  refine then_n ?_
  refine x_seq ?_
  refine x_seq ?_
  refine wpIn_region_lit ?_
  refine x_op hk rfl ?_
  obtain ⟨t4, hc5, H⟩ := bindS H
  refine op_call hk ent_7 (vs := []) rfl (tidewracklaw27_awake_calls K  _ o0 0 fg0 0 fg1 0 fg2 0 fg3 0 fg4   _ hc5) ?_
  rintro _ w6 ⟨o7, rfl, st8⟩
  replace fg0 := fg0.st st8 (by decide)
  replace fg1 := fg1.st st8 (by decide)
  replace fg2 := fg2.st st8 (by decide)
  replace fg3 := fg3.st st8 (by decide)
  replace fg4 := fg4.st st8 (by decide)
  replace hs := hs.loc0 st8 (by decide)
  have hk := hk.put 11 (.bool t4) rfl
  refine x_run tab hk (k := 1) (lv := []) (ks := [0, 1, 2, 12]) (e' := [(0, .string p0), (1, .int .u32 p1), (2, .int .u32 p2), (12, .bool (!t4))]) rfl trivial fun a hk => ?_
  refine wpListIn_nil ?_
  refine then_n ?_
  cases b9 : (!t4)
  · rw [b9] at hk H
    replace H := bifF H
    refine x_if hk (b := false) rfl ?_
    refine (show Code.wpIn _ _ _ _ _ _ _ from ?_)
    refine wpIn_skip ?_
    refine then_n ?_
    refine x_seq ?_
    refine wpIn_region_lit ?_
    refine x_run tab hk (k := 1) (lv := []) (ks := [1, 2, 13]) (e' := [(1, .int .u32 p1), (2, .int .u32 p2), (13, .string p0)]) rfl trivial fun a hk => ?_
    refine x_op hk rfl ?_
    obtain ⟨t13, hc14, H⟩ := bindS H
    refine op_call hk ent_8 (vs := [.string p0, .int .i64 600]) rfl (tidewracklaw01_Cut_calls p0 600 _ o7    _ hc14) ?_
    rintro _ w15 ⟨o16, rfl, st17⟩
    replace fg0 := fg0.st st17 (by decide)
    replace fg1 := fg1.st st17 (by decide)
    replace fg2 := fg2.st st17 (by decide)
    replace fg3 := fg3.st st17 (by decide)
    replace fg4 := fg4.st st17 (by decide)
    replace hs := hs.loc0 st17 (by decide)
    have hk := hk.put 14 (.string t13) rfl
    refine x_run tab hk (k := 1) (lv := []) (ks := [0, 1, 2]) (e' := [(0, .string t13), (1, .int .u32 p1), (2, .int .u32 p2)]) rfl trivial fun a hk => ?_
    refine wpListIn_nil ?_
    refine then_n ?_
    refine x_seq ?_
    refine wpIn_region_lit ?_
    refine x_run tab hk (k := 2) (lv := []) (ks := [0, 1, 2, 17]) (e' := [(0, .string t13), (1, .int .u32 p1), (2, .int .u32 p2), (17, .agg #[.string (⟨#[100, 111]⟩ : ByteArray), .slice none 0 0, .string t13])]) rfl trivial fun a hk => ?_
    refine x_op hk rfl ?_
    obtain ⟨t21, hc22, H⟩ := bindS H
    refine op_call hk ent_12 (vs := [.agg #[.string (⟨#[100, 111]⟩ : ByteArray), .slice none 0 0, .string t13]]) rfl (line_Step_Line_calls K none 0 (⟨(⟨#[100, 111]⟩ : ByteArray), ([] : List Int), t13⟩ : T25) _ o16 0 fg0 0 fg4 _ (Ft.of_all (fun _ h_ => absurd h_ (by simp)) _ _ 0) (by simp)   _ hc22) ?_
    rintro _ w23 ⟨o24, rfl, st25⟩
    replace fg0 := fg0.st st25 (by decide)
    replace fg1 := fg1.st st25 (by decide)
    replace fg2 := fg2.st st25 (by decide)
    replace fg3 := fg3.st st25 (by decide)
    replace fg4 := fg4.st st25 (by decide)
    replace hs := hs.loc0 st25 (by decide)
    have hk := hk.put 18 (.string t21) rfl
    refine x_op hk rfl ?_
    obtain ⟨t29, hc30, H⟩ := bindS H
    refine op_call hk ent_9 (vs := [.string t21]) rfl (line_Parse_calls K t21 _ o24 0 fg0 0 fg1 0 fg2 0 fg3 0 fg4 1  _ hc30) ?_
    rintro _ w31 ⟨o32, A34, c35, rfl, st33, f36, hc37⟩
    replace fg0 := fg0.st st33 (by decide)
    replace fg1 := fg1.st st33 (by decide)
    replace fg2 := fg2.st st33 (by decide)
    replace fg3 := fg3.st st33 (by decide)
    replace fg4 := fg4.st st33 (by decide)
    replace hs := hs.loc0 st33 (by decide)
    have hk := hk.put 19 (.tuple #[.agg #[.string t29.1.Word, .slice A34 (t29.1.Nums).length c35, .string t29.1.Text], .int .i64 t29.2]) rfl
    refine x_run tab hk (k := 3) (lv := []) (ks := [0, 1, 2, 20, 21]) (e' := [(0, .string t13), (1, .int .u32 p1), (2, .int .u32 p2), (20, .agg #[.string t29.1.Word, .slice A34 (t29.1.Nums).length c35, .string t29.1.Text]), (21, .int .i64 t29.2)]) rfl trivial fun a hk => ?_
    refine x_op hk rfl ?_
    refine op_alloc (o := o32) tab (t := 26) (cs := [.string (⟨#[]⟩ : ByteArray), .slice none 0 0, .string (⟨#[]⟩ : ByteArray)]) rfl rfl 2 fun bx41 w38 o39 st40 f42 => ?_
    replace f36 := f36.st st40 (by decide)
    replace fg0 := fg0.st st40 (by decide)
    replace fg1 := fg1.st st40 (by decide)
    replace fg2 := fg2.st st40 (by decide)
    replace fg3 := fg3.st st40 (by decide)
    replace fg4 := fg4.st st40 (by decide)
    replace hs := hs.loc0 st40 (by decide)
    have hk := hk.put 7 (.pointer (some ⟨bx41, 0, none⟩)) rfl
    refine x_op hk rfl ?_
    refine op_store tab hk (t := 26) (v := .agg #[.string t29.1.Word, .slice A34 (t29.1.Nums).length c35, .string t29.1.Text]) (b := bx41) (k := 0) (cs' := [.string t29.1.Word, .slice A34 (t29.1.Nums).length c35, .string t29.1.Text]) rfl rfl rfl rfl rfl rfl f42 rfl rfl fun w43 o44 st45 f42_ => ?_
    replace f36 := f36.st st45 (by decide)
    replace fg0 := fg0.st st45 (by decide)
    replace fg1 := fg1.st st45 (by decide)
    replace fg2 := fg2.st st45 (by decide)
    replace fg3 := fg3.st st45 (by decide)
    replace fg4 := fg4.st st45 (by decide)
    replace hs := hs.loc0 st45 (by decide)
    replace f42 := f42_
    refine x_run tab hk (k := 1) (lv := []) (ks := [0, 1, 2, 7, 8]) (e' := [(0, .string t13), (1, .int .u32 p1), (2, .int .u32 p2), (7, .pointer (some ⟨bx41, 0, none⟩)), (8, .int .i64 t29.2)]) rfl trivial fun a hk => ?_
    refine wpListIn_nil ?_
    refine then_n ?_
    refine x_seq ?_
    refine wpIn_region_lit ?_
    refine x_run tab hk (k := 4) (lv := []) (ks := [0, 1, 2, 7, 8, 24, 26]) (e' := [(0, .string t13), (1, .int .u32 p1), (2, .int .u32 p2), (7, .pointer (some ⟨bx41, 0, none⟩)), (8, .int .i64 t29.2), (24, .int .i64 (IntKind.wrap .i64 p1)), (26, .int .i64 (IntKind.wrap .i64 p2))]) rfl trivial fun a hk => ?_
    refine x_op hk rfl ?_
    refine op_slice (o := o44) tab hk (vs := [.int .i64 (IntKind.wrap .i64 p1), .int .i64 (IntKind.wrap .i64 p2)]) (cs := [.int .i64 (IntKind.wrap .i64 p1), .int .i64 (IntKind.wrap .i64 p2)]) rfl rfl rfl rfl rfl rfl rfl rfl rfl 3 fun bx49 w46 o47 st48 f50 => ?_
    replace f36 := f36.st st48 (by decide)
    replace f42 := f42.st st48 (by decide)
    replace fg0 := fg0.st st48 (by decide)
    replace fg1 := fg1.st st48 (by decide)
    replace fg2 := fg2.st st48 (by decide)
    replace fg3 := fg3.st st48 (by decide)
    replace fg4 := fg4.st st48 (by decide)
    replace hs := hs.loc0 st48 (by decide)
    have f51 : Ft (Own (encInt .i64) 3 (.slice (some ⟨bx49, 0, none⟩) (([(IntKind.wrap .i64 p1), (IntKind.wrap .i64 p2)] : List Int)).length 2) ([(IntKind.wrap .i64 p1), (IntKind.wrap .i64 p2)] : List Int)) w46 o47 3 := f50.imp fun _ h_ => Own.of_box h_ rfl (by simp)
    have hk := hk.put 27 (.slice (some ⟨bx49, 0, none⟩) (([(IntKind.wrap .i64 p1), (IntKind.wrap .i64 p2)] : List Int)).length 2) rfl
    refine x_run tab hk (k := 2) (lv := []) (ks := [0, 1, 2, 7, 8, 29]) (e' := [(0, .string t13), (1, .int .u32 p1), (2, .int .u32 p2), (7, .pointer (some ⟨bx41, 0, none⟩)), (8, .int .i64 t29.2), (29, .agg #[.string (⟨#[102, 111, 114, 103, 101]⟩ : ByteArray), .slice (some ⟨bx49, 0, none⟩) (([(IntKind.wrap .i64 p1), (IntKind.wrap .i64 p2)] : List Int)).length 2, .string t13])]) rfl trivial fun a hk => ?_
    refine x_op hk rfl ?_
    obtain ⟨t55, hc56, H⟩ := bindS H
    refine op_call hk ent_12 (vs := [.agg #[.string (⟨#[102, 111, 114, 103, 101]⟩ : ByteArray), .slice (some ⟨bx49, 0, none⟩) (([(IntKind.wrap .i64 p1), (IntKind.wrap .i64 p2)] : List Int)).length 2, .string t13]]) rfl (line_Step_Line_calls K (some ⟨bx49, 0, none⟩) 2 (⟨(⟨#[102, 111, 114, 103, 101]⟩ : ByteArray), ([(IntKind.wrap .i64 p1), (IntKind.wrap .i64 p2)] : List Int), t13⟩ : T25) _ o47 0 fg0 0 fg4 _ (f51.imp fun _ h_ => Own.rd h_) (Nat.le_refl _)   _ hc56) ?_
    rintro _ w57 ⟨o58, rfl, st59⟩
    replace f36 := f36.st st59 (by decide)
    replace f42 := f42.st st59 (by decide)
    replace f51 := f51.st st59 (by decide)
    replace fg0 := fg0.st st59 (by decide)
    replace fg1 := fg1.st st59 (by decide)
    replace fg2 := fg2.st st59 (by decide)
    replace fg3 := fg3.st st59 (by decide)
    replace fg4 := fg4.st st59 (by decide)
    replace hs := hs.loc0 st59 (by decide)
    have hk := hk.put 30 (.string t55) rfl
    refine x_op hk rfl ?_
    obtain ⟨t63, hc64, H⟩ := bindS H
    refine op_call hk ent_9 (vs := [.string t55]) rfl (line_Parse_calls K t55 _ o58 0 fg0 0 fg1 0 fg2 0 fg3 0 fg4 4  _ hc64) ?_
    rintro _ w65 ⟨o66, A68, c69, rfl, st67, f70, hc71⟩
    replace f36 := f36.st st67 (by decide)
    replace f42 := f42.st st67 (by decide)
    replace f51 := f51.st st67 (by decide)
    replace fg0 := fg0.st st67 (by decide)
    replace fg1 := fg1.st st67 (by decide)
    replace fg2 := fg2.st st67 (by decide)
    replace fg3 := fg3.st st67 (by decide)
    replace fg4 := fg4.st st67 (by decide)
    replace hs := hs.loc0 st67 (by decide)
    have hk := hk.put 31 (.tuple #[.agg #[.string t63.1.Word, .slice A68 (t63.1.Nums).length c69, .string t63.1.Text], .int .i64 t63.2]) rfl
    refine x_run tab hk (k := 3) (lv := []) (ks := [0, 1, 2, 7, 8, 32, 33]) (e' := [(0, .string t13), (1, .int .u32 p1), (2, .int .u32 p2), (7, .pointer (some ⟨bx41, 0, none⟩)), (8, .int .i64 t29.2), (32, .agg #[.string t63.1.Word, .slice A68 (t63.1.Nums).length c69, .string t63.1.Text]), (33, .int .i64 t63.2)]) rfl trivial fun a hk => ?_
    refine x_op hk rfl ?_
    refine op_alloc (o := o66) tab (t := 26) (cs := [.string (⟨#[]⟩ : ByteArray), .slice none 0 0, .string (⟨#[]⟩ : ByteArray)]) rfl rfl 5 fun bx75 w72 o73 st74 f76 => ?_
    replace f36 := f36.st st74 (by decide)
    replace f42 := f42.st st74 (by decide)
    replace f70 := f70.st st74 (by decide)
    replace fg0 := fg0.st st74 (by decide)
    replace fg1 := fg1.st st74 (by decide)
    replace fg2 := fg2.st st74 (by decide)
    replace fg3 := fg3.st st74 (by decide)
    replace fg4 := fg4.st st74 (by decide)
    replace hs := hs.loc0 st74 (by decide)
    have hk := hk.put 9 (.pointer (some ⟨bx75, 0, none⟩)) rfl
    refine x_op hk rfl ?_
    refine op_store tab hk (t := 26) (v := .agg #[.string t63.1.Word, .slice A68 (t63.1.Nums).length c69, .string t63.1.Text]) (b := bx75) (k := 0) (cs' := [.string t63.1.Word, .slice A68 (t63.1.Nums).length c69, .string t63.1.Text]) rfl rfl rfl rfl rfl rfl f76 rfl rfl fun w77 o78 st79 f76_ => ?_
    replace f36 := f36.st st79 (by decide)
    replace f42 := f42.st st79 (by decide)
    replace f70 := f70.st st79 (by decide)
    replace fg0 := fg0.st st79 (by decide)
    replace fg1 := fg1.st st79 (by decide)
    replace fg2 := fg2.st st79 (by decide)
    replace fg3 := fg3.st st79 (by decide)
    replace fg4 := fg4.st st79 (by decide)
    replace hs := hs.loc0 st79 (by decide)
    replace f76 := f76_
    refine x_run tab hk (k := 1) (lv := []) (ks := [0, 1, 2, 7, 8, 9, 10]) (e' := [(0, .string t13), (1, .int .u32 p1), (2, .int .u32 p2), (7, .pointer (some ⟨bx41, 0, none⟩)), (8, .int .i64 t29.2), (9, .pointer (some ⟨bx75, 0, none⟩)), (10, .int .i64 t63.2)]) rfl trivial fun a hk => ?_
    refine wpListIn_nil ?_
    refine then_n ?_
    refine x_seq ?_
    refine wpIn_region_lit ?_
    refine x_run tab hk (k := 3) (lv := []) (ks := [0, 1, 2, 7, 9, 10, 36]) (e' := [(0, .string t13), (1, .int .u32 p1), (2, .int .u32 p2), (7, .pointer (some ⟨bx41, 0, none⟩)), (9, .pointer (some ⟨bx75, 0, none⟩)), (10, .int .i64 t63.2), (36, .bool (t29.2 == (0 : Int)))]) rfl trivial fun a hk => ?_
    cases b80 : (t29.2 == (0 : Int))
    · rw [b80] at hk H
      replace H := bifF H
      refine x_run tab hk (k := 19) (lv := []) (ks := [46, 55]) (e' := [(46, .bool false), (55, undef)]) rfl trivial fun a hk => ?_
      refine x_run tab hk (k := 2) (lv := []) (ks := [6]) (e' := [(6, .bool false)]) rfl trivial fun a hk => ?_
      refine wpListIn_nil ?_
      refine then_n ?_
      refine wpIn_ret ?_
      obtain rfl := Option.some.inj H
      exact x_retG hk (rs := [.tmp 6]) (vs := [.bool false]) rfl ⟨rfl, trivial⟩ ⟨fun b_ => if b_ < w.heap.size then o b_ else (fun _ => 0) (o78 b_), rfl, hs.close0 o (fun _ => 0)⟩
    · rw [b80] at hk H
      replace H := bifT H
      refine x_run tab hk (k := 3) (lv := [.agg #[.string t29.1.Word, .slice A34 (t29.1.Nums).length c35, .string t29.1.Text]]) (ks := [0, 1, 2, 9, 10, 36, 37, 39]) (e' := [(0, .string t13), (1, .int .u32 p1), (2, .int .u32 p2), (9, .pointer (some ⟨bx75, 0, none⟩)), (10, .int .i64 t63.2), (36, .bool true), (37, .agg #[.string t29.1.Word, .slice A34 (t29.1.Nums).length c35, .string t29.1.Text]), (39, .agg #[.string (⟨#[100, 111]⟩ : ByteArray), .slice none 0 0, .string t13])]) rfl ⟨(load_box tab rfl rfl f42.now (k := 0) rfl rfl), trivial⟩ fun a hk => ?_
      refine x_op hk rfl ?_
      obtain ⟨t84, hc85, H⟩ := bindS H
      refine op_call hk ent_11 (vs := [.agg #[.string t29.1.Word, .slice A34 (t29.1.Nums).length c35, .string t29.1.Text], .agg #[.string (⟨#[100, 111]⟩ : ByteArray), .slice none 0 0, .string t13]]) rfl (tidewracklaw27_Is_calls K A34 c35 t29.1 none 0 (⟨(⟨#[100, 111]⟩ : ByteArray), ([] : List Int), t13⟩ : T25) _ o78 _ (f36.imp fun _ h_ => Own.rd h_) hc37 _ (Ft.of_all (fun _ h_ => absurd h_ (by simp)) _ _ 0) (by simp)   _ hc85) ?_
      rintro _ w86 ⟨o87, rfl, st88⟩
      replace f36 := f36.st st88 (by decide)
      replace f70 := f70.st st88 (by decide)
      replace f76 := f76.st st88 (by decide)
      replace fg0 := fg0.st st88 (by decide)
      replace fg1 := fg1.st st88 (by decide)
      replace fg2 := fg2.st st88 (by decide)
      replace fg3 := fg3.st st88 (by decide)
      replace fg4 := fg4.st st88 (by decide)
      replace hs := hs.loc0 st88 (by decide)
      have hk := hk.put 40 (.bool t84) rfl
      refine x_run tab hk (k := 2) (lv := []) (ks := [0, 1, 2, 9, 10, 42]) (e' := [(0, .string t13), (1, .int .u32 p1), (2, .int .u32 p2), (9, .pointer (some ⟨bx75, 0, none⟩)), (10, .int .i64 t63.2), (42, .bool t84)]) rfl trivial fun a hk => ?_
      cases b89 : t84
      · rw [b89] at hk H
        replace H := bifF H
        refine x_run tab hk (k := 13) (lv := []) (ks := [46, 55]) (e' := [(46, .bool false), (55, undef)]) rfl trivial fun a hk => ?_
        refine x_run tab hk (k := 2) (lv := []) (ks := [6]) (e' := [(6, .bool false)]) rfl trivial fun a hk => ?_
        refine wpListIn_nil ?_
        refine then_n ?_
        refine wpIn_ret ?_
        obtain rfl := Option.some.inj H
        exact x_retG hk (rs := [.tmp 6]) (vs := [.bool false]) rfl ⟨rfl, trivial⟩ ⟨fun b_ => if b_ < w.heap.size then o b_ else (fun _ => 0) (o87 b_), rfl, hs.close0 o (fun _ => 0)⟩
      · rw [b89] at hk H
        replace H := bifT H
        refine x_run tab hk (k := 4) (lv := []) (ks := [0, 1, 2, 9, 46]) (e' := [(0, .string t13), (1, .int .u32 p1), (2, .int .u32 p2), (9, .pointer (some ⟨bx75, 0, none⟩)), (46, .bool (t63.2 == (0 : Int)))]) rfl trivial fun a hk => ?_
        cases b90 : (t63.2 == (0 : Int))
        · rw [b90] at hk H
          replace H := bifF H
          refine x_run tab hk (k := 10) (lv := []) (ks := [56]) (e' := [(56, .bool false)]) rfl trivial fun a hk => ?_
          refine x_run tab hk (k := 1) (lv := []) (ks := [6]) (e' := [(6, .bool false)]) rfl trivial fun a hk => ?_
          refine wpListIn_nil ?_
          refine then_n ?_
          refine wpIn_ret ?_
          obtain rfl := Option.some.inj H
          exact x_retG hk (rs := [.tmp 6]) (vs := [.bool false]) rfl ⟨rfl, trivial⟩ ⟨fun b_ => if b_ < w.heap.size then o b_ else (fun _ => 0) (o87 b_), rfl, hs.close0 o (fun _ => 0)⟩
        · rw [b90] at hk H
          replace H := bifT H
          refine x_run tab hk (k := 5) (lv := [.agg #[.string t63.1.Word, .slice A68 (t63.1.Nums).length c69, .string t63.1.Text]]) (ks := [0, 46, 47, 49, 51]) (e' := [(0, .string t13), (46, .bool true), (47, .agg #[.string t63.1.Word, .slice A68 (t63.1.Nums).length c69, .string t63.1.Text]), (49, .int .i64 (IntKind.wrap .i64 p1)), (51, .int .i64 (IntKind.wrap .i64 p2))]) rfl ⟨(load_box tab rfl rfl f76.now (k := 0) rfl rfl), trivial⟩ fun a hk => ?_
          refine x_op hk rfl ?_
          refine op_slice (o := o87) tab hk (vs := [.int .i64 (IntKind.wrap .i64 p1), .int .i64 (IntKind.wrap .i64 p2)]) (cs := [.int .i64 (IntKind.wrap .i64 p1), .int .i64 (IntKind.wrap .i64 p2)]) rfl rfl rfl rfl rfl rfl rfl rfl rfl 6 fun bx94 w91 o92 st93 f95 => ?_
          replace f70 := f70.st st93 (by decide)
          replace fg0 := fg0.st st93 (by decide)
          replace fg1 := fg1.st st93 (by decide)
          replace fg2 := fg2.st st93 (by decide)
          replace fg3 := fg3.st st93 (by decide)
          replace fg4 := fg4.st st93 (by decide)
          replace hs := hs.loc0 st93 (by decide)
          have f96 : Ft (Own (encInt .i64) 3 (.slice (some ⟨bx94, 0, none⟩) (([(IntKind.wrap .i64 p1), (IntKind.wrap .i64 p2)] : List Int)).length 2) ([(IntKind.wrap .i64 p1), (IntKind.wrap .i64 p2)] : List Int)) w91 o92 6 := f95.imp fun _ h_ => Own.of_box h_ rfl (by simp)
          have hk := hk.put 52 (.slice (some ⟨bx94, 0, none⟩) (([(IntKind.wrap .i64 p1), (IntKind.wrap .i64 p2)] : List Int)).length 2) rfl
          refine x_run tab hk (k := 2) (lv := []) (ks := [46, 47, 54]) (e' := [(46, .bool true), (47, .agg #[.string t63.1.Word, .slice A68 (t63.1.Nums).length c69, .string t63.1.Text]), (54, .agg #[.string (⟨#[102, 111, 114, 103, 101]⟩ : ByteArray), .slice (some ⟨bx94, 0, none⟩) (([(IntKind.wrap .i64 p1), (IntKind.wrap .i64 p2)] : List Int)).length 2, .string t13])]) rfl trivial fun a hk => ?_
          refine x_op hk rfl ?_
          obtain ⟨t100, hc101, H⟩ := bindS H
          refine op_call hk ent_11 (vs := [.agg #[.string t63.1.Word, .slice A68 (t63.1.Nums).length c69, .string t63.1.Text], .agg #[.string (⟨#[102, 111, 114, 103, 101]⟩ : ByteArray), .slice (some ⟨bx94, 0, none⟩) (([(IntKind.wrap .i64 p1), (IntKind.wrap .i64 p2)] : List Int)).length 2, .string t13]]) rfl (tidewracklaw27_Is_calls K A68 c69 t63.1 (some ⟨bx94, 0, none⟩) 2 (⟨(⟨#[102, 111, 114, 103, 101]⟩ : ByteArray), ([(IntKind.wrap .i64 p1), (IntKind.wrap .i64 p2)] : List Int), t13⟩ : T25) _ o92 _ (f70.imp fun _ h_ => Own.rd h_) hc71 _ (f96.imp fun _ h_ => Own.rd h_) (Nat.le_refl _)   _ hc101) ?_
          rintro _ w102 ⟨o103, rfl, st104⟩
          replace f70 := f70.st st104 (by decide)
          replace f96 := f96.st st104 (by decide)
          replace fg0 := fg0.st st104 (by decide)
          replace fg1 := fg1.st st104 (by decide)
          replace fg2 := fg2.st st104 (by decide)
          replace fg3 := fg3.st st104 (by decide)
          replace fg4 := fg4.st st104 (by decide)
          replace hs := hs.loc0 st104 (by decide)
          have hk := hk.put 55 (.bool t100) rfl
          refine x_run tab hk (k := 2) (lv := []) (ks := [6]) (e' := [(6, .bool t100)]) rfl trivial fun a hk => ?_
          refine wpListIn_nil ?_
          refine then_n ?_
          refine wpIn_ret ?_
          obtain rfl := Option.some.inj H
          exact x_retG hk (rs := [.tmp 6]) (vs := [.bool t100]) rfl ⟨rfl, trivial⟩ ⟨fun b_ => if b_ < w.heap.size then o b_ else (fun _ => 0) (o103 b_), rfl, hs.close0 o (fun _ => 0)⟩
  · rw [b9] at hk H
    replace H := bifT H
    refine x_if hk (b := true) rfl ?_
    refine (show Code.wpIn _ _ _ _ _ _ _ from ?_)
    refine x_seq ?_
    refine wpIn_region_lit ?_
    refine x_run tab hk (k := 1) (lv := []) (ks := [6]) (e' := [(6, .bool false)]) rfl trivial fun a hk => ?_
    refine wpListIn_nil ?_
    refine then_n ?_
    refine wpIn_ret ?_
    refine then_r ?_
    obtain rfl := Option.some.inj H
    exact x_retG hk (rs := [.tmp 6]) (vs := [.bool false]) rfl ⟨rfl, trivial⟩ ⟨fun b_ => if b_ < w.heap.size then o b_ else (fun _ => 0) (o7 b_), rfl, hs.close0 o (fun _ => 0)⟩

/-! tidewrack/tidewrackref27.Form -/
set_option maxHeartbeats 4000000 in
set_option maxRecDepth 20000 in
theorem tidewrackref27_Form_calls (p0 : ByteArray) (w : World) (o : Nat → Nat)   (r : Int × Bool) (H : tidewrackref27_Form p0 = some r) :
    Calls Tryd.prog 16 #[.string p0] w (Ret fun v_ w' => ∃ o' : Nat → Nat, v_ = .tuple #[.int .i64 r.1, .bool r.2] ∧ St [] w o w' o') := by
  refine x_enter (vs := [.string p0]) Tryd.func16 rfl rfl rfl fun a hk => ?_
  obtain ⟨o0, hs, h0⟩ := St.start w o
  clear h0
  rw [tidewrackref27_Form] at H
  refine x_seq ?_
  refine wpIn_region_lit ?_
  refine x_run tab hk (k := 2) (lv := []) (ks := [0]) (e' := [(0, .string p0)]) rfl trivial fun a hk => ?_
  refine wpListIn_nil ?_
  refine then_n ?_
  refine x_seq ?_
  refine x_seq ?_
  refine wpIn_region_lit ?_
  refine x_run tab hk (k := 1) (lv := []) (ks := [4]) (e' := [(4, .string p0)]) rfl trivial fun a hk => ?_
  refine wpListIn_nil ?_
  refine then_n ?_
  refine wpIn_block ?_
  refine x_mid (fun a_ w_ => ∃ o12 : Nat → Nat, ∃ x13 : Bool, Kn 32 a_ [(4, .string p0), (5, .bool x13)] ∧ St [] w (fun _ => 0) w_ o12 ∧ tidewrackref27_Form_j1 p0 x13 = some r) ?_ ?_
  rotate_left
  · rintro a w14 ⟨o12, x13, hk, hs, H⟩
    unfold tidewrackref27_Form_j1 at H
    cases b15 : x13
    · rw [b15] at hk H
      replace H := bifF H
      refine x_if hk (b := false) rfl ?_
      refine (show Code.wpIn _ _ _ _ _ _ _ from ?_)
      refine x_seq ?_
      refine wpIn_region_lit ?_
      refine x_run tab hk (k := 2) (lv := []) (ks := [4, 12]) (e' := [(4, .string p0), (12, .bool (ByteArray.toList p0 == ByteArray.toList (⟨#[100, 111]⟩ : ByteArray)))]) rfl trivial fun a hk => ?_
      refine wpListIn_nil ?_
      refine then_n ?_
      cases b16 : (ByteArray.toList p0 == ByteArray.toList (⟨#[100, 111]⟩ : ByteArray))
      · rw [b16] at hk H
        replace H := bifF H
        refine x_if hk (b := false) rfl ?_
        refine (show Code.wpIn _ _ _ _ _ _ _ from ?_)
        refine x_mid (fun a_ w_ => ∃ o28 : Nat → Nat, ∃ x29 : Bool, Kn 32 a_ [(4, .string p0), (14, .bool x29)] ∧ St [] w (fun _ => 0) w_ o28 ∧ tidewrackref27_Form_j2 p0 x29 = some r) ?_ ?_
        rotate_left
        · rintro a w30 ⟨o28, x29, hk, hs, H⟩
          unfold tidewrackref27_Form_j2 at H
          cases b31 : x29
          · rw [b31] at hk H
            replace H := bifF H
            refine x_if hk (b := false) rfl ?_
            refine (show Code.wpIn _ _ _ _ _ _ _ from ?_)
            refine x_mid (fun a_ w_ => ∃ o40 : Nat → Nat, ∃ x41 : Bool, Kn 32 a_ [(4, .string p0), (21, .bool x41)] ∧ St [] w (fun _ => 0) w_ o40 ∧ tidewrackref27_Form_j3 p0 x41 = some r) ?_ ?_
            rotate_left
            · rintro a w42 ⟨o40, x41, hk, hs, H⟩
              unfold tidewrackref27_Form_j3 at H
              cases b43 : x41
              · rw [b43] at hk H
                replace H := bifF H
                refine x_if hk (b := false) rfl ?_
                refine (show Code.wpIn _ _ _ _ _ _ _ from ?_)
                refine x_mid (fun a_ w_ => ∃ o51 : Nat → Nat, ∃ x52 : Bool, Kn 32 a_ [(4, .string p0), (25, .bool x52)] ∧ St [] w (fun _ => 0) w_ o51 ∧ tidewrackref27_Form_j4 p0 x52 = some r) ?_ ?_
                rotate_left
                · rintro a w53 ⟨o51, x52, hk, hs, H⟩
                  unfold tidewrackref27_Form_j4 at H
                  cases b54 : x52
                  · rw [b54] at hk H
                    replace H := bifF H
                    refine x_if hk (b := false) rfl ?_
                    refine (show Code.wpIn _ _ _ _ _ _ _ from ?_)
                    refine x_seq ?_
                    refine wpIn_region_lit ?_
                    refine x_run tab hk (k := 2) (lv := []) (ks := [4, 28]) (e' := [(4, .string p0), (28, .bool (ByteArray.toList p0 == ByteArray.toList (⟨#[102, 111, 114, 103, 101]⟩ : ByteArray)))]) rfl trivial fun a hk => ?_
                    refine wpListIn_nil ?_
                    refine then_n ?_
                    cases b55 : (ByteArray.toList p0 == ByteArray.toList (⟨#[102, 111, 114, 103, 101]⟩ : ByteArray))
                    · rw [b55] at hk H
                      replace H := bifF H
                      refine x_if hk (b := false) rfl ?_
                      refine (show Code.wpIn _ _ _ _ _ _ _ from ?_)
                      refine x_seq ?_
                      refine wpIn_region_lit ?_
                      refine x_run tab hk (k := 2) (lv := []) (ks := [30]) (e' := [(30, .bool (ByteArray.toList p0 == ByteArray.toList (⟨#[115, 101, 115, 115, 105, 111, 110]⟩ : ByteArray)))]) rfl trivial fun a hk => ?_
                      refine wpListIn_nil ?_
                      refine then_n ?_
                      cases b56 : (ByteArray.toList p0 == ByteArray.toList (⟨#[115, 101, 115, 115, 105, 111, 110]⟩ : ByteArray))
                      · rw [b56] at hk H
                        replace H := bifF H
                        refine x_if hk (b := false) rfl ?_
                        refine (show Code.wpIn _ _ _ _ _ _ _ from ?_)
                        refine wpIn_skip ?_
                        refine blk_n ?_
                        refine then_n ?_
                        refine x_seq ?_
                        refine wpIn_region_lit ?_
                        refine x_run tab hk (k := 2) (lv := []) (ks := [2, 3]) (e' := [(2, .int .i64 (-1)), (3, .bool false)]) rfl trivial fun a hk => ?_
                        refine wpListIn_nil ?_
                        refine then_n ?_
                        refine wpIn_ret ?_
                        obtain rfl := Option.some.inj H
                        exact x_retG hk (rs := [.tmp 2, .tmp 3]) (vs := [.int .i64 (-1), .bool false]) rfl ⟨rfl, rfl, trivial⟩ ⟨fun b_ => if b_ < w.heap.size then o b_ else (fun _ => 0) (o51 b_), rfl, hs.close0 o (fun _ => 0)⟩
                      · rw [b56] at hk H
                        replace H := bifT H
                        refine x_if hk (b := true) rfl ?_
                        refine (show Code.wpIn _ _ _ _ _ _ _ from ?_)
                        refine x_seq ?_
                        refine wpIn_region_lit ?_
                        refine x_run tab hk (k := 2) (lv := []) (ks := [2, 3]) (e' := [(2, .int .i64 6), (3, .bool false)]) rfl trivial fun a hk => ?_
                        refine wpListIn_nil ?_
                        refine then_n ?_
                        refine wpIn_ret ?_
                        refine blk_r ?_
                        refine then_r ?_
                        obtain rfl := Option.some.inj H
                        exact x_retG hk (rs := [.tmp 2, .tmp 3]) (vs := [.int .i64 6, .bool false]) rfl ⟨rfl, rfl, trivial⟩ ⟨fun b_ => if b_ < w.heap.size then o b_ else (fun _ => 0) (o51 b_), rfl, hs.close0 o (fun _ => 0)⟩
                    · rw [b55] at hk H
                      replace H := bifT H
                      refine x_if hk (b := true) rfl ?_
                      refine (show Code.wpIn _ _ _ _ _ _ _ from ?_)
                      refine x_seq ?_
                      refine wpIn_region_lit ?_
                      refine x_run tab hk (k := 2) (lv := []) (ks := [2, 3]) (e' := [(2, .int .i64 2), (3, .bool true)]) rfl trivial fun a hk => ?_
                      refine wpListIn_nil ?_
                      refine then_n ?_
                      refine wpIn_ret ?_
                      refine blk_r ?_
                      refine then_r ?_
                      obtain rfl := Option.some.inj H
                      exact x_retG hk (rs := [.tmp 2, .tmp 3]) (vs := [.int .i64 2, .bool true]) rfl ⟨rfl, rfl, trivial⟩ ⟨fun b_ => if b_ < w.heap.size then o b_ else (fun _ => 0) (o51 b_), rfl, hs.close0 o (fun _ => 0)⟩
                  · rw [b54] at hk H
                    replace H := bifT H
                    refine x_if hk (b := true) rfl ?_
                    refine (show Code.wpIn _ _ _ _ _ _ _ from ?_)
                    refine x_seq ?_
                    refine wpIn_region_lit ?_
                    refine x_run tab hk (k := 2) (lv := []) (ks := [2, 3]) (e' := [(2, .int .i64 3), (3, .bool false)]) rfl trivial fun a hk => ?_
                    refine wpListIn_nil ?_
                    refine then_n ?_
                    refine wpIn_ret ?_
                    refine blk_r ?_
                    refine then_r ?_
                    obtain rfl := Option.some.inj H
                    exact x_retG hk (rs := [.tmp 2, .tmp 3]) (vs := [.int .i64 3, .bool false]) rfl ⟨rfl, rfl, trivial⟩ ⟨fun b_ => if b_ < w.heap.size then o b_ else (fun _ => 0) (o51 b_), rfl, hs.close0 o (fun _ => 0)⟩
                refine x_seq ?_
                refine wpIn_region_lit ?_
                refine x_run tab hk (k := 2) (lv := []) (ks := [4, 25]) (e' := [(4, .string p0), (25, .bool (ByteArray.toList p0 == ByteArray.toList (⟨#[115, 101, 101]⟩ : ByteArray)))]) rfl trivial fun a hk => ?_
                refine wpListIn_nil ?_
                refine then_n ?_
                cases b57 : (ByteArray.toList p0 == ByteArray.toList (⟨#[115, 101, 101]⟩ : ByteArray))
                · rw [b57] at hk H
                  replace H := bifF H
                  refine x_if hk (b := false) rfl ?_
                  refine (show Code.wpIn _ _ _ _ _ _ _ from ?_)
                  refine wpIn_region_lit ?_
                  refine x_run tab hk (k := 2) (lv := []) (ks := [4, 25]) (e' := [(4, .string p0), (25, .bool (ByteArray.toList p0 == ByteArray.toList (⟨#[116, 117, 114, 110]⟩ : ByteArray)))]) rfl trivial fun a hk => ?_
                  refine wpListIn_nil ?_
                  refine then_n ?_
                  exact ⟨o40, (ByteArray.toList p0 == ByteArray.toList (⟨#[116, 117, 114, 110]⟩ : ByteArray)), (by exact Kn.pick (ks := [4, 25]) hk rfl), hs, H⟩
                · rw [b57] at hk H
                  replace H := bifT H
                  refine x_if hk (b := true) rfl ?_
                  refine (show Code.wpIn _ _ _ _ _ _ _ from ?_)
                  refine wpIn_skip ?_
                  refine then_n ?_
                  exact ⟨o40, true, (by exact Kn.pick (ks := [4, 25]) hk rfl), hs, H⟩
              · rw [b43] at hk H
                replace H := bifT H
                refine x_if hk (b := true) rfl ?_
                refine (show Code.wpIn _ _ _ _ _ _ _ from ?_)
                refine x_seq ?_
                refine wpIn_region_lit ?_
                refine x_run tab hk (k := 2) (lv := []) (ks := [2, 3]) (e' := [(2, .int .i64 2), (3, .bool false)]) rfl trivial fun a hk => ?_
                refine wpListIn_nil ?_
                refine then_n ?_
                refine wpIn_ret ?_
                refine blk_r ?_
                refine then_r ?_
                obtain rfl := Option.some.inj H
                exact x_retG hk (rs := [.tmp 2, .tmp 3]) (vs := [.int .i64 2, .bool false]) rfl ⟨rfl, rfl, trivial⟩ ⟨fun b_ => if b_ < w.heap.size then o b_ else (fun _ => 0) (o40 b_), rfl, hs.close0 o (fun _ => 0)⟩
            refine x_seq ?_
            refine wpIn_region_lit ?_
            refine x_run tab hk (k := 2) (lv := []) (ks := [4, 21]) (e' := [(4, .string p0), (21, .bool (ByteArray.toList p0 == ByteArray.toList (⟨#[115, 105, 122, 101]⟩ : ByteArray)))]) rfl trivial fun a hk => ?_
            refine wpListIn_nil ?_
            refine then_n ?_
            cases b58 : (ByteArray.toList p0 == ByteArray.toList (⟨#[115, 105, 122, 101]⟩ : ByteArray))
            · rw [b58] at hk H
              replace H := bifF H
              refine x_if hk (b := false) rfl ?_
              refine (show Code.wpIn _ _ _ _ _ _ _ from ?_)
              refine x_seq ?_
              refine wpIn_region_lit ?_
              refine x_run tab hk (k := 2) (lv := []) (ks := [4, 21]) (e' := [(4, .string p0), (21, .bool (ByteArray.toList p0 == ByteArray.toList (⟨#[119, 97, 110, 116]⟩ : ByteArray)))]) rfl trivial fun a hk => ?_
              refine wpListIn_nil ?_
              refine then_n ?_
              cases b59 : (ByteArray.toList p0 == ByteArray.toList (⟨#[119, 97, 110, 116]⟩ : ByteArray))
              · rw [b59] at hk H
                replace H := bifF H
                refine x_if hk (b := false) rfl ?_
                refine (show Code.wpIn _ _ _ _ _ _ _ from ?_)
                refine wpIn_region_lit ?_
                refine x_run tab hk (k := 2) (lv := []) (ks := [4, 21]) (e' := [(4, .string p0), (21, .bool (ByteArray.toList p0 == ByteArray.toList (⟨#[114, 101, 115, 116, 97, 114, 116]⟩ : ByteArray)))]) rfl trivial fun a hk => ?_
                refine wpListIn_nil ?_
                refine then_n ?_
                exact ⟨o28, (ByteArray.toList p0 == ByteArray.toList (⟨#[114, 101, 115, 116, 97, 114, 116]⟩ : ByteArray)), (by exact Kn.pick (ks := [4, 21]) hk rfl), hs, H⟩
              · rw [b59] at hk H
                replace H := bifT H
                refine x_if hk (b := true) rfl ?_
                refine (show Code.wpIn _ _ _ _ _ _ _ from ?_)
                refine wpIn_skip ?_
                refine then_n ?_
                exact ⟨o28, true, (by exact Kn.pick (ks := [4, 21]) hk rfl), hs, H⟩
            · rw [b58] at hk H
              replace H := bifT H
              refine x_if hk (b := true) rfl ?_
              refine (show Code.wpIn _ _ _ _ _ _ _ from ?_)
              refine wpIn_skip ?_
              refine then_n ?_
              exact ⟨o28, true, (by exact Kn.pick (ks := [4, 21]) hk rfl), hs, H⟩
          · rw [b31] at hk H
            replace H := bifT H
            refine x_if hk (b := true) rfl ?_
            refine (show Code.wpIn _ _ _ _ _ _ _ from ?_)
            refine x_seq ?_
            refine wpIn_region_lit ?_
            refine x_run tab hk (k := 2) (lv := []) (ks := [2, 3]) (e' := [(2, .int .i64 1), (3, .bool false)]) rfl trivial fun a hk => ?_
            refine wpListIn_nil ?_
            refine then_n ?_
            refine wpIn_ret ?_
            refine blk_r ?_
            refine then_r ?_
            obtain rfl := Option.some.inj H
            exact x_retG hk (rs := [.tmp 2, .tmp 3]) (vs := [.int .i64 1, .bool false]) rfl ⟨rfl, rfl, trivial⟩ ⟨fun b_ => if b_ < w.heap.size then o b_ else (fun _ => 0) (o28 b_), rfl, hs.close0 o (fun _ => 0)⟩
        refine x_seq ?_
        refine wpIn_region_lit ?_
        refine x_run tab hk (k := 2) (lv := []) (ks := [4, 14]) (e' := [(4, .string p0), (14, .bool (ByteArray.toList p0 == ByteArray.toList (⟨#[116, 105, 99, 107]⟩ : ByteArray)))]) rfl trivial fun a hk => ?_
        refine wpListIn_nil ?_
        refine then_n ?_
        cases b60 : (ByteArray.toList p0 == ByteArray.toList (⟨#[116, 105, 99, 107]⟩ : ByteArray))
        · rw [b60] at hk H
          replace H := bifF H
          refine x_if hk (b := false) rfl ?_
          refine (show Code.wpIn _ _ _ _ _ _ _ from ?_)
          refine x_seq ?_
          refine wpIn_region_lit ?_
          refine x_run tab hk (k := 2) (lv := []) (ks := [4, 14]) (e' := [(4, .string p0), (14, .bool (ByteArray.toList p0 == ByteArray.toList (⟨#[100, 101, 108, 105, 118, 101, 114]⟩ : ByteArray)))]) rfl trivial fun a hk => ?_
          refine wpListIn_nil ?_
          refine then_n ?_
          cases b61 : (ByteArray.toList p0 == ByteArray.toList (⟨#[100, 101, 108, 105, 118, 101, 114]⟩ : ByteArray))
          · rw [b61] at hk H
            replace H := bifF H
            refine x_if hk (b := false) rfl ?_
            refine (show Code.wpIn _ _ _ _ _ _ _ from ?_)
            refine x_seq ?_
            refine wpIn_region_lit ?_
            refine x_run tab hk (k := 2) (lv := []) (ks := [4, 14]) (e' := [(4, .string p0), (14, .bool (ByteArray.toList p0 == ByteArray.toList (⟨#[108, 111, 115, 101]⟩ : ByteArray)))]) rfl trivial fun a hk => ?_
            refine wpListIn_nil ?_
            refine then_n ?_
            cases b62 : (ByteArray.toList p0 == ByteArray.toList (⟨#[108, 111, 115, 101]⟩ : ByteArray))
            · rw [b62] at hk H
              replace H := bifF H
              refine x_if hk (b := false) rfl ?_
              refine (show Code.wpIn _ _ _ _ _ _ _ from ?_)
              refine x_seq ?_
              refine wpIn_region_lit ?_
              refine x_run tab hk (k := 2) (lv := []) (ks := [4, 14]) (e' := [(4, .string p0), (14, .bool (ByteArray.toList p0 == ByteArray.toList (⟨#[116, 119, 105, 110]⟩ : ByteArray)))]) rfl trivial fun a hk => ?_
              refine wpListIn_nil ?_
              refine then_n ?_
              cases b63 : (ByteArray.toList p0 == ByteArray.toList (⟨#[116, 119, 105, 110]⟩ : ByteArray))
              · rw [b63] at hk H
                replace H := bifF H
                refine x_if hk (b := false) rfl ?_
                refine (show Code.wpIn _ _ _ _ _ _ _ from ?_)
                refine x_seq ?_
                refine wpIn_region_lit ?_
                refine x_run tab hk (k := 2) (lv := []) (ks := [4, 14]) (e' := [(4, .string p0), (14, .bool (ByteArray.toList p0 == ByteArray.toList (⟨#[109, 111, 118, 101]⟩ : ByteArray)))]) rfl trivial fun a hk => ?_
                refine wpListIn_nil ?_
                refine then_n ?_
                cases b64 : (ByteArray.toList p0 == ByteArray.toList (⟨#[109, 111, 118, 101]⟩ : ByteArray))
                · rw [b64] at hk H
                  replace H := bifF H
                  refine x_if hk (b := false) rfl ?_
                  refine (show Code.wpIn _ _ _ _ _ _ _ from ?_)
                  refine wpIn_region_lit ?_
                  refine x_run tab hk (k := 2) (lv := []) (ks := [4, 14]) (e' := [(4, .string p0), (14, .bool (ByteArray.toList p0 == ByteArray.toList (⟨#[108, 105, 110, 101]⟩ : ByteArray)))]) rfl trivial fun a hk => ?_
                  refine wpListIn_nil ?_
                  refine then_n ?_
                  exact ⟨o12, (ByteArray.toList p0 == ByteArray.toList (⟨#[108, 105, 110, 101]⟩ : ByteArray)), (by exact Kn.pick (ks := [4, 14]) hk rfl), hs, H⟩
                · rw [b64] at hk H
                  replace H := bifT H
                  refine x_if hk (b := true) rfl ?_
                  refine (show Code.wpIn _ _ _ _ _ _ _ from ?_)
                  refine wpIn_skip ?_
                  refine then_n ?_
                  exact ⟨o12, true, (by exact Kn.pick (ks := [4, 14]) hk rfl), hs, H⟩
              · rw [b63] at hk H
                replace H := bifT H
                refine x_if hk (b := true) rfl ?_
                refine (show Code.wpIn _ _ _ _ _ _ _ from ?_)
                refine wpIn_skip ?_
                refine then_n ?_
                exact ⟨o12, true, (by exact Kn.pick (ks := [4, 14]) hk rfl), hs, H⟩
            · rw [b62] at hk H
              replace H := bifT H
              refine x_if hk (b := true) rfl ?_
              refine (show Code.wpIn _ _ _ _ _ _ _ from ?_)
              refine wpIn_skip ?_
              refine then_n ?_
              exact ⟨o12, true, (by exact Kn.pick (ks := [4, 14]) hk rfl), hs, H⟩
          · rw [b61] at hk H
            replace H := bifT H
            refine x_if hk (b := true) rfl ?_
            refine (show Code.wpIn _ _ _ _ _ _ _ from ?_)
            refine wpIn_skip ?_
            refine then_n ?_
            exact ⟨o12, true, (by exact Kn.pick (ks := [4, 14]) hk rfl), hs, H⟩
        · rw [b60] at hk H
          replace H := bifT H
          refine x_if hk (b := true) rfl ?_
          refine (show Code.wpIn _ _ _ _ _ _ _ from ?_)
          refine wpIn_skip ?_
          refine then_n ?_
          exact ⟨o12, true, (by exact Kn.pick (ks := [4, 14]) hk rfl), hs, H⟩
      · rw [b16] at hk H
        replace H := bifT H
        refine x_if hk (b := true) rfl ?_
        refine (show Code.wpIn _ _ _ _ _ _ _ from ?_)
        refine x_seq ?_
        refine wpIn_region_lit ?_
        refine x_run tab hk (k := 2) (lv := []) (ks := [2, 3]) (e' := [(2, .int .i64 0), (3, .bool true)]) rfl trivial fun a hk => ?_
        refine wpListIn_nil ?_
        refine then_n ?_
        refine wpIn_ret ?_
        refine blk_r ?_
        refine then_r ?_
        obtain rfl := Option.some.inj H
        exact x_retG hk (rs := [.tmp 2, .tmp 3]) (vs := [.int .i64 0, .bool true]) rfl ⟨rfl, rfl, trivial⟩ ⟨fun b_ => if b_ < w.heap.size then o b_ else (fun _ => 0) (o12 b_), rfl, hs.close0 o (fun _ => 0)⟩
    · rw [b15] at hk H
      replace H := bifT H
      refine x_if hk (b := true) rfl ?_
      refine (show Code.wpIn _ _ _ _ _ _ _ from ?_)
      refine x_seq ?_
      refine wpIn_region_lit ?_
      refine x_run tab hk (k := 2) (lv := []) (ks := [2, 3]) (e' := [(2, .int .i64 0), (3, .bool false)]) rfl trivial fun a hk => ?_
      refine wpListIn_nil ?_
      refine then_n ?_
      refine wpIn_ret ?_
      refine blk_r ?_
      refine then_r ?_
      obtain rfl := Option.some.inj H
      exact x_retG hk (rs := [.tmp 2, .tmp 3]) (vs := [.int .i64 0, .bool false]) rfl ⟨rfl, rfl, trivial⟩ ⟨fun b_ => if b_ < w.heap.size then o b_ else (fun _ => 0) (o12 b_), rfl, hs.close0 o (fun _ => 0)⟩
  refine x_seq ?_
  refine wpIn_region_lit ?_
  refine x_run tab hk (k := 2) (lv := []) (ks := [4, 5]) (e' := [(4, .string p0), (5, .bool (ByteArray.toList p0 == ByteArray.toList (⟨#[97, 108, 108]⟩ : ByteArray)))]) rfl trivial fun a hk => ?_
  refine wpListIn_nil ?_
  refine then_n ?_
  cases b65 : (ByteArray.toList p0 == ByteArray.toList (⟨#[97, 108, 108]⟩ : ByteArray))
  · rw [b65] at hk H
    replace H := bifF H
    refine x_if hk (b := false) rfl ?_
    refine (show Code.wpIn _ _ _ _ _ _ _ from ?_)
    refine x_seq ?_
    refine wpIn_region_lit ?_
    refine x_run tab hk (k := 2) (lv := []) (ks := [4, 5]) (e' := [(4, .string p0), (5, .bool (ByteArray.toList p0 == ByteArray.toList (⟨#[99, 108, 111, 99, 107]⟩ : ByteArray)))]) rfl trivial fun a hk => ?_
    refine wpListIn_nil ?_
    refine then_n ?_
    cases b66 : (ByteArray.toList p0 == ByteArray.toList (⟨#[99, 108, 111, 99, 107]⟩ : ByteArray))
    · rw [b66] at hk H
      replace H := bifF H
      refine x_if hk (b := false) rfl ?_
      refine (show Code.wpIn _ _ _ _ _ _ _ from ?_)
      refine x_seq ?_
      refine wpIn_region_lit ?_
      refine x_run tab hk (k := 2) (lv := []) (ks := [4, 5]) (e' := [(4, .string p0), (5, .bool (ByteArray.toList p0 == ByteArray.toList (⟨#[115, 116, 97, 116, 101]⟩ : ByteArray)))]) rfl trivial fun a hk => ?_
      refine wpListIn_nil ?_
      refine then_n ?_
      cases b67 : (ByteArray.toList p0 == ByteArray.toList (⟨#[115, 116, 97, 116, 101]⟩ : ByteArray))
      · rw [b67] at hk H
        replace H := bifF H
        refine x_if hk (b := false) rfl ?_
        refine (show Code.wpIn _ _ _ _ _ _ _ from ?_)
        refine x_seq ?_
        refine wpIn_region_lit ?_
        refine x_run tab hk (k := 2) (lv := []) (ks := [4, 5]) (e' := [(4, .string p0), (5, .bool (ByteArray.toList p0 == ByteArray.toList (⟨#[104, 97, 110, 100]⟩ : ByteArray)))]) rfl trivial fun a hk => ?_
        refine wpListIn_nil ?_
        refine then_n ?_
        cases b68 : (ByteArray.toList p0 == ByteArray.toList (⟨#[104, 97, 110, 100]⟩ : ByteArray))
        · rw [b68] at hk H
          replace H := bifF H
          refine x_if hk (b := false) rfl ?_
          refine (show Code.wpIn _ _ _ _ _ _ _ from ?_)
          refine x_seq ?_
          refine wpIn_region_lit ?_
          refine x_run tab hk (k := 2) (lv := []) (ks := [4, 5]) (e' := [(4, .string p0), (5, .bool (ByteArray.toList p0 == ByteArray.toList (⟨#[110, 101, 116]⟩ : ByteArray)))]) rfl trivial fun a hk => ?_
          refine wpListIn_nil ?_
          refine then_n ?_
          cases b69 : (ByteArray.toList p0 == ByteArray.toList (⟨#[110, 101, 116]⟩ : ByteArray))
          · rw [b69] at hk H
            replace H := bifF H
            refine x_if hk (b := false) rfl ?_
            refine (show Code.wpIn _ _ _ _ _ _ _ from ?_)
            refine wpIn_region_lit ?_
            refine x_run tab hk (k := 2) (lv := []) (ks := [4, 5]) (e' := [(4, .string p0), (5, .bool (ByteArray.toList p0 == ByteArray.toList (⟨#[115, 99, 114, 101, 101, 110]⟩ : ByteArray)))]) rfl trivial fun a hk => ?_
            refine wpListIn_nil ?_
            refine then_n ?_
            exact ⟨o0, (ByteArray.toList p0 == ByteArray.toList (⟨#[115, 99, 114, 101, 101, 110]⟩ : ByteArray)), (by exact Kn.pick (ks := [4, 5]) hk rfl), hs, H⟩
          · rw [b69] at hk H
            replace H := bifT H
            refine x_if hk (b := true) rfl ?_
            refine (show Code.wpIn _ _ _ _ _ _ _ from ?_)
            refine wpIn_skip ?_
            refine then_n ?_
            exact ⟨o0, true, (by exact Kn.pick (ks := [4, 5]) hk rfl), hs, H⟩
        · rw [b68] at hk H
          replace H := bifT H
          refine x_if hk (b := true) rfl ?_
          refine (show Code.wpIn _ _ _ _ _ _ _ from ?_)
          refine wpIn_skip ?_
          refine then_n ?_
          exact ⟨o0, true, (by exact Kn.pick (ks := [4, 5]) hk rfl), hs, H⟩
      · rw [b67] at hk H
        replace H := bifT H
        refine x_if hk (b := true) rfl ?_
        refine (show Code.wpIn _ _ _ _ _ _ _ from ?_)
        refine wpIn_skip ?_
        refine then_n ?_
        exact ⟨o0, true, (by exact Kn.pick (ks := [4, 5]) hk rfl), hs, H⟩
    · rw [b66] at hk H
      replace H := bifT H
      refine x_if hk (b := true) rfl ?_
      refine (show Code.wpIn _ _ _ _ _ _ _ from ?_)
      refine wpIn_skip ?_
      refine then_n ?_
      exact ⟨o0, true, (by exact Kn.pick (ks := [4, 5]) hk rfl), hs, H⟩
  · rw [b65] at hk H
    replace H := bifT H
    refine x_if hk (b := true) rfl ?_
    refine (show Code.wpIn _ _ _ _ _ _ _ from ?_)
    refine wpIn_skip ?_
    refine then_n ?_
    exact ⟨o0, true, (by exact Kn.pick (ks := [4, 5]) hk rfl), hs, H⟩

/-! tidewrack/tidewrackref27.text -/
set_option maxHeartbeats 4000000 in
set_option maxRecDepth 20000 in
theorem tidewrackref27_text_calls (K : Nat) (p0 : ByteArray) (w : World) (o : Nat → Nat)   (r : ByteArray) (H : tidewrackref27_text K p0 = some r) :
    Calls Tryd.prog 25 #[.string p0] w (Ret fun v_ w' => ∃ o' : Nat → Nat, v_ = .string r ∧ St [] w o w' o') := by
  refine x_enter (vs := [.string p0]) Tryd.func25 rfl rfl rfl fun a hk => ?_
  obtain ⟨o0, hs, h0⟩ := St.start w o
  clear h0
  rw [tidewrackref27_text] at H
  refine x_seq ?_
  refine wpIn_region_lit ?_
  refine x_run tab hk (k := 1) (lv := []) (ks := [0]) (e' := [(0, .string p0)]) rfl trivial fun a hk => ?_
  refine wpListIn_nil ?_
  refine then_n ?_
  refine x_seq ?_
  refine wpIn_region_lit ?_
  refine x_run tab hk (k := 1) (lv := []) (ks := [0, 3]) (e' := [(0, .string p0), (3, .string (⟨#[]⟩ : ByteArray))]) rfl trivial fun a hk => ?_
  refine wpListIn_nil ?_
  refine then_n ?_
  refine x_mid (fun a_ w_ => ∃ o202 : Nat → Nat, ∃ x203 : ByteArray, Kn 62 a_ [(3, .string x203)] ∧ St [] w (fun _ => 0) w_ o202 ∧ tidewrackref27_text_j1 x203 = some r) ?_ ?_
  rotate_left
  · rintro a w204 ⟨o202, x203, hk, hs, H⟩
    unfold tidewrackref27_text_j1 at H
    refine x_seq ?_
    refine wpIn_region_lit ?_
    refine x_run tab hk (k := 2) (lv := []) (ks := [2]) (e' := [(2, .string x203)]) rfl trivial fun a hk => ?_
    refine wpListIn_nil ?_
    refine then_n ?_
    refine wpIn_ret ?_
    obtain rfl := Option.some.inj H
    exact x_retG hk (rs := [.tmp 2]) (vs := [.string x203]) rfl ⟨rfl, trivial⟩ ⟨fun b_ => if b_ < w.heap.size then o b_ else (fun _ => 0) (o202 b_), rfl, hs.close0 o (fun _ => 0)⟩
  refine x_seq ?_
  refine wpIn_region_lit ?_
  refine x_run tab hk (k := 1) (lv := []) (ks := [0, 3, 4]) (e' := [(0, .string p0), (3, .string (⟨#[]⟩ : ByteArray)), (4, .int .i64 0)]) rfl trivial fun a hk => ?_
  refine wpListIn_nil ?_
  refine then_n ?_
  refine wpIn_block ?_
  refine x_loop (fun j_ a_ w_ => ∃ o269 : Nat → Nat, ∃ x270 : ByteArray, ∃ x271 : Int, Kn 62 a_ [(0, .string p0), (3, .string x270), (4, .int .i64 x271)] ∧ St [] w (fun _ => 0) w_ o269 ∧ tidewrackref27_text_l2 p0 j_ x270 x271 = some r) (k := K) ⟨o0, (⟨#[]⟩ : ByteArray), 0, (by exact Kn.pick (ks := [0, 3, 4]) hk rfl), hs, H⟩ (by rintro _ _ ⟨_, _, _, _, _, H_⟩; exact absurd (show (none : Option ByteArray) = some r from H_) (by simp)) ?_
  rintro k335 a w334 ⟨o269, x270, x271, hk, hs, H⟩
  rw [tidewrackref27_text_l2] at H
  obtain ⟨lp336, hlp337⟩ : ∃ lp_, lp_ = tidewrackref27_text_l2 p0 k335 := ⟨_, rfl⟩
  rw [← hlp337] at H
  refine x_seq ?_
  refine x_seq ?_
  refine wpIn_region_lit ?_
  refine x_run tab hk (k := 4) (lv := []) (ks := [0, 3, 4, 9]) (e' := [(0, .string p0), (3, .string x270), (4, .int .i64 x271), (9, .bool (decide (x271 < ((p0).size : Int))))]) rfl trivial fun a hk => ?_
  refine wpListIn_nil ?_
  refine then_n ?_
  cases b338 : (decide (x271 < ((p0).size : Int)))
  · rw [b338] at hk H
    replace H := bifF H
    refine x_if hk (b := false) rfl ?_
    refine (show Code.wpIn _ _ _ _ _ _ _ from ?_)
    refine wpIn_exit ?_
    refine then_x ?_
    refine then_x ?_
    refine blk_x ?_
    refine then_n ?_
    exact ⟨o269, x270, (by exact Kn.pick (ks := [3]) hk rfl), hs, H⟩
  · rw [b338] at hk H
    replace H := bifT H
    refine x_if hk (b := true) rfl ?_
    refine (show Code.wpIn _ _ _ _ _ _ _ from ?_)
    refine wpIn_skip ?_
    refine then_n ?_
    refine x_seq ?_
    refine wpIn_block ?_
    refine x_seq ?_
    refine wpIn_region_lit ?_
    obtain ⟨q339, H⟩ := ifS H
    refine x_run tab hk (k := 5) (lv := []) (ks := [0, 3, 4, 5]) (e' := [(0, .string p0), (3, .string x270), (4, .int .i64 x271), (5, .int .i64 (IntKind.wrap .i64 (bt p0 x271)))]) rfl ⟨q339, trivial⟩ fun a hk => ?_
    refine wpListIn_nil ?_
    refine then_n ?_
    refine x_mid (fun a_ w_ => ∃ o351 : Nat → Nat, ∃ x352 : Bool, Kn 62 a_ [(0, .string p0), (3, .string x270), (4, .int .i64 x271), (5, .int .i64 (IntKind.wrap .i64 (bt p0 x271))), (37, .bool x352)] ∧ St [] w (fun _ => 0) w_ o351 ∧ tidewrackref27_text_j3 p0 x270 x271 lp336 x352 = some r) ?_ ?_
    rotate_left
    · rintro a w353 ⟨o351, x352, hk, hs, H⟩
      unfold tidewrackref27_text_j3 at H
      cases b354 : x352
      · rw [b354] at hk H
        replace H := bifF H
        refine x_if hk (b := false) rfl ?_
        refine (show Code.wpIn _ _ _ _ _ _ _ from ?_)
        refine xd_begin (o := o351) (fun W_ => True) mixed rfl rfl fun w377 st378 => ?_
        replace hs := hs.loc0 st378 (by decide)
        refine xd_take tab hk (k := 11) (is := [0, 1, 2, 3, 4, 5]) (ls' := #[true, true, true, true, true, true, false, false, false, false, false, false, false, false, false, false, false]) (lv := []) (ks := [0, 3, 4, 5, 45, 47, 50]) (e' := [(0, .string p0), (3, .string x270), (4, .int .i64 x271), (5, .int .i64 (IntKind.wrap .i64 (bt p0 x271))), (45, .string x270), (47, .int .i64 (IntKind.wrap .i64 (Int.tdiv (IntKind.wrap .i64 (bt p0 x271)) 16))), (50, .int .i64 (IntKind.wrap .i64 ((IntKind.wrap .i64 (Int.tdiv (IntKind.wrap .i64 (bt p0 x271)) 16)) + 1)))]) (by kernel_rfl) rfl rfl (by kernel_rfl) (np_blk (np_then (np_then (np_blk (np_then np_body))))) trivial (fun W_ hS => ⟨(show (16 : Int) ≠ 0 from by decide), (show (16 : Int) ≠ 0 from by decide), trivial⟩) fun a hk => ?_
        obtain ⟨q379, H⟩ := ifS H
        obtain ⟨q380, H⟩ := ifS H
        obtain ⟨q381, H⟩ := ifS H
        obtain ⟨q382, H⟩ := ifS H
        obtain ⟨q383, H⟩ := ifS H
        refine xd_take tab hk (k := 5) (is := [6, 7, 8, 9, 10, 11]) (ls' := #[true, true, true, true, true, true, true, true, true, true, true, true, false, false, false, false, false]) (lv := []) (ks := [0, 3, 4, 45, 52, 54, 56]) (e' := [(0, .string p0), (3, .string x270), (4, .int .i64 x271), (45, .string x270), (52, .string ((⟨#[37]⟩ : ByteArray) ++ (ByteArray.extract (⟨#[48, 49, 50, 51, 52, 53, 54, 55, 56, 57, 65, 66, 67, 68, 69, 70]⟩ : ByteArray) (Int.toNat (IntKind.wrap .i64 (Int.tdiv (IntKind.wrap .i64 (bt p0 x271)) 16))) (Int.toNat (IntKind.wrap .i64 ((IntKind.wrap .i64 (Int.tdiv (IntKind.wrap .i64 (bt p0 x271)) 16)) + 1)))))), (54, .int .i64 (Int.tmod (IntKind.wrap .i64 (bt p0 x271)) 16)), (56, .int .i64 (Int.tmod (IntKind.wrap .i64 (bt p0 x271)) 16))]) (by kernel_rfl) rfl rfl (by kernel_rfl) (np_blk (np_then (np_then (np_blk (np_then np_body))))) trivial (fun W_ hS => ⟨q379, q380, q381, q382, q383, (show (16 : Int) ≠ 0 from by decide), (show (16 : Int) ≠ 0 from by decide), trivial⟩) fun a hk => ?_
        obtain ⟨q384, H⟩ := ifS H
        obtain ⟨q385, H⟩ := ifS H
        obtain ⟨q386, H⟩ := ifS H
        obtain ⟨q387, H⟩ := ifS H
        obtain ⟨q388, H⟩ := ifS H
        obtain ⟨q389, H⟩ := ifS H
        refine xd_take tab hk (k := 0) (is := [12, 13, 14, 15, 16]) (ls' := #[true, true, true, true, true, true, true, true, true, true, true, true, true, true, true, true, true]) (lv := []) (ks := [0, 3, 4]) (e' := [(0, .string p0), (3, .string (x270 ++ (((⟨#[37]⟩ : ByteArray) ++ (ByteArray.extract (⟨#[48, 49, 50, 51, 52, 53, 54, 55, 56, 57, 65, 66, 67, 68, 69, 70]⟩ : ByteArray) (Int.toNat (IntKind.wrap .i64 (Int.tdiv (IntKind.wrap .i64 (bt p0 x271)) 16))) (Int.toNat (IntKind.wrap .i64 ((IntKind.wrap .i64 (Int.tdiv (IntKind.wrap .i64 (bt p0 x271)) 16)) + 1))))) ++ (ByteArray.extract (⟨#[48, 49, 50, 51, 52, 53, 54, 55, 56, 57, 65, 66, 67, 68, 69, 70]⟩ : ByteArray) (Int.toNat (Int.tmod (IntKind.wrap .i64 (bt p0 x271)) 16)) (Int.toNat (IntKind.wrap .i64 ((Int.tmod (IntKind.wrap .i64 (bt p0 x271)) 16) + 1))))))), (4, .int .i64 x271)]) (by kernel_rfl) rfl rfl (by kernel_rfl) (np_blk (np_then (np_then (np_blk (np_then np_body))))) trivial (fun W_ hS => ⟨q384, q385, q386, q387, q388, q389, trivial⟩) fun a hk => ?_
        refine xd_done (by kernel_rfl) ?_
        refine blk_n ?_
        refine then_n ?_
        refine wpIn_region_lit ?_
        refine x_run tab hk (k := 3) (lv := []) (ks := [0, 3, 4]) (e' := [(0, .string p0), (3, .string (x270 ++ (((⟨#[37]⟩ : ByteArray) ++ (ByteArray.extract (⟨#[48, 49, 50, 51, 52, 53, 54, 55, 56, 57, 65, 66, 67, 68, 69, 70]⟩ : ByteArray) (Int.toNat (IntKind.wrap .i64 (Int.tdiv (IntKind.wrap .i64 (bt p0 x271)) 16))) (Int.toNat (IntKind.wrap .i64 ((IntKind.wrap .i64 (Int.tdiv (IntKind.wrap .i64 (bt p0 x271)) 16)) + 1))))) ++ (ByteArray.extract (⟨#[48, 49, 50, 51, 52, 53, 54, 55, 56, 57, 65, 66, 67, 68, 69, 70]⟩ : ByteArray) (Int.toNat (Int.tmod (IntKind.wrap .i64 (bt p0 x271)) 16)) (Int.toNat (IntKind.wrap .i64 ((Int.tmod (IntKind.wrap .i64 (bt p0 x271)) 16) + 1))))))), (4, .int .i64 (IntKind.wrap .i64 (x271 + 1)))]) rfl trivial fun a hk => ?_
        refine wpListIn_nil ?_
        refine then_n ?_
        exact ⟨k335, Nat.le_refl _, o351, (x270 ++ (((⟨#[37]⟩ : ByteArray) ++ (ByteArray.extract (⟨#[48, 49, 50, 51, 52, 53, 54, 55, 56, 57, 65, 66, 67, 68, 69, 70]⟩ : ByteArray) (Int.toNat (IntKind.wrap .i64 (Int.tdiv (IntKind.wrap .i64 (bt p0 x271)) 16))) (Int.toNat (IntKind.wrap .i64 ((IntKind.wrap .i64 (Int.tdiv (IntKind.wrap .i64 (bt p0 x271)) 16)) + 1))))) ++ (ByteArray.extract (⟨#[48, 49, 50, 51, 52, 53, 54, 55, 56, 57, 65, 66, 67, 68, 69, 70]⟩ : ByteArray) (Int.toNat (Int.tmod (IntKind.wrap .i64 (bt p0 x271)) 16)) (Int.toNat (IntKind.wrap .i64 ((Int.tmod (IntKind.wrap .i64 (bt p0 x271)) 16) + 1)))))), (IntKind.wrap .i64 (x271 + 1)), (by exact Kn.pick (ks := [0, 3, 4]) hk rfl), hs, (hlp337 ▸ H)⟩
      · rw [b354] at hk H
        replace H := bifT H
        refine x_if hk (b := true) rfl ?_
        refine (show Code.wpIn _ _ _ _ _ _ _ from ?_)
        refine wpIn_region_lit ?_
        obtain ⟨q390, H⟩ := ifS H
        obtain ⟨q391, H⟩ := ifS H
        obtain ⟨q392, H⟩ := ifS H
        obtain ⟨q393, H⟩ := ifS H
        obtain ⟨q394, H⟩ := ifS H
        refine x_run tab hk (k := 8) (lv := []) (ks := [0, 3, 4]) (e' := [(0, .string p0), (3, .string (x270 ++ (ByteArray.extract p0 (Int.toNat x271) (Int.toNat (IntKind.wrap .i64 (x271 + 1)))))), (4, .int .i64 x271)]) rfl ⟨q390, q391, q392, q393, q394, trivial⟩ fun a hk => ?_
        refine wpListIn_nil ?_
        refine blk_n ?_
        refine then_n ?_
        refine wpIn_region_lit ?_
        refine x_run tab hk (k := 3) (lv := []) (ks := [0, 3, 4]) (e' := [(0, .string p0), (3, .string (x270 ++ (ByteArray.extract p0 (Int.toNat x271) (Int.toNat (IntKind.wrap .i64 (x271 + 1)))))), (4, .int .i64 (IntKind.wrap .i64 (x271 + 1)))]) rfl trivial fun a hk => ?_
        refine wpListIn_nil ?_
        refine then_n ?_
        exact ⟨k335, Nat.le_refl _, o351, (x270 ++ (ByteArray.extract p0 (Int.toNat x271) (Int.toNat (IntKind.wrap .i64 (x271 + 1))))), (IntKind.wrap .i64 (x271 + 1)), (by exact Kn.pick (ks := [0, 3, 4]) hk rfl), hs, (hlp337 ▸ H)⟩
    refine wpIn_region_lit ?_
    refine x_run tab hk (k := 3) (lv := []) (ks := [0, 3, 4, 5, 18]) (e' := [(0, .string p0), (3, .string x270), (4, .int .i64 x271), (5, .int .i64 (IntKind.wrap .i64 (bt p0 x271))), (18, .bool (decide ((IntKind.wrap .i64 (bt p0 x271)) > (32 : Int))))]) rfl trivial fun a hk => ?_
    cases b395 : (decide ((IntKind.wrap .i64 (bt p0 x271)) > (32 : Int)))
    · rw [b395] at hk H
      replace H := bifF H
      refine x_run tab hk (k := 10) (lv := []) (ks := [0, 3, 4, 5, 26, 28]) (e' := [(0, .string p0), (3, .string x270), (4, .int .i64 x271), (5, .int .i64 (IntKind.wrap .i64 (bt p0 x271))), (26, .bool false), (28, undef)]) rfl trivial fun a hk => ?_
      refine x_run tab hk (k := 9) (lv := []) (ks := [0, 3, 4, 5, 37]) (e' := [(0, .string p0), (3, .string x270), (4, .int .i64 x271), (5, .int .i64 (IntKind.wrap .i64 (bt p0 x271))), (37, .bool false)]) rfl trivial fun a hk => ?_
      refine wpListIn_nil ?_
      refine then_n ?_
      exact ⟨o269, false, (by exact Kn.pick (ks := [0, 3, 4, 5, 37]) hk rfl), hs, H⟩
    · rw [b395] at hk H
      replace H := bifT H
      refine x_run tab hk (k := 4) (lv := []) (ks := [0, 3, 4, 5, 22]) (e' := [(0, .string p0), (3, .string x270), (4, .int .i64 x271), (5, .int .i64 (IntKind.wrap .i64 (bt p0 x271))), (22, .bool (decide ((IntKind.wrap .i64 (bt p0 x271)) < (127 : Int))))]) rfl trivial fun a hk => ?_
      cases b396 : (decide ((IntKind.wrap .i64 (bt p0 x271)) < (127 : Int)))
      · rw [b396] at hk H
        replace H := bifF H
        refine x_run tab hk (k := 10) (lv := []) (ks := [0, 3, 4, 5, 30, 32]) (e' := [(0, .string p0), (3, .string x270), (4, .int .i64 x271), (5, .int .i64 (IntKind.wrap .i64 (bt p0 x271))), (30, .bool false), (32, undef)]) rfl trivial fun a hk => ?_
        refine x_run tab hk (k := 5) (lv := []) (ks := [0, 3, 4, 5, 37]) (e' := [(0, .string p0), (3, .string x270), (4, .int .i64 x271), (5, .int .i64 (IntKind.wrap .i64 (bt p0 x271))), (37, .bool false)]) rfl trivial fun a hk => ?_
        refine wpListIn_nil ?_
        refine then_n ?_
        exact ⟨o269, false, (by exact Kn.pick (ks := [0, 3, 4, 5, 37]) hk rfl), hs, H⟩
      · rw [b396] at hk H
        replace H := bifT H
        refine x_run tab hk (k := 4) (lv := []) (ks := [0, 3, 4, 5, 26]) (e' := [(0, .string p0), (3, .string x270), (4, .int .i64 x271), (5, .int .i64 (IntKind.wrap .i64 (bt p0 x271))), (26, .bool ((IntKind.wrap .i64 (bt p0 x271)) != (37 : Int)))]) rfl trivial fun a hk => ?_
        cases b397 : ((IntKind.wrap .i64 (bt p0 x271)) != (37 : Int))
        · rw [b397] at hk H
          replace H := bifF H
          refine x_run tab hk (k := 10) (lv := []) (ks := [0, 3, 4, 5, 34, 36]) (e' := [(0, .string p0), (3, .string x270), (4, .int .i64 x271), (5, .int .i64 (IntKind.wrap .i64 (bt p0 x271))), (34, .bool false), (36, undef)]) rfl trivial fun a hk => ?_
          refine x_run tab hk (k := 1) (lv := []) (ks := [0, 3, 4, 5, 37]) (e' := [(0, .string p0), (3, .string x270), (4, .int .i64 x271), (5, .int .i64 (IntKind.wrap .i64 (bt p0 x271))), (37, .bool false)]) rfl trivial fun a hk => ?_
          refine wpListIn_nil ?_
          refine then_n ?_
          exact ⟨o269, false, (by exact Kn.pick (ks := [0, 3, 4, 5, 37]) hk rfl), hs, H⟩
        · rw [b397] at hk H
          replace H := bifT H
          refine x_run tab hk (k := 4) (lv := []) (ks := [0, 3, 4, 5, 30]) (e' := [(0, .string p0), (3, .string x270), (4, .int .i64 x271), (5, .int .i64 (IntKind.wrap .i64 (bt p0 x271))), (30, .bool ((IntKind.wrap .i64 (bt p0 x271)) != (40 : Int)))]) rfl trivial fun a hk => ?_
          cases b398 : ((IntKind.wrap .i64 (bt p0 x271)) != (40 : Int))
          · rw [b398] at hk H
            replace H := bifF H
            refine x_run tab hk (k := 7) (lv := []) (ks := [0, 3, 4, 5, 37]) (e' := [(0, .string p0), (3, .string x270), (4, .int .i64 x271), (5, .int .i64 (IntKind.wrap .i64 (bt p0 x271))), (37, .bool false)]) rfl trivial fun a hk => ?_
            refine wpListIn_nil ?_
            refine then_n ?_
            exact ⟨o269, false, (by exact Kn.pick (ks := [0, 3, 4, 5, 37]) hk rfl), hs, H⟩
          · rw [b398] at hk H
            replace H := bifT H
            refine x_run tab hk (k := 4) (lv := []) (ks := [0, 3, 4, 5, 34]) (e' := [(0, .string p0), (3, .string x270), (4, .int .i64 x271), (5, .int .i64 (IntKind.wrap .i64 (bt p0 x271))), (34, .bool ((IntKind.wrap .i64 (bt p0 x271)) != (41 : Int)))]) rfl trivial fun a hk => ?_
            cases b399 : ((IntKind.wrap .i64 (bt p0 x271)) != (41 : Int))
            · rw [b399] at hk H
              replace H := bifF H
              refine x_run tab hk (k := 3) (lv := []) (ks := [0, 3, 4, 5, 37]) (e' := [(0, .string p0), (3, .string x270), (4, .int .i64 x271), (5, .int .i64 (IntKind.wrap .i64 (bt p0 x271))), (37, .bool false)]) rfl trivial fun a hk => ?_
              refine wpListIn_nil ?_
              refine then_n ?_
              exact ⟨o269, false, (by exact Kn.pick (ks := [0, 3, 4, 5, 37]) hk rfl), hs, H⟩
            · rw [b399] at hk H
              replace H := bifT H
              refine x_run tab hk (k := 3) (lv := []) (ks := [0, 3, 4, 5, 37]) (e' := [(0, .string p0), (3, .string x270), (4, .int .i64 x271), (5, .int .i64 (IntKind.wrap .i64 (bt p0 x271))), (37, .bool ((IntKind.wrap .i64 (bt p0 x271)) != (44 : Int)))]) rfl trivial fun a hk => ?_
              refine wpListIn_nil ?_
              refine then_n ?_
              exact ⟨o269, ((IntKind.wrap .i64 (bt p0 x271)) != (44 : Int)), (by exact Kn.pick (ks := [0, 3, 4, 5, 37]) hk rfl), hs, H⟩

/-! tidewrack/tidewrackref27.Line -/
set_option maxHeartbeats 4000000 in
set_option maxRecDepth 20000 in
theorem tidewrackref27_Line_calls (K : Nat) (Ap0_0 : Option Addr) (cp0_0 : Nat) (p0 : T25) (w : World) (o : Nat → Nat) (Lg4 : Nat) (hg4 : Ft (GTab Tryd.prog "internal/strconv.uint64pow10" .u64 Lib.pow10Tab) w o Lg4) (Lp0_0 : Nat) (hp0_0 : Ft (RdC (encInt .i64) Ap0_0 p0.Nums) w o Lp0_0) (hcp0_0 : (p0.Nums).length ≤ cp0_0)  (r : ByteArray) (H : tidewrackref27_Line K p0 = some r) :
    Calls Tryd.prog 13 #[.agg #[.string p0.Word, .slice Ap0_0 (p0.Nums).length cp0_0, .string p0.Text]] w (Ret fun v_ w' => ∃ o' : Nat → Nat, v_ = .string r ∧ St [] w o w' o') := by
  refine x_enter (vs := [.agg #[.string p0.Word, .slice Ap0_0 (p0.Nums).length cp0_0, .string p0.Text]]) Tryd.func13 rfl rfl rfl fun a hk => ?_
  obtain ⟨o0, hs, h0⟩ := St.start w o
  have fg4 := h0 _ _ hg4
  have f900000 := h0 _ _ hp0_0
  clear h0
  rw [tidewrackref27_Line] at H
  refine x_seq ?_
  refine wpIn_region_lit ?_
  refine x_op hk rfl ?_
  refine op_box (o := o0) (t := 30) (v := .agg #[.string p0.Word, .slice Ap0_0 (p0.Nums).length cp0_0, .string p0.Text]) (cs := [.string p0.Word, .slice Ap0_0 (p0.Nums).length cp0_0, .string p0.Text]) hk rfl rfl 1 fun bx4 w1 o2 st3 f5 => ?_
  replace f900000 := f900000.st st3 (by decide)
  replace fg4 := fg4.st st3 (by decide)
  replace hs := hs.loc0 st3 (by decide)
  have hk := hk.put 1 (.pointer (some ⟨bx4, 0, none⟩)) rfl
  refine x_run tab hk (k := 1) (lv := []) (ks := [1]) (e' := [(1, .pointer (some ⟨bx4, 0, none⟩))]) rfl trivial fun a hk => ?_
  refine wpListIn_nil ?_
  refine then_n ?_
  refine x_seq ?_
  refine wpIn_region_lit ?_
  refine x_run tab hk (k := 2) (lv := [.string p0.Word]) (ks := [1, 10]) (e' := [(1, .pointer (some ⟨bx4, 0, none⟩)), (10, .string p0.Word)]) rfl ⟨(load1 tab rfl ((Bx.cell f5.now 0).trans rfl)), trivial⟩ fun a hk => ?_
  refine x_op hk rfl ?_
  obtain ⟨t9, hc10, H⟩ := bindS H
  refine op_call hk ent_16 (vs := [.string p0.Word]) rfl (tidewrackref27_Form_calls p0.Word _ o2    _ hc10) ?_
  rintro _ w11 ⟨o12, rfl, st13⟩
  replace f5 := f5.st st13 (by decide)
  replace f900000 := f900000.st st13 (by decide)
  replace fg4 := fg4.st st13 (by decide)
  replace hs := hs.loc0 st13 (by decide)
  have hk := hk.put 11 (.tuple #[.int .i64 t9.1, .bool t9.2]) rfl
  refine x_run tab hk (k := 5) (lv := []) (ks := [1, 3, 4]) (e' := [(1, .pointer (some ⟨bx4, 0, none⟩)), (3, .int .i64 t9.1), (4, .bool t9.2)]) rfl trivial fun a hk => ?_
  refine wpListIn_nil ?_
  refine then_n ?_
  refine x_mid (fun a_ w_ => ∃ o21 : Nat → Nat, Kn 75 a_ [(1, .pointer (some ⟨bx4, 0, none⟩)), (3, .int .i64 t9.1), (4, .bool t9.2)] ∧ St [] w (fun _ => 0) w_ o21 ∧ Ft (Bx bx4 30 [.string p0.Word, .slice Ap0_0 (p0.Nums).length cp0_0, .string p0.Text]) w_ o21 2 ∧ Ft (RdC (encInt .i64) Ap0_0 p0.Nums) w_ o21 0 ∧ Ft (GTab Tryd.prog "internal/strconv.uint64pow10" .u64 Lib.pow10Tab) w_ o21 0 ∧ tidewrackref27_Line_j1 K p0 t9 = some r) ?_ ?_
  rotate_left
  · rintro a w22 ⟨o21, hk, hs, f5, f900000, fg4, H⟩
    unfold tidewrackref27_Line_j1 at H
    refine x_seq ?_
    refine wpIn_region_lit ?_
    obtain ⟨q23, H⟩ := ifS H
    refine x_run tab hk (k := 4) (lv := [.string p0.Word]) (ks := [1, 3, 4, 5]) (e' := [(1, .pointer (some ⟨bx4, 0, none⟩)), (3, .int .i64 t9.1), (4, .bool t9.2), (5, .string (p0.Word ++ (⟨#[40]⟩ : ByteArray)))]) rfl ⟨(load1 tab rfl ((Bx.cell f5.now 0).trans rfl)), q23, trivial⟩ fun a hk => ?_
    refine wpListIn_nil ?_
    refine then_n ?_
    refine x_mid (fun a_ w_ => ∃ o136 : Nat → Nat, ∃ x137 : ByteArray, Kn 75 a_ [(1, .pointer (some ⟨bx4, 0, none⟩)), (3, .int .i64 t9.1), (4, .bool t9.2), (5, .string x137)] ∧ St [] w (fun _ => 0) w_ o136 ∧ Ft (Bx bx4 30 [.string p0.Word, .slice Ap0_0 (p0.Nums).length cp0_0, .string p0.Text]) w_ o136 8 ∧ Ft (RdC (encInt .i64) Ap0_0 p0.Nums) w_ o136 0 ∧ Ft (GTab Tryd.prog "internal/strconv.uint64pow10" .u64 Lib.pow10Tab) w_ o136 0 ∧ tidewrackref27_Line_j2 K p0 t9 x137 = some r) ?_ ?_
    rotate_left
    · rintro a w138 ⟨o136, x137, hk, hs, f5, f900000, fg4, H⟩
      unfold tidewrackref27_Line_j2 at H
      refine x_mid (fun a_ w_ => ∃ o158 : Nat → Nat, ∃ x159 : ByteArray, Kn 75 a_ [(1, .pointer (some ⟨bx4, 0, none⟩)), (5, .string x159)] ∧ St [] w (fun _ => 0) w_ o158 ∧ Ft (Bx bx4 30 [.string p0.Word, .slice Ap0_0 (p0.Nums).length cp0_0, .string p0.Text]) w_ o158 10 ∧ Ft (RdC (encInt .i64) Ap0_0 p0.Nums) w_ o158 0 ∧ Ft (GTab Tryd.prog "internal/strconv.uint64pow10" .u64 Lib.pow10Tab) w_ o158 0 ∧ tidewrackref27_Line_j3 K p0 x159 = some r) ?_ ?_
      rotate_left
      · rintro a w160 ⟨o158, x159, hk, hs, f5, f900000, fg4, H⟩
        unfold tidewrackref27_Line_j3 at H
        refine x_seq ?_
        refine wpIn_region_lit ?_
        refine x_run tab hk (k := 3) (lv := [.string p0.Text]) (ks := [65, 67]) (e' := [(65, .string x159), (67, .string p0.Text)]) rfl ⟨(load1 tab rfl ((Bx.cell f5.now 2).trans rfl)), trivial⟩ fun a hk => ?_
        refine x_op hk rfl ?_
        obtain ⟨t164, hc165, H⟩ := bindS H
        refine op_call hk ent_25 (vs := [.string p0.Text]) rfl (tidewrackref27_text_calls K p0.Text _ o158    _ hc165) ?_
        rintro _ w166 ⟨o167, rfl, st168⟩
        replace fg4 := fg4.st st168 (by decide)
        replace hs := hs.loc0 st168 (by decide)
        have hk := hk.put 68 (.string t164) rfl
        obtain ⟨q169, H⟩ := ifS H
        obtain ⟨q170, H⟩ := ifS H
        refine x_run tab hk (k := 3) (lv := []) (ks := [5]) (e' := [(5, .string (x159 ++ (t164 ++ (⟨#[41]⟩ : ByteArray))))]) rfl ⟨q169, q170, trivial⟩ fun a hk => ?_
        refine wpListIn_nil ?_
        refine then_n ?_
        refine x_seq ?_
        refine x_seq ?_
        refine wpIn_region_lit ?_
        refine x_run tab hk (k := 3) (lv := []) (ks := [5, 73]) (e' := [(5, .string (x159 ++ (t164 ++ (⟨#[41]⟩ : ByteArray)))), (73, .bool (decide ((((x159 ++ (t164 ++ (⟨#[41]⟩ : ByteArray)))).size : Int) > (4000 : Int))))]) rfl trivial fun a hk => ?_
        refine wpListIn_nil ?_
        refine then_n ?_
        cases b171 : (decide ((((x159 ++ (t164 ++ (⟨#[41]⟩ : ByteArray)))).size : Int) > (4000 : Int)))
        · rw [b171] at hk H
          replace H := bifF H
          refine x_if hk (b := false) rfl ?_
          refine (show Code.wpIn _ _ _ _ _ _ _ from ?_)
          refine wpIn_skip ?_
          refine then_n ?_
          refine x_seq ?_
          refine wpIn_region_lit ?_
          refine x_run tab hk (k := 2) (lv := []) (ks := [2]) (e' := [(2, .string (x159 ++ (t164 ++ (⟨#[41]⟩ : ByteArray))))]) rfl trivial fun a hk => ?_
          refine wpListIn_nil ?_
          refine then_n ?_
          refine wpIn_ret ?_
          obtain rfl := Option.some.inj H
          exact x_retG hk (rs := [.tmp 2]) (vs := [.string (x159 ++ (t164 ++ (⟨#[41]⟩ : ByteArray)))]) rfl ⟨rfl, trivial⟩ ⟨fun b_ => if b_ < w.heap.size then o b_ else (fun _ => 0) (o167 b_), rfl, hs.close0 o (fun _ => 0)⟩
        · rw [b171] at hk H
          replace H := bifT H
          refine x_if hk (b := true) rfl ?_
          refine (show Code.wpIn _ _ _ _ _ _ _ from ?_)
          refine x_seq ?_
          refine wpIn_region_lit ?_
          refine x_run tab hk (k := 1) (lv := []) (ks := [2]) (e' := [(2, .string (⟨#[]⟩ : ByteArray))]) rfl trivial fun a hk => ?_
          refine wpListIn_nil ?_
          refine then_n ?_
          refine wpIn_ret ?_
          refine then_r ?_
          obtain rfl := Option.some.inj H
          exact x_retG hk (rs := [.tmp 2]) (vs := [.string (⟨#[]⟩ : ByteArray)]) rfl ⟨rfl, trivial⟩ ⟨fun b_ => if b_ < w.heap.size then o b_ else (fun _ => 0) (o167 b_), rfl, hs.close0 o (fun _ => 0)⟩
      refine x_mid (fun a_ w_ => ∃ o179 : Nat → Nat, ∃ x180 : Bool, Kn 75 a_ [(1, .pointer (some ⟨bx4, 0, none⟩)), (5, .string x137), (62, .bool x180)] ∧ St [] w (fun _ => 0) w_ o179 ∧ Ft (Bx bx4 30 [.string p0.Word, .slice Ap0_0 (p0.Nums).length cp0_0, .string p0.Text]) w_ o179 11 ∧ Ft (RdC (encInt .i64) Ap0_0 p0.Nums) w_ o179 0 ∧ Ft (GTab Tryd.prog "internal/strconv.uint64pow10" .u64 Lib.pow10Tab) w_ o179 0 ∧ tidewrackref27_Line_j4 K p0 x137 x180 = some r) ?_ ?_
      rotate_left
      · rintro a w181 ⟨o179, x180, hk, hs, f5, f900000, fg4, H⟩
        unfold tidewrackref27_Line_j4 at H
        cases b182 : x180
        · rw [b182] at hk H
          replace H := bifF H
          refine x_if hk (b := false) rfl ?_
          refine (show Code.wpIn _ _ _ _ _ _ _ from ?_)
          refine wpIn_skip ?_
          refine then_n ?_
          exact ⟨(fun b_ => (fun l_ => if l_ = 11 then 10 else l_) (o179 b_)), x137, (by exact Kn.pick (ks := [1, 5]) hk rfl), (hs.relab0 (fun l_ => if l_ = 11 then 10 else l_) rfl), (f5.relab (fun l_ => if l_ = 11 then 10 else l_) rfl), (f900000.relab (fun l_ => if l_ = 11 then 10 else l_) rfl), (fg4.relab (fun l_ => if l_ = 11 then 10 else l_) rfl), H⟩
        · rw [b182] at hk H
          replace H := bifT H
          refine x_if hk (b := true) rfl ?_
          refine (show Code.wpIn _ _ _ _ _ _ _ from ?_)
          refine wpIn_region_lit ?_
          obtain ⟨q183, H⟩ := ifS H
          refine x_run tab hk (k := 3) (lv := []) (ks := [1, 5]) (e' := [(1, .pointer (some ⟨bx4, 0, none⟩)), (5, .string (x137 ++ (⟨#[44]⟩ : ByteArray)))]) rfl ⟨q183, trivial⟩ fun a hk => ?_
          refine wpListIn_nil ?_
          refine then_n ?_
          exact ⟨(fun b_ => (fun l_ => if l_ = 11 then 10 else l_) (o179 b_)), (x137 ++ (⟨#[44]⟩ : ByteArray)), (by exact Kn.pick (ks := [1, 5]) hk rfl), (hs.relab0 (fun l_ => if l_ = 11 then 10 else l_) rfl), (f5.relab (fun l_ => if l_ = 11 then 10 else l_) rfl), (f900000.relab (fun l_ => if l_ = 11 then 10 else l_) rfl), (fg4.relab (fun l_ => if l_ = 11 then 10 else l_) rfl), H⟩
      refine wpIn_region_lit ?_
      refine x_run tab hk (k := 2) (lv := []) (ks := [1, 3, 5, 59]) (e' := [(1, .pointer (some ⟨bx4, 0, none⟩)), (3, .int .i64 t9.1), (5, .string x137), (59, .bool t9.2)]) rfl trivial fun a hk => ?_
      cases b184 : t9.2
      · rw [b184] at hk H
        replace H := bifF H
        refine x_run tab hk (k := 3) (lv := []) (ks := [1, 5, 62]) (e' := [(1, .pointer (some ⟨bx4, 0, none⟩)), (5, .string x137), (62, .bool false)]) rfl trivial fun a hk => ?_
        refine wpListIn_nil ?_
        refine then_n ?_
        exact ⟨(fun b_ => (fun l_ => if l_ = 8 then 11 else l_) (o136 b_)), false, (by exact Kn.pick (ks := [1, 5, 62]) hk rfl), (hs.relab0 (fun l_ => if l_ = 8 then 11 else l_) rfl), (f5.relab (fun l_ => if l_ = 8 then 11 else l_) rfl), (f900000.relab (fun l_ => if l_ = 8 then 11 else l_) rfl), (fg4.relab (fun l_ => if l_ = 8 then 11 else l_) rfl), H⟩
      · rw [b184] at hk H
        replace H := bifT H
        refine x_run tab hk (k := 3) (lv := []) (ks := [1, 5, 62]) (e' := [(1, .pointer (some ⟨bx4, 0, none⟩)), (5, .string x137), (62, .bool (decide (t9.1 > (0 : Int))))]) rfl trivial fun a hk => ?_
        refine wpListIn_nil ?_
        refine then_n ?_
        exact ⟨(fun b_ => (fun l_ => if l_ = 8 then 11 else l_) (o136 b_)), (decide (t9.1 > (0 : Int))), (by exact Kn.pick (ks := [1, 5, 62]) hk rfl), (hs.relab0 (fun l_ => if l_ = 8 then 11 else l_) rfl), (f5.relab (fun l_ => if l_ = 8 then 11 else l_) rfl), (f900000.relab (fun l_ => if l_ = 8 then 11 else l_) rfl), (fg4.relab (fun l_ => if l_ = 8 then 11 else l_) rfl), H⟩
    refine x_seq ?_
    refine wpIn_region_lit ?_
    refine x_run tab hk (k := 4) (lv := [.slice Ap0_0 (p0.Nums).length cp0_0]) (ks := [1, 3, 4, 5, 36, 37, 38]) (e' := [(1, .pointer (some ⟨bx4, 0, none⟩)), (3, .int .i64 t9.1), (4, .bool t9.2), (5, .string (p0.Word ++ (⟨#[40]⟩ : ByteArray))), (36, .slice Ap0_0 (p0.Nums).length cp0_0), (37, .int .i64 ((p0.Nums).length : Int)), (38, .int .i64 0)]) rfl ⟨(load1 tab rfl ((Bx.cell f5.now 1).trans rfl)), trivial⟩ fun a hk => ?_
    refine wpListIn_nil ?_
    refine then_n ?_
    refine wpIn_block ?_
    refine x_loop (fun j_ a_ w_ => ∃ o220 : Nat → Nat, ∃ x221 : ByteArray, ∃ x222 : Int, Kn 75 a_ [(1, .pointer (some ⟨bx4, 0, none⟩)), (3, .int .i64 t9.1), (4, .bool t9.2), (5, .string x221), (36, .slice Ap0_0 (p0.Nums).length cp0_0), (37, .int .i64 ((p0.Nums).length : Int)), (38, .int .i64 x222)] ∧ St [] w (fun _ => 0) w_ o220 ∧ Ft (Bx bx4 30 [.string p0.Word, .slice Ap0_0 (p0.Nums).length cp0_0, .string p0.Text]) w_ o220 14 ∧ Ft (RdC (encInt .i64) Ap0_0 p0.Nums) w_ o220 0 ∧ Ft (GTab Tryd.prog "internal/strconv.uint64pow10" .u64 Lib.pow10Tab) w_ o220 0 ∧ tidewrackref27_Line_l5 K p0 t9 j_ x221 x222 = some r) (k := K) ⟨(fun b_ => (fun l_ => if l_ = 2 then 14 else l_) (o21 b_)), (p0.Word ++ (⟨#[40]⟩ : ByteArray)), 0, (by exact Kn.pick (ks := [1, 3, 4, 5, 36, 37, 38]) hk rfl), (hs.relab0 (fun l_ => if l_ = 2 then 14 else l_) rfl), (f5.relab (fun l_ => if l_ = 2 then 14 else l_) rfl), (f900000.relab (fun l_ => if l_ = 2 then 14 else l_) rfl), (fg4.relab (fun l_ => if l_ = 2 then 14 else l_) rfl), H⟩ (by rintro _ _ ⟨_, _, _, _, _, _, _, _, H_⟩; exact absurd (show (none : Option ByteArray) = some r from H_) (by simp)) ?_
    rintro k256 a w255 ⟨o220, x221, x222, hk, hs, f5, f900000, fg4, H⟩
    rw [tidewrackref27_Line_l5] at H
    obtain ⟨lp257, hlp258⟩ : ∃ lp_, lp_ = tidewrackref27_Line_l5 K p0 t9 k256 := ⟨_, rfl⟩
    rw [← hlp258] at H
    refine x_seq ?_
    refine wpIn_region_lit ?_
    refine x_run tab hk (k := 1) (lv := []) (ks := [1, 3, 4, 5, 36, 37, 38, 39]) (e' := [(1, .pointer (some ⟨bx4, 0, none⟩)), (3, .int .i64 t9.1), (4, .bool t9.2), (5, .string x221), (36, .slice Ap0_0 (p0.Nums).length cp0_0), (37, .int .i64 ((p0.Nums).length : Int)), (38, .int .i64 x222), (39, .bool (decide (x222 < ((p0.Nums).length : Int))))]) rfl trivial fun a hk => ?_
    refine wpListIn_nil ?_
    refine then_n ?_
    refine x_seq ?_
    cases b259 : (decide (x222 < ((p0.Nums).length : Int)))
    · rw [b259] at hk H
      replace H := bifF H
      refine x_if hk (b := false) rfl ?_
      refine (show Code.wpIn _ _ _ _ _ _ _ from ?_)
      refine wpIn_exit ?_
      refine then_x ?_
      refine then_x ?_
      refine blk_x ?_
      refine then_n ?_
      exact ⟨(fun b_ => (fun l_ => if l_ = 14 then 8 else l_) (o220 b_)), x221, (by exact Kn.pick (ks := [1, 3, 4, 5]) hk rfl), (hs.relab0 (fun l_ => if l_ = 14 then 8 else l_) rfl), (f5.relab (fun l_ => if l_ = 14 then 8 else l_) rfl), (f900000.relab (fun l_ => if l_ = 14 then 8 else l_) rfl), (fg4.relab (fun l_ => if l_ = 14 then 8 else l_) rfl), H⟩
    · rw [b259] at hk H
      replace H := bifT H
      refine x_if hk (b := true) rfl ?_
      refine (show Code.wpIn _ _ _ _ _ _ _ from ?_)
      refine wpIn_skip ?_
      refine then_n ?_
      refine x_seq ?_
      refine wpIn_block ?_
      refine x_seq ?_
      refine wpIn_region_lit ?_
      obtain ⟨q260, H⟩ := ifS H
      obtain ⟨ad261, hAad261⟩ := RdC.addr f900000.now q260
      have hk_C := hk
      have f5_C := f5
      have f900000_C := f900000
      have fg4_C := fg4
      subst hAad261
      have hk := hk_C
      clear hk_C
      have f5 := f5_C
      clear f5_C
      have f900000 := f900000_C
      clear f900000_C
      have fg4 := fg4_C
      clear fg4_C
      refine x_run tab hk (k := 5) (lv := [.int .i64 (rdD 0 p0.Nums x222)]) (ks := [1, 3, 4, 5, 6, 7, 36, 37, 38]) (e' := [(1, .pointer (some ⟨bx4, 0, none⟩)), (3, .int .i64 t9.1), (4, .bool t9.2), (5, .string x221), (6, .int .i64 x222), (7, .int .i64 (rdD 0 p0.Nums x222)), (36, .slice (some ad261) (p0.Nums).length cp0_0), (37, .int .i64 ((p0.Nums).length : Int)), (38, .int .i64 x222)]) rfl ⟨q260, (load1 tab rfl (RdC.at0 (E := (encInt .i64)) (d := 0) (i := x222) f900000.now q260 rfl)), trivial⟩ fun a hk => ?_
      refine wpListIn_nil ?_
      refine then_n ?_
      refine x_mid (fun a_ w_ => ∃ o267 : Nat → Nat, Kn 75 a_ [(1, .pointer (some ⟨bx4, 0, none⟩)), (3, .int .i64 t9.1), (4, .bool t9.2), (5, .string x221), (6, .int .i64 x222), (7, .int .i64 (rdD 0 p0.Nums x222)), (36, .slice (some ad261) (p0.Nums).length cp0_0), (37, .int .i64 ((p0.Nums).length : Int)), (38, .int .i64 x222)] ∧ St [] w (fun _ => 0) w_ o267 ∧ Ft (Bx bx4 30 [.string p0.Word, .slice (some ad261) (p0.Nums).length cp0_0, .string p0.Text]) w_ o267 16 ∧ Ft (RdC (encInt .i64) (some ad261) p0.Nums) w_ o267 0 ∧ Ft (GTab Tryd.prog "internal/strconv.uint64pow10" .u64 Lib.pow10Tab) w_ o267 0 ∧ tidewrackref27_Line_j6 p0 x221 x222 lp257 = some r) ?_ ?_
      rotate_left
      · rintro a w268 ⟨o267, hk, hs, f5, f900000, fg4, H⟩
        unfold tidewrackref27_Line_j6 at H
        refine x_seq ?_
        refine x_seq ?_
        refine wpIn_region_lit ?_
        refine x_run tab hk (k := 2) (lv := []) (ks := [1, 3, 4, 5, 7, 36, 37, 38, 50]) (e' := [(1, .pointer (some ⟨bx4, 0, none⟩)), (3, .int .i64 t9.1), (4, .bool t9.2), (5, .string x221), (7, .int .i64 (rdD 0 p0.Nums x222)), (36, .slice (some ad261) (p0.Nums).length cp0_0), (37, .int .i64 ((p0.Nums).length : Int)), (38, .int .i64 x222), (50, .bool (decide (x222 > (0 : Int))))]) rfl trivial fun a hk => ?_
        refine wpListIn_nil ?_
        refine then_n ?_
        cases b269 : (decide (x222 > (0 : Int)))
        · rw [b269] at hk H
          replace H := bifF H
          refine x_if hk (b := false) rfl ?_
          refine (show Code.wpIn _ _ _ _ _ _ _ from ?_)
          refine wpIn_skip ?_
          refine then_n ?_
          refine wpIn_region_lit ?_
          refine x_run tab hk (k := 2) (lv := []) (ks := [1, 3, 4, 36, 37, 38, 53, 54]) (e' := [(1, .pointer (some ⟨bx4, 0, none⟩)), (3, .int .i64 t9.1), (4, .bool t9.2), (36, .slice (some ad261) (p0.Nums).length cp0_0), (37, .int .i64 ((p0.Nums).length : Int)), (38, .int .i64 x222), (53, .string x221), (54, .int .i64 (rdD 0 p0.Nums x222))]) rfl trivial fun a hk => ?_
          refine x_op hk rfl ?_
          obtain ⟨t273, hc274, H⟩ := bindS H
          refine op_call hk ent_22 (vs := [.int .i64 (rdD 0 p0.Nums x222)]) rfl (strconv_Itoa_calls (rdD 0 p0.Nums x222) _ o267 0 fg4   _ hc274) ?_
          rintro _ w275 ⟨o276, rfl, st277⟩
          replace f5 := f5.st st277 (by decide)
          replace f900000 := f900000.st st277 (by decide)
          replace fg4 := fg4.st st277 (by decide)
          replace hs := hs.loc0 st277 (by decide)
          have hk := hk.put 55 (.string t273) rfl
          obtain ⟨q278, H⟩ := ifS H
          refine x_run tab hk (k := 2) (lv := []) (ks := [1, 3, 4, 5, 36, 37, 38]) (e' := [(1, .pointer (some ⟨bx4, 0, none⟩)), (3, .int .i64 t9.1), (4, .bool t9.2), (5, .string (x221 ++ t273)), (36, .slice (some ad261) (p0.Nums).length cp0_0), (37, .int .i64 ((p0.Nums).length : Int)), (38, .int .i64 x222)]) rfl ⟨q278, trivial⟩ fun a hk => ?_
          refine wpListIn_nil ?_
          refine blk_n ?_
          refine then_n ?_
          refine wpIn_region_lit ?_
          refine x_run tab hk (k := 2) (lv := []) (ks := [1, 3, 4, 5, 36, 37, 38]) (e' := [(1, .pointer (some ⟨bx4, 0, none⟩)), (3, .int .i64 t9.1), (4, .bool t9.2), (5, .string (x221 ++ t273)), (36, .slice (some ad261) (p0.Nums).length cp0_0), (37, .int .i64 ((p0.Nums).length : Int)), (38, .int .i64 (IntKind.wrap .i64 (x222 + 1)))]) rfl trivial fun a hk => ?_
          refine wpListIn_nil ?_
          refine then_n ?_
          exact ⟨k256, Nat.le_refl _, (fun b_ => (fun l_ => if l_ = 16 then 14 else l_) (o276 b_)), (x221 ++ t273), (IntKind.wrap .i64 (x222 + 1)), (by exact Kn.pick (ks := [1, 3, 4, 5, 36, 37, 38]) hk rfl), (hs.relab0 (fun l_ => if l_ = 16 then 14 else l_) rfl), (f5.relab (fun l_ => if l_ = 16 then 14 else l_) rfl), (f900000.relab (fun l_ => if l_ = 16 then 14 else l_) rfl), (fg4.relab (fun l_ => if l_ = 16 then 14 else l_) rfl), (hlp258 ▸ H)⟩
        · rw [b269] at hk H
          replace H := bifT H
          refine x_if hk (b := true) rfl ?_
          refine (show Code.wpIn _ _ _ _ _ _ _ from ?_)
          refine wpIn_region_lit ?_
          obtain ⟨q279, H⟩ := ifS H
          refine x_run tab hk (k := 3) (lv := []) (ks := [1, 3, 4, 5, 7, 36, 37, 38]) (e' := [(1, .pointer (some ⟨bx4, 0, none⟩)), (3, .int .i64 t9.1), (4, .bool t9.2), (5, .string (x221 ++ (⟨#[44]⟩ : ByteArray))), (7, .int .i64 (rdD 0 p0.Nums x222)), (36, .slice (some ad261) (p0.Nums).length cp0_0), (37, .int .i64 ((p0.Nums).length : Int)), (38, .int .i64 x222)]) rfl ⟨q279, trivial⟩ fun a hk => ?_
          refine wpListIn_nil ?_
          refine then_n ?_
          refine wpIn_region_lit ?_
          refine x_run tab hk (k := 2) (lv := []) (ks := [1, 3, 4, 36, 37, 38, 53, 54]) (e' := [(1, .pointer (some ⟨bx4, 0, none⟩)), (3, .int .i64 t9.1), (4, .bool t9.2), (36, .slice (some ad261) (p0.Nums).length cp0_0), (37, .int .i64 ((p0.Nums).length : Int)), (38, .int .i64 x222), (53, .string (x221 ++ (⟨#[44]⟩ : ByteArray))), (54, .int .i64 (rdD 0 p0.Nums x222))]) rfl trivial fun a hk => ?_
          refine x_op hk rfl ?_
          obtain ⟨t283, hc284, H⟩ := bindS H
          refine op_call hk ent_22 (vs := [.int .i64 (rdD 0 p0.Nums x222)]) rfl (strconv_Itoa_calls (rdD 0 p0.Nums x222) _ o267 0 fg4   _ hc284) ?_
          rintro _ w285 ⟨o286, rfl, st287⟩
          replace f5 := f5.st st287 (by decide)
          replace f900000 := f900000.st st287 (by decide)
          replace fg4 := fg4.st st287 (by decide)
          replace hs := hs.loc0 st287 (by decide)
          have hk := hk.put 55 (.string t283) rfl
          obtain ⟨q288, H⟩ := ifS H
          refine x_run tab hk (k := 2) (lv := []) (ks := [1, 3, 4, 5, 36, 37, 38]) (e' := [(1, .pointer (some ⟨bx4, 0, none⟩)), (3, .int .i64 t9.1), (4, .bool t9.2), (5, .string ((x221 ++ (⟨#[44]⟩ : ByteArray)) ++ t283)), (36, .slice (some ad261) (p0.Nums).length cp0_0), (37, .int .i64 ((p0.Nums).length : Int)), (38, .int .i64 x222)]) rfl ⟨q288, trivial⟩ fun a hk => ?_
          refine wpListIn_nil ?_
          refine blk_n ?_
          refine then_n ?_
          refine wpIn_region_lit ?_
          refine x_run tab hk (k := 2) (lv := []) (ks := [1, 3, 4, 5, 36, 37, 38]) (e' := [(1, .pointer (some ⟨bx4, 0, none⟩)), (3, .int .i64 t9.1), (4, .bool t9.2), (5, .string ((x221 ++ (⟨#[44]⟩ : ByteArray)) ++ t283)), (36, .slice (some ad261) (p0.Nums).length cp0_0), (37, .int .i64 ((p0.Nums).length : Int)), (38, .int .i64 (IntKind.wrap .i64 (x222 + 1)))]) rfl trivial fun a hk => ?_
          refine wpListIn_nil ?_
          refine then_n ?_
          exact ⟨k256, Nat.le_refl _, (fun b_ => (fun l_ => if l_ = 16 then 14 else l_) (o286 b_)), ((x221 ++ (⟨#[44]⟩ : ByteArray)) ++ t283), (IntKind.wrap .i64 (x222 + 1)), (by exact Kn.pick (ks := [1, 3, 4, 5, 36, 37, 38]) hk rfl), (hs.relab0 (fun l_ => if l_ = 16 then 14 else l_) rfl), (f5.relab (fun l_ => if l_ = 16 then 14 else l_) rfl), (f900000.relab (fun l_ => if l_ = 16 then 14 else l_) rfl), (fg4.relab (fun l_ => if l_ = 16 then 14 else l_) rfl), (hlp258 ▸ H)⟩
      refine x_seq ?_
      refine wpIn_region_lit ?_
      refine x_run tab hk (k := 3) (lv := []) (ks := [1, 3, 4, 5, 6, 7, 36, 37, 38, 45]) (e' := [(1, .pointer (some ⟨bx4, 0, none⟩)), (3, .int .i64 t9.1), (4, .bool t9.2), (5, .string x221), (6, .int .i64 x222), (7, .int .i64 (rdD 0 p0.Nums x222)), (36, .slice (some ad261) (p0.Nums).length cp0_0), (37, .int .i64 ((p0.Nums).length : Int)), (38, .int .i64 x222), (45, .bool (decide ((rdD 0 p0.Nums x222) < (0 : Int))))]) rfl trivial fun a hk => ?_
      cases b289 : (decide ((rdD 0 p0.Nums x222) < (0 : Int)))
      · rw [b289] at hk H
        replace H := bifF H
        refine x_run tab hk (k := 3) (lv := []) (ks := [1, 3, 4, 5, 6, 7, 36, 37, 38, 48]) (e' := [(1, .pointer (some ⟨bx4, 0, none⟩)), (3, .int .i64 t9.1), (4, .bool t9.2), (5, .string x221), (6, .int .i64 x222), (7, .int .i64 (rdD 0 p0.Nums x222)), (36, .slice (some ad261) (p0.Nums).length cp0_0), (37, .int .i64 ((p0.Nums).length : Int)), (38, .int .i64 x222), (48, .bool (decide ((rdD 0 p0.Nums x222) > (4294967295 : Int))))]) rfl trivial fun a hk => ?_
        refine wpListIn_nil ?_
        refine then_n ?_
        cases b290 : (decide ((rdD 0 p0.Nums x222) > (4294967295 : Int)))
        · rw [b290] at hk H
          replace H := bifF H
          refine x_if hk (b := false) rfl ?_
          refine (show Code.wpIn _ _ _ _ _ _ _ from ?_)
          refine wpIn_skip ?_
          refine then_n ?_
          exact ⟨(fun b_ => (fun l_ => if l_ = 14 then 16 else l_) (o220 b_)), (by exact Kn.pick (ks := [1, 3, 4, 5, 6, 7, 36, 37, 38]) hk rfl), (hs.relab0 (fun l_ => if l_ = 14 then 16 else l_) rfl), (f5.relab (fun l_ => if l_ = 14 then 16 else l_) rfl), (f900000.relab (fun l_ => if l_ = 14 then 16 else l_) rfl), (fg4.relab (fun l_ => if l_ = 14 then 16 else l_) rfl), H⟩
        · rw [b290] at hk H
          replace H := bifT H
          refine x_if hk (b := true) rfl ?_
          refine (show Code.wpIn _ _ _ _ _ _ _ from ?_)
          refine x_seq ?_
          refine wpIn_region_lit ?_
          refine x_run tab hk (k := 1) (lv := []) (ks := [2]) (e' := [(2, .string (⟨#[]⟩ : ByteArray))]) rfl trivial fun a hk => ?_
          refine wpListIn_nil ?_
          refine then_n ?_
          refine wpIn_ret ?_
          refine then_r ?_
          refine blk_r ?_
          refine then_r ?_
          refine then_r ?_
          refine blk_r ?_
          refine then_r ?_
          obtain rfl := Option.some.inj H
          exact x_retG hk (rs := [.tmp 2]) (vs := [.string (⟨#[]⟩ : ByteArray)]) rfl ⟨rfl, trivial⟩ ⟨fun b_ => if b_ < w.heap.size then o b_ else (fun _ => 0) (o220 b_), rfl, hs.close0 o (fun _ => 0)⟩
      · rw [b289] at hk H
        replace H := bifT H
        refine x_run tab hk (k := 3) (lv := []) (ks := [1, 3, 4, 5, 6, 7, 36, 37, 38, 48]) (e' := [(1, .pointer (some ⟨bx4, 0, none⟩)), (3, .int .i64 t9.1), (4, .bool t9.2), (5, .string x221), (6, .int .i64 x222), (7, .int .i64 (rdD 0 p0.Nums x222)), (36, .slice (some ad261) (p0.Nums).length cp0_0), (37, .int .i64 ((p0.Nums).length : Int)), (38, .int .i64 x222), (48, .bool true)]) rfl trivial fun a hk => ?_
        refine wpListIn_nil ?_
        refine then_n ?_
        refine x_if hk (b := true) rfl ?_
        refine (show Code.wpIn _ _ _ _ _ _ _ from ?_)
        refine x_seq ?_
        refine wpIn_region_lit ?_
        refine x_run tab hk (k := 1) (lv := []) (ks := [2]) (e' := [(2, .string (⟨#[]⟩ : ByteArray))]) rfl trivial fun a hk => ?_
        refine wpListIn_nil ?_
        refine then_n ?_
        refine wpIn_ret ?_
        refine then_r ?_
        refine blk_r ?_
        refine then_r ?_
        refine then_r ?_
        refine blk_r ?_
        refine then_r ?_
        obtain rfl := Option.some.inj H
        exact x_retG hk (rs := [.tmp 2]) (vs := [.string (⟨#[]⟩ : ByteArray)]) rfl ⟨rfl, trivial⟩ ⟨fun b_ => if b_ < w.heap.size then o b_ else (fun _ => 0) (o220 b_), rfl, hs.close0 o (fun _ => 0)⟩
  refine x_seq ?_
  refine wpIn_region_lit ?_
  refine x_run tab hk (k := 3) (lv := []) (ks := [1, 3, 4, 16]) (e' := [(1, .pointer (some ⟨bx4, 0, none⟩)), (3, .int .i64 t9.1), (4, .bool t9.2), (16, .bool (decide (t9.1 < (0 : Int))))]) rfl trivial fun a hk => ?_
  cases b291 : (decide (t9.1 < (0 : Int)))
  · rw [b291] at hk H
    replace H := bifF H
    refine x_run tab hk (k := 7) (lv := [.slice Ap0_0 (p0.Nums).length cp0_0]) (ks := [1, 3, 4, 23]) (e' := [(1, .pointer (some ⟨bx4, 0, none⟩)), (3, .int .i64 t9.1), (4, .bool t9.2), (23, .bool (((p0.Nums).length : Int) != t9.1))]) rfl ⟨(load1 tab rfl ((Bx.cell f5.now 1).trans rfl)), trivial⟩ fun a hk => ?_
    cases b292 : (((p0.Nums).length : Int) != t9.1)
    · rw [b292] at hk H
      replace H := bifF H
      refine x_run tab hk (k := 3) (lv := []) (ks := [1, 3, 4, 23, 26]) (e' := [(1, .pointer (some ⟨bx4, 0, none⟩)), (3, .int .i64 t9.1), (4, .bool t9.2), (23, .bool false), (26, .bool (!t9.2))]) rfl trivial fun a hk => ?_
      cases b293 : (!t9.2)
      · rw [b293] at hk H
        replace H := bifF H
        refine x_run tab hk (k := 5) (lv := []) (ks := [1, 3, 4, 31]) (e' := [(1, .pointer (some ⟨bx4, 0, none⟩)), (3, .int .i64 t9.1), (4, .bool t9.2), (31, .bool false)]) rfl trivial fun a hk => ?_
        refine wpListIn_nil ?_
        refine then_n ?_
        refine x_if hk (b := false) rfl ?_
        refine (show Code.wpIn _ _ _ _ _ _ _ from ?_)
        refine wpIn_skip ?_
        refine then_n ?_
        exact ⟨(fun b_ => (fun l_ => if l_ = 1 then 2 else l_) (o12 b_)), (by exact Kn.pick (ks := [1, 3, 4]) hk rfl), (hs.relab0 (fun l_ => if l_ = 1 then 2 else l_) rfl), (f5.relab (fun l_ => if l_ = 1 then 2 else l_) rfl), (f900000.relab (fun l_ => if l_ = 1 then 2 else l_) rfl), (fg4.relab (fun l_ => if l_ = 1 then 2 else l_) rfl), H⟩
      · rw [b293] at hk H
        replace H := bifT H
        refine x_run tab hk (k := 5) (lv := [.string p0.Text]) (ks := [1, 3, 4, 31]) (e' := [(1, .pointer (some ⟨bx4, 0, none⟩)), (3, .int .i64 t9.1), (4, .bool t9.2), (31, .bool (!(ByteArray.toList p0.Text == ByteArray.toList (⟨#[]⟩ : ByteArray))))]) rfl ⟨(load1 tab rfl ((Bx.cell f5.now 2).trans rfl)), trivial⟩ fun a hk => ?_
        refine wpListIn_nil ?_
        refine then_n ?_
        cases b294 : (!(ByteArray.toList p0.Text == ByteArray.toList (⟨#[]⟩ : ByteArray)))
        · rw [b294] at hk H
          replace H := bifF H
          refine x_if hk (b := false) rfl ?_
          refine (show Code.wpIn _ _ _ _ _ _ _ from ?_)
          refine wpIn_skip ?_
          refine then_n ?_
          exact ⟨(fun b_ => (fun l_ => if l_ = 1 then 2 else l_) (o12 b_)), (by exact Kn.pick (ks := [1, 3, 4]) hk rfl), (hs.relab0 (fun l_ => if l_ = 1 then 2 else l_) rfl), (f5.relab (fun l_ => if l_ = 1 then 2 else l_) rfl), (f900000.relab (fun l_ => if l_ = 1 then 2 else l_) rfl), (fg4.relab (fun l_ => if l_ = 1 then 2 else l_) rfl), H⟩
        · rw [b294] at hk H
          replace H := bifT H
          refine x_if hk (b := true) rfl ?_
          refine (show Code.wpIn _ _ _ _ _ _ _ from ?_)
          refine x_seq ?_
          refine wpIn_region_lit ?_
          refine x_run tab hk (k := 1) (lv := []) (ks := [2]) (e' := [(2, .string (⟨#[]⟩ : ByteArray))]) rfl trivial fun a hk => ?_
          refine wpListIn_nil ?_
          refine then_n ?_
          refine wpIn_ret ?_
          refine then_r ?_
          obtain rfl := Option.some.inj H
          exact x_retG hk (rs := [.tmp 2]) (vs := [.string (⟨#[]⟩ : ByteArray)]) rfl ⟨rfl, trivial⟩ ⟨fun b_ => if b_ < w.heap.size then o b_ else (fun _ => 0) (o12 b_), rfl, hs.close0 o (fun _ => 0)⟩
    · rw [b292] at hk H
      replace H := bifT H
      refine x_run tab hk (k := 8) (lv := []) (ks := [1, 3, 4, 31]) (e' := [(1, .pointer (some ⟨bx4, 0, none⟩)), (3, .int .i64 t9.1), (4, .bool t9.2), (31, .bool true)]) rfl trivial fun a hk => ?_
      refine wpListIn_nil ?_
      refine then_n ?_
      refine x_if hk (b := true) rfl ?_
      refine (show Code.wpIn _ _ _ _ _ _ _ from ?_)
      refine x_seq ?_
      refine wpIn_region_lit ?_
      refine x_run tab hk (k := 1) (lv := []) (ks := [2]) (e' := [(2, .string (⟨#[]⟩ : ByteArray))]) rfl trivial fun a hk => ?_
      refine wpListIn_nil ?_
      refine then_n ?_
      refine wpIn_ret ?_
      refine then_r ?_
      obtain rfl := Option.some.inj H
      exact x_retG hk (rs := [.tmp 2]) (vs := [.string (⟨#[]⟩ : ByteArray)]) rfl ⟨rfl, trivial⟩ ⟨fun b_ => if b_ < w.heap.size then o b_ else (fun _ => 0) (o12 b_), rfl, hs.close0 o (fun _ => 0)⟩
  · rw [b291] at hk H
    replace H := bifT H
    refine x_run tab hk (k := 14) (lv := []) (ks := [1, 3, 4, 23, 30]) (e' := [(1, .pointer (some ⟨bx4, 0, none⟩)), (3, .int .i64 t9.1), (4, .bool t9.2), (23, .bool true), (30, undef)]) rfl trivial fun a hk => ?_
    refine x_run tab hk (k := 1) (lv := []) (ks := [1, 3, 4, 31]) (e' := [(1, .pointer (some ⟨bx4, 0, none⟩)), (3, .int .i64 t9.1), (4, .bool t9.2), (31, .bool true)]) rfl trivial fun a hk => ?_
    refine wpListIn_nil ?_
    refine then_n ?_
    refine x_if hk (b := true) rfl ?_
    refine (show Code.wpIn _ _ _ _ _ _ _ from ?_)
    refine x_seq ?_
    refine wpIn_region_lit ?_
    refine x_run tab hk (k := 1) (lv := []) (ks := [2]) (e' := [(2, .string (⟨#[]⟩ : ByteArray))]) rfl trivial fun a hk => ?_
    refine wpListIn_nil ?_
    refine then_n ?_
    refine wpIn_ret ?_
    refine then_r ?_
    obtain rfl := Option.some.inj H
    exact x_retG hk (rs := [.tmp 2]) (vs := [.string (⟨#[]⟩ : ByteArray)]) rfl ⟨rfl, trivial⟩ ⟨fun b_ => if b_ < w.heap.size then o b_ else (fun _ => 0) (o12 b_), rfl, hs.close0 o (fun _ => 0)⟩

/-! slices.Clone[[]string,string] -/
theorem slices_Clone_calls (Ap0 : Option Addr) (cp0 : Nat) (p0 : List ByteArray) (w : World) (o : Nat → Nat) (Lp0 : Nat) (hp0 : Ft (RdC encStr Ap0 p0) w o Lp0) (hcp0 : (p0).length ≤ cp0)  (R0 : Nat) (r : List ByteArray) (H : slices_Clone p0 = some r) :
    Calls Tryd.prog 26 #[.slice Ap0 (p0).length cp0] w (Ret fun v_ w' => ∃ o' : Nat → Nat, ∃ A0 : Option Addr, ∃ c0 : Nat, v_ = .slice A0 (r).length c0 ∧ St [] w o w' o' ∧ Ft (Own encStr 9 (.slice A0 (r).length c0) r) w' o' R0 ∧ (r).length ≤ c0) := by
  refine x_enter (vs := [.slice Ap0 (p0).length cp0]) Tryd.func26 rfl rfl rfl fun a hk => ?_
  obtain ⟨o0, hs, h0⟩ := St.start w o
  have f900000 := h0 _ _ hp0
  clear h0
  rw [slices_Clone] at H
  refine x_seq ?_
  refine wpIn_region_lit ?_
  refine x_run tab hk (k := 1) (lv := []) (ks := [0]) (e' := [(0, .slice Ap0 (p0).length cp0)]) rfl trivial fun a hk => ?_
  refine wpListIn_nil ?_
  refine then_n ?_
  refine x_seq ?_
  refine x_seq ?_
  refine wpIn_region_lit ?_
  refine x_run tab hk (k := 1) (lv := []) (ks := [0, 3]) (e' := [(0, .slice Ap0 (p0).length cp0), (3, .slice Ap0 (p0).length cp0)]) rfl trivial fun a hk => ?_
  rcases none_or Ap0 with hAad1 | ⟨ad1, hAad1⟩
  · have hk_C := hk
    have f900000_C := f900000
    subst hAad1
    have hk := hk_C
    clear hk_C
    have f900000 := f900000_C
    clear f900000_C
    have hz2 : p0 = [] := RdC.none f900000.now
    replace H : (some ([] : List ByteArray)) = some r := by (try rw [hz2] at H); simpa using H
    refine x_run tab hk (k := 1) (lv := []) (ks := [0, 4]) (e' := [(0, .slice none (p0).length cp0), (4, .bool true)]) rfl trivial fun a hk => ?_
    refine wpListIn_nil ?_
    refine then_n ?_
    refine x_if hk (b := true) rfl ?_
    refine (show Code.wpIn _ _ _ _ _ _ _ from ?_)
    refine x_seq ?_
    refine wpIn_region_lit ?_
    refine x_run tab hk (k := 1) (lv := []) (ks := [2]) (e' := [(2, .slice none 0 0)]) rfl trivial fun a hk => ?_
    refine wpListIn_nil ?_
    refine then_n ?_
    refine wpIn_ret ?_
    refine then_r ?_
    obtain rfl := Option.some.inj H
    exact x_retG hk (rs := [.tmp 2]) (vs := [.slice none 0 0]) rfl ⟨rfl, trivial⟩ ⟨fun b_ => if b_ < w.heap.size then o b_ else (fun _ => 0) (o0 b_), none, 0, rfl, hs.close0 o (fun _ => 0), (Ft.of_all (fun _ => Own.nil _ _ _) _ _ _), (by simp)⟩
  · have hk_C := hk
    have f900000_C := f900000
    subst hAad1
    have hk := hk_C
    clear hk_C
    have f900000 := f900000_C
    clear f900000_C
    refine x_run tab hk (k := 1) (lv := []) (ks := [0, 4]) (e' := [(0, .slice (some ad1) (p0).length cp0), (4, .bool false)]) rfl trivial fun a hk => ?_
    refine wpListIn_nil ?_
    refine then_n ?_
    refine x_if hk (b := false) rfl ?_
    refine (show Code.wpIn _ _ _ _ _ _ _ from ?_)
    refine wpIn_skip ?_
    refine then_n ?_
    refine x_seq ?_
    refine wpIn_region_lit ?_
    refine x_op hk rfl ?_
    refine op_slice (o := o0) tab hk (vs := []) (cs := []) rfl rfl rfl rfl rfl rfl rfl rfl rfl 1 fun bx6 w3 o4 st5 f7 => ?_
    replace f900000 := f900000.st st5 (by decide)
    replace hs := hs.loc0 st5 (by decide)
    have f8 : Ft (Own encStr 9 (.slice (some ⟨bx6, 0, none⟩) (([] : List ByteArray)).length 0) ([] : List ByteArray)) w3 o4 1 := f7.imp fun _ h_ => Own.of_box h_ rfl (by simp)
    have hk := hk.put 5 (.slice (some ⟨bx6, 0, none⟩) (([] : List ByteArray)).length 0) rfl
    refine x_run tab hk (k := 1) (lv := []) (ks := [5, 6]) (e' := [(5, .slice (some ⟨bx6, 0, none⟩) (([] : List ByteArray)).length 0), (6, .slice (some ad1) (p0).length cp0)]) rfl trivial fun a hk => ?_
    refine x_op hk rfl ?_
    obtain ⟨q12, H⟩ := ifS H
    refine op_append (o := o4) (E := encStr) (xs := ([] : List ByteArray)) (ys := p0) tab hk rfl rfl rfl rfl rfl rfl rfl f8 f900000.now q12 fun A13 c14 w9 o10 st11 f15 hc16 => ?_
    replace f900000 := f900000.st st11 (by decide)
    replace hs := hs.loc0 st11 (by decide)
    have hk := hk.put 7 (.slice A13 ((([] : List ByteArray) ++ p0)).length c14) rfl
    refine x_run tab hk (k := 1) (lv := []) (ks := [2]) (e' := [(2, .slice A13 ((([] : List ByteArray) ++ p0)).length c14)]) rfl trivial fun a hk => ?_
    refine wpListIn_nil ?_
    refine then_n ?_
    refine wpIn_ret ?_
    obtain rfl := Option.some.inj H
    exact x_retG hk (rs := [.tmp 2]) (vs := [.slice A13 ((([] : List ByteArray) ++ p0)).length c14]) rfl ⟨rfl, trivial⟩ ⟨fun b_ => if b_ < w.heap.size then o b_ else (fun _ => R0) (o10 b_), A13, c14, rfl, hs.close0 o (fun _ => R0), hs.close_ft (o := o) (ρ := fun _ => R0) f15 (by decide) rfl, hc16⟩

/-! tidewrack/line.Words -/
set_option maxHeartbeats 4000000 in
set_option maxRecDepth 20000 in
theorem line_Words_calls (K : Nat)  (w : World) (o : Nat → Nat) (Lg0 : Nat) (hg0 : Ft (RdC ET47 (some ⟨0, 0, none⟩) glob0) w o Lg0)   (R0 : Nat) (r : List ByteArray) (H : line_Words K = some r) :
    Calls Tryd.prog 14 #[] w (Ret fun v_ w' => ∃ o' : Nat → Nat, ∃ A0 : Option Addr, ∃ c0 : Nat, v_ = .slice A0 (r).length c0 ∧ St [] w o w' o' ∧ Ft (Own encStr 9 (.slice A0 (r).length c0) r) w' o' R0 ∧ (r).length ≤ c0) := by
  refine x_enter (vs := []) Tryd.func14 rfl rfl rfl fun a hk => ?_
  obtain ⟨o0, hs, h0⟩ := St.start w o
  have fg0 := h0 _ _ hg0
  clear h0
  rw [line_Words] at H
  refine x_seq ?_
  refine wpIn_region_lit ?_
  refine x_run tab hk (k := 1) (lv := []) (ks := []) (e' := []) rfl trivial fun a hk => ?_
  refine wpListIn_nil ?_
  refine then_n ?_
  refine x_seq ?_
  refine wpIn_region_lit ?_
  refine x_run tab hk (k := 1) (lv := []) (ks := [1]) (e' := [(1, .slice none 0 0)]) rfl trivial fun a hk => ?_
  refine wpListIn_nil ?_
  refine then_n ?_
  refine x_mid (fun a_ w_ => ∃ o97 : Nat → Nat, ∃ A98 : Option Addr, ∃ c99 : Nat, ∃ l100 : List ByteArray, Kn 16 a_ [(1, .slice A98 (l100).length c99)] ∧ St [] w (fun _ => 0) w_ o97 ∧ Ft (Own encStr 9 (.slice A98 (l100).length c99) l100) w_ o97 10 ∧ Ft (RdC ET47 (some ⟨0, 0, none⟩) glob0) w_ o97 0 ∧ (l100).length ≤ c99 ∧ line_Words_j1 l100 = some r) ?_ ?_
  rotate_left
  · rintro a w103 ⟨o97, A98, c99, l100, hk, hs, f101, fg0, hc102, H⟩
    unfold line_Words_j1 at H
    refine x_seq ?_
    refine wpIn_region_lit ?_
    refine x_run tab hk (k := 1) (lv := []) (ks := [14]) (e' := [(14, .slice A98 (l100).length c99)]) rfl trivial fun a hk => ?_
    refine x_op hk rfl ?_
    obtain ⟨t107, hc108, H⟩ := bindS H
    refine op_call hk ent_26 (vs := [.slice A98 (l100).length c99]) rfl (slices_Clone_calls A98 c99 l100 _ o97 _ (f101.imp fun _ h_ => Own.rd h_) hc102 11  _ hc108) ?_
    rintro _ w109 ⟨o110, A112, c113, rfl, st111, f114, hc115⟩
    replace f101 := f101.st st111 (by decide)
    replace fg0 := fg0.st st111 (by decide)
    replace hs := hs.loc0 st111 (by decide)
    have hk := hk.put 15 (.slice A112 (t107).length c113) rfl
    refine x_run tab hk (k := 1) (lv := []) (ks := [0]) (e' := [(0, .slice A112 (t107).length c113)]) rfl trivial fun a hk => ?_
    refine wpListIn_nil ?_
    refine then_n ?_
    refine wpIn_ret ?_
    obtain rfl := Option.some.inj H
    exact x_retG hk (rs := [.tmp 0]) (vs := [.slice A112 (t107).length c113]) rfl ⟨rfl, trivial⟩ ⟨fun b_ => if b_ < w.heap.size then o b_ else (fun _ => R0) (o110 b_), A112, c113, rfl, hs.close0 o (fun _ => R0), hs.close_ft (o := o) (ρ := fun _ => R0) f114 (by decide) rfl, hc115⟩
  refine x_seq ?_
  refine wpIn_region_lit ?_
  refine x_run tab hk (k := 2) (lv := [.agg (List.flatMap (Enc.f ET47) glob0).toArray]) (ks := [1, 4, 5]) (e' := [(1, .slice none 0 0), (4, .agg (List.flatMap (Enc.f ET47) glob0).toArray), (5, .int .i64 0)]) rfl ⟨(load_arr (E := ET47) (xs := glob0) tab rfl rfl fg0.now rfl), trivial⟩ fun a hk => ?_
  refine wpListIn_nil ?_
  refine then_n ?_
  refine wpIn_block ?_
  refine x_loop (fun j_ a_ w_ => ∃ o143 : Nat → Nat, ∃ A144 : Option Addr, ∃ c145 : Nat, ∃ l146 : List ByteArray, ∃ x149 : Int, Kn 16 a_ [(1, .slice A144 (l146).length c145), (4, .agg (List.flatMap (Enc.f ET47) glob0).toArray), (5, .int .i64 x149)] ∧ St [] w (fun _ => 0) w_ o143 ∧ Ft (Own encStr 9 (.slice A144 (l146).length c145) l146) w_ o143 15 ∧ Ft (RdC ET47 (some ⟨0, 0, none⟩) glob0) w_ o143 0 ∧ (l146).length ≤ c145 ∧ line_Words_l2 j_ l146 x149 = some r) (k := K) ⟨o0, none, 0, ([] : List ByteArray), 0, (by exact Kn.pick (ks := [1, 4, 5]) hk rfl), hs, (Ft.of_all (fun _ => Own.nil _ _ _) _ _ _), fg0, (by simp), H⟩ (by rintro _ _ ⟨_, _, _, _, _, _, _, _, _, _, H_⟩; exact absurd (show (none : Option (List ByteArray)) = some r from H_) (by simp)) ?_
  rintro k175 a w174 ⟨o143, A144, c145, l146, x149, hk, hs, f147, fg0, hc148, H⟩
  rw [line_Words_l2] at H
  obtain ⟨lp176, hlp177⟩ : ∃ lp_, lp_ = line_Words_l2 k175 := ⟨_, rfl⟩
  rw [← hlp177] at H
  refine x_seq ?_
  refine wpIn_region_lit ?_
  refine x_run tab hk (k := 1) (lv := []) (ks := [1, 4, 5, 6]) (e' := [(1, .slice A144 (l146).length c145), (4, .agg (List.flatMap (Enc.f ET47) glob0).toArray), (5, .int .i64 x149), (6, .bool (decide (x149 < (20 : Int))))]) rfl trivial fun a hk => ?_
  refine wpListIn_nil ?_
  refine then_n ?_
  refine x_seq ?_
  cases b178 : (decide (x149 < (20 : Int)))
  · rw [b178] at hk H
    replace H := bifF H
    refine x_if hk (b := false) rfl ?_
    refine (show Code.wpIn _ _ _ _ _ _ _ from ?_)
    refine wpIn_exit ?_
    refine then_x ?_
    refine then_x ?_
    refine blk_x ?_
    refine then_n ?_
    exact ⟨(fun b_ => (fun l_ => if l_ = 15 then 10 else l_) (o143 b_)), A144, c145, l146, (by exact Kn.pick (ks := [1]) hk rfl), (hs.relab0 (fun l_ => if l_ = 15 then 10 else l_) rfl), (f147.relab (fun l_ => if l_ = 15 then 10 else l_) rfl), (fg0.relab (fun l_ => if l_ = 15 then 10 else l_) rfl), hc148, H⟩
  · rw [b178] at hk H
    replace H := bifT H
    refine x_if hk (b := true) rfl ?_
    refine (show Code.wpIn _ _ _ _ _ _ _ from ?_)
    refine wpIn_skip ?_
    refine then_n ?_
    refine x_seq ?_
    refine wpIn_block ?_
    refine x_seq ?_
    refine wpIn_region_lit ?_
    obtain ⟨q179, H⟩ := ifS H
    refine x_run tab hk (k := 1) (lv := [.agg #[.string ((rdD zT47 glob0 x149).word), .int .i64 ((rdD zT47 glob0 x149).nums), .bool ((rdD zT47 glob0 x149).text)]]) (ks := [1, 4, 5, 7]) (e' := [(1, .slice A144 (l146).length c145), (4, .agg (List.flatMap (Enc.f ET47) glob0).toArray), (5, .int .i64 x149), (7, .agg #[.string ((rdD zT47 glob0 x149).word), .int .i64 ((rdD zT47 glob0 x149).nums), .bool ((rdD zT47 glob0 x149).text)])]) rfl ⟨(ask_ixS (E := ET47) (dx := zT47) tab rfl rfl rfl rfl rfl rfl q179), trivial⟩ fun a hk => ?_
    refine x_op hk rfl ?_
    refine op_alloc (o := o143) tab (t := 48) (cs := [.string (⟨#[]⟩ : ByteArray), .int .i64 0, .bool false]) rfl rfl 18 fun bx183 w180 o181 st182 f184 => ?_
    replace f147 := f147.st st182 (by decide)
    replace fg0 := fg0.st st182 (by decide)
    replace hs := hs.loc0 st182 (by decide)
    have hk := hk.put 3 (.pointer (some ⟨bx183, 0, none⟩)) rfl
    refine x_op hk rfl ?_
    refine op_store tab hk (t := 48) (v := .agg #[.string ((rdD zT47 glob0 x149).word), .int .i64 ((rdD zT47 glob0 x149).nums), .bool ((rdD zT47 glob0 x149).text)]) (b := bx183) (k := 0) (cs' := [.string ((rdD zT47 glob0 x149).word), .int .i64 ((rdD zT47 glob0 x149).nums), .bool ((rdD zT47 glob0 x149).text)]) rfl rfl rfl rfl rfl rfl f184 rfl rfl fun w185 o186 st187 f184_ => ?_
    replace f147 := f147.st st187 (by decide)
    replace fg0 := fg0.st st187 (by decide)
    replace hs := hs.loc0 st187 (by decide)
    replace f184 := f184_
    refine wpListIn_nil ?_
    refine then_n ?_
    refine wpIn_region_lit ?_
    refine x_run tab hk (k := 3) (lv := [.string ((rdD zT47 glob0 x149).word)]) (ks := [4, 5, 8, 10]) (e' := [(4, .agg (List.flatMap (Enc.f ET47) glob0).toArray), (5, .int .i64 x149), (8, .slice A144 (l146).length c145), (10, .string ((rdD zT47 glob0 x149).word))]) rfl ⟨(load1 tab rfl ((Bx.cell f184.now 0).trans rfl)), trivial⟩ fun a hk => ?_
    refine x_op hk rfl ?_
    refine op_slice (o := o186) tab hk (vs := [.string ((rdD zT47 glob0 x149).word)]) (cs := [.string ((rdD zT47 glob0 x149).word)]) rfl rfl rfl rfl rfl rfl rfl rfl rfl 19 fun bx191 w188 o189 st190 f192 => ?_
    replace f147 := f147.st st190 (by decide)
    replace fg0 := fg0.st st190 (by decide)
    replace hs := hs.loc0 st190 (by decide)
    have f193 : Ft (Own encStr 9 (.slice (some ⟨bx191, 0, none⟩) (([(rdD zT47 glob0 x149).word] : List ByteArray)).length 1) ([(rdD zT47 glob0 x149).word] : List ByteArray)) w188 o189 19 := f192.imp fun _ h_ => Own.of_box h_ rfl (by simp)
    have hk := hk.put 11 (.slice (some ⟨bx191, 0, none⟩) (([(rdD zT47 glob0 x149).word] : List ByteArray)).length 1) rfl
    refine x_op hk rfl ?_
    obtain ⟨q197, H⟩ := ifS H
    refine op_append (o := o189) (E := encStr) (xs := l146) (ys := ([(rdD zT47 glob0 x149).word] : List ByteArray)) tab hk rfl rfl rfl rfl rfl rfl rfl f147 (Own.rd f193.now) q197 fun A198 c199 w194 o195 st196 f200 hc201 => ?_
    replace f193 := f193.st st196 (by decide)
    replace fg0 := fg0.st st196 (by decide)
    replace hs := hs.loc0 st196 (by decide)
    have hk := hk.put 12 (.slice A198 ((l146 ++ ([(rdD zT47 glob0 x149).word] : List ByteArray))).length c199) rfl
    refine x_run tab hk (k := 1) (lv := []) (ks := [1, 4, 5]) (e' := [(1, .slice A198 ((l146 ++ ([(rdD zT47 glob0 x149).word] : List ByteArray))).length c199), (4, .agg (List.flatMap (Enc.f ET47) glob0).toArray), (5, .int .i64 x149)]) rfl trivial fun a hk => ?_
    refine wpListIn_nil ?_
    refine blk_n ?_
    refine then_n ?_
    refine wpIn_region_lit ?_
    refine x_run tab hk (k := 2) (lv := []) (ks := [1, 4, 5]) (e' := [(1, .slice A198 ((l146 ++ ([(rdD zT47 glob0 x149).word] : List ByteArray))).length c199), (4, .agg (List.flatMap (Enc.f ET47) glob0).toArray), (5, .int .i64 (IntKind.wrap .i64 (x149 + 1)))]) rfl trivial fun a hk => ?_
    refine wpListIn_nil ?_
    refine then_n ?_
    exact ⟨k175, Nat.le_refl _, o195, A198, c199, (l146 ++ ([(rdD zT47 glob0 x149).word] : List ByteArray)), (IntKind.wrap .i64 (x149 + 1)), (by exact Kn.pick (ks := [1, 4, 5]) hk rfl), hs, f200, fg0, hc201, (hlp177 ▸ H)⟩

/-! tidewrack/tidewrackref27.Words -/
theorem tidewrackref27_Words_calls  (w : World) (o : Nat → Nat)   (R0 : Nat) (r : List ByteArray) (H : tidewrackref27_Words = some r) :
    Calls Tryd.prog 15 #[] w (Ret fun v_ w' => ∃ o' : Nat → Nat, ∃ A0 : Option Addr, ∃ c0 : Nat, v_ = .slice A0 (r).length c0 ∧ St [] w o w' o' ∧ Ft (Own encStr 9 (.slice A0 (r).length c0) r) w' o' R0 ∧ (r).length ≤ c0) := by
  refine x_enter (vs := []) Tryd.func15 rfl rfl rfl fun a hk => ?_
  obtain ⟨o0, hs, h0⟩ := St.start w o
  clear h0
  rw [tidewrackref27_Words] at H
  refine x_seq ?_
  refine wpIn_region_lit ?_
  refine x_run tab hk (k := 1) (lv := []) (ks := []) (e' := []) rfl trivial fun a hk => ?_
  refine wpListIn_nil ?_
  refine then_n ?_
  refine x_seq ?_
  refine wpIn_region_lit ?_
  refine x_op hk rfl ?_
  refine op_slice (o := o0) tab hk (vs := [.string (⟨#[97, 108, 108]⟩ : ByteArray), .string (⟨#[99, 108, 111, 99, 107]⟩ : ByteArray), .string (⟨#[100, 101, 108, 105, 118, 101, 114]⟩ : ByteArray), .string (⟨#[100, 111]⟩ : ByteArray), .string (⟨#[102, 111, 114, 103, 101]⟩ : ByteArray), .string (⟨#[104, 97, 110, 100]⟩ : ByteArray), .string (⟨#[108, 105, 110, 101]⟩ : ByteArray), .string (⟨#[108, 111, 115, 101]⟩ : ByteArray), .string (⟨#[109, 111, 118, 101]⟩ : ByteArray), .string (⟨#[110, 101, 116]⟩ : ByteArray), .string (⟨#[114, 101, 115, 116, 97, 114, 116]⟩ : ByteArray), .string (⟨#[115, 99, 114, 101, 101, 110]⟩ : ByteArray), .string (⟨#[115, 101, 101]⟩ : ByteArray), .string (⟨#[115, 101, 115, 115, 105, 111, 110]⟩ : ByteArray), .string (⟨#[115, 105, 122, 101]⟩ : ByteArray), .string (⟨#[115, 116, 97, 116, 101]⟩ : ByteArray), .string (⟨#[116, 105, 99, 107]⟩ : ByteArray), .string (⟨#[116, 117, 114, 110]⟩ : ByteArray), .string (⟨#[116, 119, 105, 110]⟩ : ByteArray), .string (⟨#[119, 97, 110, 116]⟩ : ByteArray)]) (cs := [.string (⟨#[97, 108, 108]⟩ : ByteArray), .string (⟨#[99, 108, 111, 99, 107]⟩ : ByteArray), .string (⟨#[100, 101, 108, 105, 118, 101, 114]⟩ : ByteArray), .string (⟨#[100, 111]⟩ : ByteArray), .string (⟨#[102, 111, 114, 103, 101]⟩ : ByteArray), .string (⟨#[104, 97, 110, 100]⟩ : ByteArray), .string (⟨#[108, 105, 110, 101]⟩ : ByteArray), .string (⟨#[108, 111, 115, 101]⟩ : ByteArray), .string (⟨#[109, 111, 118, 101]⟩ : ByteArray), .string (⟨#[110, 101, 116]⟩ : ByteArray), .string (⟨#[114, 101, 115, 116, 97, 114, 116]⟩ : ByteArray), .string (⟨#[115, 99, 114, 101, 101, 110]⟩ : ByteArray), .string (⟨#[115, 101, 101]⟩ : ByteArray), .string (⟨#[115, 101, 115, 115, 105, 111, 110]⟩ : ByteArray), .string (⟨#[115, 105, 122, 101]⟩ : ByteArray), .string (⟨#[115, 116, 97, 116, 101]⟩ : ByteArray), .string (⟨#[116, 105, 99, 107]⟩ : ByteArray), .string (⟨#[116, 117, 114, 110]⟩ : ByteArray), .string (⟨#[116, 119, 105, 110]⟩ : ByteArray), .string (⟨#[119, 97, 110, 116]⟩ : ByteArray)]) rfl rfl rfl rfl rfl rfl rfl rfl rfl 1 fun bx4 w1 o2 st3 f5 => ?_
  replace hs := hs.loc0 st3 (by decide)
  have f6 : Ft (Own encStr 9 (.slice (some ⟨bx4, 0, none⟩) (([(⟨#[97, 108, 108]⟩ : ByteArray), (⟨#[99, 108, 111, 99, 107]⟩ : ByteArray), (⟨#[100, 101, 108, 105, 118, 101, 114]⟩ : ByteArray), (⟨#[100, 111]⟩ : ByteArray), (⟨#[102, 111, 114, 103, 101]⟩ : ByteArray), (⟨#[104, 97, 110, 100]⟩ : ByteArray), (⟨#[108, 105, 110, 101]⟩ : ByteArray), (⟨#[108, 111, 115, 101]⟩ : ByteArray), (⟨#[109, 111, 118, 101]⟩ : ByteArray), (⟨#[110, 101, 116]⟩ : ByteArray), (⟨#[114, 101, 115, 116, 97, 114, 116]⟩ : ByteArray), (⟨#[115, 99, 114, 101, 101, 110]⟩ : ByteArray), (⟨#[115, 101, 101]⟩ : ByteArray), (⟨#[115, 101, 115, 115, 105, 111, 110]⟩ : ByteArray), (⟨#[115, 105, 122, 101]⟩ : ByteArray), (⟨#[115, 116, 97, 116, 101]⟩ : ByteArray), (⟨#[116, 105, 99, 107]⟩ : ByteArray), (⟨#[116, 117, 114, 110]⟩ : ByteArray), (⟨#[116, 119, 105, 110]⟩ : ByteArray), (⟨#[119, 97, 110, 116]⟩ : ByteArray)] : List ByteArray)).length 20) ([(⟨#[97, 108, 108]⟩ : ByteArray), (⟨#[99, 108, 111, 99, 107]⟩ : ByteArray), (⟨#[100, 101, 108, 105, 118, 101, 114]⟩ : ByteArray), (⟨#[100, 111]⟩ : ByteArray), (⟨#[102, 111, 114, 103, 101]⟩ : ByteArray), (⟨#[104, 97, 110, 100]⟩ : ByteArray), (⟨#[108, 105, 110, 101]⟩ : ByteArray), (⟨#[108, 111, 115, 101]⟩ : ByteArray), (⟨#[109, 111, 118, 101]⟩ : ByteArray), (⟨#[110, 101, 116]⟩ : ByteArray), (⟨#[114, 101, 115, 116, 97, 114, 116]⟩ : ByteArray), (⟨#[115, 99, 114, 101, 101, 110]⟩ : ByteArray), (⟨#[115, 101, 101]⟩ : ByteArray), (⟨#[115, 101, 115, 115, 105, 111, 110]⟩ : ByteArray), (⟨#[115, 105, 122, 101]⟩ : ByteArray), (⟨#[115, 116, 97, 116, 101]⟩ : ByteArray), (⟨#[116, 105, 99, 107]⟩ : ByteArray), (⟨#[116, 117, 114, 110]⟩ : ByteArray), (⟨#[116, 119, 105, 110]⟩ : ByteArray), (⟨#[119, 97, 110, 116]⟩ : ByteArray)] : List ByteArray)) w1 o2 1 := f5.imp fun _ h_ => Own.of_box h_ rfl (by simp)
  have hk := hk.put 1 (.slice (some ⟨bx4, 0, none⟩) (([(⟨#[97, 108, 108]⟩ : ByteArray), (⟨#[99, 108, 111, 99, 107]⟩ : ByteArray), (⟨#[100, 101, 108, 105, 118, 101, 114]⟩ : ByteArray), (⟨#[100, 111]⟩ : ByteArray), (⟨#[102, 111, 114, 103, 101]⟩ : ByteArray), (⟨#[104, 97, 110, 100]⟩ : ByteArray), (⟨#[108, 105, 110, 101]⟩ : ByteArray), (⟨#[108, 111, 115, 101]⟩ : ByteArray), (⟨#[109, 111, 118, 101]⟩ : ByteArray), (⟨#[110, 101, 116]⟩ : ByteArray), (⟨#[114, 101, 115, 116, 97, 114, 116]⟩ : ByteArray), (⟨#[115, 99, 114, 101, 101, 110]⟩ : ByteArray), (⟨#[115, 101, 101]⟩ : ByteArray), (⟨#[115, 101, 115, 115, 105, 111, 110]⟩ : ByteArray), (⟨#[115, 105, 122, 101]⟩ : ByteArray), (⟨#[115, 116, 97, 116, 101]⟩ : ByteArray), (⟨#[116, 105, 99, 107]⟩ : ByteArray), (⟨#[116, 117, 114, 110]⟩ : ByteArray), (⟨#[116, 119, 105, 110]⟩ : ByteArray), (⟨#[119, 97, 110, 116]⟩ : ByteArray)] : List ByteArray)).length 20) rfl
  refine x_run tab hk (k := 1) (lv := []) (ks := [0]) (e' := [(0, .slice (some ⟨bx4, 0, none⟩) (([(⟨#[97, 108, 108]⟩ : ByteArray), (⟨#[99, 108, 111, 99, 107]⟩ : ByteArray), (⟨#[100, 101, 108, 105, 118, 101, 114]⟩ : ByteArray), (⟨#[100, 111]⟩ : ByteArray), (⟨#[102, 111, 114, 103, 101]⟩ : ByteArray), (⟨#[104, 97, 110, 100]⟩ : ByteArray), (⟨#[108, 105, 110, 101]⟩ : ByteArray), (⟨#[108, 111, 115, 101]⟩ : ByteArray), (⟨#[109, 111, 118, 101]⟩ : ByteArray), (⟨#[110, 101, 116]⟩ : ByteArray), (⟨#[114, 101, 115, 116, 97, 114, 116]⟩ : ByteArray), (⟨#[115, 99, 114, 101, 101, 110]⟩ : ByteArray), (⟨#[115, 101, 101]⟩ : ByteArray), (⟨#[115, 101, 115, 115, 105, 111, 110]⟩ : ByteArray), (⟨#[115, 105, 122, 101]⟩ : ByteArray), (⟨#[115, 116, 97, 116, 101]⟩ : ByteArray), (⟨#[116, 105, 99, 107]⟩ : ByteArray), (⟨#[116, 117, 114, 110]⟩ : ByteArray), (⟨#[116, 119, 105, 110]⟩ : ByteArray), (⟨#[119, 97, 110, 116]⟩ : ByteArray)] : List ByteArray)).length 20)]) rfl trivial fun a hk => ?_
  refine wpListIn_nil ?_
  refine then_n ?_
  refine wpIn_ret ?_
  obtain rfl := Option.some.inj H
  exact x_retG hk (rs := [.tmp 0]) (vs := [.slice (some ⟨bx4, 0, none⟩) (([(⟨#[97, 108, 108]⟩ : ByteArray), (⟨#[99, 108, 111, 99, 107]⟩ : ByteArray), (⟨#[100, 101, 108, 105, 118, 101, 114]⟩ : ByteArray), (⟨#[100, 111]⟩ : ByteArray), (⟨#[102, 111, 114, 103, 101]⟩ : ByteArray), (⟨#[104, 97, 110, 100]⟩ : ByteArray), (⟨#[108, 105, 110, 101]⟩ : ByteArray), (⟨#[108, 111, 115, 101]⟩ : ByteArray), (⟨#[109, 111, 118, 101]⟩ : ByteArray), (⟨#[110, 101, 116]⟩ : ByteArray), (⟨#[114, 101, 115, 116, 97, 114, 116]⟩ : ByteArray), (⟨#[115, 99, 114, 101, 101, 110]⟩ : ByteArray), (⟨#[115, 101, 101]⟩ : ByteArray), (⟨#[115, 101, 115, 115, 105, 111, 110]⟩ : ByteArray), (⟨#[115, 105, 122, 101]⟩ : ByteArray), (⟨#[115, 116, 97, 116, 101]⟩ : ByteArray), (⟨#[116, 105, 99, 107]⟩ : ByteArray), (⟨#[116, 117, 114, 110]⟩ : ByteArray), (⟨#[116, 119, 105, 110]⟩ : ByteArray), (⟨#[119, 97, 110, 116]⟩ : ByteArray)] : List ByteArray)).length 20]) rfl ⟨rfl, trivial⟩ ⟨fun b_ => if b_ < w.heap.size then o b_ else (fun _ => R0) (o2 b_), (some ⟨bx4, 0, none⟩), 20, rfl, hs.close0 o (fun _ => R0), hs.close_ft (o := o) (ρ := fun _ => R0) f6 (by decide) rfl, (Nat.le_refl _)⟩

/-! tidewrack/tidewracklaw27.LineWrites -/
set_option maxHeartbeats 4000000 in
set_option maxRecDepth 20000 in
theorem tidewracklaw27_LineWrites_calls (K : Nat) (Ap0_0 : Option Addr) (cp0_0 : Nat) (p0 : T25) (w : World) (o : Nat → Nat) (Lg0 : Nat) (hg0 : Ft (RdC ET47 (some ⟨0, 0, none⟩) glob0) w o Lg0) (Lg1 : Nat) (hg1 : Ft (GInt 1) w o Lg1) (Lg2 : Nat) (hg2 : Ft (GIface 2) w o Lg2) (Lg3 : Nat) (hg3 : Ft (GIface 3) w o Lg3) (Lg4 : Nat) (hg4 : Ft (GTab Tryd.prog "internal/strconv.uint64pow10" .u64 Lib.pow10Tab) w o Lg4) (Lp0_0 : Nat) (hp0_0 : Ft (RdC (encInt .i64) Ap0_0 p0.Nums) w o Lp0_0) (hcp0_0 : (p0.Nums).length ≤ cp0_0)  (r : Bool) (H : tidewracklaw27_LineWrites K p0 = some r) :
    Calls Tryd.prog 5 #[.agg #[.string p0.Word, .slice Ap0_0 (p0.Nums).length cp0_0, .string p0.Text]] w (Ret fun v_ w' => ∃ o' : Nat → Nat, v_ = .bool r ∧ St [] w o w' o') := by
  refine x_enter (vs := [.agg #[.string p0.Word, .slice Ap0_0 (p0.Nums).length cp0_0, .string p0.Text]]) Tryd.func5 rfl rfl rfl fun a hk => ?_
  obtain ⟨o0, hs, h0⟩ := St.start w o
  have fg0 := h0 _ _ hg0
  have fg1 := h0 _ _ hg1
  have fg2 := h0 _ _ hg2
  have fg3 := h0 _ _ hg3
  have fg4 := h0 _ _ hg4
  have f900000 := h0 _ _ hp0_0
  clear h0
  rw [tidewracklaw27_LineWrites] at H
  refine x_seq ?_
  refine wpIn_region_lit ?_
  refine x_op hk rfl ?_
  refine op_box (o := o0) (t := 30) (v := .agg #[.string p0.Word, .slice Ap0_0 (p0.Nums).length cp0_0, .string p0.Text]) (cs := [.string p0.Word, .slice Ap0_0 (p0.Nums).length cp0_0, .string p0.Text]) hk rfl rfl 1 fun bx4 w1 o2 st3 f5 => ?_
  replace f900000 := f900000.st st3 (by decide)
  replace fg0 := fg0.st st3 (by decide)
  replace fg1 := fg1.st st3 (by decide)
  replace fg2 := fg2.st st3 (by decide)
  replace fg3 := fg3.st st3 (by decide)
  replace fg4 := fg4.st st3 (by decide)
  replace hs := hs.loc0 st3 (by decide)
  have hk := hk.put 1 (.pointer (some ⟨bx4, 0, none⟩)) rfl
  refine x_run tab hk (k := 1) (lv := []) (ks := [1]) (e' := [(1, .pointer (some ⟨bx4, 0, none⟩))]) rfl trivial fun a hk => ?_
  refine wpListIn_nil ?_
  refine then_n ?_
  refine x_seq ?_
  refine x_seq ?_
  refine wpIn_region_lit ?_
  refine x_op hk rfl ?_
  obtain ⟨t9, hc10, H⟩ := bindS H
  refine op_call hk ent_7 (vs := []) rfl (tidewracklaw27_awake_calls K  _ o2 0 fg0 0 fg1 0 fg2 0 fg3 0 fg4   _ hc10) ?_
  rintro _ w11 ⟨o12, rfl, st13⟩
  replace f5 := f5.st st13 (by decide)
  replace f900000 := f900000.st st13 (by decide)
  replace fg0 := fg0.st st13 (by decide)
  replace fg1 := fg1.st st13 (by decide)
  replace fg2 := fg2.st st13 (by decide)
  replace fg3 := fg3.st st13 (by decide)
  replace fg4 := fg4.st st13 (by decide)
  replace hs := hs.loc0 st13 (by decide)
  have hk := hk.put 10 (.bool t9) rfl
  refine x_run tab hk (k := 1) (lv := []) (ks := [1, 11]) (e' := [(1, .pointer (some ⟨bx4, 0, none⟩)), (11, .bool (!t9))]) rfl trivial fun a hk => ?_
  refine wpListIn_nil ?_
  refine then_n ?_
  cases b14 : (!t9)
  · rw [b14] at hk H
    replace H := bifF H
    refine x_if hk (b := false) rfl ?_
    refine (show Code.wpIn _ _ _ _ _ _ _ from ?_)
    refine wpIn_skip ?_
    refine then_n ?_
    refine x_seq ?_
    refine x_cut (fun a_ w_ => ∃ o304 : Nat → Nat, ∃ x305 : ByteArray, ∃ A306 : Option Addr, ∃ c307 : Nat, ∃ x310 : ByteArray, Kn 81 a_ [(1, .pointer (some ⟨bx4, 0, none⟩))] ∧ St [] w (fun _ => 0) w_ o304 ∧ Ft (Own (encInt .i64) 3 (.slice A306 ((([] : List Int) ++ (List.drop 0 (List.take (Int.toNat (mnI ((p0.Nums).length : Int) 8)) p0.Nums)))).length c307) (([] : List Int) ++ (List.drop 0 (List.take (Int.toNat (mnI ((p0.Nums).length : Int) 8)) p0.Nums)))) w_ o304 12 ∧ Ft (Bx bx4 30 [.string x305, .slice A306 ((([] : List Int) ++ (List.drop 0 (List.take (Int.toNat (mnI ((p0.Nums).length : Int) 8)) p0.Nums)))).length c307, .string x310]) w_ o304 13 ∧ Ft (RdC ET47 (some ⟨0, 0, none⟩) glob0) w_ o304 0 ∧ Ft (GInt 1) w_ o304 0 ∧ Ft (GIface 2) w_ o304 0 ∧ Ft (GIface 3) w_ o304 0 ∧ Ft (GTab Tryd.prog "internal/strconv.uint64pow10" .u64 Lib.pow10Tab) w_ o304 0 ∧ ((([] : List Int) ++ (List.drop 0 (List.take (Int.toNat (mnI ((p0.Nums).length : Int) 8)) p0.Nums)))).length ≤ c307 ∧ tidewracklaw27_LineWrites_j1 K p0 x305 x310 = some r) ?_ ?_
    rotate_left
    · rintro a w311 ⟨o304, x305, A306, c307, x310, hk, hs, f308, f5, fg0, fg1, fg2, fg3, fg4, hc309, H⟩
      unfold tidewracklaw27_LineWrites_j1 at H
      refine then_n ?_
      refine x_seq ?_
      refine x_cut (fun a_ w_ => ∃ o563 : Nat → Nat, ∃ bx564 : Nat, ∃ A566 : Option Addr, ∃ c567 : Nat, Kn 81 a_ [(1, .pointer (some ⟨bx4, 0, none⟩)), (3, .pointer (some ⟨bx564, 0, none⟩))] ∧ St [] w (fun _ => 0) w_ o563 ∧ Ft (Own (encInt .i64) 3 (.slice A306 ((([] : List Int) ++ (List.drop 0 (List.take (Int.toNat (mnI ((p0.Nums).length : Int) 8)) p0.Nums)))).length c307) (([] : List Int) ++ (List.drop 0 (List.take (Int.toNat (mnI ((p0.Nums).length : Int) 8)) p0.Nums)))) w_ o563 43 ∧ Ft (Bx bx4 30 [.string x305, .slice A306 ((([] : List Int) ++ (List.drop 0 (List.take (Int.toNat (mnI ((p0.Nums).length : Int) 8)) p0.Nums)))).length c307, .string x310]) w_ o563 44 ∧ Ft (Bx bx564 26 [.string x305, .slice A566 ((([] : List Int) ++ (([] : List Int) ++ (List.drop 0 (List.take (Int.toNat (mnI ((p0.Nums).length : Int) 8)) p0.Nums))))).length c567, .string x310]) w_ o563 46 ∧ Ft (Own (encInt .i64) 3 (.slice A566 ((([] : List Int) ++ (([] : List Int) ++ (List.drop 0 (List.take (Int.toNat (mnI ((p0.Nums).length : Int) 8)) p0.Nums))))).length c567) (([] : List Int) ++ (([] : List Int) ++ (List.drop 0 (List.take (Int.toNat (mnI ((p0.Nums).length : Int) 8)) p0.Nums))))) w_ o563 45 ∧ Ft (RdC ET47 (some ⟨0, 0, none⟩) glob0) w_ o563 0 ∧ Ft (GInt 1) w_ o563 0 ∧ Ft (GIface 2) w_ o563 0 ∧ Ft (GIface 3) w_ o563 0 ∧ Ft (GTab Tryd.prog "internal/strconv.uint64pow10" .u64 Lib.pow10Tab) w_ o563 0 ∧ ((([] : List Int) ++ (([] : List Int) ++ (List.drop 0 (List.take (Int.toNat (mnI ((p0.Nums).length : Int) 8)) p0.Nums))))).length ≤ c567 ∧ tidewracklaw27_LineWrites_j2 K p0 x305 x310 = some r) ?_ ?_
      rotate_left
      · rintro a w570 ⟨o563, bx564, A566, c567, hk, hs, f308, f5, f565, f568, fg0, fg1, fg2, fg3, fg4, hc569, H⟩
        unfold tidewracklaw27_LineWrites_j2 at H
        refine then_n ?_
        refine x_seq ?_
        refine wpIn_region_lit ?_
        refine x_run tab hk (k := 1) (lv := [.agg #[.string x305, .slice A566 ((([] : List Int) ++ (([] : List Int) ++ (List.drop 0 (List.take (Int.toNat (mnI ((p0.Nums).length : Int) 8)) p0.Nums))))).length c567, .string x310]]) (ks := [1, 37]) (e' := [(1, .pointer (some ⟨bx4, 0, none⟩)), (37, .agg #[.string x305, .slice A566 ((([] : List Int) ++ (([] : List Int) ++ (List.drop 0 (List.take (Int.toNat (mnI ((p0.Nums).length : Int) 8)) p0.Nums))))).length c567, .string x310])]) rfl ⟨(load_box tab rfl rfl f565.now (k := 0) rfl rfl), trivial⟩ fun a hk => ?_
        refine x_op hk rfl ?_
        obtain ⟨t574, hc575, H⟩ := bindS H
        refine op_call hk ent_12 (vs := [.agg #[.string x305, .slice A566 ((([] : List Int) ++ (([] : List Int) ++ (List.drop 0 (List.take (Int.toNat (mnI ((p0.Nums).length : Int) 8)) p0.Nums))))).length c567, .string x310]]) rfl (line_Step_Line_calls K A566 c567 (⟨x305, (([] : List Int) ++ (([] : List Int) ++ (List.drop 0 (List.take (Int.toNat (mnI ((p0.Nums).length : Int) 8)) p0.Nums)))), x310⟩ : T25) _ o563 0 fg0 0 fg4 _ (f568.imp fun _ h_ => Own.rd h_) hc569   _ hc575) ?_
        rintro _ w576 ⟨o577, rfl, st578⟩
        replace f308 := f308.st st578 (by decide)
        replace f5 := f5.st st578 (by decide)
        replace f568 := f568.st st578 (by decide)
        replace fg0 := fg0.st st578 (by decide)
        replace fg1 := fg1.st st578 (by decide)
        replace fg2 := fg2.st st578 (by decide)
        replace fg3 := fg3.st st578 (by decide)
        replace fg4 := fg4.st st578 (by decide)
        replace hs := hs.loc0 st578 (by decide)
        have hk := hk.put 38 (.string t574) rfl
        refine x_run tab hk (k := 1) (lv := []) (ks := [1, 4]) (e' := [(1, .pointer (some ⟨bx4, 0, none⟩)), (4, .string t574)]) rfl trivial fun a hk => ?_
        refine wpListIn_nil ?_
        refine then_n ?_
        refine x_seq ?_
        refine x_seq ?_
        refine wpIn_region_lit ?_
        refine x_run tab hk (k := 2) (lv := [.agg #[.string x305, .slice A306 ((([] : List Int) ++ (List.drop 0 (List.take (Int.toNat (mnI ((p0.Nums).length : Int) 8)) p0.Nums)))).length c307, .string x310]]) (ks := [1, 4, 39, 40]) (e' := [(1, .pointer (some ⟨bx4, 0, none⟩)), (4, .string t574), (39, .string t574), (40, .agg #[.string x305, .slice A306 ((([] : List Int) ++ (List.drop 0 (List.take (Int.toNat (mnI ((p0.Nums).length : Int) 8)) p0.Nums)))).length c307, .string x310])]) rfl ⟨(load_box tab rfl rfl f5.now (k := 0) rfl rfl), trivial⟩ fun a hk => ?_
        refine x_op hk rfl ?_
        obtain ⟨t582, hc583, H⟩ := bindS H
        refine op_call hk ent_13 (vs := [.agg #[.string x305, .slice A306 ((([] : List Int) ++ (List.drop 0 (List.take (Int.toNat (mnI ((p0.Nums).length : Int) 8)) p0.Nums)))).length c307, .string x310]]) rfl (tidewrackref27_Line_calls K A306 c307 (⟨x305, (([] : List Int) ++ (List.drop 0 (List.take (Int.toNat (mnI ((p0.Nums).length : Int) 8)) p0.Nums))), x310⟩ : T25) _ o577 0 fg4 _ (f308.imp fun _ h_ => Own.rd h_) hc309   _ hc583) ?_
        rintro _ w584 ⟨o585, rfl, st586⟩
        replace f308 := f308.st st586 (by decide)
        replace f5 := f5.st st586 (by decide)
        replace fg0 := fg0.st st586 (by decide)
        replace fg1 := fg1.st st586 (by decide)
        replace fg2 := fg2.st st586 (by decide)
        replace fg3 := fg3.st st586 (by decide)
        replace fg4 := fg4.st st586 (by decide)
        replace hs := hs.loc0 st586 (by decide)
        have hk := hk.put 41 (.string t582) rfl
        refine x_run tab hk (k := 1) (lv := []) (ks := [1, 4, 42]) (e' := [(1, .pointer (some ⟨bx4, 0, none⟩)), (4, .string t574), (42, .bool (!(ByteArray.toList t574 == ByteArray.toList t582)))]) rfl trivial fun a hk => ?_
        refine wpListIn_nil ?_
        refine then_n ?_
        cases b587 : (!(ByteArray.toList t574 == ByteArray.toList t582))
        · rw [b587] at hk H
          replace H := bifF H
          refine x_if hk (b := false) rfl ?_
          refine (show Code.wpIn _ _ _ _ _ _ _ from ?_)
          refine wpIn_skip ?_
          refine then_n ?_
          refine x_seq ?_
          refine wpIn_region_lit ?_
          refine x_op hk rfl ?_
          obtain ⟨t591, hc592, H⟩ := bindS H
          refine op_call hk ent_14 (vs := []) rfl (line_Words_calls K  _ o585 0 fg0 47  _ hc592) ?_
          rintro _ w593 ⟨o594, A596, c597, rfl, st595, f598, hc599⟩
          replace f308 := f308.st st595 (by decide)
          replace f5 := f5.st st595 (by decide)
          replace fg0 := fg0.st st595 (by decide)
          replace fg1 := fg1.st st595 (by decide)
          replace fg2 := fg2.st st595 (by decide)
          replace fg3 := fg3.st st595 (by decide)
          replace fg4 := fg4.st st595 (by decide)
          replace hs := hs.loc0 st595 (by decide)
          have hk := hk.put 43 (.slice A596 (t591).length c597) rfl
          refine x_op hk rfl ?_
          obtain ⟨t603, hc604, H⟩ := bindS H
          refine op_call hk ent_15 (vs := []) rfl (tidewrackref27_Words_calls  _ o594  48  _ hc604) ?_
          rintro _ w605 ⟨o606, A608, c609, rfl, st607, f610, hc611⟩
          replace f308 := f308.st st607 (by decide)
          replace f5 := f5.st st607 (by decide)
          replace f598 := f598.st st607 (by decide)
          replace fg0 := fg0.st st607 (by decide)
          replace fg1 := fg1.st st607 (by decide)
          replace fg2 := fg2.st st607 (by decide)
          replace fg3 := fg3.st st607 (by decide)
          replace fg4 := fg4.st st607 (by decide)
          replace hs := hs.loc0 st607 (by decide)
          have hk := hk.put 44 (.slice A608 (t603).length c609) rfl
          refine x_run tab hk (k := 2) (lv := []) (ks := [1, 4, 5, 6]) (e' := [(1, .pointer (some ⟨bx4, 0, none⟩)), (4, .string t574), (5, .slice A596 (t591).length c597), (6, .slice A608 (t603).length c609)]) rfl trivial fun a hk => ?_
          refine wpListIn_nil ?_
          refine then_n ?_
          refine x_seq ?_
          refine x_seq ?_
          refine wpIn_region_lit ?_
          refine x_run tab hk (k := 5) (lv := []) (ks := [1, 4, 5, 6, 49]) (e' := [(1, .pointer (some ⟨bx4, 0, none⟩)), (4, .string t574), (5, .slice A596 (t591).length c597), (6, .slice A608 (t603).length c609), (49, .bool (((t591).length : Int) != ((t603).length : Int)))]) rfl trivial fun a hk => ?_
          refine wpListIn_nil ?_
          refine then_n ?_
          cases b612 : (((t591).length : Int) != ((t603).length : Int))
          · rw [b612] at hk H
            replace H := bifF H
            refine x_if hk (b := false) rfl ?_
            refine (show Code.wpIn _ _ _ _ _ _ _ from ?_)
            refine wpIn_skip ?_
            refine then_n ?_
            refine x_mid (fun a_ w_ => ∃ o673 : Nat → Nat, Kn 81 a_ [(1, .pointer (some ⟨bx4, 0, none⟩)), (4, .string t574)] ∧ St [] w (fun _ => 0) w_ o673 ∧ Ft (Own (encInt .i64) 3 (.slice A306 ((([] : List Int) ++ (List.drop 0 (List.take (Int.toNat (mnI ((p0.Nums).length : Int) 8)) p0.Nums)))).length c307) (([] : List Int) ++ (List.drop 0 (List.take (Int.toNat (mnI ((p0.Nums).length : Int) 8)) p0.Nums)))) w_ o673 57 ∧ Ft (Bx bx4 30 [.string x305, .slice A306 ((([] : List Int) ++ (List.drop 0 (List.take (Int.toNat (mnI ((p0.Nums).length : Int) 8)) p0.Nums)))).length c307, .string x310]) w_ o673 58 ∧ Ft (RdC ET47 (some ⟨0, 0, none⟩) glob0) w_ o673 0 ∧ Ft (GInt 1) w_ o673 0 ∧ Ft (GIface 2) w_ o673 0 ∧ Ft (GIface 3) w_ o673 0 ∧ Ft (GTab Tryd.prog "internal/strconv.uint64pow10" .u64 Lib.pow10Tab) w_ o673 0 ∧ tidewracklaw27_LineWrites_j3 K p0 x305 x310 t574 = some r) ?_ ?_
            rotate_left
            · rintro a w674 ⟨o673, hk, hs, f308, f5, fg0, fg1, fg2, fg3, fg4, H⟩
              unfold tidewracklaw27_LineWrites_j3 at H
              refine x_seq ?_
              refine wpIn_region_lit ?_
              refine x_run tab hk (k := 1) (lv := []) (ks := [1, 4, 66]) (e' := [(1, .pointer (some ⟨bx4, 0, none⟩)), (4, .string t574), (66, .string t574)]) rfl trivial fun a hk => ?_
              refine x_op hk rfl ?_
              obtain ⟨t678, hc679, H⟩ := bindS H
              refine op_call hk ent_9 (vs := [.string t574]) rfl (line_Parse_calls K t574 _ o673 0 fg0 0 fg1 0 fg2 0 fg3 0 fg4 59  _ hc679) ?_
              rintro _ w680 ⟨o681, A683, c684, rfl, st682, f685, hc686⟩
              replace f308 := f308.st st682 (by decide)
              replace f5 := f5.st st682 (by decide)
              replace fg0 := fg0.st st682 (by decide)
              replace fg1 := fg1.st st682 (by decide)
              replace fg2 := fg2.st st682 (by decide)
              replace fg3 := fg3.st st682 (by decide)
              replace fg4 := fg4.st st682 (by decide)
              replace hs := hs.loc0 st682 (by decide)
              have hk := hk.put 67 (.tuple #[.agg #[.string t678.1.Word, .slice A683 (t678.1.Nums).length c684, .string t678.1.Text], .int .i64 t678.2]) rfl
              refine x_run tab hk (k := 3) (lv := []) (ks := [1, 4, 68, 69]) (e' := [(1, .pointer (some ⟨bx4, 0, none⟩)), (4, .string t574), (68, .agg #[.string t678.1.Word, .slice A683 (t678.1.Nums).length c684, .string t678.1.Text]), (69, .int .i64 t678.2)]) rfl trivial fun a hk => ?_
              refine x_op hk rfl ?_
              refine op_alloc (o := o681) tab (t := 26) (cs := [.string (⟨#[]⟩ : ByteArray), .slice none 0 0, .string (⟨#[]⟩ : ByteArray)]) rfl rfl 60 fun bx690 w687 o688 st689 f691 => ?_
              replace f308 := f308.st st689 (by decide)
              replace f5 := f5.st st689 (by decide)
              replace f685 := f685.st st689 (by decide)
              replace fg0 := fg0.st st689 (by decide)
              replace fg1 := fg1.st st689 (by decide)
              replace fg2 := fg2.st st689 (by decide)
              replace fg3 := fg3.st st689 (by decide)
              replace fg4 := fg4.st st689 (by decide)
              replace hs := hs.loc0 st689 (by decide)
              have hk := hk.put 8 (.pointer (some ⟨bx690, 0, none⟩)) rfl
              refine x_op hk rfl ?_
              refine op_store tab hk (t := 26) (v := .agg #[.string t678.1.Word, .slice A683 (t678.1.Nums).length c684, .string t678.1.Text]) (b := bx690) (k := 0) (cs' := [.string t678.1.Word, .slice A683 (t678.1.Nums).length c684, .string t678.1.Text]) rfl rfl rfl rfl rfl rfl f691 rfl rfl fun w692 o693 st694 f691_ => ?_
              replace f308 := f308.st st694 (by decide)
              replace f5 := f5.st st694 (by decide)
              replace f685 := f685.st st694 (by decide)
              replace fg0 := fg0.st st694 (by decide)
              replace fg1 := fg1.st st694 (by decide)
              replace fg2 := fg2.st st694 (by decide)
              replace fg3 := fg3.st st694 (by decide)
              replace fg4 := fg4.st st694 (by decide)
              replace hs := hs.loc0 st694 (by decide)
              replace f691 := f691_
              refine x_run tab hk (k := 1) (lv := []) (ks := [1, 4, 8, 9]) (e' := [(1, .pointer (some ⟨bx4, 0, none⟩)), (4, .string t574), (8, .pointer (some ⟨bx690, 0, none⟩)), (9, .int .i64 t678.2)]) rfl trivial fun a hk => ?_
              refine wpListIn_nil ?_
              refine then_n ?_
              refine x_seq ?_
              refine wpIn_region_lit ?_
              refine x_run tab hk (k := 3) (lv := []) (ks := [1, 8, 9, 72]) (e' := [(1, .pointer (some ⟨bx4, 0, none⟩)), (8, .pointer (some ⟨bx690, 0, none⟩)), (9, .int .i64 t678.2), (72, .bool (ByteArray.toList t574 == ByteArray.toList (⟨#[]⟩ : ByteArray)))]) rfl trivial fun a hk => ?_
              cases b695 : (ByteArray.toList t574 == ByteArray.toList (⟨#[]⟩ : ByteArray))
              · rw [b695] at hk H
                replace H := bifF H
                refine x_run tab hk (k := 3) (lv := []) (ks := [1, 8, 72, 75]) (e' := [(1, .pointer (some ⟨bx4, 0, none⟩)), (8, .pointer (some ⟨bx690, 0, none⟩)), (72, .bool false), (75, .bool (t678.2 == (0 : Int)))]) rfl trivial fun a hk => ?_
                cases b696 : (t678.2 == (0 : Int))
                · rw [b696] at hk H
                  replace H := bifF H
                  refine x_run tab hk (k := 6) (lv := []) (ks := [2]) (e' := [(2, .bool false)]) rfl trivial fun a hk => ?_
                  refine wpListIn_nil ?_
                  refine then_n ?_
                  refine wpIn_ret ?_
                  obtain rfl := Option.some.inj H
                  exact x_retG hk (rs := [.tmp 2]) (vs := [.bool false]) rfl ⟨rfl, trivial⟩ ⟨fun b_ => if b_ < w.heap.size then o b_ else (fun _ => 0) (o693 b_), rfl, hs.close0 o (fun _ => 0)⟩
                · rw [b696] at hk H
                  replace H := bifT H
                  refine x_run tab hk (k := 2) (lv := [.agg #[.string t678.1.Word, .slice A683 (t678.1.Nums).length c684, .string t678.1.Text], .agg #[.string x305, .slice A306 ((([] : List Int) ++ (List.drop 0 (List.take (Int.toNat (mnI ((p0.Nums).length : Int) 8)) p0.Nums)))).length c307, .string x310]]) (ks := [72, 75, 76, 77]) (e' := [(72, .bool false), (75, .bool true), (76, .agg #[.string t678.1.Word, .slice A683 (t678.1.Nums).length c684, .string t678.1.Text]), (77, .agg #[.string x305, .slice A306 ((([] : List Int) ++ (List.drop 0 (List.take (Int.toNat (mnI ((p0.Nums).length : Int) 8)) p0.Nums)))).length c307, .string x310])]) rfl ⟨(load_box tab rfl rfl f691.now (k := 0) rfl rfl), (load_box tab rfl rfl f5.now (k := 0) rfl rfl), trivial⟩ fun a hk => ?_
                  refine x_op hk rfl ?_
                  obtain ⟨t700, hc701, H⟩ := bindS H
                  refine op_call hk ent_11 (vs := [.agg #[.string t678.1.Word, .slice A683 (t678.1.Nums).length c684, .string t678.1.Text], .agg #[.string x305, .slice A306 ((([] : List Int) ++ (List.drop 0 (List.take (Int.toNat (mnI ((p0.Nums).length : Int) 8)) p0.Nums)))).length c307, .string x310]]) rfl (tidewracklaw27_Is_calls K A683 c684 t678.1 A306 c307 (⟨x305, (([] : List Int) ++ (List.drop 0 (List.take (Int.toNat (mnI ((p0.Nums).length : Int) 8)) p0.Nums))), x310⟩ : T25) _ o693 _ (f685.imp fun _ h_ => Own.rd h_) hc686 _ (f308.imp fun _ h_ => Own.rd h_) hc309   _ hc701) ?_
                  rintro _ w702 ⟨o703, rfl, st704⟩
                  replace f308 := f308.st st704 (by decide)
                  replace f685 := f685.st st704 (by decide)
                  replace fg0 := fg0.st st704 (by decide)
                  replace fg1 := fg1.st st704 (by decide)
                  replace fg2 := fg2.st st704 (by decide)
                  replace fg3 := fg3.st st704 (by decide)
                  replace fg4 := fg4.st st704 (by decide)
                  replace hs := hs.loc0 st704 (by decide)
                  have hk := hk.put 78 (.bool t700) rfl
                  refine x_run tab hk (k := 3) (lv := []) (ks := [2]) (e' := [(2, .bool t700)]) rfl trivial fun a hk => ?_
                  refine wpListIn_nil ?_
                  refine then_n ?_
                  refine wpIn_ret ?_
                  obtain rfl := Option.some.inj H
                  exact x_retG hk (rs := [.tmp 2]) (vs := [.bool t700]) rfl ⟨rfl, trivial⟩ ⟨fun b_ => if b_ < w.heap.size then o b_ else (fun _ => 0) (o703 b_), rfl, hs.close0 o (fun _ => 0)⟩
              · rw [b695] at hk H
                replace H := bifT H
                refine x_run tab hk (k := 9) (lv := []) (ks := [2]) (e' := [(2, .bool true)]) rfl trivial fun a hk => ?_
                refine wpListIn_nil ?_
                refine then_n ?_
                refine wpIn_ret ?_
                obtain rfl := Option.some.inj H
                exact x_retG hk (rs := [.tmp 2]) (vs := [.bool true]) rfl ⟨rfl, trivial⟩ ⟨fun b_ => if b_ < w.heap.size then o b_ else (fun _ => 0) (o693 b_), rfl, hs.close0 o (fun _ => 0)⟩
            refine x_seq ?_
            refine wpIn_region_lit ?_
            refine x_run tab hk (k := 3) (lv := []) (ks := [1, 4, 5, 6, 51, 52]) (e' := [(1, .pointer (some ⟨bx4, 0, none⟩)), (4, .string t574), (5, .slice A596 (t591).length c597), (6, .slice A608 (t603).length c609), (51, .int .i64 ((t603).length : Int)), (52, .int .i64 0)]) rfl trivial fun a hk => ?_
            refine wpListIn_nil ?_
            refine then_n ?_
            refine wpIn_block ?_
            refine x_loop (fun j_ a_ w_ => ∃ o724 : Nat → Nat, ∃ x725 : Int, Kn 81 a_ [(1, .pointer (some ⟨bx4, 0, none⟩)), (4, .string t574), (5, .slice A596 (t591).length c597), (6, .slice A608 (t603).length c609), (51, .int .i64 ((t603).length : Int)), (52, .int .i64 x725)] ∧ St [] w (fun _ => 0) w_ o724 ∧ Ft (Own (encInt .i64) 3 (.slice A306 ((([] : List Int) ++ (List.drop 0 (List.take (Int.toNat (mnI ((p0.Nums).length : Int) 8)) p0.Nums)))).length c307) (([] : List Int) ++ (List.drop 0 (List.take (Int.toNat (mnI ((p0.Nums).length : Int) 8)) p0.Nums)))) w_ o724 65 ∧ Ft (Bx bx4 30 [.string x305, .slice A306 ((([] : List Int) ++ (List.drop 0 (List.take (Int.toNat (mnI ((p0.Nums).length : Int) 8)) p0.Nums)))).length c307, .string x310]) w_ o724 66 ∧ Ft (Own encStr 9 (.slice A596 (t591).length c597) t591) w_ o724 67 ∧ Ft (Own encStr 9 (.slice A608 (t603).length c609) t603) w_ o724 68 ∧ Ft (RdC ET47 (some ⟨0, 0, none⟩) glob0) w_ o724 0 ∧ Ft (GInt 1) w_ o724 0 ∧ Ft (GIface 2) w_ o724 0 ∧ Ft (GIface 3) w_ o724 0 ∧ Ft (GTab Tryd.prog "internal/strconv.uint64pow10" .u64 Lib.pow10Tab) w_ o724 0 ∧ tidewracklaw27_LineWrites_l4 K p0 x305 x310 t574 t591 t603 j_ x725 = some r) (k := K) ⟨(fun b_ => (fun l_ => if l_ = 43 then 65 else if l_ = 44 then 66 else if l_ = 47 then 67 else if l_ = 48 then 68 else l_) (o606 b_)), 0, (by exact Kn.pick (ks := [1, 4, 5, 6, 51, 52]) hk rfl), (hs.relab0 (fun l_ => if l_ = 43 then 65 else if l_ = 44 then 66 else if l_ = 47 then 67 else if l_ = 48 then 68 else l_) rfl), (f308.relab (fun l_ => if l_ = 43 then 65 else if l_ = 44 then 66 else if l_ = 47 then 67 else if l_ = 48 then 68 else l_) rfl), (f5.relab (fun l_ => if l_ = 43 then 65 else if l_ = 44 then 66 else if l_ = 47 then 67 else if l_ = 48 then 68 else l_) rfl), (f598.relab (fun l_ => if l_ = 43 then 65 else if l_ = 44 then 66 else if l_ = 47 then 67 else if l_ = 48 then 68 else l_) rfl), (f610.relab (fun l_ => if l_ = 43 then 65 else if l_ = 44 then 66 else if l_ = 47 then 67 else if l_ = 48 then 68 else l_) rfl), (fg0.relab (fun l_ => if l_ = 43 then 65 else if l_ = 44 then 66 else if l_ = 47 then 67 else if l_ = 48 then 68 else l_) rfl), (fg1.relab (fun l_ => if l_ = 43 then 65 else if l_ = 44 then 66 else if l_ = 47 then 67 else if l_ = 48 then 68 else l_) rfl), (fg2.relab (fun l_ => if l_ = 43 then 65 else if l_ = 44 then 66 else if l_ = 47 then 67 else if l_ = 48 then 68 else l_) rfl), (fg3.relab (fun l_ => if l_ = 43 then 65 else if l_ = 44 then 66 else if l_ = 47 then 67 else if l_ = 48 then 68 else l_) rfl), (fg4.relab (fun l_ => if l_ = 43 then 65 else if l_ = 44 then 66 else if l_ = 47 then 67 else if l_ = 48 then 68 else l_) rfl), H⟩ (by rintro _ _ ⟨_, _, _, _, _, _, _, _, _, _, _, _, _, H_⟩; exact absurd (show (none : Option Bool) = some r from H_) (by simp)) ?_
            rintro k743 a w742 ⟨o724, x725, hk, hs, f308, f5, f598, f610, fg0, fg1, fg2, fg3, fg4, H⟩
            rw [tidewracklaw27_LineWrites_l4] at H
            obtain ⟨lp744, hlp745⟩ : ∃ lp_, lp_ = tidewracklaw27_LineWrites_l4 K p0 x305 x310 t574 t591 t603 k743 := ⟨_, rfl⟩
            rw [← hlp745] at H
            refine x_seq ?_
            refine wpIn_region_lit ?_
            refine x_run tab hk (k := 1) (lv := []) (ks := [1, 4, 5, 6, 51, 52, 53]) (e' := [(1, .pointer (some ⟨bx4, 0, none⟩)), (4, .string t574), (5, .slice A596 (t591).length c597), (6, .slice A608 (t603).length c609), (51, .int .i64 ((t603).length : Int)), (52, .int .i64 x725), (53, .bool (decide (x725 < ((t603).length : Int))))]) rfl trivial fun a hk => ?_
            refine wpListIn_nil ?_
            refine then_n ?_
            refine x_seq ?_
            cases b746 : (decide (x725 < ((t603).length : Int)))
            · rw [b746] at hk H
              replace H := bifF H
              refine x_if hk (b := false) rfl ?_
              refine (show Code.wpIn _ _ _ _ _ _ _ from ?_)
              refine wpIn_exit ?_
              refine then_x ?_
              refine then_x ?_
              refine blk_x ?_
              refine then_n ?_
              exact ⟨(fun b_ => (fun l_ => if l_ = 65 then 57 else if l_ = 66 then 58 else l_) (o724 b_)), (by exact Kn.pick (ks := [1, 4]) hk rfl), (hs.relab0 (fun l_ => if l_ = 65 then 57 else if l_ = 66 then 58 else l_) rfl), (f308.relab (fun l_ => if l_ = 65 then 57 else if l_ = 66 then 58 else l_) rfl), (f5.relab (fun l_ => if l_ = 65 then 57 else if l_ = 66 then 58 else l_) rfl), (fg0.relab (fun l_ => if l_ = 65 then 57 else if l_ = 66 then 58 else l_) rfl), (fg1.relab (fun l_ => if l_ = 65 then 57 else if l_ = 66 then 58 else l_) rfl), (fg2.relab (fun l_ => if l_ = 65 then 57 else if l_ = 66 then 58 else l_) rfl), (fg3.relab (fun l_ => if l_ = 65 then 57 else if l_ = 66 then 58 else l_) rfl), (fg4.relab (fun l_ => if l_ = 65 then 57 else if l_ = 66 then 58 else l_) rfl), H⟩
            · rw [b746] at hk H
              replace H := bifT H
              refine x_if hk (b := true) rfl ?_
              refine (show Code.wpIn _ _ _ _ _ _ _ from ?_)
              refine wpIn_skip ?_
              refine then_n ?_
              refine x_seq ?_
              refine wpIn_block ?_
              refine x_seq ?_
              refine wpIn_region_lit ?_
              refine x_run tab hk (k := 2) (lv := []) (ks := [1, 4, 5, 6, 7, 51, 52]) (e' := [(1, .pointer (some ⟨bx4, 0, none⟩)), (4, .string t574), (5, .slice A596 (t591).length c597), (6, .slice A608 (t603).length c609), (7, .int .i64 x725), (51, .int .i64 ((t603).length : Int)), (52, .int .i64 x725)]) rfl trivial fun a hk => ?_
              refine wpListIn_nil ?_
              refine then_n ?_
              refine x_seq ?_
              refine xd_begin (o := o724) (fun W_ => (Own encStr 9 (.slice A596 (t591).length c597) t591) W_ ∧ (Own encStr 9 (.slice A608 (t603).length c609) t603) W_ ∧ True) mixed rfl rfl fun w755 st756 => ?_
              replace f308 := f308.st st756 (by decide)
              replace f5 := f5.st st756 (by decide)
              replace f598 := f598.st st756 (by decide)
              replace f610 := f610.st st756 (by decide)
              replace fg0 := fg0.st st756 (by decide)
              replace fg1 := fg1.st st756 (by decide)
              replace fg2 := fg2.st st756 (by decide)
              replace fg3 := fg3.st st756 (by decide)
              replace fg4 := fg4.st st756 (by decide)
              replace hs := hs.loc0 st756 (by decide)
              obtain ⟨q757, H⟩ := ifS H
              obtain ⟨ad758, hAad758⟩ := RdC.addr (Own.rd f598.now) q757
              have hk_C := hk
              have f308_C := f308
              have f5_C := f5
              have f598_C := f598
              have f610_C := f610
              have fg0_C := fg0
              have fg1_C := fg1
              have fg2_C := fg2
              have fg3_C := fg3
              have fg4_C := fg4
              subst hAad758
              have hk := hk_C
              clear hk_C
              have f308 := f308_C
              clear f308_C
              have f5 := f5_C
              clear f5_C
              have f598 := f598_C
              clear f598_C
              have f610 := f610_C
              clear f610_C
              have fg0 := fg0_C
              clear fg0_C
              have fg1 := fg1_C
              clear fg1_C
              have fg2 := fg2_C
              clear fg2_C
              have fg3 := fg3_C
              clear fg3_C
              have fg4 := fg4_C
              clear fg4_C
              refine xd_take tab hk (k := 3) (is := [0, 1, 2, 3, 4, 5]) (ls' := #[true, true, true, true, true, true, false, false, false]) (lv := [.string (rdD (⟨#[]⟩ : ByteArray) t591 x725)]) (ks := [1, 4, 5, 6, 51, 52, 58, 59, 60]) (e' := [(1, .pointer (some ⟨bx4, 0, none⟩)), (4, .string t574), (5, .slice (some ad758) (t591).length c597), (6, .slice A608 (t603).length c609), (51, .int .i64 ((t603).length : Int)), (52, .int .i64 x725), (58, .string (rdD (⟨#[]⟩ : ByteArray) t591 x725)), (59, .slice A608 (t603).length c609), (60, .int .i64 x725)]) (by kernel_rfl) rfl rfl (by kernel_rfl) (np_then (np_blk (np_then (np_then (np_blk (np_then np_body)))))) ⟨f598.now, f610.now, trivial⟩ (fun W_ hS => ⟨q757, (load1 tab rfl (RdC.at0 (E := encStr) (d := (⟨#[]⟩ : ByteArray)) (i := x725) (Own.rd hS.1) q757 rfl)), trivial⟩) fun a hk => ?_
              obtain ⟨q759, H⟩ := ifS H
              obtain ⟨ad760, hAad760⟩ := RdC.addr (Own.rd f610.now) q759
              have hk_C := hk
              have f308_C := f308
              have f5_C := f5
              have f598_C := f598
              have f610_C := f610
              have fg0_C := fg0
              have fg1_C := fg1
              have fg2_C := fg2
              have fg3_C := fg3
              have fg4_C := fg4
              subst hAad760
              have hk := hk_C
              clear hk_C
              have f308 := f308_C
              clear f308_C
              have f5 := f5_C
              clear f5_C
              have f598 := f598_C
              clear f598_C
              have f610 := f610_C
              clear f610_C
              have fg0 := fg0_C
              clear fg0_C
              have fg1 := fg1_C
              clear fg1_C
              have fg2 := fg2_C
              clear fg2_C
              have fg3 := fg3_C
              clear fg3_C
              have fg4 := fg4_C
              clear fg4_C
              refine xd_take tab hk (k := 0) (is := [6, 7, 8]) (ls' := #[true, true, true, true, true, true, true, true, true]) (lv := [.string (rdD (⟨#[]⟩ : ByteArray) t603 x725)]) (ks := [1, 4, 5, 6, 51, 52, 63]) (e' := [(1, .pointer (some ⟨bx4, 0, none⟩)), (4, .string t574), (5, .slice (some ad758) (t591).length c597), (6, .slice (some ad760) (t603).length c609), (51, .int .i64 ((t603).length : Int)), (52, .int .i64 x725), (63, .bool (!(ByteArray.toList (rdD (⟨#[]⟩ : ByteArray) t591 x725) == ByteArray.toList (rdD (⟨#[]⟩ : ByteArray) t603 x725))))]) (by kernel_rfl) rfl rfl (by kernel_rfl) (np_then (np_blk (np_then (np_then (np_blk (np_then np_body)))))) ⟨f598.now, f610.now, trivial⟩ (fun W_ hS => ⟨q759, (load1 tab rfl (RdC.at0 (E := encStr) (d := (⟨#[]⟩ : ByteArray)) (i := x725) (Own.rd hS.2.1) q759 rfl)), trivial⟩) fun a hk => ?_
              refine xd_done (by kernel_rfl) ?_
              refine then_n ?_
              cases b761 : (!(ByteArray.toList (rdD (⟨#[]⟩ : ByteArray) t591 x725) == ByteArray.toList (rdD (⟨#[]⟩ : ByteArray) t603 x725)))
              · rw [b761] at hk H
                replace H := bifF H
                refine x_if hk (b := false) rfl ?_
                refine (show Code.wpIn _ _ _ _ _ _ _ from ?_)
                refine wpIn_skip ?_
                refine blk_n ?_
                refine then_n ?_
                refine wpIn_region_lit ?_
                refine x_run tab hk (k := 2) (lv := []) (ks := [1, 4, 5, 6, 51, 52]) (e' := [(1, .pointer (some ⟨bx4, 0, none⟩)), (4, .string t574), (5, .slice (some ad758) (t591).length c597), (6, .slice (some ad760) (t603).length c609), (51, .int .i64 ((t603).length : Int)), (52, .int .i64 (IntKind.wrap .i64 (x725 + 1)))]) rfl trivial fun a hk => ?_
                refine wpListIn_nil ?_
                refine then_n ?_
                exact ⟨k743, Nat.le_refl _, o724, (IntKind.wrap .i64 (x725 + 1)), (by exact Kn.pick (ks := [1, 4, 5, 6, 51, 52]) hk rfl), hs, f308, f5, f598, f610, fg0, fg1, fg2, fg3, fg4, (hlp745 ▸ H)⟩
              · rw [b761] at hk H
                replace H := bifT H
                refine x_if hk (b := true) rfl ?_
                refine (show Code.wpIn _ _ _ _ _ _ _ from ?_)
                refine x_seq ?_
                refine wpIn_region_lit ?_
                refine x_run tab hk (k := 1) (lv := []) (ks := [2]) (e' := [(2, .bool false)]) rfl trivial fun a hk => ?_
                refine wpListIn_nil ?_
                refine then_n ?_
                refine wpIn_ret ?_
                refine blk_r ?_
                refine then_r ?_
                refine then_r ?_
                refine blk_r ?_
                refine then_r ?_
                obtain rfl := Option.some.inj H
                exact x_retG hk (rs := [.tmp 2]) (vs := [.bool false]) rfl ⟨rfl, trivial⟩ ⟨fun b_ => if b_ < w.heap.size then o b_ else (fun _ => 0) (o724 b_), rfl, hs.close0 o (fun _ => 0)⟩
          · rw [b612] at hk H
            replace H := bifT H
            refine x_if hk (b := true) rfl ?_
            refine (show Code.wpIn _ _ _ _ _ _ _ from ?_)
            refine x_seq ?_
            refine wpIn_region_lit ?_
            refine x_run tab hk (k := 1) (lv := []) (ks := [2]) (e' := [(2, .bool false)]) rfl trivial fun a hk => ?_
            refine wpListIn_nil ?_
            refine then_n ?_
            refine wpIn_ret ?_
            refine then_r ?_
            obtain rfl := Option.some.inj H
            exact x_retG hk (rs := [.tmp 2]) (vs := [.bool false]) rfl ⟨rfl, trivial⟩ ⟨fun b_ => if b_ < w.heap.size then o b_ else (fun _ => 0) (o606 b_), rfl, hs.close0 o (fun _ => 0)⟩
        · rw [b587] at hk H
          replace H := bifT H
          refine x_if hk (b := true) rfl ?_
          refine (show Code.wpIn _ _ _ _ _ _ _ from ?_)
          refine x_seq ?_
          refine wpIn_region_lit ?_
          refine x_run tab hk (k := 1) (lv := []) (ks := [2]) (e' := [(2, .bool false)]) rfl trivial fun a hk => ?_
          refine wpListIn_nil ?_
          refine then_n ?_
          refine wpIn_ret ?_
          refine then_r ?_
          obtain rfl := Option.some.inj H
          exact x_retG hk (rs := [.tmp 2]) (vs := [.bool false]) rfl ⟨rfl, trivial⟩ ⟨fun b_ => if b_ < w.heap.size then o b_ else (fun _ => 0) (o585 b_), rfl, hs.close0 o (fun _ => 0)⟩
      obtain ⟨q790, H⟩ := ifS H
      refine xd_begin (o := o304) (fun W_ => (Bx bx4 30 [.string x305, .slice A306 ((([] : List Int) ++ (List.drop 0 (List.take (Int.toNat (mnI ((p0.Nums).length : Int) 8)) p0.Nums)))).length c307, .string x310]) W_ ∧ True) mixed rfl rfl fun w860 st861 => ?_
      replace f308 := f308.st st861 (by decide)
      replace f5 := f5.st st861 (by decide)
      replace fg0 := fg0.st st861 (by decide)
      replace fg1 := fg1.st st861 (by decide)
      replace fg2 := fg2.st st861 (by decide)
      replace fg3 := fg3.st st861 (by decide)
      replace fg4 := fg4.st st861 (by decide)
      replace hs := hs.loc0 st861 (by decide)
      refine xd_abs fun G hG => ?_
      have N906 : ∀ (a_ : Act) (w_ : World), (∃ o900 : Nat → Nat, ∃ A901 : Option Addr, ∃ c902 : Nat, Kn 81 a_ [(1, .pointer (some ⟨bx4, 0, none⟩)), (29, .string x305), (33, .slice A901 ((([] : List Int) ++ (([] : List Int) ++ (List.drop 0 (List.take (Int.toNat (mnI ((p0.Nums).length : Int) 8)) p0.Nums))))).length c902), (35, .string x310)] ∧ St [] w (fun _ => 0) w_ o900 ∧ Ft (Own (encInt .i64) 3 (.slice A306 ((([] : List Int) ++ (List.drop 0 (List.take (Int.toNat (mnI ((p0.Nums).length : Int) 8)) p0.Nums)))).length c307) (([] : List Int) ++ (List.drop 0 (List.take (Int.toNat (mnI ((p0.Nums).length : Int) 8)) p0.Nums)))) w_ o900 82 ∧ Ft (Bx bx4 30 [.string x305, .slice A306 ((([] : List Int) ++ (List.drop 0 (List.take (Int.toNat (mnI ((p0.Nums).length : Int) 8)) p0.Nums)))).length c307, .string x310]) w_ o900 83 ∧ Ft (Own (encInt .i64) 3 (.slice A901 ((([] : List Int) ++ (([] : List Int) ++ (List.drop 0 (List.take (Int.toNat (mnI ((p0.Nums).length : Int) 8)) p0.Nums))))).length c902) (([] : List Int) ++ (([] : List Int) ++ (List.drop 0 (List.take (Int.toNat (mnI ((p0.Nums).length : Int) 8)) p0.Nums))))) w_ o900 84 ∧ Ft (RdC ET47 (some ⟨0, 0, none⟩) glob0) w_ o900 0 ∧ Ft (GInt 1) w_ o900 0 ∧ Ft (GIface 2) w_ o900 0 ∧ Ft (GIface 3) w_ o900 0 ∧ Ft (GTab Tryd.prog "internal/strconv.uint64pow10" .u64 Lib.pow10Tab) w_ o900 0 ∧ ((([] : List Int) ++ (([] : List Int) ++ (List.drop 0 (List.take (Int.toNat (mnI ((p0.Nums).length : Int) 8)) p0.Nums))))).length ≤ c902) → G 3 #[true, true, true, true, true, true, true, true, false, false, false] a_ w_ := by
        rintro a w905 ⟨o900, A901, c902, hk, hs, f308, f5, f903, fg0, fg1, fg2, fg3, fg4, hc904⟩
        refine xd_of hG ?_
        refine xd_take tab hk (k := 2) (is := [8]) (ls' := #[true, true, true, true, true, true, true, true, true, false, false]) (lv := []) (ks := [1, 36]) (e' := [(1, .pointer (some ⟨bx4, 0, none⟩)), (36, .agg #[.string x305, .slice A901 ((([] : List Int) ++ (([] : List Int) ++ (List.drop 0 (List.take (Int.toNat (mnI ((p0.Nums).length : Int) 8)) p0.Nums))))).length c902, .string x310])]) (by kernel_rfl) rfl rfl (by kernel_rfl) (np_then (np_then np_body)) ⟨f5.now, trivial⟩ (fun W_ hS => trivial) fun a hk => ?_
        refine xd_op hk (i := 9) (by kernel_rfl) rfl rfl ?_
        refine op_alloc (o := o900) tab (t := 26) (cs := [.string (⟨#[]⟩ : ByteArray), .slice none 0 0, .string (⟨#[]⟩ : ByteArray)]) rfl rfl 85 fun bx910 w907 o908 st909 f911 => ?_
        replace f308 := f308.st st909 (by decide)
        replace f5 := f5.st st909 (by decide)
        replace f903 := f903.st st909 (by decide)
        replace fg0 := fg0.st st909 (by decide)
        replace fg1 := fg1.st st909 (by decide)
        replace fg2 := fg2.st st909 (by decide)
        replace fg3 := fg3.st st909 (by decide)
        replace fg4 := fg4.st st909 (by decide)
        replace hs := hs.loc0 st909 (by decide)
        have hk := hk.put 3 (.pointer (some ⟨bx910, 0, none⟩)) rfl
        refine ⟨.inr ⟨f5.now, trivial⟩, ?_⟩
        refine xd_op hk (i := 10) (by kernel_rfl) rfl rfl ?_
        refine op_store tab hk (t := 26) (v := .agg #[.string x305, .slice A901 ((([] : List Int) ++ (([] : List Int) ++ (List.drop 0 (List.take (Int.toNat (mnI ((p0.Nums).length : Int) 8)) p0.Nums))))).length c902, .string x310]) (b := bx910) (k := 0) (cs' := [.string x305, .slice A901 ((([] : List Int) ++ (([] : List Int) ++ (List.drop 0 (List.take (Int.toNat (mnI ((p0.Nums).length : Int) 8)) p0.Nums))))).length c902, .string x310]) rfl rfl rfl rfl rfl rfl f911 rfl rfl fun w912 o913 st914 f911_ => ?_
        replace f308 := f308.st st914 (by decide)
        replace f5 := f5.st st914 (by decide)
        replace f903 := f903.st st914 (by decide)
        replace fg0 := fg0.st st914 (by decide)
        replace fg1 := fg1.st st914 (by decide)
        replace fg2 := fg2.st st914 (by decide)
        replace fg3 := fg3.st st914 (by decide)
        replace fg4 := fg4.st st914 (by decide)
        replace hs := hs.loc0 st914 (by decide)
        replace f911 := f911_
        refine ⟨.inl (by kernel_rfl), ?_⟩
        refine xd_done (by kernel_rfl) ?_
        refine then_n ?_
        exact ⟨(fun b_ => (fun l_ => if l_ = 82 then 43 else if l_ = 83 then 44 else if l_ = 84 then 45 else if l_ = 85 then 46 else l_) (o913 b_)), bx910, A901, c902, (by exact Kn.pick (ks := [1, 3]) hk rfl), (hs.relab0 (fun l_ => if l_ = 82 then 43 else if l_ = 83 then 44 else if l_ = 84 then 45 else if l_ = 85 then 46 else l_) rfl), (f308.relab (fun l_ => if l_ = 82 then 43 else if l_ = 83 then 44 else if l_ = 84 then 45 else if l_ = 85 then 46 else l_) rfl), (f5.relab (fun l_ => if l_ = 82 then 43 else if l_ = 83 then 44 else if l_ = 84 then 45 else if l_ = 85 then 46 else l_) rfl), (f911.relab (fun l_ => if l_ = 82 then 43 else if l_ = 83 then 44 else if l_ = 84 then 45 else if l_ = 85 then 46 else l_) rfl), (f903.relab (fun l_ => if l_ = 82 then 43 else if l_ = 83 then 44 else if l_ = 84 then 45 else if l_ = 85 then 46 else l_) rfl), (fg0.relab (fun l_ => if l_ = 82 then 43 else if l_ = 83 then 44 else if l_ = 84 then 45 else if l_ = 85 then 46 else l_) rfl), (fg1.relab (fun l_ => if l_ = 82 then 43 else if l_ = 83 then 44 else if l_ = 84 then 45 else if l_ = 85 then 46 else l_) rfl), (fg2.relab (fun l_ => if l_ = 82 then 43 else if l_ = 83 then 44 else if l_ = 84 then 45 else if l_ = 85 then 46 else l_) rfl), (fg3.relab (fun l_ => if l_ = 82 then 43 else if l_ = 83 then 44 else if l_ = 84 then 45 else if l_ = 85 then 46 else l_) rfl), (fg4.relab (fun l_ => if l_ = 82 then 43 else if l_ = 83 then 44 else if l_ = 84 then 45 else if l_ = 85 then 46 else l_) rfl), hc904, H⟩
      have N939 : ∀ (a_ : Act) (w_ : World), (∃ o931 : Nat → Nat, ∃ bx932 : Nat, ∃ A934 : Option Addr, ∃ c935 : Nat, Kn 81 a_ [(1, .pointer (some ⟨bx4, 0, none⟩)), (3, .pointer (some ⟨bx932, 0, none⟩)), (29, .string x305), (30, .slice A934 (([] : List Int)).length c935), (32, .slice A306 ((([] : List Int) ++ (List.drop 0 (List.take (Int.toNat (mnI ((p0.Nums).length : Int) 8)) p0.Nums)))).length c307), (35, .string x310)] ∧ St [] w (fun _ => 0) w_ o931 ∧ Ft (Own (encInt .i64) 3 (.slice A306 ((([] : List Int) ++ (List.drop 0 (List.take (Int.toNat (mnI ((p0.Nums).length : Int) 8)) p0.Nums)))).length c307) (([] : List Int) ++ (List.drop 0 (List.take (Int.toNat (mnI ((p0.Nums).length : Int) 8)) p0.Nums)))) w_ o931 87 ∧ Ft (Bx bx4 30 [.string x305, .slice A306 ((([] : List Int) ++ (List.drop 0 (List.take (Int.toNat (mnI ((p0.Nums).length : Int) 8)) p0.Nums)))).length c307, .string x310]) w_ o931 88 ∧ Ft (Bx bx932 26 [.string (⟨#[]⟩ : ByteArray), .slice none 0 0, .string (⟨#[]⟩ : ByteArray)]) w_ o931 89 ∧ Ft (Own (encInt .i64) 3 (.slice A934 (([] : List Int)).length c935) ([] : List Int)) w_ o931 90 ∧ Ft (RdC ET47 (some ⟨0, 0, none⟩) glob0) w_ o931 0 ∧ Ft (GInt 1) w_ o931 0 ∧ Ft (GIface 2) w_ o931 0 ∧ Ft (GIface 3) w_ o931 0 ∧ Ft (GTab Tryd.prog "internal/strconv.uint64pow10" .u64 Lib.pow10Tab) w_ o931 0 ∧ (([] : List Int)).length ≤ c935) → G 3 #[true, true, true, true, true, false, true, true, false, true, false] a_ w_ := by
        rintro a w938 ⟨o931, bx932, A934, c935, hk, hs, f308, f5, f933, f936, fg0, fg1, fg2, fg3, fg4, hc937⟩
        refine xd_of hG ?_
        refine xd_op hk (i := 5) (by kernel_rfl) rfl rfl ?_
        refine op_append (o := o931) (E := (encInt .i64)) (xs := ([] : List Int)) (ys := (([] : List Int) ++ (List.drop 0 (List.take (Int.toNat (mnI ((p0.Nums).length : Int) 8)) p0.Nums)))) tab hk rfl rfl rfl rfl rfl rfl rfl f936 (Own.rd f308.now) q790 fun A943 c944 w940 o941 st942 f945 hc946 => ?_
        replace f308 := f308.st st942 (by decide)
        replace f5 := f5.st st942 (by decide)
        replace f933 := f933.st st942 (by decide)
        replace fg0 := fg0.st st942 (by decide)
        replace fg1 := fg1.st st942 (by decide)
        replace fg2 := fg2.st st942 (by decide)
        replace fg3 := fg3.st st942 (by decide)
        replace fg4 := fg4.st st942 (by decide)
        replace hs := hs.loc0 st942 (by decide)
        have hk := hk.put 33 (.slice A943 ((([] : List Int) ++ (([] : List Int) ++ (List.drop 0 (List.take (Int.toNat (mnI ((p0.Nums).length : Int) 8)) p0.Nums))))).length c944) rfl
        refine ⟨.inr ⟨f5.now, trivial⟩, ?_⟩
        refine xd_take tab hk (k := 1) (is := [8]) (ls' := #[true, true, true, true, true, true, true, true, true, true, false]) (lv := []) (ks := [1, 3, 36]) (e' := [(1, .pointer (some ⟨bx4, 0, none⟩)), (3, .pointer (some ⟨bx932, 0, none⟩)), (36, .agg #[.string x305, .slice A943 ((([] : List Int) ++ (([] : List Int) ++ (List.drop 0 (List.take (Int.toNat (mnI ((p0.Nums).length : Int) 8)) p0.Nums))))).length c944, .string x310])]) (by kernel_rfl) rfl rfl (by kernel_rfl) (np_then (np_then np_body)) ⟨f5.now, trivial⟩ (fun W_ hS => trivial) fun a hk => ?_
        refine xd_op hk (i := 10) (by kernel_rfl) rfl rfl ?_
        refine op_store tab hk (t := 26) (v := .agg #[.string x305, .slice A943 ((([] : List Int) ++ (([] : List Int) ++ (List.drop 0 (List.take (Int.toNat (mnI ((p0.Nums).length : Int) 8)) p0.Nums))))).length c944, .string x310]) (b := bx932) (k := 0) (cs' := [.string x305, .slice A943 ((([] : List Int) ++ (([] : List Int) ++ (List.drop 0 (List.take (Int.toNat (mnI ((p0.Nums).length : Int) 8)) p0.Nums))))).length c944, .string x310]) rfl rfl rfl rfl rfl rfl f933 rfl rfl fun w947 o948 st949 f933_ => ?_
        replace f308 := f308.st st949 (by decide)
        replace f5 := f5.st st949 (by decide)
        replace f945 := f945.st st949 (by decide)
        replace fg0 := fg0.st st949 (by decide)
        replace fg1 := fg1.st st949 (by decide)
        replace fg2 := fg2.st st949 (by decide)
        replace fg3 := fg3.st st949 (by decide)
        replace fg4 := fg4.st st949 (by decide)
        replace hs := hs.loc0 st949 (by decide)
        replace f933 := f933_
        refine ⟨.inl (by kernel_rfl), ?_⟩
        refine xd_done (by kernel_rfl) ?_
        refine then_n ?_
        exact ⟨(fun b_ => (fun l_ => if l_ = 87 then 43 else if l_ = 88 then 44 else if l_ = 89 then 46 else if l_ = 90 then 45 else l_) (o948 b_)), bx932, A943, c944, (by exact Kn.pick (ks := [1, 3]) hk rfl), (hs.relab0 (fun l_ => if l_ = 87 then 43 else if l_ = 88 then 44 else if l_ = 89 then 46 else if l_ = 90 then 45 else l_) rfl), (f308.relab (fun l_ => if l_ = 87 then 43 else if l_ = 88 then 44 else if l_ = 89 then 46 else if l_ = 90 then 45 else l_) rfl), (f5.relab (fun l_ => if l_ = 87 then 43 else if l_ = 88 then 44 else if l_ = 89 then 46 else if l_ = 90 then 45 else l_) rfl), (f933.relab (fun l_ => if l_ = 87 then 43 else if l_ = 88 then 44 else if l_ = 89 then 46 else if l_ = 90 then 45 else l_) rfl), (f945.relab (fun l_ => if l_ = 87 then 43 else if l_ = 88 then 44 else if l_ = 89 then 46 else if l_ = 90 then 45 else l_) rfl), (fg0.relab (fun l_ => if l_ = 87 then 43 else if l_ = 88 then 44 else if l_ = 89 then 46 else if l_ = 90 then 45 else l_) rfl), (fg1.relab (fun l_ => if l_ = 87 then 43 else if l_ = 88 then 44 else if l_ = 89 then 46 else if l_ = 90 then 45 else l_) rfl), (fg2.relab (fun l_ => if l_ = 87 then 43 else if l_ = 88 then 44 else if l_ = 89 then 46 else if l_ = 90 then 45 else l_) rfl), (fg3.relab (fun l_ => if l_ = 87 then 43 else if l_ = 88 then 44 else if l_ = 89 then 46 else if l_ = 90 then 45 else l_) rfl), (fg4.relab (fun l_ => if l_ = 87 then 43 else if l_ = 88 then 44 else if l_ = 89 then 46 else if l_ = 90 then 45 else l_) rfl), hc946, H⟩
      have N883 : ∀ (a_ : Act) (w_ : World), (∃ o877 : Nat → Nat, ∃ A878 : Option Addr, ∃ c879 : Nat, Kn 81 a_ [(1, .pointer (some ⟨bx4, 0, none⟩)), (29, .string x305), (30, .slice A878 (([] : List Int)).length c879), (32, .slice A306 ((([] : List Int) ++ (List.drop 0 (List.take (Int.toNat (mnI ((p0.Nums).length : Int) 8)) p0.Nums)))).length c307), (35, .string x310)] ∧ St [] w (fun _ => 0) w_ o877 ∧ Ft (Own (encInt .i64) 3 (.slice A306 ((([] : List Int) ++ (List.drop 0 (List.take (Int.toNat (mnI ((p0.Nums).length : Int) 8)) p0.Nums)))).length c307) (([] : List Int) ++ (List.drop 0 (List.take (Int.toNat (mnI ((p0.Nums).length : Int) 8)) p0.Nums)))) w_ o877 79 ∧ Ft (Bx bx4 30 [.string x305, .slice A306 ((([] : List Int) ++ (List.drop 0 (List.take (Int.toNat (mnI ((p0.Nums).length : Int) 8)) p0.Nums)))).length c307, .string x310]) w_ o877 80 ∧ Ft (Own (encInt .i64) 3 (.slice A878 (([] : List Int)).length c879) ([] : List Int)) w_ o877 81 ∧ Ft (RdC ET47 (some ⟨0, 0, none⟩) glob0) w_ o877 0 ∧ Ft (GInt 1) w_ o877 0 ∧ Ft (GIface 2) w_ o877 0 ∧ Ft (GIface 3) w_ o877 0 ∧ Ft (GTab Tryd.prog "internal/strconv.uint64pow10" .u64 Lib.pow10Tab) w_ o877 0 ∧ (([] : List Int)).length ≤ c879) → G 4 #[true, true, true, true, true, false, true, true, false, false, false] a_ w_ := by
        rintro a w882 ⟨o877, A878, c879, hk, hs, f308, f5, f880, fg0, fg1, fg2, fg3, fg4, hc881⟩
        refine xd_of hG ?_
        refine xd_each [5, 9] (by kernel_rfl) rfl ⟨?_, ?_, trivial⟩
        · refine xd_one hk rfl rfl ?_
          refine op_append (o := o877) (E := (encInt .i64)) (xs := ([] : List Int)) (ys := (([] : List Int) ++ (List.drop 0 (List.take (Int.toNat (mnI ((p0.Nums).length : Int) 8)) p0.Nums)))) tab hk rfl rfl rfl rfl rfl rfl rfl f880 (Own.rd f308.now) q790 fun A887 c888 w884 o885 st886 f889 hc890 => ?_
          replace f308 := f308.st st886 (by decide)
          replace f5 := f5.st st886 (by decide)
          replace fg0 := fg0.st st886 (by decide)
          replace fg1 := fg1.st st886 (by decide)
          replace fg2 := fg2.st st886 (by decide)
          replace fg3 := fg3.st st886 (by decide)
          replace fg4 := fg4.st st886 (by decide)
          replace hs := hs.loc0 st886 (by decide)
          have hk := hk.put 33 (.slice A887 ((([] : List Int) ++ (([] : List Int) ++ (List.drop 0 (List.take (Int.toNat (mnI ((p0.Nums).length : Int) 8)) p0.Nums))))).length c888) rfl
          refine ⟨.inr ⟨f5.now, trivial⟩, ?_⟩
          exact xd_to hG rfl (N906 _ _ ⟨(fun b_ => (fun l_ => if l_ = 79 then 82 else if l_ = 80 then 83 else if l_ = 81 then 84 else l_) (o885 b_)), A887, c888, (by exact Kn.pick (ks := [1, 29, 33, 35]) hk rfl), (hs.relab0 (fun l_ => if l_ = 79 then 82 else if l_ = 80 then 83 else if l_ = 81 then 84 else l_) rfl), (f308.relab (fun l_ => if l_ = 79 then 82 else if l_ = 80 then 83 else if l_ = 81 then 84 else l_) rfl), (f5.relab (fun l_ => if l_ = 79 then 82 else if l_ = 80 then 83 else if l_ = 81 then 84 else l_) rfl), (f889.relab (fun l_ => if l_ = 79 then 82 else if l_ = 80 then 83 else if l_ = 81 then 84 else l_) rfl), (fg0.relab (fun l_ => if l_ = 79 then 82 else if l_ = 80 then 83 else if l_ = 81 then 84 else l_) rfl), (fg1.relab (fun l_ => if l_ = 79 then 82 else if l_ = 80 then 83 else if l_ = 81 then 84 else l_) rfl), (fg2.relab (fun l_ => if l_ = 79 then 82 else if l_ = 80 then 83 else if l_ = 81 then 84 else l_) rfl), (fg3.relab (fun l_ => if l_ = 79 then 82 else if l_ = 80 then 83 else if l_ = 81 then 84 else l_) rfl), (fg4.relab (fun l_ => if l_ = 79 then 82 else if l_ = 80 then 83 else if l_ = 81 then 84 else l_) rfl), hc890⟩)
        · refine xd_one hk rfl rfl ?_
          refine op_alloc (o := o877) tab (t := 26) (cs := [.string (⟨#[]⟩ : ByteArray), .slice none 0 0, .string (⟨#[]⟩ : ByteArray)]) rfl rfl 86 fun bx918 w915 o916 st917 f919 => ?_
          replace f308 := f308.st st917 (by decide)
          replace f5 := f5.st st917 (by decide)
          replace f880 := f880.st st917 (by decide)
          replace fg0 := fg0.st st917 (by decide)
          replace fg1 := fg1.st st917 (by decide)
          replace fg2 := fg2.st st917 (by decide)
          replace fg3 := fg3.st st917 (by decide)
          replace fg4 := fg4.st st917 (by decide)
          replace hs := hs.loc0 st917 (by decide)
          have hk := hk.put 3 (.pointer (some ⟨bx918, 0, none⟩)) rfl
          refine ⟨.inr ⟨f5.now, trivial⟩, ?_⟩
          exact xd_to hG rfl (N939 _ _ ⟨(fun b_ => (fun l_ => if l_ = 79 then 87 else if l_ = 80 then 88 else if l_ = 81 then 90 else if l_ = 86 then 89 else l_) (o916 b_)), bx918, A878, c879, (by exact Kn.pick (ks := [1, 3, 29, 30, 32, 35]) hk rfl), (hs.relab0 (fun l_ => if l_ = 79 then 87 else if l_ = 80 then 88 else if l_ = 81 then 90 else if l_ = 86 then 89 else l_) rfl), (f308.relab (fun l_ => if l_ = 79 then 87 else if l_ = 80 then 88 else if l_ = 81 then 90 else if l_ = 86 then 89 else l_) rfl), (f5.relab (fun l_ => if l_ = 79 then 87 else if l_ = 80 then 88 else if l_ = 81 then 90 else if l_ = 86 then 89 else l_) rfl), (f919.relab (fun l_ => if l_ = 79 then 87 else if l_ = 80 then 88 else if l_ = 81 then 90 else if l_ = 86 then 89 else l_) rfl), (f880.relab (fun l_ => if l_ = 79 then 87 else if l_ = 80 then 88 else if l_ = 81 then 90 else if l_ = 86 then 89 else l_) rfl), (fg0.relab (fun l_ => if l_ = 79 then 87 else if l_ = 80 then 88 else if l_ = 81 then 90 else if l_ = 86 then 89 else l_) rfl), (fg1.relab (fun l_ => if l_ = 79 then 87 else if l_ = 80 then 88 else if l_ = 81 then 90 else if l_ = 86 then 89 else l_) rfl), (fg2.relab (fun l_ => if l_ = 79 then 87 else if l_ = 80 then 88 else if l_ = 81 then 90 else if l_ = 86 then 89 else l_) rfl), (fg3.relab (fun l_ => if l_ = 79 then 87 else if l_ = 80 then 88 else if l_ = 81 then 90 else if l_ = 86 then 89 else l_) rfl), (fg4.relab (fun l_ => if l_ = 79 then 87 else if l_ = 80 then 88 else if l_ = 81 then 90 else if l_ = 86 then 89 else l_) rfl), hc881⟩)
      have N966 : ∀ (a_ : Act) (w_ : World), (∃ o962 : Nat → Nat, ∃ bx963 : Nat, Kn 81 a_ [(1, .pointer (some ⟨bx4, 0, none⟩)), (3, .pointer (some ⟨bx963, 0, none⟩)), (29, .string x305), (32, .slice A306 ((([] : List Int) ++ (List.drop 0 (List.take (Int.toNat (mnI ((p0.Nums).length : Int) 8)) p0.Nums)))).length c307), (35, .string x310)] ∧ St [] w (fun _ => 0) w_ o962 ∧ Ft (Own (encInt .i64) 3 (.slice A306 ((([] : List Int) ++ (List.drop 0 (List.take (Int.toNat (mnI ((p0.Nums).length : Int) 8)) p0.Nums)))).length c307) (([] : List Int) ++ (List.drop 0 (List.take (Int.toNat (mnI ((p0.Nums).length : Int) 8)) p0.Nums)))) w_ o962 92 ∧ Ft (Bx bx4 30 [.string x305, .slice A306 ((([] : List Int) ++ (List.drop 0 (List.take (Int.toNat (mnI ((p0.Nums).length : Int) 8)) p0.Nums)))).length c307, .string x310]) w_ o962 93 ∧ Ft (Bx bx963 26 [.string (⟨#[]⟩ : ByteArray), .slice none 0 0, .string (⟨#[]⟩ : ByteArray)]) w_ o962 94 ∧ Ft (RdC ET47 (some ⟨0, 0, none⟩) glob0) w_ o962 0 ∧ Ft (GInt 1) w_ o962 0 ∧ Ft (GIface 2) w_ o962 0 ∧ Ft (GIface 3) w_ o962 0 ∧ Ft (GTab Tryd.prog "internal/strconv.uint64pow10" .u64 Lib.pow10Tab) w_ o962 0) → G 4 #[true, true, false, true, true, false, true, true, false, true, false] a_ w_ := by
        rintro a w965 ⟨o962, bx963, hk, hs, f308, f5, f964, fg0, fg1, fg2, fg3, fg4⟩
        refine xd_of hG ?_
        refine xd_op hk (i := 2) (by kernel_rfl) rfl rfl ?_
        refine op_slice (o := o962) tab hk (vs := []) (cs := []) rfl rfl rfl rfl rfl rfl rfl rfl rfl 95 fun bx970 w967 o968 st969 f971 => ?_
        replace f308 := f308.st st969 (by decide)
        replace f5 := f5.st st969 (by decide)
        replace f964 := f964.st st969 (by decide)
        replace fg0 := fg0.st st969 (by decide)
        replace fg1 := fg1.st st969 (by decide)
        replace fg2 := fg2.st st969 (by decide)
        replace fg3 := fg3.st st969 (by decide)
        replace fg4 := fg4.st st969 (by decide)
        replace hs := hs.loc0 st969 (by decide)
        have f972 : Ft (Own (encInt .i64) 3 (.slice (some ⟨bx970, 0, none⟩) (([] : List Int)).length 0) ([] : List Int)) w967 o968 95 := f971.imp fun _ h_ => Own.of_box h_ rfl (by simp)
        have hk := hk.put 30 (.slice (some ⟨bx970, 0, none⟩) (([] : List Int)).length 0) rfl
        refine ⟨.inr ⟨f5.now, trivial⟩, ?_⟩
        refine xd_op hk (i := 5) (by kernel_rfl) rfl rfl ?_
        refine op_append (o := o968) (E := (encInt .i64)) (xs := ([] : List Int)) (ys := (([] : List Int) ++ (List.drop 0 (List.take (Int.toNat (mnI ((p0.Nums).length : Int) 8)) p0.Nums)))) tab hk rfl rfl rfl rfl rfl rfl rfl f972 (Own.rd f308.now) q790 fun A976 c977 w973 o974 st975 f978 hc979 => ?_
        replace f308 := f308.st st975 (by decide)
        replace f5 := f5.st st975 (by decide)
        replace f964 := f964.st st975 (by decide)
        replace fg0 := fg0.st st975 (by decide)
        replace fg1 := fg1.st st975 (by decide)
        replace fg2 := fg2.st st975 (by decide)
        replace fg3 := fg3.st st975 (by decide)
        replace fg4 := fg4.st st975 (by decide)
        replace hs := hs.loc0 st975 (by decide)
        have hk := hk.put 33 (.slice A976 ((([] : List Int) ++ (([] : List Int) ++ (List.drop 0 (List.take (Int.toNat (mnI ((p0.Nums).length : Int) 8)) p0.Nums))))).length c977) rfl
        refine ⟨.inr ⟨f5.now, trivial⟩, ?_⟩
        refine xd_take tab hk (k := 1) (is := [8]) (ls' := #[true, true, true, true, true, true, true, true, true, true, false]) (lv := []) (ks := [1, 3, 36]) (e' := [(1, .pointer (some ⟨bx4, 0, none⟩)), (3, .pointer (some ⟨bx963, 0, none⟩)), (36, .agg #[.string x305, .slice A976 ((([] : List Int) ++ (([] : List Int) ++ (List.drop 0 (List.take (Int.toNat (mnI ((p0.Nums).length : Int) 8)) p0.Nums))))).length c977, .string x310])]) (by kernel_rfl) rfl rfl (by kernel_rfl) (np_then (np_then np_body)) ⟨f5.now, trivial⟩ (fun W_ hS => trivial) fun a hk => ?_
        refine xd_op hk (i := 10) (by kernel_rfl) rfl rfl ?_
        refine op_store tab hk (t := 26) (v := .agg #[.string x305, .slice A976 ((([] : List Int) ++ (([] : List Int) ++ (List.drop 0 (List.take (Int.toNat (mnI ((p0.Nums).length : Int) 8)) p0.Nums))))).length c977, .string x310]) (b := bx963) (k := 0) (cs' := [.string x305, .slice A976 ((([] : List Int) ++ (([] : List Int) ++ (List.drop 0 (List.take (Int.toNat (mnI ((p0.Nums).length : Int) 8)) p0.Nums))))).length c977, .string x310]) rfl rfl rfl rfl rfl rfl f964 rfl rfl fun w980 o981 st982 f964_ => ?_
        replace f308 := f308.st st982 (by decide)
        replace f5 := f5.st st982 (by decide)
        replace f978 := f978.st st982 (by decide)
        replace fg0 := fg0.st st982 (by decide)
        replace fg1 := fg1.st st982 (by decide)
        replace fg2 := fg2.st st982 (by decide)
        replace fg3 := fg3.st st982 (by decide)
        replace fg4 := fg4.st st982 (by decide)
        replace hs := hs.loc0 st982 (by decide)
        replace f964 := f964_
        refine ⟨.inl (by kernel_rfl), ?_⟩
        refine xd_done (by kernel_rfl) ?_
        refine then_n ?_
        exact ⟨(fun b_ => (fun l_ => if l_ = 92 then 43 else if l_ = 93 then 44 else if l_ = 94 then 46 else if l_ = 95 then 45 else l_) (o981 b_)), bx963, A976, c977, (by exact Kn.pick (ks := [1, 3]) hk rfl), (hs.relab0 (fun l_ => if l_ = 92 then 43 else if l_ = 93 then 44 else if l_ = 94 then 46 else if l_ = 95 then 45 else l_) rfl), (f308.relab (fun l_ => if l_ = 92 then 43 else if l_ = 93 then 44 else if l_ = 94 then 46 else if l_ = 95 then 45 else l_) rfl), (f5.relab (fun l_ => if l_ = 92 then 43 else if l_ = 93 then 44 else if l_ = 94 then 46 else if l_ = 95 then 45 else l_) rfl), (f964.relab (fun l_ => if l_ = 92 then 43 else if l_ = 93 then 44 else if l_ = 94 then 46 else if l_ = 95 then 45 else l_) rfl), (f978.relab (fun l_ => if l_ = 92 then 43 else if l_ = 93 then 44 else if l_ = 94 then 46 else if l_ = 95 then 45 else l_) rfl), (fg0.relab (fun l_ => if l_ = 92 then 43 else if l_ = 93 then 44 else if l_ = 94 then 46 else if l_ = 95 then 45 else l_) rfl), (fg1.relab (fun l_ => if l_ = 92 then 43 else if l_ = 93 then 44 else if l_ = 94 then 46 else if l_ = 95 then 45 else l_) rfl), (fg2.relab (fun l_ => if l_ = 92 then 43 else if l_ = 93 then 44 else if l_ = 94 then 46 else if l_ = 95 then 45 else l_) rfl), (fg3.relab (fun l_ => if l_ = 92 then 43 else if l_ = 93 then 44 else if l_ = 94 then 46 else if l_ = 95 then 45 else l_) rfl), (fg4.relab (fun l_ => if l_ = 92 then 43 else if l_ = 93 then 44 else if l_ = 94 then 46 else if l_ = 95 then 45 else l_) rfl), hc979, H⟩
      refine xd_of hG ?_
      refine xd_take tab hk (k := 5) (is := [0, 1, 3, 4, 6, 7]) (ls' := #[true, true, false, true, true, false, true, true, false, false, false]) (lv := [.string x305, .slice A306 ((([] : List Int) ++ (List.drop 0 (List.take (Int.toNat (mnI ((p0.Nums).length : Int) 8)) p0.Nums)))).length c307, .string x310]) (ks := [1, 29, 32, 35]) (e' := [(1, .pointer (some ⟨bx4, 0, none⟩)), (29, .string x305), (32, .slice A306 ((([] : List Int) ++ (List.drop 0 (List.take (Int.toNat (mnI ((p0.Nums).length : Int) 8)) p0.Nums)))).length c307), (35, .string x310)]) (by kernel_rfl) rfl rfl (by kernel_rfl) (np_then (np_then np_body)) ⟨f5.now, trivial⟩ (fun W_ hS => ⟨(load1 tab rfl ((Bx.cell hS.1 0).trans rfl)), (load1 tab rfl ((Bx.cell hS.1 1).trans rfl)), (load1 tab rfl ((Bx.cell hS.1 2).trans rfl)), trivial⟩) fun a hk => ?_
      refine xd_each [2, 9] (by kernel_rfl) rfl ⟨?_, ?_, trivial⟩
      · refine xd_one hk rfl rfl ?_
        refine op_slice (o := o304) tab hk (vs := []) (cs := []) rfl rfl rfl rfl rfl rfl rfl rfl rfl 78 fun bx865 w862 o863 st864 f866 => ?_
        replace f308 := f308.st st864 (by decide)
        replace f5 := f5.st st864 (by decide)
        replace fg0 := fg0.st st864 (by decide)
        replace fg1 := fg1.st st864 (by decide)
        replace fg2 := fg2.st st864 (by decide)
        replace fg3 := fg3.st st864 (by decide)
        replace fg4 := fg4.st st864 (by decide)
        replace hs := hs.loc0 st864 (by decide)
        have f867 : Ft (Own (encInt .i64) 3 (.slice (some ⟨bx865, 0, none⟩) (([] : List Int)).length 0) ([] : List Int)) w862 o863 78 := f866.imp fun _ h_ => Own.of_box h_ rfl (by simp)
        have hk := hk.put 30 (.slice (some ⟨bx865, 0, none⟩) (([] : List Int)).length 0) rfl
        refine ⟨.inr ⟨f5.now, trivial⟩, ?_⟩
        exact xd_to hG rfl (N883 _ _ ⟨(fun b_ => (fun l_ => if l_ = 12 then 79 else if l_ = 13 then 80 else if l_ = 78 then 81 else l_) (o863 b_)), (some ⟨bx865, 0, none⟩), 0, (by exact Kn.pick (ks := [1, 29, 30, 32, 35]) hk rfl), (hs.relab0 (fun l_ => if l_ = 12 then 79 else if l_ = 13 then 80 else if l_ = 78 then 81 else l_) rfl), (f308.relab (fun l_ => if l_ = 12 then 79 else if l_ = 13 then 80 else if l_ = 78 then 81 else l_) rfl), (f5.relab (fun l_ => if l_ = 12 then 79 else if l_ = 13 then 80 else if l_ = 78 then 81 else l_) rfl), (f867.relab (fun l_ => if l_ = 12 then 79 else if l_ = 13 then 80 else if l_ = 78 then 81 else l_) rfl), (fg0.relab (fun l_ => if l_ = 12 then 79 else if l_ = 13 then 80 else if l_ = 78 then 81 else l_) rfl), (fg1.relab (fun l_ => if l_ = 12 then 79 else if l_ = 13 then 80 else if l_ = 78 then 81 else l_) rfl), (fg2.relab (fun l_ => if l_ = 12 then 79 else if l_ = 13 then 80 else if l_ = 78 then 81 else l_) rfl), (fg3.relab (fun l_ => if l_ = 12 then 79 else if l_ = 13 then 80 else if l_ = 78 then 81 else l_) rfl), (fg4.relab (fun l_ => if l_ = 12 then 79 else if l_ = 13 then 80 else if l_ = 78 then 81 else l_) rfl), (Nat.le_refl _)⟩)
      · refine xd_one hk rfl rfl ?_
        refine op_alloc (o := o304) tab (t := 26) (cs := [.string (⟨#[]⟩ : ByteArray), .slice none 0 0, .string (⟨#[]⟩ : ByteArray)]) rfl rfl 91 fun bx953 w950 o951 st952 f954 => ?_
        replace f308 := f308.st st952 (by decide)
        replace f5 := f5.st st952 (by decide)
        replace fg0 := fg0.st st952 (by decide)
        replace fg1 := fg1.st st952 (by decide)
        replace fg2 := fg2.st st952 (by decide)
        replace fg3 := fg3.st st952 (by decide)
        replace fg4 := fg4.st st952 (by decide)
        replace hs := hs.loc0 st952 (by decide)
        have hk := hk.put 3 (.pointer (some ⟨bx953, 0, none⟩)) rfl
        refine ⟨.inr ⟨f5.now, trivial⟩, ?_⟩
        exact xd_to hG rfl (N966 _ _ ⟨(fun b_ => (fun l_ => if l_ = 12 then 92 else if l_ = 13 then 93 else if l_ = 91 then 94 else l_) (o951 b_)), bx953, (by exact Kn.pick (ks := [1, 3, 29, 32, 35]) hk rfl), (hs.relab0 (fun l_ => if l_ = 12 then 92 else if l_ = 13 then 93 else if l_ = 91 then 94 else l_) rfl), (f308.relab (fun l_ => if l_ = 12 then 92 else if l_ = 13 then 93 else if l_ = 91 then 94 else l_) rfl), (f5.relab (fun l_ => if l_ = 12 then 92 else if l_ = 13 then 93 else if l_ = 91 then 94 else l_) rfl), (f954.relab (fun l_ => if l_ = 12 then 92 else if l_ = 13 then 93 else if l_ = 91 then 94 else l_) rfl), (fg0.relab (fun l_ => if l_ = 12 then 92 else if l_ = 13 then 93 else if l_ = 91 then 94 else l_) rfl), (fg1.relab (fun l_ => if l_ = 12 then 92 else if l_ = 13 then 93 else if l_ = 91 then 94 else l_) rfl), (fg2.relab (fun l_ => if l_ = 12 then 92 else if l_ = 13 then 93 else if l_ = 91 then 94 else l_) rfl), (fg3.relab (fun l_ => if l_ = 12 then 92 else if l_ = 13 then 93 else if l_ = 91 then 94 else l_) rfl), (fg4.relab (fun l_ => if l_ = 12 then 92 else if l_ = 13 then 93 else if l_ = 91 then 94 else l_) rfl)⟩)
    obtain ⟨t1023, hc1024, H⟩ := bindS H
    obtain ⟨q1034, H⟩ := ifS H
    obtain ⟨q1035, H⟩ := ifS H
    obtain ⟨q1044, H⟩ := ifS H
    obtain ⟨t1052, hc1053, H⟩ := bindS H
    refine xd_begin (o := o12) (fun W_ => (Bx bx4 30 [.string p0.Word, .slice Ap0_0 (p0.Nums).length cp0_0, .string p0.Text]) W_ ∧ True) mixed rfl rfl fun w1121 st1122 => ?_
    replace f5 := f5.st st1122 (by decide)
    replace f900000 := f900000.st st1122 (by decide)
    replace fg0 := fg0.st st1122 (by decide)
    replace fg1 := fg1.st st1122 (by decide)
    replace fg2 := fg2.st st1122 (by decide)
    replace fg3 := fg3.st st1122 (by decide)
    replace fg4 := fg4.st st1122 (by decide)
    replace hs := hs.loc0 st1122 (by decide)
    refine xd_abs fun G hG => ?_
    have N1149 : ∀ (a_ : Act) (w_ : World), (∃ o1143 : Nat → Nat, ∃ A1144 : Option Addr, ∃ c1145 : Nat, Kn 81 a_ [(1, .pointer (some ⟨bx4, 0, none⟩)), (14, .string t1023), (22, .slice A1144 ((List.drop 0 (List.take (Int.toNat (mnI ((p0.Nums).length : Int) 8)) p0.Nums))).length c1145), (25, .string p0.Text)] ∧ St [] w (fun _ => 0) w_ o1143 ∧ Ft (RdC (encInt .i64) A1144 (List.drop 0 (List.take (Int.toNat (mnI ((p0.Nums).length : Int) 8)) p0.Nums))) w_ o1143 0 ∧ Ft (Bx bx4 30 [.string p0.Word, .slice Ap0_0 (p0.Nums).length cp0_0, .string p0.Text]) w_ o1143 100 ∧ Ft (RdC (encInt .i64) Ap0_0 p0.Nums) w_ o1143 0 ∧ Ft (RdC ET47 (some ⟨0, 0, none⟩) glob0) w_ o1143 0 ∧ Ft (GInt 1) w_ o1143 0 ∧ Ft (GIface 2) w_ o1143 0 ∧ Ft (GIface 3) w_ o1143 0 ∧ Ft (GTab Tryd.prog "internal/strconv.uint64pow10" .u64 Lib.pow10Tab) w_ o1143 0 ∧ ((List.drop 0 (List.take (Int.toNat (mnI ((p0.Nums).length : Int) 8)) p0.Nums))).length ≤ c1145) → G 5 #[true, true, true, false, true, true, true, true, true, true, true, false, true, true, false, false, false] a_ w_ := by
      rintro a w1148 ⟨o1143, A1144, c1145, hk, hs, f1146, f5, f900000, fg0, fg1, fg2, fg3, fg4, hc1147⟩
      refine xd_of hG ?_
      refine xd_op hk (i := 3) (by kernel_rfl) rfl rfl ?_
      refine op_slice (o := o1143) tab hk (vs := []) (cs := []) rfl rfl rfl rfl rfl rfl rfl rfl rfl 101 fun bx1153 w1150 o1151 st1152 f1154 => ?_
      replace f1146 := f1146.st st1152 (by decide)
      replace f5 := f5.st st1152 (by decide)
      replace f900000 := f900000.st st1152 (by decide)
      replace fg0 := fg0.st st1152 (by decide)
      replace fg1 := fg1.st st1152 (by decide)
      replace fg2 := fg2.st st1152 (by decide)
      replace fg3 := fg3.st st1152 (by decide)
      replace fg4 := fg4.st st1152 (by decide)
      replace hs := hs.loc0 st1152 (by decide)
      have f1155 : Ft (Own (encInt .i64) 3 (.slice (some ⟨bx1153, 0, none⟩) (([] : List Int)).length 0) ([] : List Int)) w1150 o1151 101 := f1154.imp fun _ h_ => Own.of_box h_ rfl (by simp)
      have hk := hk.put 15 (.slice (some ⟨bx1153, 0, none⟩) (([] : List Int)).length 0) rfl
      refine ⟨.inr ⟨f5.now, trivial⟩, ?_⟩
      refine xd_op hk (i := 11) (by kernel_rfl) rfl rfl ?_
      refine op_append (o := o1151) (E := (encInt .i64)) (xs := ([] : List Int)) (ys := (List.drop 0 (List.take (Int.toNat (mnI ((p0.Nums).length : Int) 8)) p0.Nums))) tab hk rfl rfl rfl rfl rfl rfl rfl f1155 f1146.now q1044 fun A1159 c1160 w1156 o1157 st1158 f1161 hc1162 => ?_
      replace f1146 := f1146.st st1158 (by decide)
      replace f5 := f5.st st1158 (by decide)
      replace f900000 := f900000.st st1158 (by decide)
      replace fg0 := fg0.st st1158 (by decide)
      replace fg1 := fg1.st st1158 (by decide)
      replace fg2 := fg2.st st1158 (by decide)
      replace fg3 := fg3.st st1158 (by decide)
      replace fg4 := fg4.st st1158 (by decide)
      replace hs := hs.loc0 st1158 (by decide)
      have hk := hk.put 23 (.slice A1159 ((([] : List Int) ++ (List.drop 0 (List.take (Int.toNat (mnI ((p0.Nums).length : Int) 8)) p0.Nums)))).length c1160) rfl
      refine ⟨.inr ⟨f5.now, trivial⟩, ?_⟩
      refine xd_op hk (i := 14) (by kernel_rfl) rfl rfl ?_
      refine op_call hk ent_8 (vs := [.string p0.Text, .int .i64 200]) rfl (tidewracklaw01_Cut_calls p0.Text 200 _ o1157    _ hc1053) ?_
      rintro _ w1166 ⟨o1167, rfl, st1168⟩
      replace f1146 := f1146.st st1168 (by decide)
      replace f1161 := f1161.st st1168 (by decide)
      replace f5 := f5.st st1168 (by decide)
      replace f900000 := f900000.st st1168 (by decide)
      replace fg0 := fg0.st st1168 (by decide)
      replace fg1 := fg1.st st1168 (by decide)
      replace fg2 := fg2.st st1168 (by decide)
      replace fg3 := fg3.st st1168 (by decide)
      replace fg4 := fg4.st st1168 (by decide)
      replace hs := hs.loc0 st1168 (by decide)
      have hk := hk.put 26 (.string t1052) rfl
      refine ⟨.inr ⟨f5.now, trivial⟩, ?_⟩
      refine xd_take tab hk (k := 1) (is := [15]) (ls' := #[true, true, true, true, true, true, true, true, true, true, true, true, true, true, true, true, false]) (lv := []) (ks := [1, 27]) (e' := [(1, .pointer (some ⟨bx4, 0, none⟩)), (27, .agg #[.string t1023, .slice A1159 ((([] : List Int) ++ (List.drop 0 (List.take (Int.toNat (mnI ((p0.Nums).length : Int) 8)) p0.Nums)))).length c1160, .string t1052])]) (by kernel_rfl) rfl rfl (by kernel_rfl) (np_then (np_then np_body)) ⟨f5.now, trivial⟩ (fun W_ hS => trivial) fun a hk => ?_
      refine xd_op hk (i := 16) (by kernel_rfl) rfl rfl ?_
      refine op_store tab hk (t := 30) (v := .agg #[.string t1023, .slice A1159 ((([] : List Int) ++ (List.drop 0 (List.take (Int.toNat (mnI ((p0.Nums).length : Int) 8)) p0.Nums)))).length c1160, .string t1052]) (b := bx4) (k := 0) (cs' := [.string t1023, .slice A1159 ((([] : List Int) ++ (List.drop 0 (List.take (Int.toNat (mnI ((p0.Nums).length : Int) 8)) p0.Nums)))).length c1160, .string t1052]) rfl rfl rfl rfl rfl rfl f5 rfl rfl fun w1169 o1170 st1171 f5_ => ?_
      replace f1146 := f1146.st st1171 (by decide)
      replace f1161 := f1161.st st1171 (by decide)
      replace f900000 := f900000.st st1171 (by decide)
      replace fg0 := fg0.st st1171 (by decide)
      replace fg1 := fg1.st st1171 (by decide)
      replace fg2 := fg2.st st1171 (by decide)
      replace fg3 := fg3.st st1171 (by decide)
      replace fg4 := fg4.st st1171 (by decide)
      replace hs := hs.loc0 st1171 (by decide)
      replace f5 := f5_
      refine ⟨.inl (by kernel_rfl), ?_⟩
      refine xd_done (by kernel_rfl) ?_
      refine then_n ?_
      exact ⟨(fun b_ => (fun l_ => if l_ = 100 then 13 else if l_ = 101 then 12 else l_) (o1170 b_)), t1023, A1159, c1160, t1052, (by exact Kn.pick (ks := [1]) hk rfl), (hs.relab0 (fun l_ => if l_ = 100 then 13 else if l_ = 101 then 12 else l_) rfl), (f1161.relab (fun l_ => if l_ = 100 then 13 else if l_ = 101 then 12 else l_) rfl), (f5.relab (fun l_ => if l_ = 100 then 13 else if l_ = 101 then 12 else l_) rfl), (fg0.relab (fun l_ => if l_ = 100 then 13 else if l_ = 101 then 12 else l_) rfl), (fg1.relab (fun l_ => if l_ = 100 then 13 else if l_ = 101 then 12 else l_) rfl), (fg2.relab (fun l_ => if l_ = 100 then 13 else if l_ = 101 then 12 else l_) rfl), (fg3.relab (fun l_ => if l_ = 100 then 13 else if l_ = 101 then 12 else l_) rfl), (fg4.relab (fun l_ => if l_ = 100 then 13 else if l_ = 101 then 12 else l_) rfl), hc1162, H⟩
    have N1201 : ∀ (a_ : Act) (w_ : World), (∃ o1191 : Nat → Nat, ∃ A1192 : Option Addr, ∃ c1193 : Nat, ∃ A1196 : Option Addr, ∃ c1197 : Nat, Kn 81 a_ [(1, .pointer (some ⟨bx4, 0, none⟩)), (13, .string p0.Word), (15, .slice A1192 (([] : List Int)).length c1193), (22, .slice A1196 ((List.drop 0 (List.take (Int.toNat (mnI ((p0.Nums).length : Int) 8)) p0.Nums))).length c1197), (25, .string p0.Text)] ∧ St [] w (fun _ => 0) w_ o1191 ∧ Ft (Own (encInt .i64) 3 (.slice A1192 (([] : List Int)).length c1193) ([] : List Int)) w_ o1191 104 ∧ Ft (RdC (encInt .i64) A1196 (List.drop 0 (List.take (Int.toNat (mnI ((p0.Nums).length : Int) 8)) p0.Nums))) w_ o1191 0 ∧ Ft (Bx bx4 30 [.string p0.Word, .slice Ap0_0 (p0.Nums).length cp0_0, .string p0.Text]) w_ o1191 103 ∧ Ft (RdC (encInt .i64) Ap0_0 p0.Nums) w_ o1191 0 ∧ Ft (RdC ET47 (some ⟨0, 0, none⟩) glob0) w_ o1191 0 ∧ Ft (GInt 1) w_ o1191 0 ∧ Ft (GIface 2) w_ o1191 0 ∧ Ft (GIface 3) w_ o1191 0 ∧ Ft (GTab Tryd.prog "internal/strconv.uint64pow10" .u64 Lib.pow10Tab) w_ o1191 0 ∧ (([] : List Int)).length ≤ c1193 ∧ ((List.drop 0 (List.take (Int.toNat (mnI ((p0.Nums).length : Int) 8)) p0.Nums))).length ≤ c1197) → G 5 #[true, true, false, true, true, true, true, true, true, true, true, false, true, true, false, false, false] a_ w_ := by
      rintro a w1200 ⟨o1191, A1192, c1193, A1196, c1197, hk, hs, f1194, f1198, f5, f900000, fg0, fg1, fg2, fg3, fg4, hc1195, hc1199⟩
      refine xd_of hG ?_
      refine xd_op hk (i := 2) (by kernel_rfl) rfl rfl ?_
      refine op_call hk ent_8 (vs := [.string p0.Word, .int .i64 12]) rfl (tidewracklaw01_Cut_calls p0.Word 12 _ o1191    _ hc1024) ?_
      rintro _ w1205 ⟨o1206, rfl, st1207⟩
      replace f1194 := f1194.st st1207 (by decide)
      replace f1198 := f1198.st st1207 (by decide)
      replace f5 := f5.st st1207 (by decide)
      replace f900000 := f900000.st st1207 (by decide)
      replace fg0 := fg0.st st1207 (by decide)
      replace fg1 := fg1.st st1207 (by decide)
      replace fg2 := fg2.st st1207 (by decide)
      replace fg3 := fg3.st st1207 (by decide)
      replace fg4 := fg4.st st1207 (by decide)
      replace hs := hs.loc0 st1207 (by decide)
      have hk := hk.put 14 (.string t1023) rfl
      refine ⟨.inr ⟨f5.now, trivial⟩, ?_⟩
      refine xd_op hk (i := 11) (by kernel_rfl) rfl rfl ?_
      refine op_append (o := o1206) (E := (encInt .i64)) (xs := ([] : List Int)) (ys := (List.drop 0 (List.take (Int.toNat (mnI ((p0.Nums).length : Int) 8)) p0.Nums))) tab hk rfl rfl rfl rfl rfl rfl rfl f1194 f1198.now q1044 fun A1211 c1212 w1208 o1209 st1210 f1213 hc1214 => ?_
      replace f1198 := f1198.st st1210 (by decide)
      replace f5 := f5.st st1210 (by decide)
      replace f900000 := f900000.st st1210 (by decide)
      replace fg0 := fg0.st st1210 (by decide)
      replace fg1 := fg1.st st1210 (by decide)
      replace fg2 := fg2.st st1210 (by decide)
      replace fg3 := fg3.st st1210 (by decide)
      replace fg4 := fg4.st st1210 (by decide)
      replace hs := hs.loc0 st1210 (by decide)
      have hk := hk.put 23 (.slice A1211 ((([] : List Int) ++ (List.drop 0 (List.take (Int.toNat (mnI ((p0.Nums).length : Int) 8)) p0.Nums)))).length c1212) rfl
      refine ⟨.inr ⟨f5.now, trivial⟩, ?_⟩
      refine xd_op hk (i := 14) (by kernel_rfl) rfl rfl ?_
      refine op_call hk ent_8 (vs := [.string p0.Text, .int .i64 200]) rfl (tidewracklaw01_Cut_calls p0.Text 200 _ o1209    _ hc1053) ?_
      rintro _ w1218 ⟨o1219, rfl, st1220⟩
      replace f1198 := f1198.st st1220 (by decide)
      replace f1213 := f1213.st st1220 (by decide)
      replace f5 := f5.st st1220 (by decide)
      replace f900000 := f900000.st st1220 (by decide)
      replace fg0 := fg0.st st1220 (by decide)
      replace fg1 := fg1.st st1220 (by decide)
      replace fg2 := fg2.st st1220 (by decide)
      replace fg3 := fg3.st st1220 (by decide)
      replace fg4 := fg4.st st1220 (by decide)
      replace hs := hs.loc0 st1220 (by decide)
      have hk := hk.put 26 (.string t1052) rfl
      refine ⟨.inr ⟨f5.now, trivial⟩, ?_⟩
      refine xd_take tab hk (k := 1) (is := [15]) (ls' := #[true, true, true, true, true, true, true, true, true, true, true, true, true, true, true, true, false]) (lv := []) (ks := [1, 27]) (e' := [(1, .pointer (some ⟨bx4, 0, none⟩)), (27, .agg #[.string t1023, .slice A1211 ((([] : List Int) ++ (List.drop 0 (List.take (Int.toNat (mnI ((p0.Nums).length : Int) 8)) p0.Nums)))).length c1212, .string t1052])]) (by kernel_rfl) rfl rfl (by kernel_rfl) (np_then (np_then np_body)) ⟨f5.now, trivial⟩ (fun W_ hS => trivial) fun a hk => ?_
      refine xd_op hk (i := 16) (by kernel_rfl) rfl rfl ?_
      refine op_store tab hk (t := 30) (v := .agg #[.string t1023, .slice A1211 ((([] : List Int) ++ (List.drop 0 (List.take (Int.toNat (mnI ((p0.Nums).length : Int) 8)) p0.Nums)))).length c1212, .string t1052]) (b := bx4) (k := 0) (cs' := [.string t1023, .slice A1211 ((([] : List Int) ++ (List.drop 0 (List.take (Int.toNat (mnI ((p0.Nums).length : Int) 8)) p0.Nums)))).length c1212, .string t1052]) rfl rfl rfl rfl rfl rfl f5 rfl rfl fun w1221 o1222 st1223 f5_ => ?_
      replace f1198 := f1198.st st1223 (by decide)
      replace f1213 := f1213.st st1223 (by decide)
      replace f900000 := f900000.st st1223 (by decide)
      replace fg0 := fg0.st st1223 (by decide)
      replace fg1 := fg1.st st1223 (by decide)
      replace fg2 := fg2.st st1223 (by decide)
      replace fg3 := fg3.st st1223 (by decide)
      replace fg4 := fg4.st st1223 (by decide)
      replace hs := hs.loc0 st1223 (by decide)
      replace f5 := f5_
      refine ⟨.inl (by kernel_rfl), ?_⟩
      refine xd_done (by kernel_rfl) ?_
      refine then_n ?_
      exact ⟨(fun b_ => (fun l_ => if l_ = 103 then 13 else if l_ = 104 then 12 else l_) (o1222 b_)), t1023, A1211, c1212, t1052, (by exact Kn.pick (ks := [1]) hk rfl), (hs.relab0 (fun l_ => if l_ = 103 then 13 else if l_ = 104 then 12 else l_) rfl), (f1213.relab (fun l_ => if l_ = 103 then 13 else if l_ = 104 then 12 else l_) rfl), (f5.relab (fun l_ => if l_ = 103 then 13 else if l_ = 104 then 12 else l_) rfl), (fg0.relab (fun l_ => if l_ = 103 then 13 else if l_ = 104 then 12 else l_) rfl), (fg1.relab (fun l_ => if l_ = 103 then 13 else if l_ = 104 then 12 else l_) rfl), (fg2.relab (fun l_ => if l_ = 103 then 13 else if l_ = 104 then 12 else l_) rfl), (fg3.relab (fun l_ => if l_ = 103 then 13 else if l_ = 104 then 12 else l_) rfl), (fg4.relab (fun l_ => if l_ = 103 then 13 else if l_ = 104 then 12 else l_) rfl), hc1214, H⟩
    refine xd_of hG ?_
    refine xd_take tab hk (k := 11) (is := [0, 1, 4, 5, 6, 7]) (ls' := #[true, true, false, false, true, true, true, true, false, false, false, false, false, false, false, false, false]) (lv := [.string p0.Word, .slice Ap0_0 (p0.Nums).length cp0_0, .slice Ap0_0 (p0.Nums).length cp0_0]) (ks := [1, 13, 17, 19]) (e' := [(1, .pointer (some ⟨bx4, 0, none⟩)), (13, .string p0.Word), (17, .slice Ap0_0 (p0.Nums).length cp0_0), (19, .slice Ap0_0 (p0.Nums).length cp0_0)]) (by kernel_rfl) rfl rfl (by kernel_rfl) (np_then (np_then np_body)) ⟨f5.now, trivial⟩ (fun W_ hS => ⟨(load1 tab rfl ((Bx.cell hS.1 0).trans rfl)), (load1 tab rfl ((Bx.cell hS.1 1).trans rfl)), (load1 tab rfl ((Bx.cell hS.1 1).trans rfl)), trivial⟩) fun a hk => ?_
    obtain ⟨A1123, c1124, ak1126, f1125, hc1127⟩ := ask_cut (P := Tryd.prog) tab (t := 24) rfl rfl f900000 hcp0_0 none (some (.int .i64 (mnI ((p0.Nums).length : Int) 8))) rfl ⟨q1034, (by have := q1035; have := hcp0_0; omega), trivial⟩ (by have := q1034; have := q1035; omega) (by have := q1034; have := q1035; omega)
    refine xd_take tab hk (k := 6) (is := [8, 9, 10, 12, 13]) (ls' := #[true, true, false, false, true, true, true, true, true, true, true, false, true, true, false, false, false]) (lv := [.slice A1123 ((List.drop 0 (List.take (Int.toNat (mnI ((p0.Nums).length : Int) 8)) p0.Nums))).length c1124, .string p0.Text]) (ks := [1, 13, 22, 25]) (e' := [(1, .pointer (some ⟨bx4, 0, none⟩)), (13, .string p0.Word), (22, .slice A1123 ((List.drop 0 (List.take (Int.toNat (mnI ((p0.Nums).length : Int) 8)) p0.Nums))).length c1124), (25, .string p0.Text)]) (by kernel_rfl) rfl rfl (by kernel_rfl) (np_then (np_then np_body)) ⟨f5.now, trivial⟩ (fun W_ hS => ⟨(ak1126 rfl rfl rfl _), (load1 tab rfl ((Bx.cell hS.1 2).trans rfl)), trivial⟩) fun a hk => ?_
    refine xd_each [2, 3] (by kernel_rfl) rfl ⟨?_, ?_, trivial⟩
    · refine xd_one hk rfl rfl ?_
      refine op_call hk ent_8 (vs := [.string p0.Word, .int .i64 12]) rfl (tidewracklaw01_Cut_calls p0.Word 12 _ o12    _ hc1024) ?_
      rintro _ w1131 ⟨o1132, rfl, st1133⟩
      replace f1125 := f1125.st st1133 (by decide)
      replace f5 := f5.st st1133 (by decide)
      replace f900000 := f900000.st st1133 (by decide)
      replace fg0 := fg0.st st1133 (by decide)
      replace fg1 := fg1.st st1133 (by decide)
      replace fg2 := fg2.st st1133 (by decide)
      replace fg3 := fg3.st st1133 (by decide)
      replace fg4 := fg4.st st1133 (by decide)
      replace hs := hs.loc0 st1133 (by decide)
      have hk := hk.put 14 (.string t1023) rfl
      refine ⟨.inr ⟨f5.now, trivial⟩, ?_⟩
      exact xd_to hG rfl (N1149 _ _ ⟨(fun b_ => (fun l_ => if l_ = 1 then 100 else l_) (o1132 b_)), A1123, c1124, (by exact Kn.pick (ks := [1, 14, 22, 25]) hk rfl), (hs.relab0 (fun l_ => if l_ = 1 then 100 else l_) rfl), (f1125.relab (fun l_ => if l_ = 1 then 100 else l_) rfl), (f5.relab (fun l_ => if l_ = 1 then 100 else l_) rfl), (f900000.relab (fun l_ => if l_ = 1 then 100 else l_) rfl), (fg0.relab (fun l_ => if l_ = 1 then 100 else l_) rfl), (fg1.relab (fun l_ => if l_ = 1 then 100 else l_) rfl), (fg2.relab (fun l_ => if l_ = 1 then 100 else l_) rfl), (fg3.relab (fun l_ => if l_ = 1 then 100 else l_) rfl), (fg4.relab (fun l_ => if l_ = 1 then 100 else l_) rfl), hc1127⟩)
    · refine xd_one hk rfl rfl ?_
      refine op_slice (o := o12) tab hk (vs := []) (cs := []) rfl rfl rfl rfl rfl rfl rfl rfl rfl 102 fun bx1175 w1172 o1173 st1174 f1176 => ?_
      replace f1125 := f1125.st st1174 (by decide)
      replace f5 := f5.st st1174 (by decide)
      replace f900000 := f900000.st st1174 (by decide)
      replace fg0 := fg0.st st1174 (by decide)
      replace fg1 := fg1.st st1174 (by decide)
      replace fg2 := fg2.st st1174 (by decide)
      replace fg3 := fg3.st st1174 (by decide)
      replace fg4 := fg4.st st1174 (by decide)
      replace hs := hs.loc0 st1174 (by decide)
      have f1177 : Ft (Own (encInt .i64) 3 (.slice (some ⟨bx1175, 0, none⟩) (([] : List Int)).length 0) ([] : List Int)) w1172 o1173 102 := f1176.imp fun _ h_ => Own.of_box h_ rfl (by simp)
      have hk := hk.put 15 (.slice (some ⟨bx1175, 0, none⟩) (([] : List Int)).length 0) rfl
      refine ⟨.inr ⟨f5.now, trivial⟩, ?_⟩
      exact xd_to hG rfl (N1201 _ _ ⟨(fun b_ => (fun l_ => if l_ = 1 then 103 else if l_ = 102 then 104 else l_) (o1173 b_)), (some ⟨bx1175, 0, none⟩), 0, A1123, c1124, (by exact Kn.pick (ks := [1, 13, 15, 22, 25]) hk rfl), (hs.relab0 (fun l_ => if l_ = 1 then 103 else if l_ = 102 then 104 else l_) rfl), (f1177.relab (fun l_ => if l_ = 1 then 103 else if l_ = 102 then 104 else l_) rfl), (f1125.relab (fun l_ => if l_ = 1 then 103 else if l_ = 102 then 104 else l_) rfl), (f5.relab (fun l_ => if l_ = 1 then 103 else if l_ = 102 then 104 else l_) rfl), (f900000.relab (fun l_ => if l_ = 1 then 103 else if l_ = 102 then 104 else l_) rfl), (fg0.relab (fun l_ => if l_ = 1 then 103 else if l_ = 102 then 104 else l_) rfl), (fg1.relab (fun l_ => if l_ = 1 then 103 else if l_ = 102 then 104 else l_) rfl), (fg2.relab (fun l_ => if l_ = 1 then 103 else if l_ = 102 then 104 else l_) rfl), (fg3.relab (fun l_ => if l_ = 1 then 103 else if l_ = 102 then 104 else l_) rfl), (fg4.relab (fun l_ => if l_ = 1 then 103 else if l_ = 102 then 104 else l_) rfl), (Nat.le_refl _), hc1127⟩)
  · rw [b14] at hk H
    replace H := bifT H
    refine x_if hk (b := true) rfl ?_
    refine (show Code.wpIn _ _ _ _ _ _ _ from ?_)
    refine x_seq ?_
    refine wpIn_region_lit ?_
    refine x_run tab hk (k := 1) (lv := []) (ks := [2]) (e' := [(2, .bool false)]) rfl trivial fun a hk => ?_
    refine wpListIn_nil ?_
    refine then_n ?_
    refine wpIn_ret ?_
    refine then_r ?_
    obtain rfl := Option.some.inj H
    exact x_retG hk (rs := [.tmp 2]) (vs := [.bool false]) rfl ⟨rfl, trivial⟩ ⟨fun b_ => if b_ < w.heap.size then o b_ else (fun _ => 0) (o12 b_), rfl, hs.close0 o (fun _ => 0)⟩

end Go.Proofs.YtmolecadkgffkaaDoor
