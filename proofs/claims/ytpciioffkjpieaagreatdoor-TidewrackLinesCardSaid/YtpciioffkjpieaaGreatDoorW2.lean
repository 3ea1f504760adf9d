/- Walks, printed by an own program: the machine's calls compute the plain functions. -/
import Derived.Test.YtpciioffkjpieaaGreatDoorW1
set_option linter.unusedVariables false
set_option linter.unusedSimpArgs false
namespace Go.Proofs.YtpciioffkjpieaaGreatDoor
open Go Go.Proofs.XC
/-! (tidewrack/row.Row).cells -/
theorem row_Row_cells_calls (Ap0_0 : Option Addr) (cp0_0 : Nat) (p0 : T65) (w : World) (o : Nat → Nat) (Lp0_0 : Nat) (hp0_0 : Ft (RdC ET77 Ap0_0 p0.Cells) w o Lp0_0) (hcp0_0 : (p0.Cells).length ≤ cp0_0)  (R0 : Nat) (r : List T77) (H : row_Row_cells p0 = some r) :
    Calls Tryz.prog 68 #[.agg #[.slice Ap0_0 (p0.Cells).length cp0_0, .bool p0.Wrapped]] w (Ret fun v_ w' => ∃ o' : Nat → Nat, ∃ A0 : Option Addr, ∃ c0 : Nat, v_ = .slice A0 (r).length c0 ∧ St [] w o w' o' ∧ Ft (Own ET77 78 (.slice A0 (r).length c0) r) w' o' R0 ∧ (r).length ≤ c0) := by
  refine x_enter (vs := [.agg #[.slice Ap0_0 (p0.Cells).length cp0_0, .bool p0.Wrapped]]) Tryz.func68 rfl rfl rfl fun a hk => ?_
  obtain ⟨o0, hs, h0⟩ := St.start w o
  have f900000 := h0 _ _ hp0_0
  clear h0
  rw [row_Row_cells] at H
  refine x_seq ?_
  refine wpIn_region_lit ?_
  refine x_op hk rfl ?_
  refine op_box (o := o0) (t := 66) (v := .agg #[.slice Ap0_0 (p0.Cells).length cp0_0, .bool p0.Wrapped]) (cs := [.slice Ap0_0 (p0.Cells).length cp0_0, .bool p0.Wrapped]) hk rfl rfl 1 fun bx4 w1 o2 st3 f5 => ?_
  replace f900000 := f900000.st st3 (by decide)
  replace hs := hs.loc0 st3 (by decide)
  have hk := hk.put 1 (.pointer (some ⟨bx4, 0, none⟩)) rfl
  refine x_run tab hk (k := 1) (lv := []) (ks := [1]) (e' := [(1, .pointer (some ⟨bx4, 0, none⟩))]) rfl trivial fun a hk => ?_
  refine wpListIn_nil ?_
  refine then_n ?_
  refine x_seq ?_
  refine wpIn_region_lit ?_
  refine x_run tab hk (k := 2) (lv := [.slice Ap0_0 (p0.Cells).length cp0_0]) (ks := [4]) (e' := [(4, .slice Ap0_0 (p0.Cells).length cp0_0)]) rfl ⟨(load1 tab rfl ((Bx.cell f5.now 0).trans rfl)), trivial⟩ fun a hk => ?_
  refine x_op hk rfl ?_
  obtain ⟨t9, hc10, H⟩ := bindS H
  refine op_call hk ent_93 (vs := [.slice Ap0_0 (p0.Cells).length cp0_0]) rfl (slices_Clone_calls Ap0_0 cp0_0 p0.Cells _ o2 _ f900000 hcp0_0 2  _ hc10) ?_
  rintro _ w11 ⟨o12, A14, c15, rfl, st13, f16, hc17⟩
  replace f900000 := f900000.st st13 (by decide)
  replace hs := hs.loc0 st13 (by decide)
  have hk := hk.put 5 (.slice A14 (t9).length c15) rfl
  refine x_run tab hk (k := 1) (lv := []) (ks := [2]) (e' := [(2, .slice A14 (t9).length c15)]) rfl trivial fun a hk => ?_
  refine wpListIn_nil ?_
  refine then_n ?_
  refine wpIn_ret ?_
  obtain rfl := Option.some.inj H
  exact x_retG hk (rs := [.tmp 2]) (vs := [.slice A14 (t9).length c15]) rfl ⟨rfl, trivial⟩ ⟨fun b_ => if b_ < w.heap.size then o b_ else (fun _ => R0) (o12 b_), A14, c15, rfl, hs.close0 o (fun _ => R0), hs.close_ft (o := o) (ρ := fun _ => R0) f16 (by decide) rfl, hc17⟩

/-! tidewrack/row.broken -/
set_option maxHeartbeats 4000000 in
set_option maxRecDepth 20000 in
theorem row_broken_calls (Ap0 : Option Addr) (cp0 : Nat) (p0 : List T77) (p1 : Int) (w : World) (o : Nat → Nat) (Lp0 : Nat) (hp0 : Ft (RdC ET77 Ap0 p0) w o Lp0) (hcp0 : (p0).length ≤ cp0)  (r : Bool) (H : row_broken p0 p1 = some r) :
    Calls Tryz.prog 94 #[.slice Ap0 (p0).length cp0, .int .i64 p1] w (Ret fun v_ w' => ∃ o' : Nat → Nat, v_ = .bool r ∧ St [] w o w' o') := by
  refine x_enter (vs := [.slice Ap0 (p0).length cp0, .int .i64 p1]) Tryz.func94 rfl rfl rfl fun a hk => ?_
  obtain ⟨o0, hs, h0⟩ := St.start w o
  have f900000 := h0 _ _ hp0
  clear h0
  rw [row_broken] at H
  refine x_seq ?_
  refine wpIn_region_lit ?_
  refine x_run tab hk (k := 1) (lv := []) (ks := [0, 1]) (e' := [(0, .slice Ap0 (p0).length cp0), (1, .int .i64 p1)]) rfl trivial fun a hk => ?_
  refine wpListIn_nil ?_
  refine then_n ?_
  refine x_seq ?_
  refine x_seq ?_
  refine wpIn_region_lit ?_
  obtain ⟨q1, H⟩ := ifS H
  obtain ⟨ad2, hAad2⟩ := RdC.addr f900000.now q1
  have hk_C := hk
  have f900000_C := f900000
  subst hAad2
  have hk := hk_C
  clear hk_C
  have f900000 := f900000_C
  clear f900000_C
  refine x_run tab hk (k := 5) (lv := [.int .i64 ((rdD zT77 p0 p1).Part)]) (ks := [0, 1, 9]) (e' := [(0, .slice (some ad2) (p0).length cp0), (1, .int .i64 p1), (9, .int .i64 ((rdD zT77 p0 p1).Part))]) rfl ⟨q1, (load1 tab rfl (RdC.at (E := ET77) (d := zT77) (i := p1) (j := 2) f900000.now q1 rfl)), trivial⟩ fun a hk => ?_
  refine wpListIn_nil ?_
  refine then_n ?_
  refine wpIn_block ?_
  refine x_seq ?_
  refine wpIn_region_lit ?_
  refine x_run tab hk (k := 2) (lv := []) (ks := [0, 1, 9, 10]) (e' := [(0, .slice (some ad2) (p0).length cp0), (1, .int .i64 p1), (9, .int .i64 ((rdD zT77 p0 p1).Part)), (10, .bool (((rdD zT77 p0 p1).Part) == (1 : Int)))]) rfl trivial fun a hk => ?_
  refine wpListIn_nil ?_
  refine then_n ?_
  cases b3 : (((rdD zT77 p0 p1).Part) == (1 : Int))
  · rw [b3] at hk H
    replace H := bifF H
    refine x_if hk (b := false) rfl ?_
    refine (show Code.wpIn _ _ _ _ _ _ _ from ?_)
    refine x_seq ?_
    refine wpIn_region_lit ?_
    refine x_run tab hk (k := 2) (lv := []) (ks := [0, 1, 9, 26]) (e' := [(0, .slice (some ad2) (p0).length cp0), (1, .int .i64 p1), (9, .int .i64 ((rdD zT77 p0 p1).Part)), (26, .bool (((rdD zT77 p0 p1).Part) == (2 : Int)))]) rfl trivial fun a hk => ?_
    refine wpListIn_nil ?_
    refine then_n ?_
    cases b4 : (((rdD zT77 p0 p1).Part) == (2 : Int))
    · rw [b4] at hk H
      replace H := bifF H
      refine x_if hk (b := false) rfl ?_
      refine (show Code.wpIn _ _ _ _ _ _ _ from ?_)
      refine x_seq ?_
      refine wpIn_region_lit ?_
      refine x_run tab hk (k := 2) (lv := []) (ks := [0, 1, 39]) (e' := [(0, .slice (some ad2) (p0).length cp0), (1, .int .i64 p1), (39, .bool (((rdD zT77 p0 p1).Part) == (3 : Int)))]) rfl trivial fun a hk => ?_
      refine wpListIn_nil ?_
      refine then_n ?_
      cases b5 : (((rdD zT77 p0 p1).Part) == (3 : Int))
      · rw [b5] at hk H
        replace H := bifF H
        refine x_if hk (b := false) rfl ?_
        refine (show Code.wpIn _ _ _ _ _ _ _ from ?_)
        refine wpIn_skip ?_
        refine blk_n ?_
        refine then_n ?_
        refine x_seq ?_
        refine wpIn_region_lit ?_
        refine x_run tab hk (k := 1) (lv := []) (ks := [4]) (e' := [(4, .bool false)]) rfl trivial fun a hk => ?_
        refine wpListIn_nil ?_
        refine then_n ?_
        refine wpIn_ret ?_
        obtain rfl := Option.some.inj H
        exact x_retG hk (rs := [.tmp 4]) (vs := [.bool false]) rfl ⟨rfl, trivial⟩ ⟨fun b_ => if b_ < w.heap.size then o b_ else (fun _ => 0) (o0 b_), rfl, hs.close0 o (fun _ => 0)⟩
      · rw [b5] at hk H
        replace H := bifT H
        refine x_if hk (b := true) rfl ?_
        refine (show Code.wpIn _ _ _ _ _ _ _ from ?_)
        refine x_seq ?_
        refine wpIn_region_lit ?_
        refine x_run tab hk (k := 6) (lv := []) (ks := [4]) (e' := [(4, .bool (p1 != (IntKind.wrap .i64 (((p0).length : Int) - 1))))]) rfl trivial fun a hk => ?_
        refine wpListIn_nil ?_
        refine then_n ?_
        refine wpIn_ret ?_
        refine blk_r ?_
        refine then_r ?_
        obtain rfl := Option.some.inj H
        exact x_retG hk (rs := [.tmp 4]) (vs := [.bool (p1 != (IntKind.wrap .i64 (((p0).length : Int) - 1)))]) rfl ⟨rfl, trivial⟩ ⟨fun b_ => if b_ < w.heap.size then o b_ else (fun _ => 0) (o0 b_), rfl, hs.close0 o (fun _ => 0)⟩
    · rw [b4] at hk H
      replace H := bifT H
      refine x_if hk (b := true) rfl ?_
      refine (show Code.wpIn _ _ _ _ _ _ _ from ?_)
      refine x_seq ?_
      refine wpIn_region_lit ?_
      refine x_run tab hk (k := 3) (lv := []) (ks := [0, 1, 30]) (e' := [(0, .slice (some ad2) (p0).length cp0), (1, .int .i64 p1), (30, .bool (p1 == (0 : Int)))]) rfl trivial fun a hk => ?_
      cases b6 : (p1 == (0 : Int))
      · rw [b6] at hk H
        replace H := bifF H
        obtain ⟨q7, H⟩ := ifS H
        refine x_run tab hk (k := 9) (lv := [.int .i64 ((rdD zT77 p0 (IntKind.wrap .i64 (p1 - 1))).Part)]) (ks := [4]) (e' := [(4, .bool (((rdD zT77 p0 (IntKind.wrap .i64 (p1 - 1))).Part) != (1 : Int)))]) rfl ⟨q7, (load1 tab rfl (RdC.at (E := ET77) (d := zT77) (i := (IntKind.wrap .i64 (p1 - 1))) (j := 2) f900000.now q7 rfl)), trivial⟩ fun a hk => ?_
        refine wpListIn_nil ?_
        refine then_n ?_
        refine wpIn_ret ?_
        refine blk_r ?_
        refine then_r ?_
        obtain rfl := Option.some.inj H
        exact x_retG hk (rs := [.tmp 4]) (vs := [.bool (((rdD zT77 p0 (IntKind.wrap .i64 (p1 - 1))).Part) != (1 : Int))]) rfl ⟨rfl, trivial⟩ ⟨fun b_ => if b_ < w.heap.size then o b_ else (fun _ => 0) (o0 b_), rfl, hs.close0 o (fun _ => 0)⟩
      · rw [b6] at hk H
        replace H := bifT H
        refine x_run tab hk (k := 9) (lv := []) (ks := [4]) (e' := [(4, .bool true)]) rfl trivial fun a hk => ?_
        refine wpListIn_nil ?_
        refine then_n ?_
        refine wpIn_ret ?_
        refine blk_r ?_
        refine then_r ?_
        obtain rfl := Option.some.inj H
        exact x_retG hk (rs := [.tmp 4]) (vs := [.bool true]) rfl ⟨rfl, trivial⟩ ⟨fun b_ => if b_ < w.heap.size then o b_ else (fun _ => 0) (o0 b_), rfl, hs.close0 o (fun _ => 0)⟩
  · rw [b3] at hk H
    replace H := bifT H
    refine x_if hk (b := true) rfl ?_
    refine (show Code.wpIn _ _ _ _ _ _ _ from ?_)
    refine x_seq ?_
    refine wpIn_region_lit ?_
    refine x_run tab hk (k := 6) (lv := []) (ks := [0, 1, 17]) (e' := [(0, .slice (some ad2) (p0).length cp0), (1, .int .i64 p1), (17, .bool (decide ((IntKind.wrap .i64 (p1 + 1)) ≥ ((p0).length : Int))))]) rfl trivial fun a hk => ?_
    cases b8 : (decide ((IntKind.wrap .i64 (p1 + 1)) ≥ ((p0).length : Int)))
    · rw [b8] at hk H
      replace H := bifF H
      obtain ⟨q9, H⟩ := ifS H
      refine x_run tab hk (k := 9) (lv := [.int .i64 ((rdD zT77 p0 (IntKind.wrap .i64 (p1 + 1))).Part)]) (ks := [4]) (e' := [(4, .bool (((rdD zT77 p0 (IntKind.wrap .i64 (p1 + 1))).Part) != (2 : Int)))]) rfl ⟨q9, (load1 tab rfl (RdC.at (E := ET77) (d := zT77) (i := (IntKind.wrap .i64 (p1 + 1))) (j := 2) f900000.now q9 rfl)), trivial⟩ fun a hk => ?_
      refine wpListIn_nil ?_
      refine then_n ?_
      refine wpIn_ret ?_
      refine blk_r ?_
      refine then_r ?_
      obtain rfl := Option.some.inj H
      exact x_retG hk (rs := [.tmp 4]) (vs := [.bool (((rdD zT77 p0 (IntKind.wrap .i64 (p1 + 1))).Part) != (2 : Int))]) rfl ⟨rfl, trivial⟩ ⟨fun b_ => if b_ < w.heap.size then o b_ else (fun _ => 0) (o0 b_), rfl, hs.close0 o (fun _ => 0)⟩
    · rw [b8] at hk H
      replace H := bifT H
      refine x_run tab hk (k := 9) (lv := []) (ks := [4]) (e' := [(4, .bool true)]) rfl trivial fun a hk => ?_
      refine wpListIn_nil ?_
      refine then_n ?_
      refine wpIn_ret ?_
      refine blk_r ?_
      refine then_r ?_
      obtain rfl := Option.some.inj H
      exact x_retG hk (rs := [.tmp 4]) (vs := [.bool true]) rfl ⟨rfl, trivial⟩ ⟨fun b_ => if b_ < w.heap.size then o b_ else (fun _ => 0) (o0 b_), rfl, hs.close0 o (fun _ => 0)⟩

/-! tidewrack/row.mend -/
abbrev R_36 (Lp0 : Nat) (l_ : Nat) : Nat := if l_ = 1 then Lp0 else 0
abbrev R_37 (l_ : Nat) : Nat := if l_ = 2 then 7 else l_
abbrev R_38 (l_ : Nat) : Nat := if l_ = 7 then 5 else l_
set_option maxHeartbeats 4000000 in
set_option maxRecDepth 20000 in
theorem row_mend_calls (K : Nat) (Ap0 : Option Addr) (cp0 : Nat) (p0 : List T77) (w : World) (o : Nat → Nat) (Lp0 : Nat) (hp0 : Ft (Own ET77 78 (.slice Ap0 (p0).length cp0) p0) w o Lp0) (hcp0 : (p0).length ≤ cp0) (hd0 : ([Lp0] : List Nat).Nodup) (r : T65) (H : row_mend K p0 = some r) :
    Calls Tryz.prog 69 #[.slice Ap0 (p0).length cp0] w (Ret fun v_ w' => ∃ o' : Nat → Nat, ∃ A0 : Option Addr, ∃ c0 : Nat, v_ = .agg #[.slice A0 (r.Cells).length c0, .bool r.Wrapped] ∧ St [Lp0] w o w' o' ∧ Ft (Own ET77 78 (.slice A0 (r.Cells).length c0) r.Cells) w' o' Lp0 ∧ (r.Cells).length ≤ c0) := by
  refine x_enter (vs := [.slice Ap0 (p0).length cp0]) Tryz.func69 rfl rfl rfl fun a hk => ?_
  obtain ⟨oi, hs0, h0, h1, hob, hoz, hoa⟩ := St.startM2 w o (m := 1) hd0 rfl
  have hs := hs0 [1]
  have hom := lab_in hob (MM := [1]) (by decide)
  have f900000 := h1 0 1 hp0 rfl rfl
  clear h0 h1 hs0
  rw [row_mend] at H
  refine x_seq ?_
  refine wpIn_region_lit ?_
  refine x_op hk rfl ?_
  refine op_alloc (o := oi) tab (t := 66) (cs := [.slice none 0 0, .bool false]) rfl rfl 2 fun bx4 w1 o2 st3 f5 => ?_
  replace f900000 := f900000.st st3 (by decide)
  replace hs := hs.locM st3 (by decide) hom
  have hk := hk.put 2 (.pointer (some ⟨bx4, 0, none⟩)) rfl
  refine wpListIn_nil ?_
  refine then_n ?_
  refine x_mid (fun a_ w_ => ∃ o102 : Nat → Nat, ∃ A103 : Option Addr, ∃ c104 : Nat, ∃ l105 : List T77, Kn 24 a_ [(0, .slice A103 (l105).length c104), (2, .pointer (some ⟨bx4, 0, none⟩))] ∧ St [1] w oi w_ o102 ∧ Ft (Own ET77 78 (.slice A103 (l105).length c104) l105) w_ o102 1 ∧ Ft (Bx bx4 66 [.slice none 0 0, .bool false]) w_ o102 5 ∧ (l105).length ≤ c104 ∧ row_mend_j1 l105 = some r) ?_ ?_
  rotate_left
  · rintro a w108 ⟨o102, A103, c104, l105, hk, hs, f106, f5, hc107, H⟩
    rw [row_mend_j1] at H
    refine x_seq ?_
    refine wpIn_region_lit ?_
    refine x_run tab hk (k := 2) (lv := []) (ks := [2, 23]) (e' := [(2, .pointer (some ⟨bx4, 0, none⟩)), (23, .agg #[.slice A103 (l105).length c104, .bool false])]) rfl trivial fun a hk => ?_
    refine x_op hk rfl ?_
    refine op_store tab hk (t := 66) (v := .agg #[.slice A103 (l105).length c104, .bool false]) (b := bx4) (k := 0) (cs' := [.slice A103 (l105).length c104, .bool false]) rfl rfl rfl rfl rfl rfl f5 rfl rfl fun w109 o110 st111 f5_ => ?_
    replace f106 := f106.st st111 (by decide)
    replace hs := hs.locM st111 (by decide) hom
    replace f5 := f5_
    refine wpListIn_nil ?_
    refine then_n ?_
    refine wpIn_ret ?_
    obtain rfl := Option.some.inj H
    exact x_retG hk (rs := [.cell 2 66]) (vs := [.agg #[.slice A103 (l105).length c104, .bool false]]) rfl ⟨⟨_, rfl, load_box tab rfl rfl f5.now (k := 0) rfl rfl⟩, trivial⟩ ⟨cl w oi o [1] (R_36 Lp0) o110, A103, c104, rfl, hs.closeM hoz (by decide) (R_36 Lp0), hs.closeM_ft (o := o) (ρ := R_36 Lp0) f106 (lab_at hoa (i := 0) rfl) rfl, hc107⟩
  refine x_seq ?_
  refine wpIn_region_lit ?_
  refine x_run tab hk (k := 3) (lv := []) (ks := [0, 2, 5, 6]) (e' := [(0, .slice Ap0 (p0).length cp0), (2, .pointer (some ⟨bx4, 0, none⟩)), (5, .int .i64 ((p0).length : Int)), (6, .int .i64 0)]) rfl trivial fun a hk => ?_
  refine wpListIn_nil ?_
  refine then_n ?_
  refine wpIn_block ?_
  refine x_loop (fun j_ a_ w_ => ∃ o139 : Nat → Nat, ∃ A140 : Option Addr, ∃ c141 : Nat, ∃ l142 : List T77, ∃ x145 : Int, Kn 24 a_ [(0, .slice A140 (l142).length c141), (2, .pointer (some ⟨bx4, 0, none⟩)), (5, .int .i64 ((p0).length : Int)), (6, .int .i64 x145)] ∧ St [1] w oi w_ o139 ∧ Ft (Own ET77 78 (.slice A140 (l142).length c141) l142) w_ o139 1 ∧ Ft (Bx bx4 66 [.slice none 0 0, .bool false]) w_ o139 7 ∧ (l142).length ≤ c141 ∧ row_mend_l2 p0 j_ l142 x145 = some r) (k := K) ⟨(fun b_ => R_37 (o2 b_)), Ap0, cp0, p0, 0, (by exact Kn.pick (ks := [0, 2, 5, 6]) hk rfl), (hs.relabM hob R_37 (by decide)), (f900000.relab R_37 rfl), (f5.relab R_37 rfl), hcp0, H⟩ (fun _ _ z => z.elim fun _ z => z.elim fun _ z => z.elim fun _ z => z.elim fun _ z => z.elim fun _ z => z.elim fun _ z => z.elim fun _ z => z.elim fun _ z => z.elim fun _ z => z.elim fun _ z => absurd (show (none : Option T65) = some r from z) (by simp)) ?_
  rintro k171 a w170 ⟨o139, A140, c141, l142, x145, hk, hs, f143, f5, hc144, H⟩
  rw [row_mend_l2] at H
  obtain ⟨lp172, hlp173⟩ : ∃ lp_, lp_ = row_mend_l2 p0 k171 := ⟨_, rfl⟩
  rw [← hlp173] at H
  refine x_seq ?_
  refine wpIn_region_lit ?_
  refine x_run tab hk (k := 1) (lv := []) (ks := [0, 2, 5, 6, 7]) (e' := [(0, .slice A140 (l142).length c141), (2, .pointer (some ⟨bx4, 0, none⟩)), (5, .int .i64 ((p0).length : Int)), (6, .int .i64 x145), (7, .bool (decide (x145 < ((p0).length : Int))))]) rfl trivial fun a hk => ?_
  refine wpListIn_nil ?_
  refine then_n ?_
  refine x_seq ?_
  cases b174 : (decide (x145 < ((p0).length : Int)))
  · rw [b174] at hk H
    replace H := bifF H
    refine x_if hk (b := false) rfl ?_
    refine (show Code.wpIn _ _ _ _ _ _ _ from ?_)
    refine wpIn_exit ?_
    refine then_x ?_
    refine then_x ?_
    refine blk_x ?_
    refine then_n ?_
    exact ⟨(fun b_ => R_38 (o139 b_)), A140, c141, l142, (by exact Kn.pick (ks := [0, 2]) hk rfl), (hs.relabM hob R_38 (by decide)), (f143.relab R_38 rfl), (f5.relab R_38 rfl), hc144, H⟩
  · rw [b174] at hk H
    replace H := bifT H
    refine x_if hk (b := true) rfl ?_
    refine (show Code.wpIn _ _ _ _ _ _ _ from ?_)
    refine wpIn_skip ?_
    refine then_n ?_
    refine x_seq ?_
    refine wpIn_block ?_
    refine x_seq ?_
    refine wpIn_region_lit ?_
    refine x_run tab hk (k := 2) (lv := []) (ks := [0, 2, 3, 5, 6]) (e' := [(0, .slice A140 (l142).length c141), (2, .pointer (some ⟨bx4, 0, none⟩)), (3, .int .i64 x145), (5, .int .i64 ((p0).length : Int)), (6, .int .i64 x145)]) rfl trivial fun a hk => ?_
    refine wpListIn_nil ?_
    refine then_n ?_
    refine x_seq ?_
    refine wpIn_region_lit ?_
    refine x_run tab hk (k := 2) (lv := []) (ks := [0, 2, 3, 5, 6, 9, 10]) (e' := [(0, .slice A140 (l142).length c141), (2, .pointer (some ⟨bx4, 0, none⟩)), (3, .int .i64 x145), (5, .int .i64 ((p0).length : Int)), (6, .int .i64 x145), (9, .slice A140 (l142).length c141), (10, .int .i64 x145)]) rfl trivial fun a hk => ?_
    refine x_op hk rfl ?_
    obtain ⟨t178, hc179, H⟩ := bindS H
    refine op_call hk ent_94 (vs := [.slice A140 (l142).length c141, .int .i64 x145]) rfl (row_broken_calls A140 c141 l142 x145 _ o139 _ (f143.imp fun _ h_ => Own.rd h_) hc144   _ hc179) ?_
    rintro _ w180 ⟨o181, rfl, st182⟩
    replace f143 := f143.st st182 (by decide)
    replace f5 := f5.st st182 (by decide)
    replace hs := hs.locM st182 (by decide) hom
    have hk := hk.put 11 (.bool t178) rfl
    refine wpListIn_nil ?_
    refine then_n ?_
    cases b183 : t178
    · rw [b183] at hk H
      replace H := bifF H
      refine x_if hk (b := false) rfl ?_
      refine (show Code.wpIn _ _ _ _ _ _ _ from ?_)
      refine wpIn_skip ?_
      refine blk_n ?_
      refine then_n ?_
      refine wpIn_region_lit ?_
      refine x_run tab hk (k := 2) (lv := []) (ks := [0, 2, 5, 6]) (e' := [(0, .slice A140 (l142).length c141), (2, .pointer (some ⟨bx4, 0, none⟩)), (5, .int .i64 ((p0).length : Int)), (6, .int .i64 (IntKind.wrap .i64 (x145 + 1)))]) rfl trivial fun a hk => ?_
      refine wpListIn_nil ?_
      refine then_n ?_
      exact ⟨k171, Nat.le_refl _, o181, A140, c141, l142, (IntKind.wrap .i64 (x145 + 1)), (by exact Kn.pick (ks := [0, 2, 5, 6]) hk rfl), hs, f143, f5, hc144, (hlp173 ▸ H)⟩
    · rw [b183] at hk H
      replace H := bifT H
      refine x_if hk (b := true) rfl ?_
      refine (show Code.wpIn _ _ _ _ _ _ _ from ?_)
      refine wpIn_region_lit ?_
      obtain ⟨q184, H⟩ := ifS H
      obtain ⟨ad185, hAad185⟩ := RdC.addr (Own.rd f143.now) q184
      have hk_C := hk
      have f143_C := f143
      have f5_C := f5
      subst hAad185
      have hk := hk_C
      clear hk_C
      have f143 := f143_C
      clear f143_C
      have f5 := f5_C
      clear f5_C
      refine x_run tab hk (k := 7) (lv := [.int .i64 ((rdD zT77 l142 x145).Style)]) (ks := [0, 2, 5, 6, 12, 13, 18]) (e' := [(0, .slice (some ad185) (l142).length c141), (2, .pointer (some ⟨bx4, 0, none⟩)), (5, .int .i64 ((p0).length : Int)), (6, .int .i64 x145), (12, .slice (some ad185) (l142).length c141), (13, .int .i64 x145), (18, .int .i64 ((rdD zT77 l142 x145).Style))]) rfl ⟨q184, (load1 tab rfl (RdC.at (E := ET77) (d := zT77) (i := x145) (j := 1) (Own.rd f143.now) q184 rfl)), trivial⟩ fun a hk => ?_
      refine x_op hk rfl ?_
      obtain ⟨t189, hc190, H⟩ := bindS H
      refine op_call hk ent_30 (vs := [.int .i64 ((rdD zT77 l142 x145).Style)]) rfl (row_blank_calls ((rdD zT77 l142 x145).Style) _ o181    _ hc190) ?_
      rintro _ w191 ⟨o192, rfl, st193⟩
      replace f143 := f143.st st193 (by decide)
      replace f5 := f5.st st193 (by decide)
      replace hs := hs.locM st193 (by decide) hom
      have hk := hk.put 19 (.agg #[.int .i32 t189.Rune, .int .i64 t189.Style, .int .i64 t189.Part]) rfl
      refine x_run tab hk (k := 1) (lv := []) (ks := [0, 2, 5, 6, 19, 20]) (e' := [(0, .slice (some ad185) (l142).length c141), (2, .pointer (some ⟨bx4, 0, none⟩)), (5, .int .i64 ((p0).length : Int)), (6, .int .i64 x145), (19, .agg #[.int .i32 t189.Rune, .int .i64 t189.Style, .int .i64 t189.Part]), (20, .pointer (some (ad185.add (Int.toNat x145 * 3))))]) rfl ⟨q184, trivial⟩ fun a hk => ?_
      refine x_op hk rfl ?_
      refine op_storeO tab hk (E := ET77) (i := x145) (j := 0) (dx := zT77) (y' := t189) rfl rfl rfl f143 rfl q184 rfl rfl rfl rfl fun w194 o195 st196 f143_ => ?_
      replace f5 := f5.st st196 (by decide)
      replace hs := hs.locM st196 (by decide) hom
      replace f143 := f143_
      have hl197 : (List.set l142 (Int.toNat x145) t189).length = (l142).length := List.length_set
      replace hk := Kn.re hk [0, 2, 5, 6, 19] (e2 := [(0, .slice (some ad185) ((List.set l142 (Int.toNat x145) t189)).length c141), (2, .pointer (some ⟨bx4, 0, none⟩)), (5, .int .i64 ((p0).length : Int)), (6, .int .i64 x145), (19, .agg #[.int .i32 t189.Rune, .int .i64 t189.Style, .int .i64 t189.Part])]) rfl (by rw [hl197])
      refine wpListIn_nil ?_
      refine blk_n ?_
      refine then_n ?_
      refine wpIn_region_lit ?_
      refine x_run tab hk (k := 2) (lv := []) (ks := [0, 2, 5, 6]) (e' := [(0, .slice (some ad185) ((List.set l142 (Int.toNat x145) t189)).length c141), (2, .pointer (some ⟨bx4, 0, none⟩)), (5, .int .i64 ((p0).length : Int)), (6, .int .i64 (IntKind.wrap .i64 (x145 + 1)))]) rfl trivial fun a hk => ?_
      refine wpListIn_nil ?_
      refine then_n ?_
      exact ⟨k171, Nat.le_refl _, o195, (some ad185), c141, (List.set l142 (Int.toNat x145) t189), (IntKind.wrap .i64 (x145 + 1)), (by exact Kn.pick (ks := [0, 2, 5, 6]) hk rfl), hs, f143, f5, (by rw [List.length_set]; exact hc144), (hlp173 ▸ H)⟩

/-! (tidewrack/row.Row).Resize -/
set_option maxHeartbeats 4000000 in
set_option maxRecDepth 20000 in
theorem row_Row_Resize_calls (K : Nat) (Ap0_0 : Option Addr) (cp0_0 : Nat) (p0 : T65) (p1 : Int) (w : World) (o : Nat → Nat) (Lp0_0 : Nat) (hp0_0 : Ft (RdC ET77 Ap0_0 p0.Cells) w o Lp0_0) (hcp0_0 : (p0.Cells).length ≤ cp0_0)  (R0 : Nat) (r : T65) (H : row_Row_Resize K p0 p1 = some r) :
    Calls Tryz.prog 91 #[.agg #[.slice Ap0_0 (p0.Cells).length cp0_0, .bool p0.Wrapped], .int .i64 p1] w (Ret fun v_ w' => ∃ o' : Nat → Nat, ∃ A0 : Option Addr, ∃ c0 : Nat, v_ = .agg #[.slice A0 (r.Cells).length c0, .bool r.Wrapped] ∧ St [] w o w' o' ∧ Ft (Own ET77 78 (.slice A0 (r.Cells).length c0) r.Cells) w' o' R0 ∧ (r.Cells).length ≤ c0) := by
  refine x_enter (vs := [.agg #[.slice Ap0_0 (p0.Cells).length cp0_0, .bool p0.Wrapped], .int .i64 p1]) Tryz.func91 rfl rfl rfl fun a hk => ?_
  obtain ⟨o0, hs, h0⟩ := St.start w o
  have f900000 := h0 _ _ hp0_0
  clear h0
  rw [row_Row_Resize] at H
  refine x_seq ?_
  refine wpIn_region_lit ?_
  refine x_op hk rfl ?_
  refine op_box (o := o0) (t := 66) (v := .agg #[.slice Ap0_0 (p0.Cells).length cp0_0, .bool p0.Wrapped]) (cs := [.slice Ap0_0 (p0.Cells).length cp0_0, .bool p0.Wrapped]) hk rfl rfl 1 fun bx4 w1 o2 st3 f5 => ?_
  replace f900000 := f900000.st st3 (by decide)
  replace hs := hs.loc0 st3 (by decide)
  have hk := hk.put 2 (.pointer (some ⟨bx4, 0, none⟩)) rfl
  refine x_op hk rfl ?_
  refine op_alloc (o := o2) tab (t := 66) (cs := [.slice none 0 0, .bool false]) rfl rfl 2 fun bx9 w6 o7 st8 f10 => ?_
  replace f5 := f5.st st8 (by decide)
  replace f900000 := f900000.st st8 (by decide)
  replace hs := hs.loc0 st8 (by decide)
  have hk := hk.put 4 (.pointer (some ⟨bx9, 0, none⟩)) rfl
  refine wpListIn_nil ?_
  refine then_n ?_
  refine x_seq ?_
  refine wpIn_region_lit ?_
  refine x_run tab hk (k := 1) (lv := []) (ks := [2, 4, 6]) (e' := [(2, .pointer (some ⟨bx4, 0, none⟩)), (4, .pointer (some ⟨bx9, 0, none⟩)), (6, .int .i64 p1)]) rfl trivial fun a hk => ?_
  refine x_op hk rfl ?_
  obtain ⟨t14, hc15, H⟩ := bindS H
  refine op_call hk ent_54 (vs := [.int .i64 p1, .int .i64 0, .int .i64 1000]) rfl (row_clip_calls p1 0 1000 _ o7    _ hc15) ?_
  rintro _ w16 ⟨o17, rfl, st18⟩
  replace f10 := f10.st st18 (by decide)
  replace f5 := f5.st st18 (by decide)
  replace f900000 := f900000.st st18 (by decide)
  replace hs := hs.loc0 st18 (by decide)
  have hk := hk.put 7 (.int .i64 t14) rfl
  refine x_run tab hk (k := 1) (lv := []) (ks := [1, 2, 4]) (e' := [(1, .int .i64 t14), (2, .pointer (some ⟨bx4, 0, none⟩)), (4, .pointer (some ⟨bx9, 0, none⟩))]) rfl trivial fun a hk => ?_
  refine wpListIn_nil ?_
  refine then_n ?_
  refine x_seq ?_
  refine wpIn_region_lit ?_
  refine x_run tab hk (k := 1) (lv := [.agg #[.slice Ap0_0 (p0.Cells).length cp0_0, .bool p0.Wrapped]]) (ks := [1, 2, 4, 8]) (e' := [(1, .int .i64 t14), (2, .pointer (some ⟨bx4, 0, none⟩)), (4, .pointer (some ⟨bx9, 0, none⟩)), (8, .agg #[.slice Ap0_0 (p0.Cells).length cp0_0, .bool p0.Wrapped])]) rfl ⟨(load_box tab rfl rfl f5.now (k := 0) rfl rfl), trivial⟩ fun a hk => ?_
  refine x_op hk rfl ?_
  obtain ⟨t22, hc23, H⟩ := bindS H
  refine op_call hk ent_68 (vs := [.agg #[.slice Ap0_0 (p0.Cells).length cp0_0, .bool p0.Wrapped]]) rfl (row_Row_cells_calls Ap0_0 cp0_0 p0 _ o17 _ f900000 hcp0_0 3  _ hc23) ?_
  rintro _ w24 ⟨o25, A27, c28, rfl, st26, f29, hc30⟩
  replace f10 := f10.st st26 (by decide)
  replace f5 := f5.st st26 (by decide)
  replace f900000 := f900000.st st26 (by decide)
  replace hs := hs.loc0 st26 (by decide)
  have hk := hk.put 9 (.slice A27 (t22).length c28) rfl
  refine x_run tab hk (k := 1) (lv := []) (ks := [1, 2, 4, 5]) (e' := [(1, .int .i64 t14), (2, .pointer (some ⟨bx4, 0, none⟩)), (4, .pointer (some ⟨bx9, 0, none⟩)), (5, .slice A27 (t22).length c28)]) rfl trivial fun a hk => ?_
  refine wpListIn_nil ?_
  refine then_n ?_
  refine x_seq ?_
  refine x_seq ?_
  refine wpIn_region_lit ?_
  refine x_run tab hk (k := 4) (lv := []) (ks := [1, 2, 4, 5, 13]) (e' := [(1, .int .i64 t14), (2, .pointer (some ⟨bx4, 0, none⟩)), (4, .pointer (some ⟨bx9, 0, none⟩)), (5, .slice A27 (t22).length c28), (13, .bool (t14 == ((t22).length : Int)))]) rfl trivial fun a hk => ?_
  refine wpListIn_nil ?_
  refine then_n ?_
  cases b31 : (t14 == ((t22).length : Int))
  · rw [b31] at hk H
    replace H := bifF H
    refine x_if hk (b := false) rfl ?_
    refine (show Code.wpIn _ _ _ _ _ _ _ from ?_)
    refine wpIn_skip ?_
    refine then_n ?_
    refine x_seq ?_
    refine xd_begin (o := o25) (fun W_ => True) mixed rfl rfl fun w113 st114 => ?_
    replace f10 := f10.st st114 (by decide)
    replace f29 := f29.st st114 (by decide)
    replace f5 := f5.st st114 (by decide)
    replace f900000 := f900000.st st114 (by decide)
    replace hs := hs.loc0 st114 (by decide)
    obtain ⟨q115, H⟩ := ifS H
    obtain ⟨q116, H⟩ := ifS H
    obtain ⟨A117, c118, ak120, f119, hc121⟩ := ask_take (P := Tryz.prog) tab (t := 64) rfl rfl f29 hc30 (k := .i64) (mnI t14 ((t22).length : Int)) q115 q116
    refine xd_take tab hk (k := 4) (is := [0, 1, 2, 3, 4, 5, 6, 7, 8, 9]) (ls' := #[true, true, true, true, true, true, true, true, true, true, false, false, false, false]) (lv := [.slice A117 ((List.take (Int.toNat (mnI t14 ((t22).length : Int))) t22)).length c118]) (ks := [4, 23, 27]) (e' := [(4, .pointer (some ⟨bx9, 0, none⟩)), (23, .slice A117 ((List.take (Int.toNat (mnI t14 ((t22).length : Int))) t22)).length c118), (27, .int .i64 (IntKind.wrap .i64 (t14 - ((t22).length : Int))))]) (by kernel_rfl) rfl rfl (by kernel_rfl) (np_then np_body) trivial (fun W_ hS => ⟨(ak120 rfl rfl _), trivial⟩) fun a hk => ?_
    refine xd_op hk (i := 10) (by kernel_rfl) rfl rfl ?_
    obtain ⟨t125, hc126, H⟩ := bindS H
    refine op_call hk ent_53 (vs := [.int .i64 (IntKind.wrap .i64 (t14 - ((t22).length : Int))), .int .i64 0]) rfl (row_blanks_calls K (IntKind.wrap .i64 (t14 - ((t22).length : Int))) 0 _ o25  6  _ hc126) ?_
    rintro _ w127 ⟨o128, A130, c131, rfl, st129, f132, hc133⟩
    replace f10 := f10.st st129 (by decide)
    replace f119 := f119.st st129 (by decide)
    replace f29 := f29.st st129 (by decide)
    replace f5 := f5.st st129 (by decide)
    replace f900000 := f900000.st st129 (by decide)
    replace hs := hs.loc0 st129 (by decide)
    have hk := hk.put 28 (.slice A130 (t125).length c131) rfl
    refine ⟨.inr trivial, ?_⟩
    refine xd_op hk (i := 11) (by kernel_rfl) rfl rfl ?_
    obtain ⟨q137, H⟩ := ifS H
    refine op_append (o := o128) (E := ET77) (xs := (List.take (Int.toNat (mnI t14 ((t22).length : Int))) t22)) (ys := t125) tab hk rfl rfl rfl rfl rfl rfl rfl f119 (Own.rd f132.now) q137 fun A138 c139 w134 o135 st136 f140 hc141 => ?_
    replace f10 := f10.st st136 (by decide)
    replace f132 := f132.st st136 (by decide)
    replace f5 := f5.st st136 (by decide)
    replace f900000 := f900000.st st136 (by decide)
    replace hs := hs.loc0 st136 (by decide)
    have hk := hk.put 29 (.slice A138 (((List.take (Int.toNat (mnI t14 ((t22).length : Int))) t22) ++ t125)).length c139) rfl
    refine ⟨.inr trivial, ?_⟩
    refine xd_op hk (i := 12) (by kernel_rfl) rfl rfl ?_
    obtain ⟨t145, hc146, H⟩ := bindS H
    refine op_call hk ent_69 (vs := [.slice A138 (((List.take (Int.toNat (mnI t14 ((t22).length : Int))) t22) ++ t125)).length c139]) rfl (row_mend_calls K A138 c139 ((List.take (Int.toNat (mnI t14 ((t22).length : Int))) t22) ++ t125) _ o135 3 f140 hc141 (by decide)   _ hc146) ?_
    rintro _ w147 ⟨o148, A150, c151, rfl, st149, f152, hc153⟩
    replace f10 := f10.st st149 (by decide)
    replace f132 := f132.st st149 (by decide)
    replace f5 := f5.st st149 (by decide)
    replace f900000 := f900000.st st149 (by decide)
    replace hs := hs.loc0 st149 (by decide)
    have hk := hk.put 30 (.agg #[.slice A150 (t145.Cells).length c151, .bool t145.Wrapped]) rfl
    refine ⟨.inr trivial, ?_⟩
    refine xd_op hk (i := 13) (by kernel_rfl) rfl rfl ?_
    refine op_store tab hk (t := 66) (v := .agg #[.slice A150 (t145.Cells).length c151, .bool t145.Wrapped]) (b := bx9) (k := 0) (cs' := [.slice A150 (t145.Cells).length c151, .bool t145.Wrapped]) rfl rfl rfl rfl rfl rfl f10 rfl rfl fun w154 o155 st156 f10_ => ?_
    replace f132 := f132.st st156 (by decide)
    replace f152 := f152.st st156 (by decide)
    replace f5 := f5.st st156 (by decide)
    replace f900000 := f900000.st st156 (by decide)
    replace hs := hs.loc0 st156 (by decide)
    replace f10 := f10_
    refine ⟨.inl (by kernel_rfl), ?_⟩
    refine xd_done (by kernel_rfl) ?_
    refine then_n ?_
    refine wpIn_ret ?_
    obtain rfl := Option.some.inj H
    exact x_retG hk (rs := [.cell 4 66]) (vs := [.agg #[.slice A150 (t145.Cells).length c151, .bool t145.Wrapped]]) rfl ⟨⟨_, rfl, load_box tab rfl rfl f10.now (k := 0) rfl rfl⟩, trivial⟩ ⟨fun b_ => if b_ < w.heap.size then o b_ else (fun _ => R0) (o155 b_), A150, c151, rfl, hs.close0 o (fun _ => R0), hs.close_ft (o := o) (ρ := fun _ => R0) f152 (by decide) rfl, hc153⟩
  · rw [b31] at hk H
    replace H := bifT H
    refine x_if hk (b := true) rfl ?_
    refine (show Code.wpIn _ _ _ _ _ _ _ from ?_)
    refine x_seq ?_
    refine wpIn_region_lit ?_
    refine x_run tab hk (k := 4) (lv := [.bool p0.Wrapped]) (ks := [4, 17]) (e' := [(4, .pointer (some ⟨bx9, 0, none⟩)), (17, .agg #[.slice A27 (t22).length c28, .bool p0.Wrapped])]) rfl ⟨(load1 tab rfl ((Bx.cell f5.now 1).trans rfl)), trivial⟩ fun a hk => ?_
    refine x_op hk rfl ?_
    refine op_store tab hk (t := 66) (v := .agg #[.slice A27 (t22).length c28, .bool p0.Wrapped]) (b := bx9) (k := 0) (cs' := [.slice A27 (t22).length c28, .bool p0.Wrapped]) rfl rfl rfl rfl rfl rfl f10 rfl rfl fun w157 o158 st159 f10_ => ?_
    replace f29 := f29.st st159 (by decide)
    replace hs := hs.loc0 st159 (by decide)
    replace f10 := f10_
    refine wpListIn_nil ?_
    refine then_n ?_
    refine wpIn_ret ?_
    refine then_r ?_
    obtain rfl := Option.some.inj H
    exact x_retG hk (rs := [.cell 4 66]) (vs := [.agg #[.slice A27 (t22).length c28, .bool p0.Wrapped]]) rfl ⟨⟨_, rfl, load_box tab rfl rfl f10.now (k := 0) rfl rfl⟩, trivial⟩ ⟨fun b_ => if b_ < w.heap.size then o b_ else (fun _ => R0) (o158 b_), A27, c28, rfl, hs.close0 o (fun _ => R0), hs.close_ft (o := o) (ρ := fun _ => R0) f29 (by decide) rfl, hc30⟩

/-! (*tidewrack/grid.Grid).Set -/
abbrev R_39 (l_ : Nat) : Nat := if l_ = 9 then 1 else l_
abbrev R_40 (LF Lp0 Lp0_0 : Nat) (l_ : Nat) : Nat := if l_ = 1 then LF else if l_ = 2 then Lp0 else if l_ = 3 then Lp0_0 else 0
abbrev R_41 (l_ : Nat) : Nat := if l_ = 4 then 5 else l_
set_option maxHeartbeats 4000000 in
set_option maxRecDepth 20000 in
theorem grid_Grid_Set_calls (K : Nat) (bp0 : Nat) (Ap0_0 : Option Addr) (cp0_0 : Nat) (p0 : T74) (p1 : Int) (Ap2_0 : Option Addr) (cp2_0 : Nat) (p2 : T65) (w : World) (o : Nat → Nat) (LF : Nat) (Lp0 : Nat) (hp0 : Ft (Bx bp0 75 [.int .i64 p0.w, .slice Ap0_0 (p0.l).length cp0_0]) w o Lp0) (Lp0_0 : Nat) (hp0_0 : NOwn dT65 66 Ap0_0 cp0_0 p0.l w o Lp0_0 LF) (hcp0_0 : (p0.l).length ≤ cp0_0) (Lp2_0 : Nat) (hp2_0 : Ft (RdC ET77 Ap2_0 p2.Cells) w o Lp2_0) (hcp2_0 : (p2.Cells).length ≤ cp2_0) (hd0 : ([LF, Lp0, Lp0_0] : List Nat).Nodup) (hd1 : Lp2_0 ∉ [LF, Lp0, Lp0_0]) (r : Bool × T74) (H : grid_Grid_Set K p0 p1 p2 = some r) :
    Calls Tryz.prog 66 #[.pointer (some ⟨bp0, 0, none⟩), .int .i64 p1, .agg #[.slice Ap2_0 (p2.Cells).length cp2_0, .bool p2.Wrapped]] w (Ret fun v_ w' => ∃ o' : Nat → Nat, ∃ A0 : Option Addr, ∃ c0 : Nat, v_ = .bool r.1 ∧ St [Lp0, Lp0_0] w o w' o' ∧ Ft (Bx bp0 75 [.int .i64 r.2.w, .slice A0 (r.2.l).length c0]) w' o' Lp0 ∧ NOwn dT65 66 A0 c0 r.2.l w' o' Lp0_0 LF ∧ (r.2.l).length ≤ c0) := by
  refine x_enter (vs := [.pointer (some ⟨bp0, 0, none⟩), .int .i64 p1, .agg #[.slice Ap2_0 (p2.Cells).length cp2_0, .bool p2.Wrapped]]) Tryz.func66 rfl rfl rfl fun a hk => ?_
  obtain ⟨oi, hs0, h0, h1, hob, hoz, hoa⟩ := St.startM2 w o (m := 3) hd0 rfl
  have hs := hs0 [2, 3]
  have f900000 := hp0_0.conv (fun _ h_ => h1 2 3 h_ rfl rfl) (fun _ h_ => h1 0 1 h_ rfl rfl)
  have f900019 := h1 1 2 hp0 rfl rfl
  have f900040 := h0 _ _ hd1 hp2_0
  clear h0 h1 hs0
  rw [grid_Grid_Set] at H
  refine x_seq ?_
  refine wpIn_region_lit ?_
  refine x_op hk rfl ?_
  refine op_box (o := oi) (t := 66) (v := .agg #[.slice Ap2_0 (p2.Cells).length cp2_0, .bool p2.Wrapped]) (cs := [.slice Ap2_0 (p2.Cells).length cp2_0, .bool p2.Wrapped]) hk rfl rfl 4 fun bx4 w1 o2 st3 f5 => ?_
  replace f900000 := f900000.st st3 (by decide)
  replace f900019 := f900019.st st3 (by decide)
  replace f900040 := f900040.st st3 (by decide)
  replace hs := hs.locQ st3 hob rfl
  have hk := hk.put 5 (.pointer (some ⟨bx4, 0, none⟩)) rfl
  refine x_run tab hk (k := 1) (lv := []) (ks := [0, 1, 5]) (e' := [(0, .pointer (some ⟨bp0, 0, none⟩)), (1, .int .i64 p1), (5, .pointer (some ⟨bx4, 0, none⟩))]) rfl trivial fun a hk => ?_
  refine wpListIn_nil ?_
  refine then_n ?_
  refine x_mid (fun a_ w_ => ∃ o11 : Nat → Nat, Kn 30 a_ [(0, .pointer (some ⟨bp0, 0, none⟩)), (1, .int .i64 p1), (5, .pointer (some ⟨bx4, 0, none⟩))] ∧ St [2, 3] w oi w_ o11 ∧ Ft (Bx bx4 66 [.slice Ap2_0 (p2.Cells).length cp2_0, .bool p2.Wrapped]) w_ o11 5 ∧ NOwn dT65 66 Ap0_0 cp0_0 p0.l w_ o11 3 1 ∧ Ft (Bx bp0 75 [.int .i64 p0.w, .slice Ap0_0 (p0.l).length cp0_0]) w_ o11 2 ∧ Ft (RdC ET77 Ap2_0 p2.Cells) w_ o11 0 ∧ grid_Grid_Set_j1 K p0 p1 p2 = some r) ?_ ?_
  rotate_left
  · rintro a w12 ⟨o11, hk, hs, f5, f900000, f900019, f900040, H⟩
    rw [grid_Grid_Set_j1] at H
    refine x_seq ?_
    obtain ⟨t30, hc31, H⟩ := bindS H
    obtain ⟨q39, H⟩ := ifS H
    obtain ⟨ad40, hAad40⟩ := NRd.addr f900000.rd q39
    have hk_C := hk
    have f5_C := f5
    have f900000_C := f900000
    have f900019_C := f900019
    have f900040_C := f900040
    subst hAad40
    have hk := hk_C
    clear hk_C
    have f5 := f5_C
    clear f5_C
    have f900000 := f900000_C
    clear f900000_C
    have f900019 := f900019_C
    clear f900019_C
    have f900040 := f900040_C
    clear f900040_C
    refine xd_begin (o := o11) (fun W_ => (Bx bx4 66 [.slice Ap2_0 (p2.Cells).length cp2_0, .bool p2.Wrapped]) W_ ∧ (Bx bp0 75 [.int .i64 p0.w, .slice (some ad40) (p0.l).length cp0_0]) W_ ∧ True) mixed rfl rfl fun w63 st64 => ?_
    replace f5 := f5.st st64 (by decide)
    replace f900000 := f900000.st st64 (by decide)
    replace f900019 := f900019.st st64 (by decide)
    replace f900040 := f900040.st st64 (by decide)
    replace hs := hs.locQ st64 hob rfl
    refine xd_take tab hk (k := 3) (is := [0, 1, 2, 3, 4, 5, 6, 7, 8, 9]) (ls' := #[true, true, true, true, true, true, true, true, true, true, false, false, false]) (lv := [.slice (some ad40) (p0.l).length cp0_0, .agg #[.slice Ap2_0 (p2.Cells).length cp2_0, .bool p2.Wrapped], .int .i64 p0.w]) (ks := [21, 22, 23, 27]) (e' := [(21, .slice (some ad40) (p0.l).length cp0_0), (22, .int .i64 p1), (23, .agg #[.slice Ap2_0 (p2.Cells).length cp2_0, .bool p2.Wrapped]), (27, .int .i64 p0.w)]) (by kernel_rfl) rfl rfl (by kernel_rfl) (np_then np_body) ⟨f5.now, f900019.now, trivial⟩ (fun W_ hS => ⟨(load1 tab rfl ((Bx.cell hS.2.1 1).trans rfl)), (load_box tab rfl rfl hS.1 (k := 0) rfl rfl), (load1 tab rfl ((Bx.cell hS.2.1 0).trans rfl)), trivial⟩) fun a hk => ?_
    refine xd_op hk (i := 10) (by kernel_rfl) rfl rfl ?_
    refine op_call hk ent_91 (vs := [.agg #[.slice Ap2_0 (p2.Cells).length cp2_0, .bool p2.Wrapped], .int .i64 p0.w]) rfl (row_Row_Resize_calls K Ap2_0 cp2_0 p2 p0.w _ o11 _ f900040 hcp2_0 9  _ hc31) ?_
    rintro _ w68 ⟨o69, A71, c72, rfl, st70, f73, hc74⟩
    replace f5 := f5.st st70 (by decide)
    replace f900000 := f900000.st st70 (by decide)
    replace f900019 := f900019.st st70 (by decide)
    replace f900040 := f900040.st st70 (by decide)
    replace hs := hs.locQ st70 hob rfl
    have hk := hk.put 28 (.agg #[.slice A71 (t30.Cells).length c72, .bool t30.Wrapped]) rfl
    refine ⟨.inr ⟨f5.now, f900019.now, trivial⟩, ?_⟩
    refine xd_take tab hk (k := 1) (is := [11]) (ls' := #[true, true, true, true, true, true, true, true, true, true, true, true, false]) (lv := []) (ks := [28, 29]) (e' := [(28, .agg #[.slice A71 (t30.Cells).length c72, .bool t30.Wrapped]), (29, .pointer (some (ad40.add (Int.toNat p1 * 2))))]) (by kernel_rfl) rfl rfl (by kernel_rfl) (np_then np_body) ⟨f5.now, f900019.now, trivial⟩ (fun W_ hS => ⟨q39, trivial⟩) fun a hk => ?_
    refine xd_op hk (i := 12) (by kernel_rfl) rfl rfl ?_
    obtain ⟨o78, hR79⟩ := relab_ex o69 R_39
    replace hs : St [2, 3] w oi w68 o78 := by rw [hR79]; exact (hs.relabM hob R_39 (by decide))
    replace f5 : Ft (Bx bx4 66 [.slice Ap2_0 (p2.Cells).length cp2_0, .bool p2.Wrapped]) w68 o78 5 := by rw [hR79]; exact f5.relab R_39 rfl
    replace f73 : Ft (Own ET77 78 (.slice A71 (t30.Cells).length c72) t30.Cells) w68 o78 1 := by rw [hR79]; exact f73.relab R_39 rfl
    replace f900000 : NOwn dT65 66 (some ad40) cp0_0 p0.l w68 o78 3 1 := by rw [hR79]; exact f900000.relab R_39 rfl
    replace f900019 : Ft (Bx bp0 75 [.int .i64 p0.w, .slice (some ad40) (p0.l).length cp0_0]) w68 o78 2 := by rw [hR79]; exact f900019.relab R_39 rfl
    refine op_storeND tab hk (D := dT65) (r := (⟨t30, A71, c72⟩ : NT65)) (i := p1) (v := .agg #[.slice A71 (t30.Cells).length c72, .bool t30.Wrapped]) rfl rfl rfl f900000 rfl q39 rfl rfl ((f73.imp fun _ h_ => Own.rd h_).imp fun _ h_ => ⟨h_, hc74⟩) (by decide) fun w75 o76 st77 f900000_ => ?_
    replace f5 := f5.st st77 (by decide)
    replace f73 := f73.st st77 (by decide)
    replace f900019 := f900019.st st77 (by decide)
    replace hs := hs.locQ st77 hob rfl
    replace f900000 := f900000_
    have hl80 : (List.set p0.l (Int.toNat p1) t30).length = (p0.l).length := List.length_set
    replace hk := Kn.re hk [28] (e2 := [(28, .agg #[.slice A71 (t30.Cells).length c72, .bool t30.Wrapped])]) rfl rfl
    replace f900019 : Ft (Bx bp0 75 [.int .i64 p0.w, .slice (some ad40) ((List.set p0.l (Int.toNat p1) t30)).length cp0_0]) w75 o76 2 := by rw [hl80]; exact f900019
    refine ⟨.inl (by kernel_rfl), ?_⟩
    refine xd_done (by kernel_rfl) ?_
    refine then_n ?_
    refine x_seq ?_
    refine wpIn_region_lit ?_
    refine x_run tab hk (k := 1) (lv := []) (ks := [6]) (e' := [(6, .bool true)]) rfl trivial fun a hk => ?_
    refine wpListIn_nil ?_
    refine then_n ?_
    refine wpIn_ret ?_
    obtain rfl := Option.some.inj H
    exact x_retG hk (rs := [.tmp 6]) (vs := [.bool true]) rfl ⟨rfl, trivial⟩ ⟨cl w oi o [2, 3] (R_40 LF Lp0 Lp0_0) o76, (some ad40), cp0_0, rfl, hs.closeF (Lm := [Lp0, Lp0_0]) (Sh := []) hoa rfl (R_40 LF Lp0 Lp0_0), hs.closeM_ft (o := o) (ρ := R_40 LF Lp0 Lp0_0) f900019 (lab_at hoa (i := 1) rfl) rfl, f900000.conv (fun _ h_ => hs.closeM_ft (o := o) (ρ := R_40 LF Lp0 Lp0_0) h_ (lab_at hoa (i := 2) rfl) rfl) (fun _ h_ => hs.closeM_ft (o := o) (ρ := R_40 LF Lp0 Lp0_0) h_ (lab_at hoa (i := 0) rfl) rfl), (by rw [List.length_set]; exact hcp0_0)⟩
  refine x_seq ?_
  refine wpIn_region_lit ?_
  refine x_run tab hk (k := 3) (lv := []) (ks := [0, 1, 5, 9]) (e' := [(0, .pointer (some ⟨bp0, 0, none⟩)), (1, .int .i64 p1), (5, .pointer (some ⟨bx4, 0, none⟩)), (9, .bool (decide (p1 < (0 : Int))))]) rfl trivial fun a hk => ?_
  cases b81 : (decide (p1 < (0 : Int)))
  · rw [b81] at hk H
    replace H := bifF H
    refine x_run tab hk (k := 8) (lv := [.slice Ap0_0 (p0.l).length cp0_0]) (ks := [0, 1, 5, 17]) (e' := [(0, .pointer (some ⟨bp0, 0, none⟩)), (1, .int .i64 p1), (5, .pointer (some ⟨bx4, 0, none⟩)), (17, .bool (decide (p1 ≥ ((p0.l).length : Int))))]) rfl ⟨(load1 tab rfl ((Bx.cell f900019.now 1).trans rfl)), trivial⟩ fun a hk => ?_
    refine wpListIn_nil ?_
    refine then_n ?_
    cases b82 : (decide (p1 ≥ ((p0.l).length : Int)))
    · rw [b82] at hk H
      replace H := bifF H
      refine x_if hk (b := false) rfl ?_
      refine (show Code.wpIn _ _ _ _ _ _ _ from ?_)
      refine wpIn_skip ?_
      refine then_n ?_
      exact ⟨(fun b_ => R_41 (o2 b_)), (by exact Kn.pick (ks := [0, 1, 5]) hk rfl), (hs.relabM hob R_41 (by decide)), (f5.relab R_41 rfl), (f900000.relab R_41 rfl), (f900019.relab R_41 rfl), (f900040.relab R_41 rfl), H⟩
    · rw [b82] at hk H
      replace H := bifT H
      refine x_if hk (b := true) rfl ?_
      refine (show Code.wpIn _ _ _ _ _ _ _ from ?_)
      refine x_seq ?_
      refine wpIn_region_lit ?_
      refine x_run tab hk (k := 1) (lv := []) (ks := [6]) (e' := [(6, .bool false)]) rfl trivial fun a hk => ?_
      refine wpListIn_nil ?_
      refine then_n ?_
      refine wpIn_ret ?_
      refine then_r ?_
      obtain rfl := Option.some.inj H
      exact x_retG hk (rs := [.tmp 6]) (vs := [.bool false]) rfl ⟨rfl, trivial⟩ ⟨cl w oi o [2, 3] (R_40 LF Lp0 Lp0_0) o2, Ap0_0, cp0_0, rfl, hs.closeF (Lm := [Lp0, Lp0_0]) (Sh := []) hoa rfl (R_40 LF Lp0 Lp0_0), hs.closeM_ft (o := o) (ρ := R_40 LF Lp0 Lp0_0) f900019 (lab_at hoa (i := 1) rfl) rfl, f900000.conv (fun _ h_ => hs.closeM_ft (o := o) (ρ := R_40 LF Lp0 Lp0_0) h_ (lab_at hoa (i := 2) rfl) rfl) (fun _ h_ => hs.closeM_ft (o := o) (ρ := R_40 LF Lp0 Lp0_0) h_ (lab_at hoa (i := 0) rfl) rfl), hcp0_0⟩
  · rw [b81] at hk H
    replace H := bifT H
    refine x_run tab hk (k := 8) (lv := []) (ks := [0, 1, 5, 17]) (e' := [(0, .pointer (some ⟨bp0, 0, none⟩)), (1, .int .i64 p1), (5, .pointer (some ⟨bx4, 0, none⟩)), (17, .bool true)]) rfl trivial fun a hk => ?_
    refine wpListIn_nil ?_
    refine then_n ?_
    refine x_if hk (b := true) rfl ?_
    refine (show Code.wpIn _ _ _ _ _ _ _ from ?_)
    refine x_seq ?_
    refine wpIn_region_lit ?_
    refine x_run tab hk (k := 1) (lv := []) (ks := [6]) (e' := [(6, .bool false)]) rfl trivial fun a hk => ?_
    refine wpListIn_nil ?_
    refine then_n ?_
    refine wpIn_ret ?_
    refine then_r ?_
    obtain rfl := Option.some.inj H
    exact x_retG hk (rs := [.tmp 6]) (vs := [.bool false]) rfl ⟨rfl, trivial⟩ ⟨cl w oi o [2, 3] (R_40 LF Lp0 Lp0_0) o2, Ap0_0, cp0_0, rfl, hs.closeF (Lm := [Lp0, Lp0_0]) (Sh := []) hoa rfl (R_40 LF Lp0 Lp0_0), hs.closeM_ft (o := o) (ρ := R_40 LF Lp0 Lp0_0) f900019 (lab_at hoa (i := 1) rfl) rfl, f900000.conv (fun _ h_ => hs.closeM_ft (o := o) (ρ := R_40 LF Lp0 Lp0_0) h_ (lab_at hoa (i := 2) rfl) rfl) (fun _ h_ => hs.closeM_ft (o := o) (ρ := R_40 LF Lp0 Lp0_0) h_ (lab_at hoa (i := 0) rfl) rfl), hcp0_0⟩

/-! (*tidewrack/screen.Screen).print$1 -/
abbrev R_42 (Lp0_0 : Nat) (l_ : Nat) : Nat := if l_ = 1 then Lp0_0 else 0
set_option maxHeartbeats 4000000 in
set_option maxRecDepth 20000 in
theorem screen_Screen_print_1_calls (Ap0_0 : Option Addr) (cp0_0 : Nat) (p0 : T65) (w : World) (o : Nat → Nat) (Lp0_0 : Nat) (hp0_0 : Ft (RdC ET77 Ap0_0 p0.Cells) w o Lp0_0) (hcp0_0 : (p0.Cells).length ≤ cp0_0) (hd0 : ([Lp0_0] : List Nat).Nodup) (r : T65) (H : screen_Screen_print_1 p0 = some r) :
    Calls Tryz.prog 34 #[.agg #[.slice Ap0_0 (p0.Cells).length cp0_0, .bool p0.Wrapped]] w (Ret fun v_ w' => ∃ o' : Nat → Nat, ∃ A0 : Option Addr, ∃ c0 : Nat, v_ = .agg #[.slice A0 (r.Cells).length c0, .bool r.Wrapped] ∧ St [] w o w' o' ∧ Ft (RdC ET77 A0 r.Cells) w' o' Lp0_0 ∧ (r.Cells).length ≤ c0) := by
  refine x_enter (vs := [.agg #[.slice Ap0_0 (p0.Cells).length cp0_0, .bool p0.Wrapped]]) Tryz.func34 rfl rfl rfl fun a hk => ?_
  obtain ⟨oi, hs0, h0, h1, hob, hoz, hoa⟩ := St.startM2 w o (m := 1) hd0 rfl
  have hs := hs0 []
  have f900000 := h1 0 1 hp0_0 rfl rfl
  clear h0 h1 hs0
  rw [screen_Screen_print_1] at H
  refine x_seq ?_
  refine wpIn_region_lit ?_
  refine x_op hk rfl ?_
  refine op_box (o := oi) (t := 66) (v := .agg #[.slice Ap0_0 (p0.Cells).length cp0_0, .bool p0.Wrapped]) (cs := [.slice Ap0_0 (p0.Cells).length cp0_0, .bool p0.Wrapped]) hk rfl rfl 2 fun bx4 w1 o2 st3 f5 => ?_
  replace f900000 := f900000.st st3 (by decide)
  replace hs := hs.locQ st3 hob rfl
  have hk := hk.put 1 (.pointer (some ⟨bx4, 0, none⟩)) rfl
  refine x_op hk rfl ?_
  refine op_alloc (o := o2) tab (t := 66) (cs := [.slice none 0 0, .bool false]) rfl rfl 3 fun bx9 w6 o7 st8 f10 => ?_
  replace f5 := f5.st st8 (by decide)
  replace f900000 := f900000.st st8 (by decide)
  replace hs := hs.locQ st8 hob rfl
  have hk := hk.put 2 (.pointer (some ⟨bx9, 0, none⟩)) rfl
  refine wpListIn_nil ?_
  refine then_n ?_
  refine x_seq ?_
  refine wpIn_region_lit ?_
  refine x_run tab hk (k := 1) (lv := []) (ks := [1, 2, 3]) (e' := [(1, .pointer (some ⟨bx4, 0, none⟩)), (2, .pointer (some ⟨bx9, 0, none⟩)), (3, .pointer (some ((⟨bx4, 0, none⟩ : Addr).add 1)))]) rfl trivial fun a hk => ?_
  refine x_op hk rfl ?_
  refine op_store tab hk (t := 4) (v := .bool true) (b := bx4) (k := 1) (cs' := [.slice Ap0_0 (p0.Cells).length cp0_0, .bool true]) rfl rfl rfl rfl rfl rfl f5 rfl rfl fun w11 o12 st13 f5_ => ?_
  replace f10 := f10.st st13 (by decide)
  replace f900000 := f900000.st st13 (by decide)
  replace hs := hs.locQ st13 hob rfl
  replace f5 := f5_
  refine wpListIn_nil ?_
  refine then_n ?_
  refine x_seq ?_
  refine wpIn_region_lit ?_
  refine x_run tab hk (k := 1) (lv := [.agg #[.slice Ap0_0 (p0.Cells).length cp0_0, .bool true]]) (ks := [2, 4]) (e' := [(2, .pointer (some ⟨bx9, 0, none⟩)), (4, .agg #[.slice Ap0_0 (p0.Cells).length cp0_0, .bool true])]) rfl ⟨(load_box tab rfl rfl f5.now (k := 0) rfl rfl), trivial⟩ fun a hk => ?_
  refine x_op hk rfl ?_
  refine op_store tab hk (t := 66) (v := .agg #[.slice Ap0_0 (p0.Cells).length cp0_0, .bool true]) (b := bx9) (k := 0) (cs' := [.slice Ap0_0 (p0.Cells).length cp0_0, .bool true]) rfl rfl rfl rfl rfl rfl f10 rfl rfl fun w14 o15 st16 f10_ => ?_
  replace f900000 := f900000.st st16 (by decide)
  replace hs := hs.locQ st16 hob rfl
  replace f10 := f10_
  refine wpListIn_nil ?_
  refine then_n ?_
  refine wpIn_ret ?_
  obtain rfl := Option.some.inj H
  exact x_retG hk (rs := [.cell 2 66]) (vs := [.agg #[.slice Ap0_0 (p0.Cells).length cp0_0, .bool true]]) rfl ⟨⟨_, rfl, load_box tab rfl rfl f10.now (k := 0) rfl rfl⟩, trivial⟩ ⟨cl w oi o [] (R_42 Lp0_0) o15, Ap0_0, cp0_0, rfl, hs.closeQ (Lm := []) (Sh := [Lp0_0]) hoa rfl (R_42 Lp0_0), hs.closeM_ft (o := o) (ρ := R_42 Lp0_0) f900000 (lab_at hoa (i := 0) rfl) rfl, hcp0_0⟩

/-! (tidewrack/style.Style).may -/
set_option maxHeartbeats 4000000 in
set_option maxRecDepth 20000 in
theorem style_Style_may_calls (p0 : T51) (w : World) (o : Nat → Nat)   (r : Bool) (H : style_Style_may p0 = some r) :
    Calls Tryz.prog 95 #[.agg #[.int .i64 p0.Fore, .int .i64 p0.Back, .bool p0.Bold, .bool p0.Under, .bool p0.Inverse]] w (Ret fun v_ w' => ∃ o' : Nat → Nat, v_ = .bool r ∧ St [] w o w' o') := by
  refine x_enter (vs := [.agg #[.int .i64 p0.Fore, .int .i64 p0.Back, .bool p0.Bold, .bool p0.Under, .bool p0.Inverse]]) Tryz.func95 rfl rfl rfl fun a hk => ?_
  obtain ⟨o0, hs, h0⟩ := St.start w o
  clear h0
  rw [style_Style_may] at H
  refine x_seq ?_
  refine wpIn_region_lit ?_
  refine x_op hk rfl ?_
  refine op_box (o := o0) (t := 52) (v := .agg #[.int .i64 p0.Fore, .int .i64 p0.Back, .bool p0.Bold, .bool p0.Under, .bool p0.Inverse]) (cs := [.int .i64 p0.Fore, .int .i64 p0.Back, .bool p0.Bold, .bool p0.Under, .bool p0.Inverse]) hk rfl rfl 1 fun bx4 w1 o2 st3 f5 => ?_
  replace hs := hs.loc0 st3 (by decide)
  have hk := hk.put 1 (.pointer (some ⟨bx4, 0, none⟩)) rfl
  refine x_run tab hk (k := 1) (lv := []) (ks := [1]) (e' := [(1, .pointer (some ⟨bx4, 0, none⟩))]) rfl trivial fun a hk => ?_
  refine wpListIn_nil ?_
  refine then_n ?_
  refine x_seq ?_
  refine wpIn_region_lit ?_
  refine x_run tab hk (k := 4) (lv := [.int .i64 p0.Fore]) (ks := [1, 6]) (e' := [(1, .pointer (some ⟨bx4, 0, none⟩)), (6, .bool (decide (p0.Fore ≥ (0 : Int))))]) rfl ⟨(load1 tab rfl ((Bx.cell f5.now 0).trans rfl)), trivial⟩ fun a hk => ?_
  cases b6 : (decide (p0.Fore ≥ (0 : Int)))
  · rw [b6] at hk H
    replace H := bifF H
    refine x_run tab hk (k := 13) (lv := []) (ks := [16, 19]) (e' := [(16, .bool false), (19, undef)]) rfl trivial fun a hk => ?_
    refine x_run tab hk (k := 2) (lv := []) (ks := [2]) (e' := [(2, .bool false)]) rfl trivial fun a hk => ?_
    refine wpListIn_nil ?_
    refine then_n ?_
    refine wpIn_ret ?_
    obtain rfl := Option.some.inj H
    exact x_retG hk (rs := [.tmp 2]) (vs := [.bool false]) rfl ⟨rfl, trivial⟩ ⟨fun b_ => if b_ < w.heap.size then o b_ else (fun _ => 0) (o2 b_), rfl, hs.close0 o (fun _ => 0)⟩
  · rw [b6] at hk H
    replace H := bifT H
    refine x_run tab hk (k := 5) (lv := [.int .i64 p0.Fore]) (ks := [1, 11]) (e' := [(1, .pointer (some ⟨bx4, 0, none⟩)), (11, .bool (decide (p0.Fore < (9 : Int))))]) rfl ⟨(load1 tab rfl ((Bx.cell f5.now 0).trans rfl)), trivial⟩ fun a hk => ?_
    cases b7 : (decide (p0.Fore < (9 : Int)))
    · rw [b7] at hk H
      replace H := bifF H
      refine x_run tab hk (k := 10) (lv := []) (ks := [2]) (e' := [(2, .bool false)]) rfl trivial fun a hk => ?_
      refine wpListIn_nil ?_
      refine then_n ?_
      refine wpIn_ret ?_
      obtain rfl := Option.some.inj H
      exact x_retG hk (rs := [.tmp 2]) (vs := [.bool false]) rfl ⟨rfl, trivial⟩ ⟨fun b_ => if b_ < w.heap.size then o b_ else (fun _ => 0) (o2 b_), rfl, hs.close0 o (fun _ => 0)⟩
    · rw [b7] at hk H
      replace H := bifT H
      refine x_run tab hk (k := 5) (lv := [.int .i64 p0.Back]) (ks := [1, 16]) (e' := [(1, .pointer (some ⟨bx4, 0, none⟩)), (16, .bool (decide (p0.Back ≥ (0 : Int))))]) rfl ⟨(load1 tab rfl ((Bx.cell f5.now 1).trans rfl)), trivial⟩ fun a hk => ?_
      cases b8 : (decide (p0.Back ≥ (0 : Int)))
      · rw [b8] at hk H
        replace H := bifF H
        refine x_run tab hk (k := 5) (lv := []) (ks := [2]) (e' := [(2, .bool false)]) rfl trivial fun a hk => ?_
        refine wpListIn_nil ?_
        refine then_n ?_
        refine wpIn_ret ?_
        obtain rfl := Option.some.inj H
        exact x_retG hk (rs := [.tmp 2]) (vs := [.bool false]) rfl ⟨rfl, trivial⟩ ⟨fun b_ => if b_ < w.heap.size then o b_ else (fun _ => 0) (o2 b_), rfl, hs.close0 o (fun _ => 0)⟩
      · rw [b8] at hk H
        replace H := bifT H
        refine x_run tab hk (k := 5) (lv := [.int .i64 p0.Back]) (ks := [2]) (e' := [(2, .bool (decide (p0.Back < (9 : Int))))]) rfl ⟨(load1 tab rfl ((Bx.cell f5.now 1).trans rfl)), trivial⟩ fun a hk => ?_
        refine wpListIn_nil ?_
        refine then_n ?_
        refine wpIn_ret ?_
        obtain rfl := Option.some.inj H
        exact x_retG hk (rs := [.tmp 2]) (vs := [.bool (decide (p0.Back < (9 : Int)))]) rfl ⟨rfl, trivial⟩ ⟨fun b_ => if b_ < w.heap.size then o b_ else (fun _ => 0) (o2 b_), rfl, hs.close0 o (fun _ => 0)⟩

/-! tidewrack/style.bit -/
theorem style_bit_calls (p0 : Bool) (p1 : Int) (w : World) (o : Nat → Nat)   (r : Int) (H : style_bit p0 p1 = some r) :
    Calls Tryz.prog 96 #[.bool p0, .int .i64 p1] w (Ret fun v_ w' => ∃ o' : Nat → Nat, v_ = .int .i64 r ∧ St [] w o w' o') := by
  refine x_enter (vs := [.bool p0, .int .i64 p1]) Tryz.func96 rfl rfl rfl fun a hk => ?_
  obtain ⟨o0, hs, h0⟩ := St.start w o
  clear h0
  rw [style_bit] at H
  refine x_seq ?_
  refine wpIn_region_lit ?_
  refine x_run tab hk (k := 1) (lv := []) (ks := [0, 1]) (e' := [(0, .bool p0), (1, .int .i64 p1)]) rfl trivial fun a hk => ?_
  refine wpListIn_nil ?_
  refine then_n ?_
  refine x_seq ?_
  refine x_seq ?_
  refine wpIn_region_lit ?_
  refine x_run tab hk (k := 1) (lv := []) (ks := [1, 5]) (e' := [(1, .int .i64 p1), (5, .bool p0)]) rfl trivial fun a hk => ?_
  refine wpListIn_nil ?_
  refine then_n ?_
  cases b1 : p0
  · rw [b1] at hk H
    replace H := bifF H
    refine x_if hk (b := false) rfl ?_
    refine (show Code.wpIn _ _ _ _ _ _ _ from ?_)
    refine wpIn_skip ?_
    refine then_n ?_
    refine x_seq ?_
    refine wpIn_region_lit ?_
    refine x_run tab hk (k := 1) (lv := []) (ks := [4]) (e' := [(4, .int .i64 0)]) rfl trivial fun a hk => ?_
    refine wpListIn_nil ?_
    refine then_n ?_
    refine wpIn_ret ?_
    obtain rfl := Option.some.inj H
    exact x_retG hk (rs := [.tmp 4]) (vs := [.int .i64 0]) rfl ⟨rfl, trivial⟩ ⟨fun b_ => if b_ < w.heap.size then o b_ else (fun _ => 0) (o0 b_), rfl, hs.close0 o (fun _ => 0)⟩
  · rw [b1] at hk H
    replace H := bifT H
    refine x_if hk (b := true) rfl ?_
    refine (show Code.wpIn _ _ _ _ _ _ _ from ?_)
    refine x_seq ?_
    refine wpIn_region_lit ?_
    refine x_run tab hk (k := 2) (lv := []) (ks := [4]) (e' := [(4, .int .i64 p1)]) rfl trivial fun a hk => ?_
    refine wpListIn_nil ?_
    refine then_n ?_
    refine wpIn_ret ?_
    refine then_r ?_
    obtain rfl := Option.some.inj H
    exact x_retG hk (rs := [.tmp 4]) (vs := [.int .i64 p1]) rfl ⟨rfl, trivial⟩ ⟨fun b_ => if b_ < w.heap.size then o b_ else (fun _ => 0) (o0 b_), rfl, hs.close0 o (fun _ => 0)⟩

/-! (tidewrack/style.Style).Num -/
set_option maxHeartbeats 4000000 in
set_option maxRecDepth 20000 in
theorem style_Style_Num_calls (p0 : T51) (w : World) (o : Nat → Nat)   (r : Int) (H : style_Style_Num p0 = some r) :
    Calls Tryz.prog 70 #[.agg #[.int .i64 p0.Fore, .int .i64 p0.Back, .bool p0.Bold, .bool p0.Under, .bool p0.Inverse]] w (Ret fun v_ w' => ∃ o' : Nat → Nat, v_ = .int .i64 r ∧ St [] w o w' o') := by
  refine x_enter (vs := [.agg #[.int .i64 p0.Fore, .int .i64 p0.Back, .bool p0.Bold, .bool p0.Under, .bool p0.Inverse]]) Tryz.func70 rfl rfl rfl fun a hk => ?_
  obtain ⟨o0, hs, h0⟩ := St.start w o
  clear h0
  rw [style_Style_Num] at H
  refine x_seq ?_
  refine wpIn_region_lit ?_
  refine x_op hk rfl ?_
  refine op_box (o := o0) (t := 52) (v := .agg #[.int .i64 p0.Fore, .int .i64 p0.Back, .bool p0.Bold, .bool p0.Under, .bool p0.Inverse]) (cs := [.int .i64 p0.Fore, .int .i64 p0.Back, .bool p0.Bold, .bool p0.Under, .bool p0.Inverse]) hk rfl rfl 1 fun bx4 w1 o2 st3 f5 => ?_
  replace hs := hs.loc0 st3 (by decide)
  have hk := hk.put 1 (.pointer (some ⟨bx4, 0, none⟩)) rfl
  refine x_run tab hk (k := 1) (lv := []) (ks := [1]) (e' := [(1, .pointer (some ⟨bx4, 0, none⟩))]) rfl trivial fun a hk => ?_
  refine wpListIn_nil ?_
  refine then_n ?_
  refine x_seq ?_
  refine x_seq ?_
  refine wpIn_region_lit ?_
  refine x_run tab hk (k := 1) (lv := [.agg #[.int .i64 p0.Fore, .int .i64 p0.Back, .bool p0.Bold, .bool p0.Under, .bool p0.Inverse]]) (ks := [1, 3]) (e' := [(1, .pointer (some ⟨bx4, 0, none⟩)), (3, .agg #[.int .i64 p0.Fore, .int .i64 p0.Back, .bool p0.Bold, .bool p0.Under, .bool p0.Inverse])]) rfl ⟨(load_box tab rfl rfl f5.now (k := 0) rfl rfl), trivial⟩ fun a hk => ?_
  refine x_op hk rfl ?_
  obtain ⟨t9, hc10, H⟩ := bindS H
  refine op_call hk ent_95 (vs := [.agg #[.int .i64 p0.Fore, .int .i64 p0.Back, .bool p0.Bold, .bool p0.Under, .bool p0.Inverse]]) rfl (style_Style_may_calls p0 _ o2    _ hc10) ?_
  rintro _ w11 ⟨o12, rfl, st13⟩
  replace f5 := f5.st st13 (by decide)
  replace hs := hs.loc0 st13 (by decide)
  have hk := hk.put 4 (.bool t9) rfl
  refine x_run tab hk (k := 1) (lv := []) (ks := [1, 5]) (e' := [(1, .pointer (some ⟨bx4, 0, none⟩)), (5, .bool (!t9))]) rfl trivial fun a hk => ?_
  refine wpListIn_nil ?_
  refine then_n ?_
  cases b14 : (!t9)
  · rw [b14] at hk H
    replace H := bifF H
    refine x_if hk (b := false) rfl ?_
    refine (show Code.wpIn _ _ _ _ _ _ _ from ?_)
    refine wpIn_skip ?_
    refine then_n ?_
    refine x_seq ?_
    refine xd_begin (o := o12) (fun W_ => (Bx bx4 52 [.int .i64 p0.Fore, .int .i64 p0.Back, .bool p0.Bold, .bool p0.Under, .bool p0.Inverse]) W_ ∧ True) mixed rfl rfl fun w63 st64 => ?_
    replace f5 := f5.st st64 (by decide)
    replace hs := hs.loc0 st64 (by decide)
    refine xd_take tab hk (k := 7) (is := [0, 1, 2, 3, 4, 5, 6, 7, 10, 11, 14, 15]) (ls' := #[true, true, true, true, true, true, true, true, false, false, true, true, false, false, true, true, false, false, false]) (lv := [.int .i64 p0.Fore, .int .i64 p0.Back, .bool p0.Bold, .bool p0.Under, .bool p0.Inverse]) (ks := [11, 13, 17, 21]) (e' := [(11, .int .i64 (IntKind.wrap .i64 (p0.Fore + (IntKind.wrap .i64 (9 * p0.Back))))), (13, .bool p0.Bold), (17, .bool p0.Under), (21, .bool p0.Inverse)]) (by kernel_rfl) rfl rfl (by kernel_rfl) (np_then np_body) ⟨f5.now, trivial⟩ (fun W_ hS => ⟨(load1 tab rfl ((Bx.cell hS.1 0).trans rfl)), (load1 tab rfl ((Bx.cell hS.1 1).trans rfl)), (load1 tab rfl ((Bx.cell hS.1 2).trans rfl)), (load1 tab rfl ((Bx.cell hS.1 3).trans rfl)), (load1 tab rfl ((Bx.cell hS.1 4).trans rfl)), trivial⟩) fun a hk => ?_
    refine xd_op hk (i := 8) (by kernel_rfl) rfl rfl ?_
    obtain ⟨t68, hc69, H⟩ := bindS H
    refine op_call hk ent_96 (vs := [.bool p0.Bold, .int .i64 81]) rfl (style_bit_calls p0.Bold 81 _ o12    _ hc69) ?_
    rintro _ w70 ⟨o71, rfl, st72⟩
    replace f5 := f5.st st72 (by decide)
    replace hs := hs.loc0 st72 (by decide)
    have hk := hk.put 14 (.int .i64 t68) rfl
    refine ⟨.inr ⟨f5.now, trivial⟩, ?_⟩
    refine xd_take tab hk (k := 5) (is := [9]) (ls' := #[true, true, true, true, true, true, true, true, true, true, true, true, false, false, true, true, false, false, false]) (lv := []) (ks := [15, 17, 21]) (e' := [(15, .int .i64 (IntKind.wrap .i64 ((IntKind.wrap .i64 (p0.Fore + (IntKind.wrap .i64 (9 * p0.Back)))) + t68))), (17, .bool p0.Under), (21, .bool p0.Inverse)]) (by kernel_rfl) rfl rfl (by kernel_rfl) (np_then np_body) ⟨f5.now, trivial⟩ (fun W_ hS => trivial) fun a hk => ?_
    refine xd_op hk (i := 12) (by kernel_rfl) rfl rfl ?_
    obtain ⟨t76, hc77, H⟩ := bindS H
    refine op_call hk ent_96 (vs := [.bool p0.Under, .int .i64 162]) rfl (style_bit_calls p0.Under 162 _ o71    _ hc77) ?_
    rintro _ w78 ⟨o79, rfl, st80⟩
    replace f5 := f5.st st80 (by decide)
    replace hs := hs.loc0 st80 (by decide)
    have hk := hk.put 18 (.int .i64 t76) rfl
    refine ⟨.inr ⟨f5.now, trivial⟩, ?_⟩
    refine xd_take tab hk (k := 3) (is := [13]) (ls' := #[true, true, true, true, true, true, true, true, true, true, true, true, true, true, true, true, false, false, false]) (lv := []) (ks := [19, 21]) (e' := [(19, .int .i64 (IntKind.wrap .i64 ((IntKind.wrap .i64 ((IntKind.wrap .i64 (p0.Fore + (IntKind.wrap .i64 (9 * p0.Back)))) + t68)) + t76))), (21, .bool p0.Inverse)]) (by kernel_rfl) rfl rfl (by kernel_rfl) (np_then np_body) ⟨f5.now, trivial⟩ (fun W_ hS => trivial) fun a hk => ?_
    refine xd_op hk (i := 16) (by kernel_rfl) rfl rfl ?_
    obtain ⟨t84, hc85, H⟩ := bindS H
    refine op_call hk ent_96 (vs := [.bool p0.Inverse, .int .i64 324]) rfl (style_bit_calls p0.Inverse 324 _ o79    _ hc85) ?_
    rintro _ w86 ⟨o87, rfl, st88⟩
    replace f5 := f5.st st88 (by decide)
    replace hs := hs.loc0 st88 (by decide)
    have hk := hk.put 22 (.int .i64 t84) rfl
    refine ⟨.inr ⟨f5.now, trivial⟩, ?_⟩
    refine xd_take tab hk (k := 0) (is := [17, 18]) (ls' := #[true, true, true, true, true, true, true, true, true, true, true, true, true, true, true, true, true, true, true]) (lv := []) (ks := [2]) (e' := [(2, .int .i64 (IntKind.wrap .i64 ((IntKind.wrap .i64 ((IntKind.wrap .i64 ((IntKind.wrap .i64 (p0.Fore + (IntKind.wrap .i64 (9 * p0.Back)))) + t68)) + t76)) + t84)))]) (by kernel_rfl) rfl rfl (by kernel_rfl) (np_then np_body) ⟨f5.now, trivial⟩ (fun W_ hS => trivial) fun a hk => ?_
    refine xd_done (by kernel_rfl) ?_
    refine then_n ?_
    refine wpIn_ret ?_
    obtain rfl := Option.some.inj H
    exact x_retG hk (rs := [.tmp 2]) (vs := [.int .i64 (IntKind.wrap .i64 ((IntKind.wrap .i64 ((IntKind.wrap .i64 ((IntKind.wrap .i64 (p0.Fore + (IntKind.wrap .i64 (9 * p0.Back)))) + t68)) + t76)) + t84))]) rfl ⟨rfl, trivial⟩ ⟨fun b_ => if b_ < w.heap.size then o b_ else (fun _ => 0) (o87 b_), rfl, hs.close0 o (fun _ => 0)⟩
  · rw [b14] at hk H
    replace H := bifT H
    refine x_if hk (b := true) rfl ?_
    refine (show Code.wpIn _ _ _ _ _ _ _ from ?_)
    refine x_seq ?_
    refine wpIn_region_lit ?_
    refine x_run tab hk (k := 1) (lv := []) (ks := [2]) (e' := [(2, .int .i64 0)]) rfl trivial fun a hk => ?_
    refine wpListIn_nil ?_
    refine then_n ?_
    refine wpIn_ret ?_
    refine then_r ?_
    obtain rfl := Option.some.inj H
    exact x_retG hk (rs := [.tmp 2]) (vs := [.int .i64 0]) rfl ⟨rfl, trivial⟩ ⟨fun b_ => if b_ < w.heap.size then o b_ else (fun _ => 0) (o12 b_), rfl, hs.close0 o (fun _ => 0)⟩

/-! (*tidewrack/screen.Screen).num -/
abbrev R_43 (LF : Nat) (l_ : Nat) : Nat := if l_ = 1 then LF else 0
set_option maxHeartbeats 4000000 in
set_option maxRecDepth 20000 in
theorem screen_Screen_num_calls (bp0 : Nat) (bq0_0 : Nat) (Ap0_0 : Option Addr) (cp0_0 : Nat) (p0 : T55) (w : World) (o : Nat → Nat) (LF : Nat) (Lp0 : Nat) (hp0 : Ft (Bx bp0 56 [.pointer (some ⟨bq0_0, 0, none⟩), .int .i64 p0.spot_x, .int .i64 p0.spot_y, .int .i64 p0.spot_style_Fore, .int .i64 p0.spot_style_Back, .bool p0.spot_style_Bold, .bool p0.spot_style_Under, .bool p0.spot_style_Inverse, .int .i64 p0.saved_x, .int .i64 p0.saved_y, .int .i64 p0.saved_style_Fore, .int .i64 p0.saved_style_Back, .bool p0.saved_style_Bold, .bool p0.saved_style_Under, .bool p0.saved_style_Inverse, .bool p0.waiting, .int .i64 p0.top, .int .i64 p0.bottom, .bool p0.wraps, .string p0.title]) w o Lp0) (Lp0_0 : Nat) (hp0_0 : NRd dT65 Ap0_0 p0.g_l w o Lp0_0 LF) (hcp0_0 : (p0.g_l).length ≤ cp0_0) (Lq0_0 : Nat) (hq0_0 : Ft (Bx bq0_0 75 [.int .i64 p0.g_w, .slice Ap0_0 (p0.g_l).length cp0_0]) w o Lq0_0) (hd0 : ([LF] : List Nat).Nodup) (hd1 : Lp0_0 ∉ [LF]) (hd2 : Lp0 ∉ [LF]) (hd3 : Lq0_0 ∉ [LF]) (r : Int) (H : screen_Screen_num p0 = some r) :
    Calls Tryz.prog 38 #[.pointer (some ⟨bp0, 0, none⟩)] w (Ret fun v_ w' => ∃ o' : Nat → Nat, v_ = .int .i64 r ∧ St [] w o w' o') := by
  refine x_enter (vs := [.pointer (some ⟨bp0, 0, none⟩)]) Tryz.func38 rfl rfl rfl fun a hk => ?_
  obtain ⟨oi, hs0, h0, h1, hob, hoz, hoa⟩ := St.startM2 w o (m := 1) hd0 rfl
  have hs := hs0 []
  have f900000 := hp0_0.conv (fun P_ => h0 P_ _ hd1) (fun _ h_ => h1 0 1 h_ rfl rfl)
  have f900019 := h0 _ _ hd2 hp0
  have f910000 := h0 _ _ hd3 hq0_0
  clear h0 h1 hs0
  rw [screen_Screen_num] at H
  refine x_seq ?_
  refine wpIn_region_lit ?_
  refine x_run tab hk (k := 1) (lv := []) (ks := [0]) (e' := [(0, .pointer (some ⟨bp0, 0, none⟩))]) rfl trivial fun a hk => ?_
  refine wpListIn_nil ?_
  refine then_n ?_
  refine x_seq ?_
  refine wpIn_region_lit ?_
  refine x_run tab hk (k := 5) (lv := [.agg #[.int .i64 p0.spot_style_Fore, .int .i64 p0.spot_style_Back, .bool p0.spot_style_Bold, .bool p0.spot_style_Under, .bool p0.spot_style_Inverse]]) (ks := [7]) (e' := [(7, .agg #[.int .i64 p0.spot_style_Fore, .int .i64 p0.spot_style_Back, .bool p0.spot_style_Bold, .bool p0.spot_style_Under, .bool p0.spot_style_Inverse])]) rfl ⟨(load_box tab rfl rfl f900019.now (k := 3) rfl rfl), trivial⟩ fun a hk => ?_
  refine x_op hk rfl ?_
  obtain ⟨t4, hc5, H⟩ := bindS H
  refine op_call hk ent_70 (vs := [.agg #[.int .i64 p0.spot_style_Fore, .int .i64 p0.spot_style_Back, .bool p0.spot_style_Bold, .bool p0.spot_style_Under, .bool p0.spot_style_Inverse]]) rfl (style_Style_Num_calls (⟨p0.spot_style_Fore, p0.spot_style_Back, p0.spot_style_Bold, p0.spot_style_Under, p0.spot_style_Inverse⟩ : T51) _ oi    _ hc5) ?_
  rintro _ w6 ⟨o7, rfl, st8⟩
  replace f900000 := f900000.st st8 (by decide)
  replace f900019 := f900019.st st8 (by decide)
  replace f910000 := f910000.st st8 (by decide)
  replace hs := hs.locQ st8 hob rfl
  have hk := hk.put 8 (.int .i64 t4) rfl
  refine x_run tab hk (k := 1) (lv := []) (ks := [2]) (e' := [(2, .int .i64 t4)]) rfl trivial fun a hk => ?_
  refine wpListIn_nil ?_
  refine then_n ?_
  refine wpIn_ret ?_
  obtain rfl := Option.some.inj H
  exact x_retG hk (rs := [.tmp 2]) (vs := [.int .i64 t4]) rfl ⟨rfl, trivial⟩ ⟨cl w oi o [] (R_43 LF) o7, rfl, hs.closeF (Lm := []) (Sh := []) hoa rfl (R_43 LF)⟩

/-! (*tidewrack/grid.Grid).region -/
abbrev R_44 (LF : Nat) (l_ : Nat) : Nat := if l_ = 1 then LF else 0
set_option maxHeartbeats 4000000 in
set_option maxRecDepth 20000 in
theorem grid_Grid_region_calls (bp0 : Nat) (Ap0_0 : Option Addr) (cp0_0 : Nat) (p0 : T74) (p1 : Int) (p2 : Int) (w : World) (o : Nat → Nat) (LF : Nat) (Lp0 : Nat) (hp0 : Ft (Bx bp0 75 [.int .i64 p0.w, .slice Ap0_0 (p0.l).length cp0_0]) w o Lp0) (Lp0_0 : Nat) (hp0_0 : NRd dT65 Ap0_0 p0.l w o Lp0_0 LF) (hcp0_0 : (p0.l).length ≤ cp0_0) (hd0 : ([LF] : List Nat).Nodup) (hd1 : Lp0_0 ∉ [LF]) (hd2 : Lp0 ∉ [LF]) (r : Bool) (H : grid_Grid_region p0 p1 p2 = some r) :
    Calls Tryz.prog 79 #[.pointer (some ⟨bp0, 0, none⟩), .int .i64 p1, .int .i64 p2] w (Ret fun v_ w' => ∃ o' : Nat → Nat, v_ = .tuple #[.slice Ap0_0 (p0.l).length cp0_0, .bool r] ∧ St [] w o w' o') := by
  refine x_enter (vs := [.pointer (some ⟨bp0, 0, none⟩), .int .i64 p1, .int .i64 p2]) Tryz.func79 rfl rfl rfl fun a hk => ?_
  obtain ⟨oi, hs0, h0, h1, hob, hoz, hoa⟩ := St.startM2 w o (m := 1) hd0 rfl
  have hs := hs0 []
  have f900000 := hp0_0.conv (fun P_ => h0 P_ _ hd1) (fun _ h_ => h1 0 1 h_ rfl rfl)
  have f900019 := h0 _ _ hd2 hp0
  clear h0 h1 hs0
  rw [grid_Grid_region] at H
  refine x_seq ?_
  refine wpIn_region_lit ?_
  refine x_run tab hk (k := 2) (lv := []) (ks := [0, 1, 2]) (e' := [(0, .pointer (some ⟨bp0, 0, none⟩)), (1, .int .i64 p1), (2, .int .i64 p2)]) rfl trivial fun a hk => ?_
  refine wpListIn_nil ?_
  refine then_n ?_
  refine x_seq ?_
  refine wpIn_region_lit ?_
  refine x_run tab hk (k := 7) (lv := [.slice Ap0_0 (p0.l).length cp0_0]) (ks := [0, 1, 2, 8]) (e' := [(0, .pointer (some ⟨bp0, 0, none⟩)), (1, .int .i64 p1), (2, .int .i64 p2), (8, .int .i64 (IntKind.wrap .i64 (((p0.l).length : Int) - 1)))]) rfl ⟨(load1 tab rfl ((Bx.cell f900019.now 1).trans rfl)), trivial⟩ fun a hk => ?_
  refine wpListIn_nil ?_
  refine then_n ?_
  refine x_seq ?_
  refine wpIn_region_lit ?_
  refine x_run tab hk (k := 2) (lv := []) (ks := [0, 2, 8, 15, 16]) (e' := [(0, .pointer (some ⟨bp0, 0, none⟩)), (2, .int .i64 p2), (8, .int .i64 (IntKind.wrap .i64 (((p0.l).length : Int) - 1))), (15, .int .i64 p1), (16, .int .i64 (IntKind.wrap .i64 (((p0.l).length : Int) - 1)))]) rfl trivial fun a hk => ?_
  refine x_op hk rfl ?_
  obtain ⟨t4, hc5, H⟩ := bindS H
  refine op_call hk ent_52 (vs := [.int .i64 p1, .int .i64 0, .int .i64 (IntKind.wrap .i64 (((p0.l).length : Int) - 1))]) rfl (grid_clip_calls p1 0 (IntKind.wrap .i64 (((p0.l).length : Int) - 1)) _ oi    _ hc5) ?_
  rintro _ w6 ⟨o7, rfl, st8⟩
  replace f900000 := f900000.st st8 (by decide)
  replace f900019 := f900019.st st8 (by decide)
  replace hs := hs.locQ st8 hob rfl
  have hk := hk.put 17 (.int .i64 t4) rfl
  refine x_run tab hk (k := 2) (lv := []) (ks := [0, 17, 18, 19]) (e' := [(0, .pointer (some ⟨bp0, 0, none⟩)), (17, .int .i64 t4), (18, .int .i64 p2), (19, .int .i64 (IntKind.wrap .i64 (((p0.l).length : Int) - 1)))]) rfl trivial fun a hk => ?_
  refine x_op hk rfl ?_
  obtain ⟨t12, hc13, H⟩ := bindS H
  refine op_call hk ent_52 (vs := [.int .i64 p2, .int .i64 0, .int .i64 (IntKind.wrap .i64 (((p0.l).length : Int) - 1))]) rfl (grid_clip_calls p2 0 (IntKind.wrap .i64 (((p0.l).length : Int) - 1)) _ o7    _ hc13) ?_
  rintro _ w14 ⟨o15, rfl, st16⟩
  replace f900000 := f900000.st st16 (by decide)
  replace f900019 := f900019.st st16 (by decide)
  replace hs := hs.locQ st16 hob rfl
  have hk := hk.put 20 (.int .i64 t12) rfl
  refine x_run tab hk (k := 2) (lv := []) (ks := [0, 1, 2]) (e' := [(0, .pointer (some ⟨bp0, 0, none⟩)), (1, .int .i64 t4), (2, .int .i64 t12)]) rfl trivial fun a hk => ?_
  refine wpListIn_nil ?_
  refine then_n ?_
  refine x_seq ?_
  refine x_seq ?_
  refine wpIn_region_lit ?_
  refine x_run tab hk (k := 3) (lv := []) (ks := [0, 1, 2, 23]) (e' := [(0, .pointer (some ⟨bp0, 0, none⟩)), (1, .int .i64 t4), (2, .int .i64 t12), (23, .bool (decide (t12 < t4)))]) rfl trivial fun a hk => ?_
  refine wpListIn_nil ?_
  refine then_n ?_
  cases b17 : (decide (t12 < t4))
  · rw [b17] at hk H
    replace H := bifF H
    refine x_if hk (b := false) rfl ?_
    refine (show Code.wpIn _ _ _ _ _ _ _ from ?_)
    refine wpIn_skip ?_
    refine then_n ?_
    refine x_seq ?_
    refine wpIn_region_lit ?_
    obtain ⟨q18, H⟩ := ifS H
    obtain ⟨q19, H⟩ := ifS H
    refine x_run tab hk (k := 10) (lv := [.slice Ap0_0 (p0.l).length cp0_0, .slice Ap0_0 (p0.l).length cp0_0]) (ks := [6, 7]) (e' := [(6, .slice Ap0_0 (p0.l).length cp0_0), (7, .bool true)]) rfl ⟨(load1 tab rfl ((Bx.cell f900019.now 1).trans rfl)), (ask_cutall tab rfl rfl q18 q19 hcp0_0 rfl rfl rfl), trivial⟩ fun a hk => ?_
    refine wpListIn_nil ?_
    refine then_n ?_
    refine wpIn_ret ?_
    obtain rfl := Option.some.inj H
    exact x_retG hk (rs := [.tmp 6, .tmp 7]) (vs := [.slice Ap0_0 (p0.l).length cp0_0, .bool true]) rfl ⟨rfl, rfl, trivial⟩ ⟨cl w oi o [] (R_44 LF) o15, rfl, hs.closeF (Lm := []) (Sh := []) hoa rfl (R_44 LF)⟩
  · rw [b17] at hk H
    replace H := bifT H
    refine x_if hk (b := true) rfl ?_
    refine (show Code.wpIn _ _ _ _ _ _ _ from ?_)
    refine x_seq ?_
    refine wpIn_region_lit ?_
    refine x_run tab hk (k := 2) (lv := []) (ks := [6, 7]) (e' := [(6, .slice none 0 0), (7, .bool false)]) rfl trivial fun a hk => ?_
    refine wpListIn_nil ?_
    refine then_n ?_
    refine wpIn_ret ?_
    refine then_r ?_
    exact absurd H (by simp)

/-! slices.Clone[[]tidewrack/row.Row,tidewrack/row.Row] -/
abbrev R_45 (LF : Nat) (l_ : Nat) : Nat := if l_ = 1 then LF else 0
abbrev R_46 (LF R0 : Nat) (l_ : Nat) : Nat := if l_ = 1 then LF else if l_ = 2 then R0 else 0
set_option maxHeartbeats 4000000 in
set_option maxRecDepth 20000 in
theorem slices_Clone'_calls (Ap0 : Option Addr) (cp0 : Nat) (p0 : List T65) (w : World) (o : Nat → Nat) (LF : Nat) (Lp0 : Nat) (hp0 : NRd dT65 Ap0 p0 w o Lp0 LF) (hcp0 : (p0).length ≤ cp0) (hd0 : ([LF] : List Nat).Nodup) (hd1 : Lp0 ∉ [LF]) (R0 : Nat) (r : List T65) (H : slices_Clone' p0 = some r) :
    Calls Tryz.prog 80 #[.slice Ap0 (p0).length cp0] w (Ret fun v_ w' => ∃ o' : Nat → Nat, ∃ A0 : Option Addr, ∃ c0 : Nat, v_ = .slice A0 (r).length c0 ∧ St [] w o w' o' ∧ NOwn dT65 66 A0 c0 r w' o' R0 LF ∧ (r).length ≤ c0) := by
  refine x_enter (vs := [.slice Ap0 (p0).length cp0]) Tryz.func80 rfl rfl rfl fun a hk => ?_
  obtain ⟨oi, hs0, h0, h1, hob, hoz, hoa⟩ := St.startM2 w o (m := 1) hd0 rfl
  have hs := hs0 []
  have f900000 := hp0.conv (fun P_ => h0 P_ _ hd1) (fun _ h_ => h1 0 1 h_ rfl rfl)
  clear h0 h1 hs0
  rw [slices_Clone'] at H
  refine x_seq ?_
  refine wpIn_region_lit ?_
  refine x_run tab hk (k := 1) (lv := []) (ks := [0]) (e' := [(0, .slice Ap0 (p0).length cp0)]) rfl trivial fun a hk => ?_
  refine wpListIn_nil ?_
  refine then_n ?_
  refine x_seq ?_
  refine x_seq ?_
  refine wpIn_region_lit ?_
  refine x_run tab hk (k := 1) (lv := []) (ks := [0, 3]) (e' := [(0, .slice Ap0 (p0).length cp0), (3, .slice Ap0 (p0).length cp0)]) rfl trivial fun a hk => ?_
  rcases none_or Ap0 with hAad1 | ⟨ad1, hAad1⟩
  · have hk_C := hk
    have f900000_C := f900000
    subst hAad1
    have hk := hk_C
    clear hk_C
    have f900000 := f900000_C
    clear f900000_C
    have hz2 : p0 = [] := NRd.nul f900000
    replace H : (some ([] : List T65)) = some r := by (try rw [hz2] at H); simpa using H
    refine x_run tab hk (k := 1) (lv := []) (ks := [0, 4]) (e' := [(0, .slice none (p0).length cp0), (4, .bool true)]) rfl trivial fun a hk => ?_
    refine wpListIn_nil ?_
    refine then_n ?_
    refine x_if hk (b := true) rfl ?_
    refine (show Code.wpIn _ _ _ _ _ _ _ from ?_)
    refine x_seq ?_
    refine wpIn_region_lit ?_
    refine x_run tab hk (k := 1) (lv := []) (ks := [2]) (e' := [(2, .slice none 0 0)]) rfl trivial fun a hk => ?_
    refine wpListIn_nil ?_
    refine then_n ?_
    refine wpIn_ret ?_
    refine then_r ?_
    obtain rfl := Option.some.inj H
    exact x_retG hk (rs := [.tmp 2]) (vs := [.slice none 0 0]) rfl ⟨rfl, trivial⟩ ⟨cl w oi o [] (R_45 LF) oi, none, 0, rfl, hs.closeF (Lm := []) (Sh := []) hoa rfl (R_45 LF), (NOwn.nil _ _ _ _ _ _), (by simp)⟩
  · have hk_C := hk
    have f900000_C := f900000
    subst hAad1
    have hk := hk_C
    clear hk_C
    have f900000 := f900000_C
    clear f900000_C
    refine x_run tab hk (k := 1) (lv := []) (ks := [0, 4]) (e' := [(0, .slice (some ad1) (p0).length cp0), (4, .bool false)]) rfl trivial fun a hk => ?_
    refine wpListIn_nil ?_
    refine then_n ?_
    refine x_if hk (b := false) rfl ?_
    refine (show Code.wpIn _ _ _ _ _ _ _ from ?_)
    refine wpIn_skip ?_
    refine then_n ?_
    refine x_seq ?_
    refine wpIn_region_lit ?_
    refine x_op hk rfl ?_
    refine op_slice (o := oi) tab hk (vs := []) (cs := []) rfl rfl rfl rfl rfl rfl rfl rfl rfl 2 fun bx6 w3 o4 st5 f7 => ?_
    replace f900000 := f900000.st st5 (by decide)
    replace hs := hs.locQ st5 hob rfl
    have f8 : NOwn dT65 66 (some ⟨bx6, 0, none⟩) 0 ([] : List T65) w3 o4 2 1 := NOwn.litD (D := dT65) f7 [] rfl (Inn.nilD _ _ _ _) rfl (Nat.le_of_ble_eq_true rfl)
    have hk := hk.put 5 (.slice (some ⟨bx6, 0, none⟩) (([] : List T65)).length 0) rfl
    refine x_run tab hk (k := 1) (lv := []) (ks := [5, 6]) (e' := [(5, .slice (some ⟨bx6, 0, none⟩) (([] : List T65)).length 0), (6, .slice (some ad1) (p0).length cp0)]) rfl trivial fun a hk => ?_
    refine x_op hk rfl ?_
    obtain ⟨q12, H⟩ := ifS H
    refine op_appendN (o := o4) (D := dT65) (xs := ([] : List T65)) (ys := p0) tab hk rfl rfl rfl rfl rfl rfl rfl f8 f900000 (by decide) q12 fun A13 c14 w9 o10 st11 f15 hc16 => ?_
    replace f900000 := f900000.st st11 (by decide)
    replace hs := hs.locQ st11 hob rfl
    have hk := hk.put 7 (.slice A13 ((([] : List T65) ++ p0)).length c14) rfl
    refine x_run tab hk (k := 1) (lv := []) (ks := [2]) (e' := [(2, .slice A13 ((([] : List T65) ++ p0)).length c14)]) rfl trivial fun a hk => ?_
    refine wpListIn_nil ?_
    refine then_n ?_
    refine wpIn_ret ?_
    obtain rfl := Option.some.inj H
    exact x_retG hk (rs := [.tmp 2]) (vs := [.slice A13 ((([] : List T65) ++ p0)).length c14]) rfl ⟨rfl, trivial⟩ ⟨cl w oi o [] (R_46 LF R0) o10, A13, c14, rfl, hs.closeF (Lm := []) (Sh := []) hoa rfl (R_46 LF R0), f15.conv (fun _ h_ => hs.closeM_ft (o := o) (ρ := R_46 LF R0) h_ (lab_none hob rfl) rfl) (fun _ h_ => hs.closeM_ft (o := o) (ρ := R_46 LF R0) h_ (lab_at hoa (i := 0) rfl) rfl), hc16⟩

/-! (*tidewrack/grid.Grid).Up -/
abbrev R_47 (LF Lp0 Lp0_0 R0 : Nat) (l_ : Nat) : Nat := if l_ = 1 then LF else if l_ = 2 then Lp0 else if l_ = 3 then Lp0_0 else if l_ = 10 then R0 else 0
abbrev R_48 (l_ : Nat) : Nat := if l_ = 4 then 13 else l_
abbrev R_49 (l_ : Nat) : Nat := if l_ = 13 then 10 else l_
abbrev R_50 (l_ : Nat) : Nat := if l_ = 15 then 1 else l_
abbrev R_51 (LF Lp0 Lp0_0 : Nat) (l_ : Nat) : Nat := if l_ = 1 then LF else if l_ = 2 then Lp0 else if l_ = 3 then Lp0_0 else 0
set_option maxHeartbeats 4000000 in
set_option maxRecDepth 20000 in
theorem grid_Grid_Up_calls (K : Nat) (bp0 : Nat) (Ap0_0 : Option Addr) (cp0_0 : Nat) (p0 : T74) (p1 : Int) (p2 : Int) (p3 : Int) (p4 : Int) (w : World) (o : Nat → Nat) (LF : Nat) (Lp0 : Nat) (hp0 : Ft (Bx bp0 75 [.int .i64 p0.w, .slice Ap0_0 (p0.l).length cp0_0]) w o Lp0) (Lp0_0 : Nat) (hp0_0 : NOwn dT65 66 Ap0_0 cp0_0 p0.l w o Lp0_0 LF) (hcp0_0 : (p0.l).length ≤ cp0_0) (hd0 : ([LF, Lp0, Lp0_0] : List Nat).Nodup) (R0 : Nat) (r : (List T65) × T74) (H : grid_Grid_Up K p0 p1 p2 p3 p4 = some r) :
    Calls Tryz.prog 78 #[.pointer (some ⟨bp0, 0, none⟩), .int .i64 p1, .int .i64 p2, .int .i64 p3, .int .i64 p4] w (Ret fun v_ w' => ∃ o' : Nat → Nat, ∃ A0 : Option Addr, ∃ c0 : Nat, ∃ A1 : Option Addr, ∃ c1 : Nat, v_ = .slice A0 (r.1).length c0 ∧ St [Lp0, Lp0_0] w o w' o' ∧ NOwn dT65 66 A0 c0 r.1 w' o' R0 LF ∧ (r.1).length ≤ c0 ∧ Ft (Bx bp0 75 [.int .i64 r.2.w, .slice A1 (r.2.l).length c1]) w' o' Lp0 ∧ NOwn dT65 66 A1 c1 r.2.l w' o' Lp0_0 LF ∧ (r.2.l).length ≤ c1) := by
  refine x_enter (vs := [.pointer (some ⟨bp0, 0, none⟩), .int .i64 p1, .int .i64 p2, .int .i64 p3, .int .i64 p4]) Tryz.func78 rfl rfl rfl fun a hk => ?_
  obtain ⟨oi, hs0, h0, h1, hob, hoz, hoa⟩ := St.startM2 w o (m := 3) hd0 rfl
  have hs := hs0 [2, 3]
  have f900000 := hp0_0.conv (fun _ h_ => h1 2 3 h_ rfl rfl) (fun _ h_ => h1 0 1 h_ rfl rfl)
  have f900019 := h1 1 2 hp0 rfl rfl
  clear h0 h1 hs0
  rw [grid_Grid_Up] at H
  refine x_seq ?_
  refine wpIn_region_lit ?_
  refine x_run tab hk (k := 1) (lv := []) (ks := [0, 1, 2, 3, 4]) (e' := [(0, .pointer (some ⟨bp0, 0, none⟩)), (1, .int .i64 p1), (2, .int .i64 p2), (3, .int .i64 p3), (4, .int .i64 p4)]) rfl trivial fun a hk => ?_
  refine wpListIn_nil ?_
  refine then_n ?_
  refine x_seq ?_
  refine wpIn_region_lit ?_
  refine x_run tab hk (k := 3) (lv := []) (ks := [0, 3, 4, 16, 17, 18]) (e' := [(0, .pointer (some ⟨bp0, 0, none⟩)), (3, .int .i64 p3), (4, .int .i64 p4), (16, .pointer (some ⟨bp0, 0, none⟩)), (17, .int .i64 p1), (18, .int .i64 p2)]) rfl trivial fun a hk => ?_
  refine x_op hk rfl ?_
  obtain ⟨t4, hc5, H⟩ := bindS H
  refine op_call hk ent_79 (vs := [.pointer (some ⟨bp0, 0, none⟩), .int .i64 p1, .int .i64 p2]) rfl (grid_Grid_region_calls bp0 Ap0_0 cp0_0 p0 p1 p2 _ oi 1 2 f900019 _ f900000.rd hcp0_0 (by decide) (by decide) (by decide)   _ hc5) ?_
  rintro _ w6 ⟨o7, rfl, st8⟩
  replace f900000 := f900000.st st8 (by decide)
  replace f900019 := f900019.st st8 (by decide)
  replace hs := hs.locQ st8 hob rfl
  have hk := hk.put 19 (.tuple #[.slice Ap0_0 (p0.l).length cp0_0, .bool t4]) rfl
  refine x_run tab hk (k := 5) (lv := []) (ks := [0, 3, 4, 11, 12]) (e' := [(0, .pointer (some ⟨bp0, 0, none⟩)), (3, .int .i64 p3), (4, .int .i64 p4), (11, .slice Ap0_0 (p0.l).length cp0_0), (12, .bool t4)]) rfl trivial fun a hk => ?_
  refine wpListIn_nil ?_
  refine then_n ?_
  refine x_seq ?_
  refine x_seq ?_
  refine wpIn_region_lit ?_
  refine x_run tab hk (k := 2) (lv := []) (ks := [0, 3, 4, 11, 23]) (e' := [(0, .pointer (some ⟨bp0, 0, none⟩)), (3, .int .i64 p3), (4, .int .i64 p4), (11, .slice Ap0_0 (p0.l).length cp0_0), (23, .bool (!t4))]) rfl trivial fun a hk => ?_
  refine wpListIn_nil ?_
  refine then_n ?_
  cases b9 : (!t4)
  · rw [b9] at hk H
    replace H := bifF H
    refine x_if hk (b := false) rfl ?_
    refine (show Code.wpIn _ _ _ _ _ _ _ from ?_)
    refine wpIn_skip ?_
    refine then_n ?_
    refine x_seq ?_
    refine wpIn_region_lit ?_
    refine x_run tab hk (k := 3) (lv := []) (ks := [0, 4, 11, 24, 26]) (e' := [(0, .pointer (some ⟨bp0, 0, none⟩)), (4, .int .i64 p4), (11, .slice Ap0_0 (p0.l).length cp0_0), (24, .int .i64 p3), (26, .int .i64 ((p0.l).length : Int))]) rfl trivial fun a hk => ?_
    refine x_op hk rfl ?_
    obtain ⟨t13, hc14, H⟩ := bindS H
    refine op_call hk ent_52 (vs := [.int .i64 p3, .int .i64 0, .int .i64 ((p0.l).length : Int)]) rfl (grid_clip_calls p3 0 ((p0.l).length : Int) _ o7    _ hc14) ?_
    rintro _ w15 ⟨o16, rfl, st17⟩
    replace f900000 := f900000.st st17 (by decide)
    replace f900019 := f900019.st st17 (by decide)
    replace hs := hs.locQ st17 hob rfl
    have hk := hk.put 27 (.int .i64 t13) rfl
    refine x_run tab hk (k := 1) (lv := []) (ks := [0, 3, 4, 11]) (e' := [(0, .pointer (some ⟨bp0, 0, none⟩)), (3, .int .i64 t13), (4, .int .i64 p4), (11, .slice Ap0_0 (p0.l).length cp0_0)]) rfl trivial fun a hk => ?_
    refine wpListIn_nil ?_
    refine then_n ?_
    refine x_seq ?_
    refine wpIn_region_lit ?_
    obtain ⟨q18, H⟩ := ifS H
    obtain ⟨q19, H⟩ := ifS H
    obtain ⟨A20, c21, ak23, f22, hc24⟩ := ask_takeN (P := Tryz.prog) tab (t := 40) rfl rfl f900000 hcp0_0 (k := .i64) t13 q18 q19
    refine x_run tab hk (k := 3) (lv := [.slice A20 ((List.take (Int.toNat t13) p0.l)).length c21]) (ks := [0, 3, 4, 11, 30]) (e' := [(0, .pointer (some ⟨bp0, 0, none⟩)), (3, .int .i64 t13), (4, .int .i64 p4), (11, .slice Ap0_0 (p0.l).length cp0_0), (30, .slice A20 ((List.take (Int.toNat t13) p0.l)).length c21)]) rfl ⟨(ak23 rfl rfl _), trivial⟩ fun a hk => ?_
    refine x_op hk rfl ?_
    obtain ⟨t28, hc29, H⟩ := bindS H
    refine op_call hk ent_80 (vs := [.slice A20 ((List.take (Int.toNat t13) p0.l)).length c21]) rfl (slices_Clone'_calls A20 c21 (List.take (Int.toNat t13) p0.l) _ o16 1 _ f22.rd hc24 (by decide) (by decide) 4  _ hc29) ?_
    rintro _ w30 ⟨o31, A33, c34, rfl, st32, f35, hc36⟩
    replace f22 := f22.st st32 (by decide)
    replace f900000 := f900000.st st32 (by decide)
    replace f900019 := f900019.st st32 (by decide)
    replace hs := hs.locQ st32 hob rfl
    have hk := hk.put 31 (.slice A33 (t28).length c34) rfl
    refine x_run tab hk (k := 1) (lv := []) (ks := [0, 3, 4, 11, 13]) (e' := [(0, .pointer (some ⟨bp0, 0, none⟩)), (3, .int .i64 t13), (4, .int .i64 p4), (11, .slice Ap0_0 (p0.l).length cp0_0), (13, .slice A33 (t28).length c34)]) rfl trivial fun a hk => ?_
    refine wpListIn_nil ?_
    refine then_n ?_
    refine x_seq ?_
    refine wpIn_region_lit ?_
    obtain ⟨A37, c38, ak40, f39, hc41⟩ := ask_cutN (P := Tryz.prog) tab (t := 40) rfl rfl f900000.rd hcp0_0 (some (.int .i64 t13)) none rfl ⟨q18, (by have := q19; omega), trivial⟩ (by have := q18; have := q19; omega) (Nat.le_refl _)
    refine x_run tab hk (k := 4) (lv := [.slice A37 ((List.drop (Int.toNat t13) (List.take (p0.l).length p0.l))).length c38]) (ks := [0, 3, 4, 11, 13, 32, 35]) (e' := [(0, .pointer (some ⟨bp0, 0, none⟩)), (3, .int .i64 t13), (4, .int .i64 p4), (11, .slice Ap0_0 (p0.l).length cp0_0), (13, .slice A33 (t28).length c34), (32, .slice Ap0_0 (p0.l).length cp0_0), (35, .slice A37 ((List.drop (Int.toNat t13) (List.take (p0.l).length p0.l))).length c38)]) rfl ⟨(ak40 rfl rfl rfl _), trivial⟩ fun a hk => ?_
    refine x_op hk rfl ?_
    refine op_copyN tab hk (D := dT65) (xs := p0.l) (ys := (List.drop (Int.toNat t13) (List.take (p0.l).length p0.l))) rfl rfl hcp0_0 rfl rfl f900000 f39 (by decide) fun w42 st44 f900000_ => ?_
    replace f35 := f35.st st44 (by decide)
    replace f900019 := f900019.st st44 (by decide)
    replace hs := hs.locQ st44 hob rfl
    replace f900000 := f900000_
    have hl45 : (cpy 0 p0.l (List.drop (Int.toNat t13) (List.take (p0.l).length p0.l))).length = (p0.l).length := cpy_len (Nat.zero_le _)
    replace hk := Kn.re hk [0, 3, 4, 11, 13, 32] (e2 := [(0, .pointer (some ⟨bp0, 0, none⟩)), (3, .int .i64 t13), (4, .int .i64 p4), (11, .slice Ap0_0 ((cpy 0 p0.l (List.drop (Int.toNat t13) (List.take (p0.l).length p0.l)))).length cp0_0), (13, .slice A33 (t28).length c34), (32, .slice Ap0_0 ((cpy 0 p0.l (List.drop (Int.toNat t13) (List.take (p0.l).length p0.l)))).length cp0_0)]) rfl (by rw [hl45])
    replace f900019 : Ft (Bx bp0 75 [.int .i64 p0.w, .slice Ap0_0 ((cpy 0 p0.l (List.drop (Int.toNat t13) (List.take (p0.l).length p0.l)))).length cp0_0]) w42 o31 2 := by rw [hl45]; exact f900019
    have hk := hk.put 36 (.int .i64 ((min ((List.drop (Int.toNat t13) (List.take (p0.l).length p0.l))).length ((p0.l).length - 0) : Nat) : Int)) rfl
    refine wpListIn_nil ?_
    refine then_n ?_
    refine x_mid (fun a_ w_ => ∃ o133 : Nat → Nat, ∃ A134 : Option Addr, ∃ c135 : Nat, ∃ l136 : List T65, Kn 57 a_ [(13, .slice A33 (t28).length c34)] ∧ St [2, 3] w oi w_ o133 ∧ NOwn dT65 66 A134 c135 l136 w_ o133 3 1 ∧ NOwn dT65 66 A33 c34 t28 w_ o133 10 1 ∧ Ft (Bx bp0 75 [.int .i64 p0.w, .slice A134 (l136).length c135]) w_ o133 2 ∧ (l136).length ≤ c135 ∧ grid_Grid_Up_j1 p0 t28 l136 = some r) ?_ ?_
    rotate_left
    · rintro a w139 ⟨o133, A134, c135, l136, hk, hs, f137, f35, f900019, hc138, H⟩
      rw [grid_Grid_Up_j1] at H
      refine x_seq ?_
      refine wpIn_region_lit ?_
      refine x_run tab hk (k := 2) (lv := []) (ks := [10]) (e' := [(10, .slice A33 (t28).length c34)]) rfl trivial fun a hk => ?_
      refine wpListIn_nil ?_
      refine then_n ?_
      refine wpIn_ret ?_
      obtain rfl := Option.some.inj H
      exact x_retG hk (rs := [.tmp 10]) (vs := [.slice A33 (t28).length c34]) rfl ⟨rfl, trivial⟩ ⟨cl w oi o [2, 3] (R_47 LF Lp0 Lp0_0 R0) o133, A33, c34, A134, c135, rfl, hs.closeF (Lm := [Lp0, Lp0_0]) (Sh := []) hoa rfl (R_47 LF Lp0 Lp0_0 R0), f35.conv (fun _ h_ => hs.closeM_ft (o := o) (ρ := R_47 LF Lp0 Lp0_0 R0) h_ (lab_none hob rfl) rfl) (fun _ h_ => hs.closeM_ft (o := o) (ρ := R_47 LF Lp0 Lp0_0 R0) h_ (lab_at hoa (i := 0) rfl) rfl), hc36, hs.closeM_ft (o := o) (ρ := R_47 LF Lp0 Lp0_0 R0) f900019 (lab_at hoa (i := 1) rfl) rfl, f137.conv (fun _ h_ => hs.closeM_ft (o := o) (ρ := R_47 LF Lp0 Lp0_0 R0) h_ (lab_at hoa (i := 2) rfl) rfl) (fun _ h_ => hs.closeM_ft (o := o) (ρ := R_47 LF Lp0 Lp0_0 R0) h_ (lab_at hoa (i := 0) rfl) rfl), hc138⟩
    refine x_seq ?_
    refine wpIn_region_lit ?_
    refine x_run tab hk (k := 5) (lv := []) (ks := [0, 4, 11, 13, 14]) (e' := [(0, .pointer (some ⟨bp0, 0, none⟩)), (4, .int .i64 p4), (11, .slice Ap0_0 ((cpy 0 p0.l (List.drop (Int.toNat t13) (List.take (p0.l).length p0.l)))).length cp0_0), (13, .slice A33 (t28).length c34), (14, .int .i64 (IntKind.wrap .i64 ((((cpy 0 p0.l (List.drop (Int.toNat t13) (List.take (p0.l).length p0.l)))).length : Int) - t13)))]) rfl trivial fun a hk => ?_
    refine wpListIn_nil ?_
    refine then_n ?_
    refine wpIn_block ?_
    refine x_loop (fun j_ a_ w_ => ∃ o164 : Nat → Nat, ∃ A165 : Option Addr, ∃ c166 : Nat, ∃ l167 : List T65, ∃ x170 : Int, Kn 57 a_ [(0, .pointer (some ⟨bp0, 0, none⟩)), (4, .int .i64 p4), (11, .slice A165 (l167).length c166), (13, .slice A33 (t28).length c34), (14, .int .i64 x170)] ∧ St [2, 3] w oi w_ o164 ∧ NOwn dT65 66 A165 c166 l167 w_ o164 3 1 ∧ NOwn dT65 66 A33 c34 t28 w_ o164 13 1 ∧ Ft (Bx bp0 75 [.int .i64 p0.w, .slice A165 (l167).length c166]) w_ o164 2 ∧ (l167).length ≤ c166 ∧ grid_Grid_Up_l2 K p0 p4 t28 j_ l167 x170 = some r) (k := K) ⟨(fun b_ => R_48 (o31 b_)), Ap0_0, cp0_0, (cpy 0 p0.l (List.drop (Int.toNat t13) (List.take (p0.l).length p0.l))), (IntKind.wrap .i64 ((((cpy 0 p0.l (List.drop (Int.toNat t13) (List.take (p0.l).length p0.l)))).length : Int) - t13)), (by exact Kn.pick (ks := [0, 4, 11, 13, 14]) hk rfl), (hs.relabM hob R_48 (by decide)), (f900000.relab R_48 rfl), (f35.relab R_48 rfl), (f900019.relab R_48 rfl), (by rw [cpy_len (Nat.zero_le _)]; exact hcp0_0), H⟩ (fun _ _ z => z.elim fun _ z => z.elim fun _ z => z.elim fun _ z => z.elim fun _ z => z.elim fun _ z => z.elim fun _ z => z.elim fun _ z => z.elim fun _ z => z.elim fun _ z => z.elim fun _ z => z.elim fun _ z => absurd (show (none : Option ((List T65) × T74)) = some r from z) (by simp)) ?_
    refine fun k193 a w192 z0 => z0.elim fun o164 z1 => z1.elim fun A165 z2 => z2.elim fun c166 z3 => z3.elim fun l167 z4 => z4.elim fun x170 z5 => z5.elim fun hk z6 => z6.elim fun hs z7 => z7.elim fun f168 z8 => z8.elim fun f35 z9 => z9.elim fun f900019 z10 => z10.elim fun hc169 H => ?_
    clear z0 z1 z2 z3 z4 z5 z6 z7 z8 z9 z10
    rw [grid_Grid_Up_l2] at H
    obtain ⟨lp194, hlp195⟩ : ∃ lp_, lp_ = grid_Grid_Up_l2 K p0 p4 t28 k193 := ⟨_, rfl⟩
    rw [← hlp195] at H
    refine x_seq ?_
    refine x_seq ?_
    refine wpIn_region_lit ?_
    refine x_run tab hk (k := 4) (lv := []) (ks := [0, 4, 11, 13, 14, 44]) (e' := [(0, .pointer (some ⟨bp0, 0, none⟩)), (4, .int .i64 p4), (11, .slice A165 (l167).length c166), (13, .slice A33 (t28).length c34), (14, .int .i64 x170), (44, .bool (decide (x170 < ((l167).length : Int))))]) rfl trivial fun a hk => ?_
    refine wpListIn_nil ?_
    refine then_n ?_
    cases b196 : (decide (x170 < ((l167).length : Int)))
    · rw [b196] at hk H
      replace H := bifF H
      refine x_if hk (b := false) rfl ?_
      refine (show Code.wpIn _ _ _ _ _ _ _ from ?_)
      refine wpIn_exit ?_
      refine then_x ?_
      refine then_x ?_
      refine blk_x ?_
      refine then_n ?_
      exact ⟨(fun b_ => R_49 (o164 b_)), A165, c166, l167, (by exact Kn.pick (ks := [13]) hk rfl), (hs.relabM hob R_49 (by decide)), (f168.relab R_49 rfl), (f35.relab R_49 rfl), (f900019.relab R_49 rfl), hc169, H⟩
    · rw [b196] at hk H
      replace H := bifT H
      refine x_if hk (b := true) rfl ?_
      refine (show Code.wpIn _ _ _ _ _ _ _ from ?_)
      refine wpIn_skip ?_
      refine then_n ?_
      refine x_seq ?_
      refine wpIn_block ?_
      refine wpIn_region_lit ?_
      refine x_run tab hk (k := 7) (lv := [.int .i64 p0.w]) (ks := [0, 4, 11, 13, 14, 47, 48, 52, 53]) (e' := [(0, .pointer (some ⟨bp0, 0, none⟩)), (4, .int .i64 p4), (11, .slice A165 (l167).length c166), (13, .slice A33 (t28).length c34), (14, .int .i64 x170), (47, .slice A165 (l167).length c166), (48, .int .i64 x170), (52, .int .i64 p0.w), (53, .int .i64 p4)]) rfl ⟨(load1 tab rfl ((Bx.cell f900019.now 0).trans rfl)), trivial⟩ fun a hk => ?_
      refine x_op hk rfl ?_
      obtain ⟨t200, hc201, H⟩ := bindS H
      refine op_call hk ent_23 (vs := [.int .i64 p0.w, .int .i64 p4]) rfl (row_Blank_calls K p0.w p4 _ o164  15  _ hc201) ?_
      rintro _ w202 ⟨o203, A205, c206, rfl, st204, f207, hc208⟩
      replace f168 := f168.st st204 (by decide)
      replace f35 := f35.st st204 (by decide)
      replace f900019 := f900019.st st204 (by decide)
      replace hs := hs.locQ st204 hob rfl
      have hk := hk.put 54 (.agg #[.slice A205 (t200.Cells).length c206, .bool t200.Wrapped]) rfl
      obtain ⟨q209, H⟩ := ifS H
      obtain ⟨ad210, hAad210⟩ := NRd.addr f168.rd q209
      have hk_C := hk
      have f168_C := f168
      have f207_C := f207
      have f35_C := f35
      have f900019_C := f900019
      subst hAad210
      have hk := hk_C
      clear hk_C
      have f168 := f168_C
      clear f168_C
      have f207 := f207_C
      clear f207_C
      have f35 := f35_C
      clear f35_C
      have f900019 := f900019_C
      clear f900019_C
      refine x_run tab hk (k := 1) (lv := []) (ks := [0, 4, 11, 13, 14, 54, 55]) (e' := [(0, .pointer (some ⟨bp0, 0, none⟩)), (4, .int .i64 p4), (11, .slice (some ad210) (l167).length c166), (13, .slice A33 (t28).length c34), (14, .int .i64 x170), (54, .agg #[.slice A205 (t200.Cells).length c206, .bool t200.Wrapped]), (55, .pointer (some (ad210.add (Int.toNat x170 * 2))))]) rfl ⟨q209, trivial⟩ fun a hk => ?_
      refine x_op hk rfl ?_
      obtain ⟨o214, hR215⟩ := relab_ex o203 R_50
      replace hs : St [2, 3] w oi w202 o214 := by rw [hR215]; exact (hs.relabM hob R_50 (by decide))
      replace f168 : NOwn dT65 66 (some ad210) c166 l167 w202 o214 3 1 := by rw [hR215]; exact f168.relab R_50 rfl
      replace f207 : Ft (Own ET77 78 (.slice A205 (t200.Cells).length c206) t200.Cells) w202 o214 1 := by rw [hR215]; exact f207.relab R_50 rfl
      replace f35 : NOwn dT65 66 A33 c34 t28 w202 o214 13 1 := by rw [hR215]; exact f35.relab R_50 rfl
      replace f900019 : Ft (Bx bp0 75 [.int .i64 p0.w, .slice (some ad210) (l167).length c166]) w202 o214 2 := by rw [hR215]; exact f900019.relab R_50 rfl
      refine op_storeND tab hk (D := dT65) (r := (⟨t200, A205, c206⟩ : NT65)) (i := x170) (v := .agg #[.slice A205 (t200.Cells).length c206, .bool t200.Wrapped]) rfl rfl rfl f168 rfl q209 rfl rfl ((f207.imp fun _ h_ => Own.rd h_).imp fun _ h_ => ⟨h_, hc208⟩) (by decide) fun w211 o212 st213 f168_ => ?_
      replace f207 := f207.st st213 (by decide)
      replace f35 := f35.st st213 (by decide)
      replace f900019 := f900019.st st213 (by decide)
      replace hs := hs.locQ st213 hob rfl
      replace f168 := f168_
      have hl216 : (List.set l167 (Int.toNat x170) t200).length = (l167).length := List.length_set
      replace hk := Kn.re hk [0, 4, 11, 13, 14, 54] (e2 := [(0, .pointer (some ⟨bp0, 0, none⟩)), (4, .int .i64 p4), (11, .slice (some ad210) ((List.set l167 (Int.toNat x170) t200)).length c166), (13, .slice A33 (t28).length c34), (14, .int .i64 x170), (54, .agg #[.slice A205 (t200.Cells).length c206, .bool t200.Wrapped])]) rfl (by rw [hl216])
      replace f900019 : Ft (Bx bp0 75 [.int .i64 p0.w, .slice (some ad210) ((List.set l167 (Int.toNat x170) t200)).length c166]) w211 o212 2 := by rw [hl216]; exact f900019
      refine wpListIn_nil ?_
      refine blk_n ?_
      refine then_n ?_
      refine wpIn_region_lit ?_
      refine x_run tab hk (k := 3) (lv := []) (ks := [0, 4, 11, 13, 14]) (e' := [(0, .pointer (some ⟨bp0, 0, none⟩)), (4, .int .i64 p4), (11, .slice (some ad210) ((List.set l167 (Int.toNat x170) t200)).length c166), (13, .slice A33 (t28).length c34), (14, .int .i64 (IntKind.wrap .i64 (x170 + 1)))]) rfl trivial fun a hk => ?_
      refine wpListIn_nil ?_
      refine then_n ?_
      exact ⟨k193, Nat.le_refl _, o212, (some ad210), c166, (List.set l167 (Int.toNat x170) t200), (IntKind.wrap .i64 (x170 + 1)), (by exact Kn.pick (ks := [0, 4, 11, 13, 14]) hk rfl), hs, f168, f35, f900019, (by rw [List.length_set]; exact hc169), (hlp195 ▸ H)⟩
  · rw [b9] at hk H
    replace H := bifT H
    refine x_if hk (b := true) rfl ?_
    refine (show Code.wpIn _ _ _ _ _ _ _ from ?_)
    refine x_seq ?_
    refine wpIn_region_lit ?_
    refine x_run tab hk (k := 1) (lv := []) (ks := [10]) (e' := [(10, .slice none 0 0)]) rfl trivial fun a hk => ?_
    refine wpListIn_nil ?_
    refine then_n ?_
    refine wpIn_ret ?_
    refine then_r ?_
    obtain rfl := Option.some.inj H
    exact x_retG hk (rs := [.tmp 10]) (vs := [.slice none 0 0]) rfl ⟨rfl, trivial⟩ ⟨cl w oi o [2, 3] (R_51 LF Lp0 Lp0_0) o7, none, 0, Ap0_0, cp0_0, rfl, hs.closeF (Lm := [Lp0, Lp0_0]) (Sh := []) hoa rfl (R_51 LF Lp0 Lp0_0), (NOwn.nil _ _ _ _ _ _), (by simp), hs.closeM_ft (o := o) (ρ := R_51 LF Lp0 Lp0_0) f900019 (lab_at hoa (i := 1) rfl) rfl, f900000.conv (fun _ h_ => hs.closeM_ft (o := o) (ρ := R_51 LF Lp0 Lp0_0) h_ (lab_at hoa (i := 2) rfl) rfl) (fun _ h_ => hs.closeM_ft (o := o) (ρ := R_51 LF Lp0 Lp0_0) h_ (lab_at hoa (i := 0) rfl) rfl), hcp0_0⟩

/-! (*tidewrack/screen.Screen).up -/
abbrev R_52 (LF Lp0 Lp0_0 Lq0_0 R0 : Nat) (l_ : Nat) : Nat := if l_ = 1 then LF else if l_ = 2 then Lp0 else if l_ = 3 then Lp0_0 else if l_ = 4 then Lq0_0 else if l_ = 7 then R0 else 0
abbrev R_53 (LF Lp0 Lp0_0 Lq0_0 : Nat) (l_ : Nat) : Nat := if l_ = 1 then LF else if l_ = 2 then Lp0 else if l_ = 3 then Lp0_0 else if l_ = 4 then Lq0_0 else 0
set_option maxHeartbeats 4000000 in
set_option maxRecDepth 20000 in
theorem screen_Screen_up_calls (K : Nat) (bp0 : Nat) (bq0_0 : Nat) (Ap0_0 : Option Addr) (cp0_0 : Nat) (p0 : T55) (p1 : Int) (w : World) (o : Nat → Nat) (LF : Nat) (Lp0 : Nat) (hp0 : Ft (Bx bp0 56 [.pointer (some ⟨bq0_0, 0, none⟩), .int .i64 p0.spot_x, .int .i64 p0.spot_y, .int .i64 p0.spot_style_Fore, .int .i64 p0.spot_style_Back, .bool p0.spot_style_Bold, .bool p0.spot_style_Under, .bool p0.spot_style_Inverse, .int .i64 p0.saved_x, .int .i64 p0.saved_y, .int .i64 p0.saved_style_Fore, .int .i64 p0.saved_style_Back, .bool p0.saved_style_Bold, .bool p0.saved_style_Under, .bool p0.saved_style_Inverse, .bool p0.waiting, .int .i64 p0.top, .int .i64 p0.bottom, .bool p0.wraps, .string p0.title]) w o Lp0) (Lp0_0 : Nat) (hp0_0 : NOwn dT65 66 Ap0_0 cp0_0 p0.g_l w o Lp0_0 LF) (hcp0_0 : (p0.g_l).length ≤ cp0_0) (Lq0_0 : Nat) (hq0_0 : Ft (Bx bq0_0 75 [.int .i64 p0.g_w, .slice Ap0_0 (p0.g_l).length cp0_0]) w o Lq0_0) (hd0 : ([LF, Lp0, Lp0_0, Lq0_0] : List Nat).Nodup) (R0 : Nat) (r : (List T65) × T55) (H : screen_Screen_up K p0 p1 = some r) :
    Calls Tryz.prog 48 #[.pointer (some ⟨bp0, 0, none⟩), .int .i64 p1] w (Ret fun v_ w' => ∃ o' : Nat → Nat, ∃ A0 : Option Addr, ∃ c0 : Nat, ∃ b0 : Nat, ∃ A1 : Option Addr, ∃ c1 : Nat, v_ = .slice A0 (r.1).length c0 ∧ St [Lp0, Lp0_0, Lq0_0] w o w' o' ∧ NOwn dT65 66 A0 c0 r.1 w' o' R0 LF ∧ (r.1).length ≤ c0 ∧ Ft (Bx bp0 56 [.pointer (some ⟨b0, 0, none⟩), .int .i64 r.2.spot_x, .int .i64 r.2.spot_y, .int .i64 r.2.spot_style_Fore, .int .i64 r.2.spot_style_Back, .bool r.2.spot_style_Bold, .bool r.2.spot_style_Under, .bool r.2.spot_style_Inverse, .int .i64 r.2.saved_x, .int .i64 r.2.saved_y, .int .i64 r.2.saved_style_Fore, .int .i64 r.2.saved_style_Back, .bool r.2.saved_style_Bold, .bool r.2.saved_style_Under, .bool r.2.saved_style_Inverse, .bool r.2.waiting, .int .i64 r.2.top, .int .i64 r.2.bottom, .bool r.2.wraps, .string r.2.title]) w' o' Lp0 ∧ Ft (Bx b0 75 [.int .i64 r.2.g_w, .slice A1 (r.2.g_l).length c1]) w' o' Lq0_0 ∧ NOwn dT65 66 A1 c1 r.2.g_l w' o' Lp0_0 LF ∧ (r.2.g_l).length ≤ c1) := by
  refine x_enter (vs := [.pointer (some ⟨bp0, 0, none⟩), .int .i64 p1]) Tryz.func48 rfl rfl rfl fun a hk => ?_
  obtain ⟨oi, hs0, h0, h1, hob, hoz, hoa⟩ := St.startM2 w o (m := 4) hd0 rfl
  have hs := hs0 [2, 3, 4]
  have f900000 := hp0_0.conv (fun _ h_ => h1 2 3 h_ rfl rfl) (fun _ h_ => h1 0 1 h_ rfl rfl)
  have f900019 := h1 1 2 hp0 rfl rfl
  have f910000 := h1 3 4 hq0_0 rfl rfl
  clear h0 h1 hs0
  rw [screen_Screen_up] at H
  refine x_seq ?_
  refine wpIn_region_lit ?_
  refine x_run tab hk (k := 1) (lv := []) (ks := [0, 1]) (e' := [(0, .pointer (some ⟨bp0, 0, none⟩)), (1, .int .i64 p1)]) rfl trivial fun a hk => ?_
  refine wpListIn_nil ?_
  refine then_n ?_
  refine x_seq ?_
  refine xd_begin (o := oi) (fun W_ => (Bx bp0 56 [.pointer (some ⟨bq0_0, 0, none⟩), .int .i64 p0.spot_x, .int .i64 p0.spot_y, .int .i64 p0.spot_style_Fore, .int .i64 p0.spot_style_Back, .bool p0.spot_style_Bold, .bool p0.spot_style_Under, .bool p0.spot_style_Inverse, .int .i64 p0.saved_x, .int .i64 p0.saved_y, .int .i64 p0.saved_style_Fore, .int .i64 p0.saved_style_Back, .bool p0.saved_style_Bold, .bool p0.saved_style_Under, .bool p0.saved_style_Inverse, .bool p0.waiting, .int .i64 p0.top, .int .i64 p0.bottom, .bool p0.wraps, .string p0.title]) W_ ∧ True) mixed rfl rfl fun w51 st52 => ?_
  replace f900000 := f900000.st st52 (by decide)
  replace f900019 := f900019.st st52 (by decide)
  replace f910000 := f910000.st st52 (by decide)
  replace hs := hs.locQ st52 hob rfl
  refine xd_take tab hk (k := 3) (is := [0, 1, 2, 3, 4, 5, 6, 7, 8, 9, 10, 11, 12, 13]) (ls' := #[true, true, true, true, true, true, true, true, true, true, true, true, true, true, false, false, false]) (lv := [.pointer (some ⟨bq0_0, 0, none⟩), .int .i64 p0.top, .int .i64 p0.bottom]) (ks := [0, 9, 13, 17, 18, 19]) (e' := [(0, .pointer (some ⟨bp0, 0, none⟩)), (9, .pointer (some ⟨bq0_0, 0, none⟩)), (13, .int .i64 p0.top), (17, .int .i64 p0.bottom), (18, .int .i64 p1), (19, .pointer (some ⟨bp0, 0, none⟩))]) (by kernel_rfl) rfl rfl (by kernel_rfl) (np_then np_body) ⟨f900019.now, trivial⟩ (fun W_ hS => ⟨(load1 tab rfl ((Bx.cell hS.1 0).trans rfl)), (load1 tab rfl ((Bx.cell hS.1 16).trans rfl)), (load1 tab rfl ((Bx.cell hS.1 17).trans rfl)), trivial⟩) fun a hk => ?_
  refine xd_op hk (i := 14) (by kernel_rfl) rfl rfl ?_
  obtain ⟨t56, hc57, H⟩ := bindS H
  refine op_call hk ent_38 (vs := [.pointer (some ⟨bp0, 0, none⟩)]) rfl (screen_Screen_num_calls bp0 bq0_0 Ap0_0 cp0_0 p0 _ oi 1 2 f900019 _ f900000.rd hcp0_0 4 f910000 (by decide) (by decide) (by decide) (by decide)   _ hc57) ?_
  rintro _ w58 ⟨o59, rfl, st60⟩
  replace f900000 := f900000.st st60 (by decide)
  replace f900019 := f900019.st st60 (by decide)
  replace f910000 := f910000.st st60 (by decide)
  replace hs := hs.locQ st60 hob rfl
  have hk := hk.put 20 (.int .i64 t56) rfl
  refine ⟨.inr ⟨f900019.now, trivial⟩, ?_⟩
  refine xd_op hk (i := 15) (by kernel_rfl) rfl rfl ?_
  obtain ⟨t64, hc65, H⟩ := bindS H
  refine op_call hk ent_78 (vs := [.pointer (some ⟨bq0_0, 0, none⟩), .int .i64 p0.top, .int .i64 p0.bottom, .int .i64 p1, .int .i64 t56]) rfl (grid_Grid_Up_calls K bq0_0 Ap0_0 cp0_0 (⟨p0.g_w, p0.g_l⟩ : T74) p0.top p0.bottom p1 t56 _ o59 1 4 f910000 3 f900000 hcp0_0 (by decide) 7  _ hc65) ?_
  rintro _ w66 ⟨o67, A69, c70, A74, c75, rfl, st68, f71, hc72, f73, f76, hc77⟩
  replace f900019 := f900019.st st68 (by decide)
  replace hs := hs.locQ st68 hob rfl
  have hk := hk.put 21 (.slice A69 (t64.1).length c70) rfl
  refine ⟨.inr ⟨f900019.now, trivial⟩, ?_⟩
  refine xd_take tab hk (k := 0) (is := [16]) (ls' := #[true, true, true, true, true, true, true, true, true, true, true, true, true, true, true, true, true]) (lv := []) (ks := [0, 5]) (e' := [(0, .pointer (some ⟨bp0, 0, none⟩)), (5, .slice A69 (t64.1).length c70)]) (by kernel_rfl) rfl rfl (by kernel_rfl) (np_then np_body) ⟨f900019.now, trivial⟩ (fun W_ hS => trivial) fun a hk => ?_
  refine xd_done (by kernel_rfl) ?_
  refine then_n ?_
  refine x_seq ?_
  refine x_seq ?_
  refine wpIn_region_lit ?_
  refine x_run tab hk (k := 5) (lv := [.int .i64 p0.top]) (ks := [5, 26]) (e' := [(5, .slice A69 (t64.1).length c70), (26, .bool (decide (p0.top > (0 : Int))))]) rfl ⟨(load1 tab rfl ((Bx.cell f900019.now 16).trans rfl)), trivial⟩ fun a hk => ?_
  refine wpListIn_nil ?_
  refine then_n ?_
  cases b78 : (decide (p0.top > (0 : Int)))
  · rw [b78] at hk H
    replace H := bifF H
    refine x_if hk (b := false) rfl ?_
    refine (show Code.wpIn _ _ _ _ _ _ _ from ?_)
    refine wpIn_skip ?_
    refine then_n ?_
    refine x_seq ?_
    refine wpIn_region_lit ?_
    refine x_run tab hk (k := 2) (lv := []) (ks := [4]) (e' := [(4, .slice A69 (t64.1).length c70)]) rfl trivial fun a hk => ?_
    refine wpListIn_nil ?_
    refine then_n ?_
    refine wpIn_ret ?_
    obtain rfl := Option.some.inj H
    exact x_retG hk (rs := [.tmp 4]) (vs := [.slice A69 (t64.1).length c70]) rfl ⟨rfl, trivial⟩ ⟨cl w oi o [2, 3, 4] (R_52 LF Lp0 Lp0_0 Lq0_0 R0) o67, A69, c70, bq0_0, A74, c75, rfl, hs.closeF (Lm := [Lp0, Lp0_0, Lq0_0]) (Sh := []) hoa rfl (R_52 LF Lp0 Lp0_0 Lq0_0 R0), f71.conv (fun _ h_ => hs.closeM_ft (o := o) (ρ := R_52 LF Lp0 Lp0_0 Lq0_0 R0) h_ (lab_none hob rfl) rfl) (fun _ h_ => hs.closeM_ft (o := o) (ρ := R_52 LF Lp0 Lp0_0 Lq0_0 R0) h_ (lab_at hoa (i := 0) rfl) rfl), hc72, hs.closeM_ft (o := o) (ρ := R_52 LF Lp0 Lp0_0 Lq0_0 R0) f900019 (lab_at hoa (i := 1) rfl) rfl, hs.closeM_ft (o := o) (ρ := R_52 LF Lp0 Lp0_0 Lq0_0 R0) f73 (lab_at hoa (i := 3) rfl) rfl, f76.conv (fun _ h_ => hs.closeM_ft (o := o) (ρ := R_52 LF Lp0 Lp0_0 Lq0_0 R0) h_ (lab_at hoa (i := 2) rfl) rfl) (fun _ h_ => hs.closeM_ft (o := o) (ρ := R_52 LF Lp0 Lp0_0 Lq0_0 R0) h_ (lab_at hoa (i := 0) rfl) rfl), hc77⟩
  · rw [b78] at hk H
    replace H := bifT H
    refine x_if hk (b := true) rfl ?_
    refine (show Code.wpIn _ _ _ _ _ _ _ from ?_)
    refine x_seq ?_
    refine wpIn_region_lit ?_
    refine x_run tab hk (k := 1) (lv := []) (ks := [4]) (e' := [(4, .slice none 0 0)]) rfl trivial fun a hk => ?_
    refine wpListIn_nil ?_
    refine then_n ?_
    refine wpIn_ret ?_
    refine then_r ?_
    obtain rfl := Option.some.inj H
    exact x_retG hk (rs := [.tmp 4]) (vs := [.slice none 0 0]) rfl ⟨rfl, trivial⟩ ⟨cl w oi o [2, 3, 4] (R_53 LF Lp0 Lp0_0 Lq0_0) o67, none, 0, bq0_0, A74, c75, rfl, hs.closeF (Lm := [Lp0, Lp0_0, Lq0_0]) (Sh := []) hoa rfl (R_53 LF Lp0 Lp0_0 Lq0_0), (NOwn.nil _ _ _ _ _ _), (by simp), hs.closeM_ft (o := o) (ρ := R_53 LF Lp0 Lp0_0 Lq0_0) f900019 (lab_at hoa (i := 1) rfl) rfl, hs.closeM_ft (o := o) (ρ := R_53 LF Lp0 Lp0_0 Lq0_0) f73 (lab_at hoa (i := 3) rfl) rfl, f76.conv (fun _ h_ => hs.closeM_ft (o := o) (ρ := R_53 LF Lp0 Lp0_0 Lq0_0) h_ (lab_at hoa (i := 2) rfl) rfl) (fun _ h_ => hs.closeM_ft (o := o) (ρ := R_53 LF Lp0 Lp0_0 Lq0_0) h_ (lab_at hoa (i := 0) rfl) rfl), hc77⟩

/-! (*tidewrack/screen.Screen).last -/
abbrev R_54 (LF : Nat) (l_ : Nat) : Nat := if l_ = 1 then LF else 0
set_option maxHeartbeats 4000000 in
set_option maxRecDepth 20000 in
theorem screen_Screen_last_calls (bp0 : Nat) (bq0_0 : Nat) (Ap0_0 : Option Addr) (cp0_0 : Nat) (p0 : T55) (w : World) (o : Nat → Nat) (LF : Nat) (Lp0 : Nat) (hp0 : Ft (Bx bp0 56 [.pointer (some ⟨bq0_0, 0, none⟩), .int .i64 p0.spot_x, .int .i64 p0.spot_y, .int .i64 p0.spot_style_Fore, .int .i64 p0.spot_style_Back, .bool p0.spot_style_Bold, .bool p0.spot_style_Under, .bool p0.spot_style_Inverse, .int .i64 p0.saved_x, .int .i64 p0.saved_y, .int .i64 p0.saved_style_Fore, .int .i64 p0.saved_style_Back, .bool p0.saved_style_Bold, .bool p0.saved_style_Under, .bool p0.saved_style_Inverse, .bool p0.waiting, .int .i64 p0.top, .int .i64 p0.bottom, .bool p0.wraps, .string p0.title]) w o Lp0) (Lp0_0 : Nat) (hp0_0 : NRd dT65 Ap0_0 p0.g_l w o Lp0_0 LF) (hcp0_0 : (p0.g_l).length ≤ cp0_0) (Lq0_0 : Nat) (hq0_0 : Ft (Bx bq0_0 75 [.int .i64 p0.g_w, .slice Ap0_0 (p0.g_l).length cp0_0]) w o Lq0_0) (hd0 : ([LF] : List Nat).Nodup) (hd1 : Lp0_0 ∉ [LF]) (hd2 : Lp0 ∉ [LF]) (hd3 : Lq0_0 ∉ [LF]) (r : Int × Int) (H : screen_Screen_last p0 = some r) :
    Calls Tryz.prog 71 #[.pointer (some ⟨bp0, 0, none⟩)] w (Ret fun v_ w' => ∃ o' : Nat → Nat, v_ = .tuple #[.int .i64 r.1, .int .i64 r.2] ∧ St [] w o w' o') := by
  refine x_enter (vs := [.pointer (some ⟨bp0, 0, none⟩)]) Tryz.func71 rfl rfl rfl fun a hk => ?_
  obtain ⟨oi, hs0, h0, h1, hob, hoz, hoa⟩ := St.startM2 w o (m := 1) hd0 rfl
  have hs := hs0 []
  have f900000 := hp0_0.conv (fun P_ => h0 P_ _ hd1) (fun _ h_ => h1 0 1 h_ rfl rfl)
  have f900019 := h0 _ _ hd2 hp0
  have f910000 := h0 _ _ hd3 hq0_0
  clear h0 h1 hs0
  rw [screen_Screen_last] at H
  refine x_seq ?_
  refine wpIn_region_lit ?_
  refine x_run tab hk (k := 2) (lv := []) (ks := [0]) (e' := [(0, .pointer (some ⟨bp0, 0, none⟩))]) rfl trivial fun a hk => ?_
  refine wpListIn_nil ?_
  refine then_n ?_
  refine x_seq ?_
  refine wpIn_region_lit ?_
  refine x_run tab hk (k := 4) (lv := [.pointer (some ⟨bq0_0, 0, none⟩)]) (ks := [10]) (e' := [(10, .pointer (some ⟨bq0_0, 0, none⟩))]) rfl ⟨(load1 tab rfl ((Bx.cell f900019.now 0).trans rfl)), trivial⟩ fun a hk => ?_
  refine x_op hk rfl ?_
  obtain ⟨t4, hc5, H⟩ := bindS H
  refine op_call hk ent_12 (vs := [.pointer (some ⟨bq0_0, 0, none⟩)]) rfl (grid_Grid_Size_calls bq0_0 Ap0_0 cp0_0 (⟨p0.g_w, p0.g_l⟩ : T74) _ oi 1 0 f910000 _ f900000 hcp0_0 (by decide) (by decide) (by decide)   _ hc5) ?_
  rintro _ w6 ⟨o7, rfl, st8⟩
  replace f900000 := f900000.st st8 (by decide)
  replace f900019 := f900019.st st8 (by decide)
  replace f910000 := f910000.st st8 (by decide)
  replace hs := hs.locQ st8 hob rfl
  have hk := hk.put 11 (.tuple #[.int .i64 t4.1, .int .i64 t4.2]) rfl
  refine x_run tab hk (k := 5) (lv := []) (ks := [4, 5]) (e' := [(4, .int .i64 t4.1), (5, .int .i64 t4.2)]) rfl trivial fun a hk => ?_
  refine wpListIn_nil ?_
  refine then_n ?_
  refine x_seq ?_
  refine wpIn_region_lit ?_
  refine x_run tab hk (k := 6) (lv := []) (ks := [2, 3]) (e' := [(2, .int .i64 (IntKind.wrap .i64 (t4.1 - 1))), (3, .int .i64 (IntKind.wrap .i64 (t4.2 - 1)))]) rfl trivial fun a hk => ?_
  refine wpListIn_nil ?_
  refine then_n ?_
  refine wpIn_ret ?_
  obtain rfl := Option.some.inj H
  exact x_retG hk (rs := [.tmp 2, .tmp 3]) (vs := [.int .i64 (IntKind.wrap .i64 (t4.1 - 1)), .int .i64 (IntKind.wrap .i64 (t4.2 - 1))]) rfl ⟨rfl, rfl, trivial⟩ ⟨cl w oi o [] (R_54 LF) o7, rfl, hs.closeF (Lm := []) (Sh := []) hoa rfl (R_54 LF)⟩

/-! tidewrack/screen.clip -/
theorem screen_clip_calls (p0 : Int) (p1 : Int) (p2 : Int) (w : World) (o : Nat → Nat)   (r : Int) (H : screen_clip p0 p1 p2 = some r) :
    Calls Tryz.prog 72 #[.int .i64 p0, .int .i64 p1, .int .i64 p2] w (Ret fun v_ w' => ∃ o' : Nat → Nat, v_ = .int .i64 r ∧ St [] w o w' o') := by
  refine x_enter (vs := [.int .i64 p0, .int .i64 p1, .int .i64 p2]) Tryz.func72 rfl rfl rfl fun a hk => ?_
  obtain ⟨o0, hs, h0⟩ := St.start w o
  clear h0
  rw [screen_clip] at H
  refine x_seq ?_
  refine wpIn_region_lit ?_
  refine x_run tab hk (k := 1) (lv := []) (ks := [0, 1, 2]) (e' := [(0, .int .i64 p0), (1, .int .i64 p1), (2, .int .i64 p2)]) rfl trivial fun a hk => ?_
  refine wpListIn_nil ?_
  refine then_n ?_
  refine x_seq ?_
  refine wpIn_region_lit ?_
  refine x_run tab hk (k := 6) (lv := []) (ks := [6]) (e' := [(6, .int .i64 (mxI p1 (mnI p0 p2)))]) rfl trivial fun a hk => ?_
  refine wpListIn_nil ?_
  refine then_n ?_
  refine wpIn_ret ?_
  obtain rfl := Option.some.inj H
  exact x_retG hk (rs := [.tmp 6]) (vs := [.int .i64 (mxI p1 (mnI p0 p2))]) rfl ⟨rfl, trivial⟩ ⟨fun b_ => if b_ < w.heap.size then o b_ else (fun _ => 0) (o0 b_), rfl, hs.close0 o (fun _ => 0)⟩

/-! (*tidewrack/screen.Screen).move -/
abbrev R_55 (LF Lp0 Lp0_0 Lq0_0 : Nat) (l_ : Nat) : Nat := if l_ = 1 then LF else if l_ = 2 then Lp0 else if l_ = 3 then Lp0_0 else if l_ = 4 then Lq0_0 else 0
set_option maxHeartbeats 4000000 in
set_option maxRecDepth 20000 in
theorem screen_Screen_move_calls (bp0 : Nat) (bq0_0 : Nat) (Ap0_0 : Option Addr) (cp0_0 : Nat) (p0 : T55) (p1 : Int) (p2 : Int) (w : World) (o : Nat → Nat) (LF : Nat) (Lp0 : Nat) (hp0 : Ft (Bx bp0 56 [.pointer (some ⟨bq0_0, 0, none⟩), .int .i64 p0.spot_x, .int .i64 p0.spot_y, .int .i64 p0.spot_style_Fore, .int .i64 p0.spot_style_Back, .bool p0.spot_style_Bold, .bool p0.spot_style_Under, .bool p0.spot_style_Inverse, .int .i64 p0.saved_x, .int .i64 p0.saved_y, .int .i64 p0.saved_style_Fore, .int .i64 p0.saved_style_Back, .bool p0.saved_style_Bold, .bool p0.saved_style_Under, .bool p0.saved_style_Inverse, .bool p0.waiting, .int .i64 p0.top, .int .i64 p0.bottom, .bool p0.wraps, .string p0.title]) w o Lp0) (Lp0_0 : Nat) (hp0_0 : NOwn dT65 66 Ap0_0 cp0_0 p0.g_l w o Lp0_0 LF) (hcp0_0 : (p0.g_l).length ≤ cp0_0) (Lq0_0 : Nat) (hq0_0 : Ft (Bx bq0_0 75 [.int .i64 p0.g_w, .slice Ap0_0 (p0.g_l).length cp0_0]) w o Lq0_0) (hd0 : ([LF, Lp0, Lp0_0, Lq0_0] : List Nat).Nodup) (r : T55) (H : screen_Screen_move p0 p1 p2 = some r) :
    Calls Tryz.prog 41 #[.pointer (some ⟨bp0, 0, none⟩), .int .i64 p1, .int .i64 p2] w (Ret fun v_ w' => ∃ o' : Nat → Nat, ∃ b0 : Nat, ∃ A0 : Option Addr, ∃ c0 : Nat, v_ = .tuple #[] ∧ St [Lp0, Lp0_0, Lq0_0] w o w' o' ∧ Ft (Bx bp0 56 [.pointer (some ⟨b0, 0, none⟩), .int .i64 r.spot_x, .int .i64 r.spot_y, .int .i64 r.spot_style_Fore, .int .i64 r.spot_style_Back, .bool r.spot_style_Bold, .bool r.spot_style_Under, .bool r.spot_style_Inverse, .int .i64 r.saved_x, .int .i64 r.saved_y, .int .i64 r.saved_style_Fore, .int .i64 r.saved_style_Back, .bool r.saved_style_Bold, .bool r.saved_style_Under, .bool r.saved_style_Inverse, .bool r.waiting, .int .i64 r.top, .int .i64 r.bottom, .bool r.wraps, .string r.title]) w' o' Lp0 ∧ Ft (Bx b0 75 [.int .i64 r.g_w, .slice A0 (r.g_l).length c0]) w' o' Lq0_0 ∧ NOwn dT65 66 A0 c0 r.g_l w' o' Lp0_0 LF ∧ (r.g_l).length ≤ c0) := by
  refine x_enter (vs := [.pointer (some ⟨bp0, 0, none⟩), .int .i64 p1, .int .i64 p2]) Tryz.func41 rfl rfl rfl fun a hk => ?_
  obtain ⟨oi, hs0, h0, h1, hob, hoz, hoa⟩ := St.startM2 w o (m := 4) hd0 rfl
  have hs := hs0 [2, 3, 4]
  have f900000 := hp0_0.conv (fun _ h_ => h1 2 3 h_ rfl rfl) (fun _ h_ => h1 0 1 h_ rfl rfl)
  have f900019 := h1 1 2 hp0 rfl rfl
  have f910000 := h1 3 4 hq0_0 rfl rfl
  clear h0 h1 hs0
  rw [screen_Screen_move] at H
  refine x_seq ?_
  refine wpIn_region_lit ?_
  refine x_run tab hk (k := 1) (lv := []) (ks := [0, 1, 2, 9]) (e' := [(0, .pointer (some ⟨bp0, 0, none⟩)), (1, .int .i64 p1), (2, .int .i64 p2), (9, .pointer (some ⟨bp0, 0, none⟩))]) rfl trivial fun a hk => ?_
  refine x_op hk rfl ?_
  obtain ⟨t4, hc5, H⟩ := bindS H
  refine op_call hk ent_71 (vs := [.pointer (some ⟨bp0, 0, none⟩)]) rfl (screen_Screen_last_calls bp0 bq0_0 Ap0_0 cp0_0 p0 _ oi 1 2 f900019 _ f900000.rd hcp0_0 4 f910000 (by decide) (by decide) (by decide) (by decide)   _ hc5) ?_
  rintro _ w6 ⟨o7, rfl, st8⟩
  replace f900000 := f900000.st st8 (by decide)
  replace f900019 := f900019.st st8 (by decide)
  replace f910000 := f910000.st st8 (by decide)
  replace hs := hs.locQ st8 hob rfl
  have hk := hk.put 10 (.tuple #[.int .i64 t4.1, .int .i64 t4.2]) rfl
  refine x_run tab hk (k := 5) (lv := []) (ks := [0, 1, 2, 6, 7]) (e' := [(0, .pointer (some ⟨bp0, 0, none⟩)), (1, .int .i64 p1), (2, .int .i64 p2), (6, .int .i64 t4.1), (7, .int .i64 t4.2)]) rfl trivial fun a hk => ?_
  refine wpListIn_nil ?_
  refine then_n ?_
  refine wpIn_region_lit ?_
  refine x_run tab hk (k := 5) (lv := []) (ks := [2, 7, 13, 14, 15, 16, 17]) (e' := [(2, .int .i64 p2), (7, .int .i64 t4.2), (13, .pointer (some ⟨bp0, 0, none⟩)), (14, .pointer (some ⟨bp0, 0, none⟩)), (15, .pointer (some ⟨bp0, 0, none⟩)), (16, .int .i64 p1), (17, .int .i64 t4.1)]) rfl trivial fun a hk => ?_
  refine x_op hk rfl ?_
  obtain ⟨t12, hc13, H⟩ := bindS H
  refine op_call hk ent_72 (vs := [.int .i64 p1, .int .i64 0, .int .i64 t4.1]) rfl (screen_clip_calls p1 0 t4.1 _ o7    _ hc13) ?_
  rintro _ w14 ⟨o15, rfl, st16⟩
  replace f900000 := f900000.st st16 (by decide)
  replace f900019 := f900019.st st16 (by decide)
  replace f910000 := f910000.st st16 (by decide)
  replace hs := hs.locQ st16 hob rfl
  have hk := hk.put 18 (.int .i64 t12) rfl
  refine x_run tab hk (k := 2) (lv := []) (ks := [13, 14, 15, 18, 19, 20]) (e' := [(13, .pointer (some ⟨bp0, 0, none⟩)), (14, .pointer (some ⟨bp0, 0, none⟩)), (15, .pointer (some ⟨bp0, 0, none⟩)), (18, .int .i64 t12), (19, .int .i64 p2), (20, .int .i64 t4.2)]) rfl trivial fun a hk => ?_
  refine x_op hk rfl ?_
  obtain ⟨t20, hc21, H⟩ := bindS H
  refine op_call hk ent_72 (vs := [.int .i64 p2, .int .i64 0, .int .i64 t4.2]) rfl (screen_clip_calls p2 0 t4.2 _ o15    _ hc21) ?_
  rintro _ w22 ⟨o23, rfl, st24⟩
  replace f900000 := f900000.st st24 (by decide)
  replace f900019 := f900019.st st24 (by decide)
  replace f910000 := f910000.st st24 (by decide)
  replace hs := hs.locQ st24 hob rfl
  have hk := hk.put 21 (.int .i64 t20) rfl
  refine x_run tab hk (k := 3) (lv := []) (ks := [14, 15, 18, 21, 24]) (e' := [(14, .pointer (some ⟨bp0, 0, none⟩)), (15, .pointer (some ⟨bp0, 0, none⟩)), (18, .int .i64 t12), (21, .int .i64 t20), (24, .pointer (some ((⟨bp0, 0, none⟩ : Addr).add 1)))]) rfl trivial fun a hk => ?_
  refine x_op hk rfl ?_
  refine op_store tab hk (t := 3) (v := .int .i64 t12) (b := bp0) (k := 1) (cs' := [.pointer (some ⟨bq0_0, 0, none⟩), .int .i64 t12, .int .i64 p0.spot_y, .int .i64 p0.spot_style_Fore, .int .i64 p0.spot_style_Back, .bool p0.spot_style_Bold, .bool p0.spot_style_Under, .bool p0.spot_style_Inverse, .int .i64 p0.saved_x, .int .i64 p0.saved_y, .int .i64 p0.saved_style_Fore, .int .i64 p0.saved_style_Back, .bool p0.saved_style_Bold, .bool p0.saved_style_Under, .bool p0.saved_style_Inverse, .bool p0.waiting, .int .i64 p0.top, .int .i64 p0.bottom, .bool p0.wraps, .string p0.title]) rfl rfl rfl rfl rfl rfl f900019 rfl rfl fun w25 o26 st27 f900019_ => ?_
  replace f900000 := f900000.st st27 (by decide)
  replace f910000 := f910000.st st27 (by decide)
  replace hs := hs.locQ st27 hob rfl
  replace f900019 := f900019_
  refine x_run tab hk (k := 3) (lv := []) (ks := [15, 21, 27]) (e' := [(15, .pointer (some ⟨bp0, 0, none⟩)), (21, .int .i64 t20), (27, .pointer (some ((⟨bp0, 0, none⟩ : Addr).add 2)))]) rfl trivial fun a hk => ?_
  refine x_op hk rfl ?_
  refine op_store tab hk (t := 3) (v := .int .i64 t20) (b := bp0) (k := 2) (cs' := [.pointer (some ⟨bq0_0, 0, none⟩), .int .i64 t12, .int .i64 t20, .int .i64 p0.spot_style_Fore, .int .i64 p0.spot_style_Back, .bool p0.spot_style_Bold, .bool p0.spot_style_Under, .bool p0.spot_style_Inverse, .int .i64 p0.saved_x, .int .i64 p0.saved_y, .int .i64 p0.saved_style_Fore, .int .i64 p0.saved_style_Back, .bool p0.saved_style_Bold, .bool p0.saved_style_Under, .bool p0.saved_style_Inverse, .bool p0.waiting, .int .i64 p0.top, .int .i64 p0.bottom, .bool p0.wraps, .string p0.title]) rfl rfl rfl rfl rfl rfl f900019 rfl rfl fun w28 o29 st30 f900019_ => ?_
  replace f900000 := f900000.st st30 (by decide)
  replace f910000 := f910000.st st30 (by decide)
  replace hs := hs.locQ st30 hob rfl
  replace f900019 := f900019_
  refine x_run tab hk (k := 2) (lv := []) (ks := [29]) (e' := [(29, .pointer (some ((⟨bp0, 0, none⟩ : Addr).add 15)))]) rfl trivial fun a hk => ?_
  refine x_op hk rfl ?_
  refine op_store tab hk (t := 4) (v := .bool false) (b := bp0) (k := 15) (cs' := [.pointer (some ⟨bq0_0, 0, none⟩), .int .i64 t12, .int .i64 t20, .int .i64 p0.spot_style_Fore, .int .i64 p0.spot_style_Back, .bool p0.spot_style_Bold, .bool p0.spot_style_Under, .bool p0.spot_style_Inverse, .int .i64 p0.saved_x, .int .i64 p0.saved_y, .int .i64 p0.saved_style_Fore, .int .i64 p0.saved_style_Back, .bool p0.saved_style_Bold, .bool p0.saved_style_Under, .bool p0.saved_style_Inverse, .bool false, .int .i64 p0.top, .int .i64 p0.bottom, .bool p0.wraps, .string p0.title]) rfl rfl rfl rfl rfl rfl f900019 rfl rfl fun w31 o32 st33 f900019_ => ?_
  replace f900000 := f900000.st st33 (by decide)
  replace f910000 := f910000.st st33 (by decide)
  replace hs := hs.locQ st33 hob rfl
  replace f900019 := f900019_
  refine wpListIn_nil ?_
  obtain rfl := Option.some.inj H
  exact x_endG hk (rs := []) (vs := []) rfl trivial ⟨cl w oi o [2, 3, 4] (R_55 LF Lp0 Lp0_0 Lq0_0) o32, bq0_0, Ap0_0, cp0_0, rfl, hs.closeF (Lm := [Lp0, Lp0_0, Lq0_0]) (Sh := []) hoa rfl (R_55 LF Lp0 Lp0_0 Lq0_0), hs.closeM_ft (o := o) (ρ := R_55 LF Lp0 Lp0_0 Lq0_0) f900019 (lab_at hoa (i := 1) rfl) rfl, hs.closeM_ft (o := o) (ρ := R_55 LF Lp0 Lp0_0 Lq0_0) f910000 (lab_at hoa (i := 3) rfl) rfl, f900000.conv (fun _ h_ => hs.closeM_ft (o := o) (ρ := R_55 LF Lp0 Lp0_0 Lq0_0) h_ (lab_at hoa (i := 2) rfl) rfl) (fun _ h_ => hs.closeM_ft (o := o) (ρ := R_55 LF Lp0 Lp0_0 Lq0_0) h_ (lab_at hoa (i := 0) rfl) rfl), hcp0_0⟩

/-! (*tidewrack/screen.Screen).line -/
abbrev R_56 (LF Lp0 Lp0_0 Lq0_0 : Nat) (l_ : Nat) : Nat := if l_ = 1 then LF else if l_ = 2 then Lp0 else if l_ = 3 then Lp0_0 else if l_ = 4 then Lq0_0 else 0
abbrev R_57 (LF Lp0 Lp0_0 Lq0_0 R0 : Nat) (l_ : Nat) : Nat := if l_ = 1 then LF else if l_ = 2 then Lp0 else if l_ = 3 then Lp0_0 else if l_ = 4 then Lq0_0 else if l_ = 5 then R0 else 0
set_option maxHeartbeats 4000000 in
set_option maxRecDepth 20000 in
theorem screen_Screen_line_calls (K : Nat) (bp0 : Nat) (bq0_0 : Nat) (Ap0_0 : Option Addr) (cp0_0 : Nat) (p0 : T55) (w : World) (o : Nat → Nat) (LF : Nat) (Lp0 : Nat) (hp0 : Ft (Bx bp0 56 [.pointer (some ⟨bq0_0, 0, none⟩), .int .i64 p0.spot_x, .int .i64 p0.spot_y, .int .i64 p0.spot_style_Fore, .int .i64 p0.spot_style_Back, .bool p0.spot_style_Bold, .bool p0.spot_style_Under, .bool p0.spot_style_Inverse, .int .i64 p0.saved_x, .int .i64 p0.saved_y, .int .i64 p0.saved_style_Fore, .int .i64 p0.saved_style_Back, .bool p0.saved_style_Bold, .bool p0.saved_style_Under, .bool p0.saved_style_Inverse, .bool p0.waiting, .int .i64 p0.top, .int .i64 p0.bottom, .bool p0.wraps, .string p0.title]) w o Lp0) (Lp0_0 : Nat) (hp0_0 : NOwn dT65 66 Ap0_0 cp0_0 p0.g_l w o Lp0_0 LF) (hcp0_0 : (p0.g_l).length ≤ cp0_0) (Lq0_0 : Nat) (hq0_0 : Ft (Bx bq0_0 75 [.int .i64 p0.g_w, .slice Ap0_0 (p0.g_l).length cp0_0]) w o Lq0_0) (hd0 : ([LF, Lp0, Lp0_0, Lq0_0] : List Nat).Nodup) (R0 : Nat) (r : (List T65) × T55) (H : screen_Screen_line K p0 = some r) :
    Calls Tryz.prog 35 #[.pointer (some ⟨bp0, 0, none⟩)] w (Ret fun v_ w' => ∃ o' : Nat → Nat, ∃ A0 : Option Addr, ∃ c0 : Nat, ∃ b0 : Nat, ∃ A1 : Option Addr, ∃ c1 : Nat, v_ = .slice A0 (r.1).length c0 ∧ St [Lp0, Lp0_0, Lq0_0] w o w' o' ∧ NOwn dT65 66 A0 c0 r.1 w' o' R0 LF ∧ (r.1).length ≤ c0 ∧ Ft (Bx bp0 56 [.pointer (some ⟨b0, 0, none⟩), .int .i64 r.2.spot_x, .int .i64 r.2.spot_y, .int .i64 r.2.spot_style_Fore, .int .i64 r.2.spot_style_Back, .bool r.2.spot_style_Bold, .bool r.2.spot_style_Under, .bool r.2.spot_style_Inverse, .int .i64 r.2.saved_x, .int .i64 r.2.saved_y, .int .i64 r.2.saved_style_Fore, .int .i64 r.2.saved_style_Back, .bool r.2.saved_style_Bold, .bool r.2.saved_style_Under, .bool r.2.saved_style_Inverse, .bool r.2.waiting, .int .i64 r.2.top, .int .i64 r.2.bottom, .bool r.2.wraps, .string r.2.title]) w' o' Lp0 ∧ Ft (Bx b0 75 [.int .i64 r.2.g_w, .slice A1 (r.2.g_l).length c1]) w' o' Lq0_0 ∧ NOwn dT65 66 A1 c1 r.2.g_l w' o' Lp0_0 LF ∧ (r.2.g_l).length ≤ c1) := by
  refine x_enter (vs := [.pointer (some ⟨bp0, 0, none⟩)]) Tryz.func35 rfl rfl rfl fun a hk => ?_
  obtain ⟨oi, hs0, h0, h1, hob, hoz, hoa⟩ := St.startM2 w o (m := 4) hd0 rfl
  have hs := hs0 [2, 3, 4]
  have f900000 := hp0_0.conv (fun _ h_ => h1 2 3 h_ rfl rfl) (fun _ h_ => h1 0 1 h_ rfl rfl)
  have f900019 := h1 1 2 hp0 rfl rfl
  have f910000 := h1 3 4 hq0_0 rfl rfl
  clear h0 h1 hs0
  rw [screen_Screen_line] at H
  refine x_seq ?_
  refine wpIn_region_lit ?_
  refine x_run tab hk (k := 1) (lv := []) (ks := [0]) (e' := [(0, .pointer (some ⟨bp0, 0, none⟩))]) rfl trivial fun a hk => ?_
  refine wpListIn_nil ?_
  refine then_n ?_
  refine x_seq ?_
  refine wpIn_region_lit ?_
  refine x_run tab hk (k := 3) (lv := []) (ks := [0, 5]) (e' := [(0, .pointer (some ⟨bp0, 0, none⟩)), (5, .pointer (some ((⟨bp0, 0, none⟩ : Addr).add 15)))]) rfl trivial fun a hk => ?_
  refine x_op hk rfl ?_
  refine op_store tab hk (t := 4) (v := .bool false) (b := bp0) (k := 15) (cs' := [.pointer (some ⟨bq0_0, 0, none⟩), .int .i64 p0.spot_x, .int .i64 p0.spot_y, .int .i64 p0.spot_style_Fore, .int .i64 p0.spot_style_Back, .bool p0.spot_style_Bold, .bool p0.spot_style_Under, .bool p0.spot_style_Inverse, .int .i64 p0.saved_x, .int .i64 p0.saved_y, .int .i64 p0.saved_style_Fore, .int .i64 p0.saved_style_Back, .bool p0.saved_style_Bold, .bool p0.saved_style_Under, .bool p0.saved_style_Inverse, .bool false, .int .i64 p0.top, .int .i64 p0.bottom, .bool p0.wraps, .string p0.title]) rfl rfl rfl rfl rfl rfl f900019 rfl rfl fun w1 o2 st3 f900019_ => ?_
  replace f900000 := f900000.st st3 (by decide)
  replace f910000 := f910000.st st3 (by decide)
  replace hs := hs.locQ st3 hob rfl
  replace f900019 := f900019_
  refine wpListIn_nil ?_
  refine then_n ?_
  refine x_seq ?_
  refine x_seq ?_
  refine xd_begin (o := o2) (fun W_ => (Bx bp0 56 [.pointer (some ⟨bq0_0, 0, none⟩), .int .i64 p0.spot_x, .int .i64 p0.spot_y, .int .i64 p0.spot_style_Fore, .int .i64 p0.spot_style_Back, .bool p0.spot_style_Bold, .bool p0.spot_style_Under, .bool p0.spot_style_Inverse, .int .i64 p0.saved_x, .int .i64 p0.saved_y, .int .i64 p0.saved_style_Fore, .int .i64 p0.saved_style_Back, .bool p0.saved_style_Bold, .bool p0.saved_style_Under, .bool p0.saved_style_Inverse, .bool false, .int .i64 p0.top, .int .i64 p0.bottom, .bool p0.wraps, .string p0.title]) W_ ∧ True) mixed rfl rfl fun w4 st5 => ?_
  replace f900000 := f900000.st st5 (by decide)
  replace f900019 := f900019.st st5 (by decide)
  replace f910000 := f910000.st st5 (by decide)
  replace hs := hs.locQ st5 hob rfl
  refine xd_take tab hk (k := 0) (is := [0, 1, 2, 3, 4, 5, 6, 7, 8, 9]) (ls' := #[true, true, true, true, true, true, true, true, true, true]) (lv := [.int .i64 p0.spot_y, .int .i64 p0.bottom]) (ks := [0, 15]) (e' := [(0, .pointer (some ⟨bp0, 0, none⟩)), (15, .bool (p0.spot_y == p0.bottom))]) (by kernel_rfl) rfl rfl (by kernel_rfl) (np_then (np_then np_body)) ⟨f900019.now, trivial⟩ (fun W_ hS => ⟨(load1 tab rfl ((Bx.cell hS.1 2).trans rfl)), (load1 tab rfl ((Bx.cell hS.1 17).trans rfl)), trivial⟩) fun a hk => ?_
  refine xd_done (by kernel_rfl) ?_
  refine then_n ?_
  cases b6 : (p0.spot_y == p0.bottom)
  · rw [b6] at hk H
    replace H := bifF H
    refine x_if hk (b := false) rfl ?_
    refine (show Code.wpIn _ _ _ _ _ _ _ from ?_)
    refine wpIn_skip ?_
    refine then_n ?_
    refine x_seq ?_
    refine x_cut (fun a_ w_ => ∃ o150 : Nat → Nat, ∃ bx151 : Nat, ∃ x153 : Int, ∃ A154 : Option Addr, ∃ c155 : Nat, ∃ l156 : List T65, ∃ x159 : Int, ∃ x160 : Int, ∃ x161 : Int, ∃ x162 : Int, ∃ x163 : Bool, ∃ x164 : Bool, ∃ x165 : Bool, ∃ x166 : Int, ∃ x167 : Int, ∃ x168 : Int, ∃ x169 : Int, ∃ x170 : Bool, ∃ x171 : Bool, ∃ x172 : Bool, ∃ x173 : Bool, ∃ x174 : Int, ∃ x175 : Int, ∃ x176 : Bool, ∃ x177 : ByteArray, Kn 31 a_ [] ∧ St [2, 3, 4] w oi w_ o150 ∧ Ft (Bx bx151 75 [.int .i64 x153, .slice A154 (l156).length c155]) w_ o150 4 ∧ NOwn dT65 66 A154 c155 l156 w_ o150 3 1 ∧ Ft (Bx bp0 56 [.pointer (some ⟨bx151, 0, none⟩), .int .i64 x159, .int .i64 x160, .int .i64 x161, .int .i64 x162, .bool x163, .bool x164, .bool x165, .int .i64 x166, .int .i64 x167, .int .i64 x168, .int .i64 x169, .bool x170, .bool x171, .bool x172, .bool x173, .int .i64 x174, .int .i64 x175, .bool x176, .string x177]) w_ o150 2 ∧ (l156).length ≤ c155 ∧ screen_Screen_line_j1 x153 l156 x159 x160 x161 x162 x163 x164 x165 x166 x167 x168 x169 x170 x171 x172 x173 x174 x175 x176 x177 = some r) ?_ ?_
    rotate_left
    · refine fun a w178 z0 => z0.elim fun o150 z1 => z1.elim fun bx151 z2 => z2.elim fun x153 z3 => z3.elim fun A154 z4 => z4.elim fun c155 z5 => z5.elim fun l156 z6 => z6.elim fun x159 z7 => z7.elim fun x160 z8 => z8.elim fun x161 z9 => z9.elim fun x162 z10 => z10.elim fun x163 z11 => z11.elim fun x164 z12 => z12.elim fun x165 z13 => z13.elim fun x166 z14 => z14.elim fun x167 z15 => z15.elim fun x168 z16 => z16.elim fun x169 z17 => z17.elim fun x170 z18 => z18.elim fun x171 z19 => z19.elim fun x172 z20 => z20.elim fun x173 z21 => z21.elim fun x174 z22 => z22.elim fun x175 z23 => z23.elim fun x176 z24 => z24.elim fun x177 z25 => z25.elim fun hk z26 => z26.elim fun hs z27 => z27.elim fun f152 z28 => z28.elim fun f157 z29 => z29.elim fun f92 z30 => z30.elim fun hc158 H => ?_
      clear z0 z1 z2 z3 z4 z5 z6 z7 z8 z9 z10 z11 z12 z13 z14 z15 z16 z17 z18 z19 z20 z21 z22 z23 z24 z25 z26 z27 z28 z29 z30
      rw [screen_Screen_line_j1] at H
      refine then_n ?_
      refine x_seq ?_
      refine wpIn_region_lit ?_
      refine x_run tab hk (k := 1) (lv := []) (ks := [2]) (e' := [(2, .slice none 0 0)]) rfl trivial fun a hk => ?_
      refine wpListIn_nil ?_
      refine then_n ?_
      refine wpIn_ret ?_
      obtain rfl := Option.some.inj H
      exact x_retG hk (rs := [.tmp 2]) (vs := [.slice none 0 0]) rfl ⟨rfl, trivial⟩ ⟨cl w oi o [2, 3, 4] (R_56 LF Lp0 Lp0_0 Lq0_0) o150, none, 0, bx151, A154, c155, rfl, hs.closeF (Lm := [Lp0, Lp0_0, Lq0_0]) (Sh := []) hoa rfl (R_56 LF Lp0 Lp0_0 Lq0_0), (NOwn.nil _ _ _ _ _ _), (by simp), hs.closeM_ft (o := o) (ρ := R_56 LF Lp0 Lp0_0 Lq0_0) f92 (lab_at hoa (i := 1) rfl) rfl, hs.closeM_ft (o := o) (ρ := R_56 LF Lp0 Lp0_0 Lq0_0) f152 (lab_at hoa (i := 3) rfl) rfl, f157.conv (fun _ h_ => hs.closeM_ft (o := o) (ρ := R_56 LF Lp0 Lp0_0 Lq0_0) h_ (lab_at hoa (i := 2) rfl) rfl) (fun _ h_ => hs.closeM_ft (o := o) (ρ := R_56 LF Lp0 Lp0_0 Lq0_0) h_ (lab_at hoa (i := 0) rfl) rfl), hc158⟩
    obtain ⟨t197, hc198, H⟩ := bindS H
    refine xd_begin (o := o2) (fun W_ => True) mixed rfl rfl fun w235 st236 => ?_
    replace f900000 := f900000.st st236 (by decide)
    replace f900019 := f900019.st st236 (by decide)
    replace f910000 := f910000.st st236 (by decide)
    replace hs := hs.locQ st236 hob rfl
    refine xd_abs fun G hG => ?_
    have N242 : ∀ (a_ : Act) (w_ : World), (∃ o240 : Nat → Nat, Kn 31 a_ [(18, .pointer (some ⟨bp0, 0, none⟩)), (23, .int .i64 p0.spot_x), (27, .pointer (some ((⟨bp0, 0, none⟩ : Addr).add 2)))] ∧ St [2, 3, 4] w oi w_ o240 ∧ NOwn dT65 66 Ap0_0 cp0_0 p0.g_l w_ o240 3 1 ∧ Ft (Bx bp0 56 [.pointer (some ⟨bq0_0, 0, none⟩), .int .i64 p0.spot_x, .int .i64 p0.spot_y, .int .i64 p0.spot_style_Fore, .int .i64 p0.spot_style_Back, .bool p0.spot_style_Bold, .bool p0.spot_style_Under, .bool p0.spot_style_Inverse, .int .i64 p0.saved_x, .int .i64 p0.saved_y, .int .i64 p0.saved_style_Fore, .int .i64 p0.saved_style_Back, .bool p0.saved_style_Bold, .bool p0.saved_style_Under, .bool p0.saved_style_Inverse, .bool false, .int .i64 p0.top, .int .i64 p0.bottom, .bool p0.wraps, .string p0.title]) w_ o240 2 ∧ Ft (Bx bq0_0 75 [.int .i64 p0.g_w, .slice Ap0_0 (p0.g_l).length cp0_0]) w_ o240 4) → G 3 #[true, true, true, true, true, true, true, true, true, true, false, false, false] a_ w_ := by
      rintro a w241 ⟨o240, hk, hs, f900000, f900019, f910000⟩
      refine xd_of hG ?_
      refine xd_op hk (i := 10) (by kernel_rfl) rfl rfl ?_
      refine op_quiet tab hk (lv := [.int .i64 p0.spot_y]) (v := .int .i64 p0.spot_y) rfl ⟨(load1 tab rfl ((Bx.cell f900019.now 2).trans rfl)), trivial⟩ ?_
      have hk := hk.put 28 (.int .i64 p0.spot_y) rfl
      refine ⟨.inr trivial, ?_⟩
      refine xd_take tab hk (k := 1) (is := [11]) (ls' := #[true, true, true, true, true, true, true, true, true, true, true, true, false]) (lv := []) (ks := [18, 23, 29]) (e' := [(18, .pointer (some ⟨bp0, 0, none⟩)), (23, .int .i64 p0.spot_x), (29, .int .i64 (IntKind.wrap .i64 (p0.spot_y + 1)))]) (by kernel_rfl) rfl rfl (by kernel_rfl) (np_then (np_then np_body)) trivial (fun W_ hS => trivial) fun a hk => ?_
      refine xd_op hk (i := 12) (by kernel_rfl) rfl rfl ?_
      refine op_call hk ent_41 (vs := [.pointer (some ⟨bp0, 0, none⟩), .int .i64 p0.spot_x, .int .i64 (IntKind.wrap .i64 (p0.spot_y + 1))]) rfl (screen_Screen_move_calls bp0 bq0_0 Ap0_0 cp0_0 (⟨p0.g_w, p0.g_l, p0.spot_x, p0.spot_y, p0.spot_style_Fore, p0.spot_style_Back, p0.spot_style_Bold, p0.spot_style_Under, p0.spot_style_Inverse, p0.saved_x, p0.saved_y, p0.saved_style_Fore, p0.saved_style_Back, p0.saved_style_Bold, p0.saved_style_Under, p0.saved_style_Inverse, false, p0.top, p0.bottom, p0.wraps, p0.title⟩ : T55) p0.spot_x (IntKind.wrap .i64 (p0.spot_y + 1)) _ o240 1 2 f900019 3 f900000 hcp0_0 4 f910000 (by decide)   _ hc198) ?_
      rintro _ w246 ⟨o247, bx250, A252, c253, rfl, st248, f249, f251, f254, hc255⟩
      replace hs := hs.locQ st248 hob rfl
      have hk := hk.put 30 (.tuple #[]) rfl
      refine ⟨.inr trivial, ?_⟩
      refine xd_done (by kernel_rfl) ?_
      refine then_n ?_
      exact ⟨o247, bx250, t197.g_w, A252, c253, t197.g_l, t197.spot_x, t197.spot_y, t197.spot_style_Fore, t197.spot_style_Back, t197.spot_style_Bold, t197.spot_style_Under, t197.spot_style_Inverse, t197.saved_x, t197.saved_y, t197.saved_style_Fore, t197.saved_style_Back, t197.saved_style_Bold, t197.saved_style_Under, t197.saved_style_Inverse, t197.waiting, t197.top, t197.bottom, t197.wraps, t197.title, (by exact Kn.pick (ks := []) hk rfl), hs, f251, f254, f249, hc255, H⟩
    have N261 : ∀ (a_ : Act) (w_ : World), (∃ o259 : Nat → Nat, Kn 31 a_ [(18, .pointer (some ⟨bp0, 0, none⟩)), (22, .pointer (some ((⟨bp0, 0, none⟩ : Addr).add 1))), (28, .int .i64 p0.spot_y)] ∧ St [2, 3, 4] w oi w_ o259 ∧ NOwn dT65 66 Ap0_0 cp0_0 p0.g_l w_ o259 3 1 ∧ Ft (Bx bp0 56 [.pointer (some ⟨bq0_0, 0, none⟩), .int .i64 p0.spot_x, .int .i64 p0.spot_y, .int .i64 p0.spot_style_Fore, .int .i64 p0.spot_style_Back, .bool p0.spot_style_Bold, .bool p0.spot_style_Under, .bool p0.spot_style_Inverse, .int .i64 p0.saved_x, .int .i64 p0.saved_y, .int .i64 p0.saved_style_Fore, .int .i64 p0.saved_style_Back, .bool p0.saved_style_Bold, .bool p0.saved_style_Under, .bool p0.saved_style_Inverse, .bool false, .int .i64 p0.top, .int .i64 p0.bottom, .bool p0.wraps, .string p0.title]) w_ o259 2 ∧ Ft (Bx bq0_0 75 [.int .i64 p0.g_w, .slice Ap0_0 (p0.g_l).length cp0_0]) w_ o259 4) → G 3 #[true, true, true, true, true, false, true, true, true, true, true, false, false] a_ w_ := by
      rintro a w260 ⟨o259, hk, hs, f900000, f900019, f910000⟩
      refine xd_of hG ?_
      refine xd_take tab hk (k := 2) (is := [11]) (ls' := #[true, true, true, true, true, false, true, true, true, true, true, true, false]) (lv := []) (ks := [18, 22, 29]) (e' := [(18, .pointer (some ⟨bp0, 0, none⟩)), (22, .pointer (some ((⟨bp0, 0, none⟩ : Addr).add 1))), (29, .int .i64 (IntKind.wrap .i64 (p0.spot_y + 1)))]) (by kernel_rfl) rfl rfl (by kernel_rfl) (np_then (np_then np_body)) trivial (fun W_ hS => trivial) fun a hk => ?_
      refine xd_op hk (i := 5) (by kernel_rfl) rfl rfl ?_
      refine op_quiet tab hk (lv := [.int .i64 p0.spot_x]) (v := .int .i64 p0.spot_x) rfl ⟨(load1 tab rfl ((Bx.cell f900019.now 1).trans rfl)), trivial⟩ ?_
      have hk := hk.put 23 (.int .i64 p0.spot_x) rfl
      refine ⟨.inr trivial, ?_⟩
      refine xd_op hk (i := 12) (by kernel_rfl) rfl rfl ?_
      refine op_call hk ent_41 (vs := [.pointer (some ⟨bp0, 0, none⟩), .int .i64 p0.spot_x, .int .i64 (IntKind.wrap .i64 (p0.spot_y + 1))]) rfl (screen_Screen_move_calls bp0 bq0_0 Ap0_0 cp0_0 (⟨p0.g_w, p0.g_l, p0.spot_x, p0.spot_y, p0.spot_style_Fore, p0.spot_style_Back, p0.spot_style_Bold, p0.spot_style_Under, p0.spot_style_Inverse, p0.saved_x, p0.saved_y, p0.saved_style_Fore, p0.saved_style_Back, p0.saved_style_Bold, p0.saved_style_Under, p0.saved_style_Inverse, false, p0.top, p0.bottom, p0.wraps, p0.title⟩ : T55) p0.spot_x (IntKind.wrap .i64 (p0.spot_y + 1)) _ o259 1 2 f900019 3 f900000 hcp0_0 4 f910000 (by decide)   _ hc198) ?_
      rintro _ w265 ⟨o266, bx269, A271, c272, rfl, st267, f268, f270, f273, hc274⟩
      replace hs := hs.locQ st267 hob rfl
      have hk := hk.put 30 (.tuple #[]) rfl
      refine ⟨.inr trivial, ?_⟩
      refine xd_done (by kernel_rfl) ?_
      refine then_n ?_
      exact ⟨o266, bx269, t197.g_w, A271, c272, t197.g_l, t197.spot_x, t197.spot_y, t197.spot_style_Fore, t197.spot_style_Back, t197.spot_style_Bold, t197.spot_style_Under, t197.spot_style_Inverse, t197.saved_x, t197.saved_y, t197.saved_style_Fore, t197.saved_style_Back, t197.saved_style_Bold, t197.saved_style_Under, t197.saved_style_Inverse, t197.waiting, t197.top, t197.bottom, t197.wraps, t197.title, (by exact Kn.pick (ks := []) hk rfl), hs, f270, f273, f268, hc274, H⟩
    refine xd_of hG ?_
    refine xd_take tab hk (k := 4) (is := [0, 1, 2, 3, 4, 6, 7, 8, 9]) (ls' := #[true, true, true, true, true, false, true, true, true, true, false, false, false]) (lv := []) (ks := [18, 22, 27]) (e' := [(18, .pointer (some ⟨bp0, 0, none⟩)), (22, .pointer (some ((⟨bp0, 0, none⟩ : Addr).add 1))), (27, .pointer (some ((⟨bp0, 0, none⟩ : Addr).add 2)))]) (by kernel_rfl) rfl rfl (by kernel_rfl) (np_then (np_then np_body)) trivial (fun W_ hS => trivial) fun a hk => ?_
    refine xd_each [5, 10] (by kernel_rfl) rfl ⟨?_, ?_, trivial⟩
    · refine xd_one hk rfl rfl ?_
      refine op_quiet tab hk (lv := [.int .i64 p0.spot_x]) (v := .int .i64 p0.spot_x) rfl ⟨(load1 tab rfl ((Bx.cell f900019.now 1).trans rfl)), trivial⟩ ?_
      have hk := hk.put 23 (.int .i64 p0.spot_x) rfl
      refine ⟨.inr trivial, ?_⟩
      exact xd_to hG rfl (N242 _ _ ⟨o2, (by exact Kn.pick (ks := [18, 23, 27]) hk rfl), hs, f900000, f900019, f910000⟩)
    · refine xd_one hk rfl rfl ?_
      refine op_quiet tab hk (lv := [.int .i64 p0.spot_y]) (v := .int .i64 p0.spot_y) rfl ⟨(load1 tab rfl ((Bx.cell f900019.now 2).trans rfl)), trivial⟩ ?_
      have hk := hk.put 28 (.int .i64 p0.spot_y) rfl
      refine ⟨.inr trivial, ?_⟩
      exact xd_to hG rfl (N261 _ _ ⟨o2, (by exact Kn.pick (ks := [18, 22, 28]) hk rfl), hs, f900000, f900019, f910000⟩)
  · rw [b6] at hk H
    replace H := bifT H
    refine x_if hk (b := true) rfl ?_
    refine (show Code.wpIn _ _ _ _ _ _ _ from ?_)
    refine x_seq ?_
    refine wpIn_region_lit ?_
    refine x_run tab hk (k := 1) (lv := []) (ks := [16]) (e' := [(16, .pointer (some ⟨bp0, 0, none⟩))]) rfl trivial fun a hk => ?_
    refine x_op hk rfl ?_
    obtain ⟨t278, hc279, H⟩ := bindS H
    refine op_call hk ent_48 (vs := [.pointer (some ⟨bp0, 0, none⟩), .int .i64 1]) rfl (screen_Screen_up_calls K bp0 bq0_0 Ap0_0 cp0_0 (⟨p0.g_w, p0.g_l, p0.spot_x, p0.spot_y, p0.spot_style_Fore, p0.spot_style_Back, p0.spot_style_Bold, p0.spot_style_Under, p0.spot_style_Inverse, p0.saved_x, p0.saved_y, p0.saved_style_Fore, p0.saved_style_Back, p0.saved_style_Bold, p0.saved_style_Under, p0.saved_style_Inverse, false, p0.top, p0.bottom, p0.wraps, p0.title⟩ : T55) 1 _ o2 1 2 f900019 3 f900000 hcp0_0 4 f910000 (by decide) 5  _ hc279) ?_
    rintro _ w280 ⟨o281, A283, c284, bx288, A290, c291, rfl, st282, f285, hc286, f287, f289, f292, hc293⟩
    replace hs := hs.locQ st282 hob rfl
    have hk := hk.put 17 (.slice A283 (t278.1).length c284) rfl
    refine x_run tab hk (k := 1) (lv := []) (ks := [2]) (e' := [(2, .slice A283 (t278.1).length c284)]) rfl trivial fun a hk => ?_
    refine wpListIn_nil ?_
    refine then_n ?_
    refine wpIn_ret ?_
    refine then_r ?_
    obtain rfl := Option.some.inj H
    exact x_retG hk (rs := [.tmp 2]) (vs := [.slice A283 (t278.1).length c284]) rfl ⟨rfl, trivial⟩ ⟨cl w oi o [2, 3, 4] (R_57 LF Lp0 Lp0_0 Lq0_0 R0) o281, A283, c284, bx288, A290, c291, rfl, hs.closeF (Lm := [Lp0, Lp0_0, Lq0_0]) (Sh := []) hoa rfl (R_57 LF Lp0 Lp0_0 Lq0_0 R0), f285.conv (fun _ h_ => hs.closeM_ft (o := o) (ρ := R_57 LF Lp0 Lp0_0 Lq0_0 R0) h_ (lab_none hob rfl) rfl) (fun _ h_ => hs.closeM_ft (o := o) (ρ := R_57 LF Lp0 Lp0_0 Lq0_0 R0) h_ (lab_at hoa (i := 0) rfl) rfl), hc286, hs.closeM_ft (o := o) (ρ := R_57 LF Lp0 Lp0_0 Lq0_0 R0) f287 (lab_at hoa (i := 1) rfl) rfl, hs.closeM_ft (o := o) (ρ := R_57 LF Lp0 Lp0_0 Lq0_0 R0) f289 (lab_at hoa (i := 3) rfl) rfl, f292.conv (fun _ h_ => hs.closeM_ft (o := o) (ρ := R_57 LF Lp0 Lp0_0 Lq0_0 R0) h_ (lab_at hoa (i := 2) rfl) rfl) (fun _ h_ => hs.closeM_ft (o := o) (ρ := R_57 LF Lp0 Lp0_0 Lq0_0 R0) h_ (lab_at hoa (i := 0) rfl) rfl), hc293⟩

/-! (tidewrack/row.Row).Put -/
abbrev R_58 (l_ : Nat) : Nat := if l_ = 4 then 6 else if l_ = 5 then 7 else l_
abbrev R_59 (l_ : Nat) : Nat := if l_ = 2 then 4 else if l_ = 3 then 5 else l_
set_option maxHeartbeats 4000000 in
set_option maxRecDepth 20000 in
theorem row_Row_Put_calls (K : Nat) (Ap0_0 : Option Addr) (cp0_0 : Nat) (p0 : T65) (p1 : Int) (p2 : Int) (p3 : Int) (w : World) (o : Nat → Nat) (Lg0 : Nat) (hg0 : Ft (RdC ET109 (some ⟨0, 0, none⟩) glob0) w o Lg0) (Lg1 : Nat) (hg1 : Ft (RdC ET109 (some ⟨1, 0, none⟩) glob1) w o Lg1) (Lp0_0 : Nat) (hp0_0 : Ft (RdC ET77 Ap0_0 p0.Cells) w o Lp0_0) (hcp0_0 : (p0.Cells).length ≤ cp0_0)  (R0 : Nat) (r : T65) (H : row_Row_Put K p0 p1 p2 p3 = some r) :
    Calls Tryz.prog 40 #[.agg #[.slice Ap0_0 (p0.Cells).length cp0_0, .bool p0.Wrapped], .int .i64 p1, .int .i32 p2, .int .i64 p3] w (Ret fun v_ w' => ∃ o' : Nat → Nat, ∃ A0 : Option Addr, ∃ c0 : Nat, v_ = .agg #[.slice A0 (r.Cells).length c0, .bool r.Wrapped] ∧ St [] w o w' o' ∧ Ft (Own ET77 78 (.slice A0 (r.Cells).length c0) r.Cells) w' o' R0 ∧ (r.Cells).length ≤ c0) := by
  refine x_enter (vs := [.agg #[.slice Ap0_0 (p0.Cells).length cp0_0, .bool p0.Wrapped], .int .i64 p1, .int .i32 p2, .int .i64 p3]) Tryz.func40 rfl rfl rfl fun a hk => ?_
  obtain ⟨o0, hs, h0⟩ := St.start w o
  have fg0 := h0 _ _ hg0
  have fg1 := h0 _ _ hg1
  have f900000 := h0 _ _ hp0_0
  clear h0
  rw [row_Row_Put] at H
  refine x_seq ?_
  refine wpIn_region_lit ?_
  refine x_op hk rfl ?_
  refine op_box (o := o0) (t := 66) (v := .agg #[.slice Ap0_0 (p0.Cells).length cp0_0, .bool p0.Wrapped]) (cs := [.slice Ap0_0 (p0.Cells).length cp0_0, .bool p0.Wrapped]) hk rfl rfl 1 fun bx4 w1 o2 st3 f5 => ?_
  replace f900000 := f900000.st st3 (by decide)
  replace fg0 := fg0.st st3 (by decide)
  replace fg1 := fg1.st st3 (by decide)
  replace hs := hs.loc0 st3 (by decide)
  have hk := hk.put 4 (.pointer (some ⟨bx4, 0, none⟩)) rfl
  refine x_op hk rfl ?_
  refine op_alloc (o := o2) tab (t := 66) (cs := [.slice none 0 0, .bool false]) rfl rfl 2 fun bx9 w6 o7 st8 f10 => ?_
  replace f5 := f5.st st8 (by decide)
  replace f900000 := f900000.st st8 (by decide)
  replace fg0 := fg0.st st8 (by decide)
  replace fg1 := fg1.st st8 (by decide)
  replace hs := hs.loc0 st8 (by decide)
  have hk := hk.put 8 (.pointer (some ⟨bx9, 0, none⟩)) rfl
  refine wpListIn_nil ?_
  refine then_n ?_
  refine x_seq ?_
  refine wpIn_region_lit ?_
  refine x_run tab hk (k := 1) (lv := [.agg #[.slice Ap0_0 (p0.Cells).length cp0_0, .bool p0.Wrapped]]) (ks := [1, 2, 3, 8, 11]) (e' := [(1, .int .i64 p1), (2, .int .i32 p2), (3, .int .i64 p3), (8, .pointer (some ⟨bx9, 0, none⟩)), (11, .agg #[.slice Ap0_0 (p0.Cells).length cp0_0, .bool p0.Wrapped])]) rfl ⟨(load_box tab rfl rfl f5.now (k := 0) rfl rfl), trivial⟩ fun a hk => ?_
  refine x_op hk rfl ?_
  obtain ⟨t14, hc15, H⟩ := bindS H
  refine op_call hk ent_68 (vs := [.agg #[.slice Ap0_0 (p0.Cells).length cp0_0, .bool p0.Wrapped]]) rfl (row_Row_cells_calls Ap0_0 cp0_0 p0 _ o7 _ f900000 hcp0_0 3  _ hc15) ?_
  rintro _ w16 ⟨o17, A19, c20, rfl, st18, f21, hc22⟩
  replace f10 := f10.st st18 (by decide)
  replace f900000 := f900000.st st18 (by decide)
  replace fg0 := fg0.st st18 (by decide)
  replace fg1 := fg1.st st18 (by decide)
  replace hs := hs.loc0 st18 (by decide)
  have hk := hk.put 12 (.slice A19 (t14).length c20) rfl
  refine x_run tab hk (k := 1) (lv := []) (ks := [1, 2, 3, 8, 9]) (e' := [(1, .int .i64 p1), (2, .int .i32 p2), (3, .int .i64 p3), (8, .pointer (some ⟨bx9, 0, none⟩)), (9, .slice A19 (t14).length c20)]) rfl trivial fun a hk => ?_
  refine wpListIn_nil ?_
  refine then_n ?_
  refine x_seq ?_
  refine wpIn_region_lit ?_
  refine x_run tab hk (k := 1) (lv := []) (ks := [1, 2, 3, 8, 9, 13]) (e' := [(1, .int .i64 p1), (2, .int .i32 p2), (3, .int .i64 p3), (8, .pointer (some ⟨bx9, 0, none⟩)), (9, .slice A19 (t14).length c20), (13, .int .i32 p2)]) rfl trivial fun a hk => ?_
  refine x_op hk rfl ?_
  obtain ⟨t26, hc27, H⟩ := bindS H
  refine op_call hk ent_32 (vs := [.int .i32 p2]) rfl (wide_Of_calls K p2 _ o17 0 fg0 0 fg1   _ hc27) ?_
  rintro _ w28 ⟨o29, rfl, st30⟩
  replace f10 := f10.st st30 (by decide)
  replace f21 := f21.st st30 (by decide)
  replace fg0 := fg0.st st30 (by decide)
  replace fg1 := fg1.st st30 (by decide)
  replace hs := hs.loc0 st30 (by decide)
  have hk := hk.put 14 (.int .i64 t26) rfl
  refine x_run tab hk (k := 1) (lv := []) (ks := [1, 2, 3, 8, 9, 10]) (e' := [(1, .int .i64 p1), (2, .int .i32 p2), (3, .int .i64 p3), (8, .pointer (some ⟨bx9, 0, none⟩)), (9, .slice A19 (t14).length c20), (10, .int .i64 t26)]) rfl trivial fun a hk => ?_
  refine wpListIn_nil ?_
  refine then_n ?_
  refine x_seq ?_
  refine wpIn_block ?_
  refine x_mid (fun a_ w_ => ∃ o39 : Nat → Nat, ∃ x40 : Bool, Kn 76 a_ [(1, .int .i64 p1), (2, .int .i32 p2), (3, .int .i64 p3), (8, .pointer (some ⟨bx9, 0, none⟩)), (9, .slice A19 (t14).length c20), (10, .int .i64 t26), (50, .bool x40)] ∧ St [] w (fun _ => 0) w_ o39 ∧ Ft (Bx bx9 66 [.slice none 0 0, .bool false]) w_ o39 4 ∧ Ft (Own ET77 78 (.slice A19 (t14).length c20) t14) w_ o39 5 ∧ Ft (RdC ET109 (some ⟨0, 0, none⟩) glob0) w_ o39 0 ∧ Ft (RdC ET109 (some ⟨1, 0, none⟩) glob1) w_ o39 0 ∧ row_Row_Put_j1 K p1 p2 p3 t14 t26 x40 = some r) ?_ ?_
  rotate_left
  · rintro a w41 ⟨o39, x40, hk, hs, f10, f21, fg0, fg1, H⟩
    rw [row_Row_Put_j1] at H
    cases b42 : x40
    · rw [b42] at hk H
      replace H := bifF H
      refine x_if hk (b := false) rfl ?_
      refine (show Code.wpIn _ _ _ _ _ _ _ from ?_)
      refine x_seq ?_
      refine wpIn_region_lit ?_
      refine x_run tab hk (k := 3) (lv := []) (ks := [1, 2, 3, 8, 9, 65]) (e' := [(1, .int .i64 p1), (2, .int .i32 p2), (3, .int .i64 p3), (8, .pointer (some ⟨bx9, 0, none⟩)), (9, .slice A19 (t14).length c20), (65, .bool (t26 == (1 : Int)))]) rfl trivial fun a hk => ?_
      refine wpListIn_nil ?_
      refine then_n ?_
      cases b43 : (t26 == (1 : Int))
      · rw [b43] at hk H
        replace H := bifF H
        refine x_if hk (b := false) rfl ?_
        refine (show Code.wpIn _ _ _ _ _ _ _ from ?_)
        refine x_seq ?_
        refine wpIn_region_lit ?_
        refine x_run tab hk (k := 10) (lv := []) (ks := [1, 8, 9, 15, 16, 17, 19, 22, 23, 24]) (e' := [(1, .int .i64 p1), (8, .pointer (some ⟨bx9, 0, none⟩)), (9, .slice A19 (t14).length c20), (15, .slice A19 (t14).length c20), (16, .int .i64 p1), (17, .slice A19 (t14).length c20), (19, .int .i64 (IntKind.wrap .i64 (p1 + 1))), (22, .agg #[.int .i32 p2, .int .i64 p3, .int .i64 1]), (23, .int .i32 p2), (24, .int .i64 p3)]) rfl trivial fun a hk => ?_
        obtain ⟨q44, H⟩ := ifS H
        obtain ⟨ad45, hAad45⟩ := RdC.addr (Own.rd f21.now) q44
        have hk_C := hk
        have f10_C := f10
        have f21_C := f21
        have fg0_C := fg0
        have fg1_C := fg1
        subst hAad45
        have hk := hk_C
        clear hk_C
        have f10 := f10_C
        clear f10_C
        have f21 := f21_C
        clear f21_C
        have fg0 := fg0_C
        clear fg0_C
        have fg1 := fg1_C
        clear fg1_C
        refine x_run tab hk (k := 2) (lv := []) (ks := [1, 8, 9, 17, 19, 22, 25, 26]) (e' := [(1, .int .i64 p1), (8, .pointer (some ⟨bx9, 0, none⟩)), (9, .slice (some ad45) (t14).length c20), (17, .slice (some ad45) (t14).length c20), (19, .int .i64 (IntKind.wrap .i64 (p1 + 1))), (22, .agg #[.int .i32 p2, .int .i64 p3, .int .i64 1]), (25, .agg #[.int .i32 p2, .int .i64 p3, .int .i64 2]), (26, .pointer (some (ad45.add (Int.toNat p1 * 3))))]) rfl ⟨q44, trivial⟩ fun a hk => ?_
        refine x_op hk rfl ?_
        refine op_storeO tab hk (E := ET77) (i := p1) (j := 0) (dx := zT77) (y' := (⟨p2, p3, 1⟩ : T77)) rfl rfl rfl f21 rfl q44 rfl rfl rfl rfl fun w46 o47 st48 f21_ => ?_
        replace f10 := f10.st st48 (by decide)
        replace fg0 := fg0.st st48 (by decide)
        replace fg1 := fg1.st st48 (by decide)
        replace hs := hs.loc0 st48 (by decide)
        replace f21 := f21_
        have hl49 : (List.set t14 (Int.toNat p1) (⟨p2, p3, 1⟩ : T77)).length = (t14).length := List.length_set
        replace hk := Kn.re hk [1, 8, 9, 17, 19, 22, 25] (e2 := [(1, .int .i64 p1), (8, .pointer (some ⟨bx9, 0, none⟩)), (9, .slice (some ad45) ((List.set t14 (Int.toNat p1) (⟨p2, p3, 1⟩ : T77))).length c20), (17, .slice (some ad45) ((List.set t14 (Int.toNat p1) (⟨p2, p3, 1⟩ : T77))).length c20), (19, .int .i64 (IntKind.wrap .i64 (p1 + 1))), (22, .agg #[.int .i32 p2, .int .i64 p3, .int .i64 1]), (25, .agg #[.int .i32 p2, .int .i64 p3, .int .i64 2])]) rfl (by rw [hl49])
        obtain ⟨q50, H⟩ := ifS H
        refine x_run tab hk (k := 1) (lv := []) (ks := [1, 8, 9, 25, 27]) (e' := [(1, .int .i64 p1), (8, .pointer (some ⟨bx9, 0, none⟩)), (9, .slice (some ad45) ((List.set t14 (Int.toNat p1) (⟨p2, p3, 1⟩ : T77))).length c20), (25, .agg #[.int .i32 p2, .int .i64 p3, .int .i64 2]), (27, .pointer (some (ad45.add (Int.toNat (IntKind.wrap .i64 (p1 + 1)) * 3))))]) rfl ⟨q50, trivial⟩ fun a hk => ?_
        refine x_op hk rfl ?_
        refine op_storeO tab hk (E := ET77) (i := (IntKind.wrap .i64 (p1 + 1))) (j := 0) (dx := zT77) (y' := (⟨p2, p3, 2⟩ : T77)) rfl rfl rfl f21 rfl q50 rfl rfl rfl rfl fun w51 o52 st53 f21_ => ?_
        replace f10 := f10.st st53 (by decide)
        replace fg0 := fg0.st st53 (by decide)
        replace fg1 := fg1.st st53 (by decide)
        replace hs := hs.loc0 st53 (by decide)
        replace f21 := f21_
        have hl54 : (List.set (List.set t14 (Int.toNat p1) (⟨p2, p3, 1⟩ : T77)) (Int.toNat (IntKind.wrap .i64 (p1 + 1))) (⟨p2, p3, 2⟩ : T77)).length = ((List.set t14 (Int.toNat p1) (⟨p2, p3, 1⟩ : T77))).length := List.length_set
        replace hk := Kn.re hk [1, 8, 9, 25] (e2 := [(1, .int .i64 p1), (8, .pointer (some ⟨bx9, 0, none⟩)), (9, .slice (some ad45) ((List.set (List.set t14 (Int.toNat p1) (⟨p2, p3, 1⟩ : T77)) (Int.toNat (IntKind.wrap .i64 (p1 + 1))) (⟨p2, p3, 2⟩ : T77))).length c20), (25, .agg #[.int .i32 p2, .int .i64 p3, .int .i64 2])]) rfl (by rw [hl54])
        refine wpListIn_nil ?_
        refine then_n ?_
        refine x_mid (fun a_ w_ => ∃ o63 : Nat → Nat, ∃ x64 : Bool, Kn 76 a_ [(1, .int .i64 p1), (8, .pointer (some ⟨bx9, 0, none⟩)), (9, .slice (some ad45) ((List.set (List.set t14 (Int.toNat p1) (⟨p2, p3, 1⟩ : T77)) (Int.toNat (IntKind.wrap .i64 (p1 + 1))) (⟨p2, p3, 2⟩ : T77))).length c20), (38, .bool x64)] ∧ St [] w (fun _ => 0) w_ o63 ∧ Ft (Bx bx9 66 [.slice none 0 0, .bool false]) w_ o63 6 ∧ Ft (Own ET77 78 (.slice (some ad45) ((List.set (List.set t14 (Int.toNat p1) (⟨p2, p3, 1⟩ : T77)) (Int.toNat (IntKind.wrap .i64 (p1 + 1))) (⟨p2, p3, 2⟩ : T77))).length c20) (List.set (List.set t14 (Int.toNat p1) (⟨p2, p3, 1⟩ : T77)) (Int.toNat (IntKind.wrap .i64 (p1 + 1))) (⟨p2, p3, 2⟩ : T77))) w_ o63 7 ∧ Ft (RdC ET109 (some ⟨0, 0, none⟩) glob0) w_ o63 0 ∧ Ft (RdC ET109 (some ⟨1, 0, none⟩) glob1) w_ o63 0 ∧ row_Row_Put_j2 K p1 p2 p3 t14 x64 = some r) ?_ ?_
        rotate_left
        · rintro a w65 ⟨o63, x64, hk, hs, f10, f21, fg0, fg1, H⟩
          rw [row_Row_Put_j2] at H
          cases b66 : x64
          · rw [b66] at hk H
            replace H := bifF H
            refine x_if hk (b := false) rfl ?_
            refine (show Code.wpIn _ _ _ _ _ _ _ from ?_)
            refine wpIn_skip ?_
            refine blk_n ?_
            refine then_n ?_
            refine x_seq ?_
            refine wpIn_region_lit ?_
            refine x_run tab hk (k := 1) (lv := []) (ks := [8, 74]) (e' := [(8, .pointer (some ⟨bx9, 0, none⟩)), (74, .slice (some ad45) ((List.set (List.set t14 (Int.toNat p1) (⟨p2, p3, 1⟩ : T77)) (Int.toNat (IntKind.wrap .i64 (p1 + 1))) (⟨p2, p3, 2⟩ : T77))).length c20)]) rfl trivial fun a hk => ?_
            refine x_op hk rfl ?_
            obtain ⟨t70, hc71, H⟩ := bindS H
            refine op_call hk ent_69 (vs := [.slice (some ad45) ((List.set (List.set t14 (Int.toNat p1) (⟨p2, p3, 1⟩ : T77)) (Int.toNat (IntKind.wrap .i64 (p1 + 1))) (⟨p2, p3, 2⟩ : T77))).length c20]) rfl (row_mend_calls K (some ad45) c20 (List.set (List.set t14 (Int.toNat p1) (⟨p2, p3, 1⟩ : T77)) (Int.toNat (IntKind.wrap .i64 (p1 + 1))) (⟨p2, p3, 2⟩ : T77)) _ o63 7 f21 (by rw [List.length_set]; exact (by rw [List.length_set]; exact hc22)) (by decide)   _ hc71) ?_
            rintro _ w72 ⟨o73, A75, c76, rfl, st74, f77, hc78⟩
            replace f10 := f10.st st74 (by decide)
            replace fg0 := fg0.st st74 (by decide)
            replace fg1 := fg1.st st74 (by decide)
            replace hs := hs.loc0 st74 (by decide)
            have hk := hk.put 75 (.agg #[.slice A75 (t70.Cells).length c76, .bool t70.Wrapped]) rfl
            refine x_op hk rfl ?_
            refine op_store tab hk (t := 66) (v := .agg #[.slice A75 (t70.Cells).length c76, .bool t70.Wrapped]) (b := bx9) (k := 0) (cs' := [.slice A75 (t70.Cells).length c76, .bool t70.Wrapped]) rfl rfl rfl rfl rfl rfl f10 rfl rfl fun w79 o80 st81 f10_ => ?_
            replace f77 := f77.st st81 (by decide)
            replace fg0 := fg0.st st81 (by decide)
            replace fg1 := fg1.st st81 (by decide)
            replace hs := hs.loc0 st81 (by decide)
            replace f10 := f10_
            refine wpListIn_nil ?_
            refine then_n ?_
            refine wpIn_ret ?_
            obtain rfl := Option.some.inj H
            exact x_retG hk (rs := [.cell 8 66]) (vs := [.agg #[.slice A75 (t70.Cells).length c76, .bool t70.Wrapped]]) rfl ⟨⟨_, rfl, load_box tab rfl rfl f10.now (k := 0) rfl rfl⟩, trivial⟩ ⟨fun b_ => if b_ < w.heap.size then o b_ else (fun _ => R0) (o80 b_), A75, c76, rfl, hs.close0 o (fun _ => R0), hs.close_ft (o := o) (ρ := fun _ => R0) f77 (by decide) rfl, hc78⟩
          · rw [b66] at hk H
            replace H := bifT H
            refine x_if hk (b := true) rfl ?_
            refine (show Code.wpIn _ _ _ _ _ _ _ from ?_)
            refine wpIn_region_lit ?_
            obtain ⟨q82, H⟩ := ifS H
            refine x_run tab hk (k := 9) (lv := [.int .i64 ((rdD zT77 (List.set (List.set t14 (Int.toNat p1) (⟨p2, p3, 1⟩ : T77)) (Int.toNat (IntKind.wrap .i64 (p1 + 1))) (⟨p2, p3, 2⟩ : T77)) (IntKind.wrap .i64 (p1 - 1))).Style)]) (ks := [8, 9, 39, 41, 47]) (e' := [(8, .pointer (some ⟨bx9, 0, none⟩)), (9, .slice (some ad45) ((List.set (List.set t14 (Int.toNat p1) (⟨p2, p3, 1⟩ : T77)) (Int.toNat (IntKind.wrap .i64 (p1 + 1))) (⟨p2, p3, 2⟩ : T77))).length c20), (39, .slice (some ad45) ((List.set (List.set t14 (Int.toNat p1) (⟨p2, p3, 1⟩ : T77)) (Int.toNat (IntKind.wrap .i64 (p1 + 1))) (⟨p2, p3, 2⟩ : T77))).length c20), (41, .int .i64 (IntKind.wrap .i64 (p1 - 1))), (47, .int .i64 ((rdD zT77 (List.set (List.set t14 (Int.toNat p1) (⟨p2, p3, 1⟩ : T77)) (Int.toNat (IntKind.wrap .i64 (p1 + 1))) (⟨p2, p3, 2⟩ : T77)) (IntKind.wrap .i64 (p1 - 1))).Style))]) rfl ⟨q82, (load1 tab rfl (RdC.at (E := ET77) (d := zT77) (i := (IntKind.wrap .i64 (p1 - 1))) (j := 1) (Own.rd f21.now) q82 rfl)), trivial⟩ fun a hk => ?_
            refine x_op hk rfl ?_
            obtain ⟨t86, hc87, H⟩ := bindS H
            refine op_call hk ent_30 (vs := [.int .i64 ((rdD zT77 (List.set (List.set t14 (Int.toNat p1) (⟨p2, p3, 1⟩ : T77)) (Int.toNat (IntKind.wrap .i64 (p1 + 1))) (⟨p2, p3, 2⟩ : T77)) (IntKind.wrap .i64 (p1 - 1))).Style)]) rfl (row_blank_calls ((rdD zT77 (List.set (List.set t14 (Int.toNat p1) (⟨p2, p3, 1⟩ : T77)) (Int.toNat (IntKind.wrap .i64 (p1 + 1))) (⟨p2, p3, 2⟩ : T77)) (IntKind.wrap .i64 (p1 - 1))).Style) _ o63    _ hc87) ?_
            rintro _ w88 ⟨o89, rfl, st90⟩
            replace f10 := f10.st st90 (by decide)
            replace f21 := f21.st st90 (by decide)
            replace fg0 := fg0.st st90 (by decide)
            replace fg1 := fg1.st st90 (by decide)
            replace hs := hs.loc0 st90 (by decide)
            have hk := hk.put 48 (.agg #[.int .i32 t86.Rune, .int .i64 t86.Style, .int .i64 t86.Part]) rfl
            refine x_run tab hk (k := 1) (lv := []) (ks := [8, 9, 48, 49]) (e' := [(8, .pointer (some ⟨bx9, 0, none⟩)), (9, .slice (some ad45) ((List.set (List.set t14 (Int.toNat p1) (⟨p2, p3, 1⟩ : T77)) (Int.toNat (IntKind.wrap .i64 (p1 + 1))) (⟨p2, p3, 2⟩ : T77))).length c20), (48, .agg #[.int .i32 t86.Rune, .int .i64 t86.Style, .int .i64 t86.Part]), (49, .pointer (some (ad45.add (Int.toNat (IntKind.wrap .i64 (p1 - 1)) * 3))))]) rfl ⟨q82, trivial⟩ fun a hk => ?_
            refine x_op hk rfl ?_
            refine op_storeO tab hk (E := ET77) (i := (IntKind.wrap .i64 (p1 - 1))) (j := 0) (dx := zT77) (y' := t86) rfl rfl rfl f21 rfl q82 rfl rfl rfl rfl fun w91 o92 st93 f21_ => ?_
            replace f10 := f10.st st93 (by decide)
            replace fg0 := fg0.st st93 (by decide)
            replace fg1 := fg1.st st93 (by decide)
            replace hs := hs.loc0 st93 (by decide)
            replace f21 := f21_
            have hl94 : (List.set (List.set (List.set t14 (Int.toNat p1) (⟨p2, p3, 1⟩ : T77)) (Int.toNat (IntKind.wrap .i64 (p1 + 1))) (⟨p2, p3, 2⟩ : T77)) (Int.toNat (IntKind.wrap .i64 (p1 - 1))) t86).length = ((List.set (List.set t14 (Int.toNat p1) (⟨p2, p3, 1⟩ : T77)) (Int.toNat (IntKind.wrap .i64 (p1 + 1))) (⟨p2, p3, 2⟩ : T77))).length := List.length_set
            replace hk := Kn.re hk [8, 9, 48] (e2 := [(8, .pointer (some ⟨bx9, 0, none⟩)), (9, .slice (some ad45) ((List.set (List.set (List.set t14 (Int.toNat p1) (⟨p2, p3, 1⟩ : T77)) (Int.toNat (IntKind.wrap .i64 (p1 + 1))) (⟨p2, p3, 2⟩ : T77)) (Int.toNat (IntKind.wrap .i64 (p1 - 1))) t86)).length c20), (48, .agg #[.int .i32 t86.Rune, .int .i64 t86.Style, .int .i64 t86.Part])]) rfl (by rw [hl94])
            refine wpListIn_nil ?_
            refine blk_n ?_
            refine then_n ?_
            refine x_seq ?_
            refine wpIn_region_lit ?_
            refine x_run tab hk (k := 1) (lv := []) (ks := [8, 74]) (e' := [(8, .pointer (some ⟨bx9, 0, none⟩)), (74, .slice (some ad45) ((List.set (List.set (List.set t14 (Int.toNat p1) (⟨p2, p3, 1⟩ : T77)) (Int.toNat (IntKind.wrap .i64 (p1 + 1))) (⟨p2, p3, 2⟩ : T77)) (Int.toNat (IntKind.wrap .i64 (p1 - 1))) t86)).length c20)]) rfl trivial fun a hk => ?_
            refine x_op hk rfl ?_
            obtain ⟨t98, hc99, H⟩ := bindS H
            refine op_call hk ent_69 (vs := [.slice (some ad45) ((List.set (List.set (List.set t14 (Int.toNat p1) (⟨p2, p3, 1⟩ : T77)) (Int.toNat (IntKind.wrap .i64 (p1 + 1))) (⟨p2, p3, 2⟩ : T77)) (Int.toNat (IntKind.wrap .i64 (p1 - 1))) t86)).length c20]) rfl (row_mend_calls K (some ad45) c20 (List.set (List.set (List.set t14 (Int.toNat p1) (⟨p2, p3, 1⟩ : T77)) (Int.toNat (IntKind.wrap .i64 (p1 + 1))) (⟨p2, p3, 2⟩ : T77)) (Int.toNat (IntKind.wrap .i64 (p1 - 1))) t86) _ o92 7 f21 (by rw [List.length_set]; exact (by rw [List.length_set]; exact (by rw [List.length_set]; exact hc22))) (by decide)   _ hc99) ?_
            rintro _ w100 ⟨o101, A103, c104, rfl, st102, f105, hc106⟩
            replace f10 := f10.st st102 (by decide)
            replace fg0 := fg0.st st102 (by decide)
            replace fg1 := fg1.st st102 (by decide)
            replace hs := hs.loc0 st102 (by decide)
            have hk := hk.put 75 (.agg #[.slice A103 (t98.Cells).length c104, .bool t98.Wrapped]) rfl
            refine x_op hk rfl ?_
            refine op_store tab hk (t := 66) (v := .agg #[.slice A103 (t98.Cells).length c104, .bool t98.Wrapped]) (b := bx9) (k := 0) (cs' := [.slice A103 (t98.Cells).length c104, .bool t98.Wrapped]) rfl rfl rfl rfl rfl rfl f10 rfl rfl fun w107 o108 st109 f10_ => ?_
            replace f105 := f105.st st109 (by decide)
            replace fg0 := fg0.st st109 (by decide)
            replace fg1 := fg1.st st109 (by decide)
            replace hs := hs.loc0 st109 (by decide)
            replace f10 := f10_
            refine wpListIn_nil ?_
            refine then_n ?_
            refine wpIn_ret ?_
            obtain rfl := Option.some.inj H
            exact x_retG hk (rs := [.cell 8 66]) (vs := [.agg #[.slice A103 (t98.Cells).length c104, .bool t98.Wrapped]]) rfl ⟨⟨_, rfl, load_box tab rfl rfl f10.now (k := 0) rfl rfl⟩, trivial⟩ ⟨fun b_ => if b_ < w.heap.size then o b_ else (fun _ => R0) (o108 b_), A103, c104, rfl, hs.close0 o (fun _ => R0), hs.close_ft (o := o) (ρ := fun _ => R0) f105 (by decide) rfl, hc106⟩
        refine wpIn_region_lit ?_
        refine x_run tab hk (k := 3) (lv := []) (ks := [1, 8, 9, 30]) (e' := [(1, .int .i64 p1), (8, .pointer (some ⟨bx9, 0, none⟩)), (9, .slice (some ad45) ((List.set (List.set t14 (Int.toNat p1) (⟨p2, p3, 1⟩ : T77)) (Int.toNat (IntKind.wrap .i64 (p1 + 1))) (⟨p2, p3, 2⟩ : T77))).length c20), (30, .bool (decide (p1 > (0 : Int))))]) rfl trivial fun a hk => ?_
        cases b110 : (decide (p1 > (0 : Int)))
        · rw [b110] at hk H
          replace H := bifF H
          refine x_run tab hk (k := 8) (lv := []) (ks := [1, 8, 9, 38]) (e' := [(1, .int .i64 p1), (8, .pointer (some ⟨bx9, 0, none⟩)), (9, .slice (some ad45) ((List.set (List.set t14 (Int.toNat p1) (⟨p2, p3, 1⟩ : T77)) (Int.toNat (IntKind.wrap .i64 (p1 + 1))) (⟨p2, p3, 2⟩ : T77))).length c20), (38, .bool false)]) rfl trivial fun a hk => ?_
          refine wpListIn_nil ?_
          refine then_n ?_
          exact ⟨(fun b_ => R_58 (o52 b_)), false, (by exact Kn.pick (ks := [1, 8, 9, 38]) hk rfl), (hs.relab0 R_58 rfl), (f10.relab R_58 rfl), (f21.relab R_58 rfl), (fg0.relab R_58 rfl), (fg1.relab R_58 rfl), H⟩
        · rw [b110] at hk H
          replace H := bifT H
          obtain ⟨q111, H⟩ := ifS H
          refine x_run tab hk (k := 8) (lv := [.int .i64 ((rdD zT77 (List.set (List.set t14 (Int.toNat p1) (⟨p2, p3, 1⟩ : T77)) (Int.toNat (IntKind.wrap .i64 (p1 + 1))) (⟨p2, p3, 2⟩ : T77)) (IntKind.wrap .i64 (p1 - 1))).Part)]) (ks := [1, 8, 9, 38]) (e' := [(1, .int .i64 p1), (8, .pointer (some ⟨bx9, 0, none⟩)), (9, .slice (some ad45) ((List.set (List.set t14 (Int.toNat p1) (⟨p2, p3, 1⟩ : T77)) (Int.toNat (IntKind.wrap .i64 (p1 + 1))) (⟨p2, p3, 2⟩ : T77))).length c20), (38, .bool (((rdD zT77 (List.set (List.set t14 (Int.toNat p1) (⟨p2, p3, 1⟩ : T77)) (Int.toNat (IntKind.wrap .i64 (p1 + 1))) (⟨p2, p3, 2⟩ : T77)) (IntKind.wrap .i64 (p1 - 1))).Part) == (1 : Int)))]) rfl ⟨q111, (load1 tab rfl (RdC.at (E := ET77) (d := zT77) (i := (IntKind.wrap .i64 (p1 - 1))) (j := 2) (Own.rd f21.now) q111 rfl)), trivial⟩ fun a hk => ?_
          refine wpListIn_nil ?_
          refine then_n ?_
          exact ⟨(fun b_ => R_58 (o52 b_)), (((rdD zT77 (List.set (List.set t14 (Int.toNat p1) (⟨p2, p3, 1⟩ : T77)) (Int.toNat (IntKind.wrap .i64 (p1 + 1))) (⟨p2, p3, 2⟩ : T77)) (IntKind.wrap .i64 (p1 - 1))).Part) == (1 : Int)), (by exact Kn.pick (ks := [1, 8, 9, 38]) hk rfl), (hs.relab0 R_58 rfl), (f10.relab R_58 rfl), (f21.relab R_58 rfl), (fg0.relab R_58 rfl), (fg1.relab R_58 rfl), H⟩
      · rw [b43] at hk H
        replace H := bifT H
        refine x_if hk (b := true) rfl ?_
        refine (show Code.wpIn _ _ _ _ _ _ _ from ?_)
        refine wpIn_region_lit ?_
        obtain ⟨q112, H⟩ := ifS H
        obtain ⟨ad113, hAad113⟩ := RdC.addr (Own.rd f21.now) q112
        have hk_C := hk
        have f10_C := f10
        have f21_C := f21
        have fg0_C := fg0
        have fg1_C := fg1
        subst hAad113
        have hk := hk_C
        clear hk_C
        have f10 := f10_C
        clear f10_C
        have f21 := f21_C
        clear f21_C
        have fg0 := fg0_C
        clear fg0_C
        have fg1 := fg1_C
        clear fg1_C
        refine x_run tab hk (k := 6) (lv := []) (ks := [8, 9, 72, 73]) (e' := [(8, .pointer (some ⟨bx9, 0, none⟩)), (9, .slice (some ad113) (t14).length c20), (72, .agg #[.int .i32 p2, .int .i64 p3, .int .i64 0]), (73, .pointer (some (ad113.add (Int.toNat p1 * 3))))]) rfl ⟨q112, trivial⟩ fun a hk => ?_
        refine x_op hk rfl ?_
        refine op_storeO tab hk (E := ET77) (i := p1) (j := 0) (dx := zT77) (y' := (⟨p2, p3, 0⟩ : T77)) rfl rfl rfl f21 rfl q112 rfl rfl rfl rfl fun w114 o115 st116 f21_ => ?_
        replace f10 := f10.st st116 (by decide)
        replace fg0 := fg0.st st116 (by decide)
        replace fg1 := fg1.st st116 (by decide)
        replace hs := hs.loc0 st116 (by decide)
        replace f21 := f21_
        have hl117 : (List.set t14 (Int.toNat p1) (⟨p2, p3, 0⟩ : T77)).length = (t14).length := List.length_set
        replace hk := Kn.re hk [8, 9, 72] (e2 := [(8, .pointer (some ⟨bx9, 0, none⟩)), (9, .slice (some ad113) ((List.set t14 (Int.toNat p1) (⟨p2, p3, 0⟩ : T77))).length c20), (72, .agg #[.int .i32 p2, .int .i64 p3, .int .i64 0])]) rfl (by rw [hl117])
        refine wpListIn_nil ?_
        refine blk_n ?_
        refine then_n ?_
        refine x_seq ?_
        refine wpIn_region_lit ?_
        refine x_run tab hk (k := 1) (lv := []) (ks := [8, 74]) (e' := [(8, .pointer (some ⟨bx9, 0, none⟩)), (74, .slice (some ad113) ((List.set t14 (Int.toNat p1) (⟨p2, p3, 0⟩ : T77))).length c20)]) rfl trivial fun a hk => ?_
        refine x_op hk rfl ?_
        obtain ⟨t121, hc122, H⟩ := bindS H
        refine op_call hk ent_69 (vs := [.slice (some ad113) ((List.set t14 (Int.toNat p1) (⟨p2, p3, 0⟩ : T77))).length c20]) rfl (row_mend_calls K (some ad113) c20 (List.set t14 (Int.toNat p1) (⟨p2, p3, 0⟩ : T77)) _ o115 5 f21 (by rw [List.length_set]; exact hc22) (by decide)   _ hc122) ?_
        rintro _ w123 ⟨o124, A126, c127, rfl, st125, f128, hc129⟩
        replace f10 := f10.st st125 (by decide)
        replace fg0 := fg0.st st125 (by decide)
        replace fg1 := fg1.st st125 (by decide)
        replace hs := hs.loc0 st125 (by decide)
        have hk := hk.put 75 (.agg #[.slice A126 (t121.Cells).length c127, .bool t121.Wrapped]) rfl
        refine x_op hk rfl ?_
        refine op_store tab hk (t := 66) (v := .agg #[.slice A126 (t121.Cells).length c127, .bool t121.Wrapped]) (b := bx9) (k := 0) (cs' := [.slice A126 (t121.Cells).length c127, .bool t121.Wrapped]) rfl rfl rfl rfl rfl rfl f10 rfl rfl fun w130 o131 st132 f10_ => ?_
        replace f128 := f128.st st132 (by decide)
        replace fg0 := fg0.st st132 (by decide)
        replace fg1 := fg1.st st132 (by decide)
        replace hs := hs.loc0 st132 (by decide)
        replace f10 := f10_
        refine wpListIn_nil ?_
        refine then_n ?_
        refine wpIn_ret ?_
        obtain rfl := Option.some.inj H
        exact x_retG hk (rs := [.cell 8 66]) (vs := [.agg #[.slice A126 (t121.Cells).length c127, .bool t121.Wrapped]]) rfl ⟨⟨_, rfl, load_box tab rfl rfl f10.now (k := 0) rfl rfl⟩, trivial⟩ ⟨fun b_ => if b_ < w.heap.size then o b_ else (fun _ => R0) (o131 b_), A126, c127, rfl, hs.close0 o (fun _ => R0), hs.close_ft (o := o) (ρ := fun _ => R0) f128 (by decide) rfl, hc129⟩
    · rw [b42] at hk H
      replace H := bifT H
      refine x_if hk (b := true) rfl ?_
      refine (show Code.wpIn _ _ _ _ _ _ _ from ?_)
      refine wpIn_skip ?_
      refine blk_n ?_
      refine then_n ?_
      refine x_seq ?_
      refine wpIn_region_lit ?_
      refine x_run tab hk (k := 1) (lv := []) (ks := [8, 74]) (e' := [(8, .pointer (some ⟨bx9, 0, none⟩)), (74, .slice A19 (t14).length c20)]) rfl trivial fun a hk => ?_
      refine x_op hk rfl ?_
      obtain ⟨t136, hc137, H⟩ := bindS H
      refine op_call hk ent_69 (vs := [.slice A19 (t14).length c20]) rfl (row_mend_calls K A19 c20 t14 _ o39 5 f21 hc22 (by decide)   _ hc137) ?_
      rintro _ w138 ⟨o139, A141, c142, rfl, st140, f143, hc144⟩
      replace f10 := f10.st st140 (by decide)
      replace fg0 := fg0.st st140 (by decide)
      replace fg1 := fg1.st st140 (by decide)
      replace hs := hs.loc0 st140 (by decide)
      have hk := hk.put 75 (.agg #[.slice A141 (t136.Cells).length c142, .bool t136.Wrapped]) rfl
      refine x_op hk rfl ?_
      refine op_store tab hk (t := 66) (v := .agg #[.slice A141 (t136.Cells).length c142, .bool t136.Wrapped]) (b := bx9) (k := 0) (cs' := [.slice A141 (t136.Cells).length c142, .bool t136.Wrapped]) rfl rfl rfl rfl rfl rfl f10 rfl rfl fun w145 o146 st147 f10_ => ?_
      replace f143 := f143.st st147 (by decide)
      replace fg0 := fg0.st st147 (by decide)
      replace fg1 := fg1.st st147 (by decide)
      replace hs := hs.loc0 st147 (by decide)
      replace f10 := f10_
      refine wpListIn_nil ?_
      refine then_n ?_
      refine wpIn_ret ?_
      obtain rfl := Option.some.inj H
      exact x_retG hk (rs := [.cell 8 66]) (vs := [.agg #[.slice A141 (t136.Cells).length c142, .bool t136.Wrapped]]) rfl ⟨⟨_, rfl, load_box tab rfl rfl f10.now (k := 0) rfl rfl⟩, trivial⟩ ⟨fun b_ => if b_ < w.heap.size then o b_ else (fun _ => R0) (o146 b_), A141, c142, rfl, hs.close0 o (fun _ => R0), hs.close_ft (o := o) (ρ := fun _ => R0) f143 (by decide) rfl, hc144⟩
  refine wpIn_region_lit ?_
  refine x_run tab hk (k := 3) (lv := []) (ks := [1, 2, 3, 8, 9, 10, 53]) (e' := [(1, .int .i64 p1), (2, .int .i32 p2), (3, .int .i64 p3), (8, .pointer (some ⟨bx9, 0, none⟩)), (9, .slice A19 (t14).length c20), (10, .int .i64 t26), (53, .bool (t26 == (0 : Int)))]) rfl trivial fun a hk => ?_
  cases b148 : (t26 == (0 : Int))
  · rw [b148] at hk H
    replace H := bifF H
    refine x_run tab hk (k := 4) (lv := []) (ks := [1, 2, 3, 8, 9, 10, 57]) (e' := [(1, .int .i64 p1), (2, .int .i32 p2), (3, .int .i64 p3), (8, .pointer (some ⟨bx9, 0, none⟩)), (9, .slice A19 (t14).length c20), (10, .int .i64 t26), (57, .bool (decide (p1 < (0 : Int))))]) rfl trivial fun a hk => ?_
    cases b149 : (decide (p1 < (0 : Int)))
    · rw [b149] at hk H
      replace H := bifF H
      refine x_run tab hk (k := 8) (lv := []) (ks := [1, 2, 3, 8, 9, 10, 50]) (e' := [(1, .int .i64 p1), (2, .int .i32 p2), (3, .int .i64 p3), (8, .pointer (some ⟨bx9, 0, none⟩)), (9, .slice A19 (t14).length c20), (10, .int .i64 t26), (50, .bool (decide (p1 > (IntKind.wrap .i64 (((t14).length : Int) - t26)))))]) rfl trivial fun a hk => ?_
      refine wpListIn_nil ?_
      refine then_n ?_
      exact ⟨(fun b_ => R_59 (o29 b_)), (decide (p1 > (IntKind.wrap .i64 (((t14).length : Int) - t26)))), (by exact Kn.pick (ks := [1, 2, 3, 8, 9, 10, 50]) hk rfl), (hs.relab0 R_59 rfl), (f10.relab R_59 rfl), (f21.relab R_59 rfl), (fg0.relab R_59 rfl), (fg1.relab R_59 rfl), H⟩
    · rw [b149] at hk H
      replace H := bifT H
      refine x_run tab hk (k := 8) (lv := []) (ks := [1, 2, 3, 8, 9, 10, 50]) (e' := [(1, .int .i64 p1), (2, .int .i32 p2), (3, .int .i64 p3), (8, .pointer (some ⟨bx9, 0, none⟩)), (9, .slice A19 (t14).length c20), (10, .int .i64 t26), (50, .bool true)]) rfl trivial fun a hk => ?_
      refine wpListIn_nil ?_
      refine then_n ?_
      exact ⟨(fun b_ => R_59 (o29 b_)), true, (by exact Kn.pick (ks := [1, 2, 3, 8, 9, 10, 50]) hk rfl), (hs.relab0 R_59 rfl), (f10.relab R_59 rfl), (f21.relab R_59 rfl), (fg0.relab R_59 rfl), (fg1.relab R_59 rfl), H⟩
  · rw [b148] at hk H
    replace H := bifT H
    refine x_run tab hk (k := 10) (lv := []) (ks := [1, 2, 3, 8, 9, 10, 57, 63]) (e' := [(1, .int .i64 p1), (2, .int .i32 p2), (3, .int .i64 p3), (8, .pointer (some ⟨bx9, 0, none⟩)), (9, .slice A19 (t14).length c20), (10, .int .i64 t26), (57, .bool true), (63, undef)]) rfl trivial fun a hk => ?_
    refine x_run tab hk (k := 2) (lv := []) (ks := [1, 2, 3, 8, 9, 10, 50]) (e' := [(1, .int .i64 p1), (2, .int .i32 p2), (3, .int .i64 p3), (8, .pointer (some ⟨bx9, 0, none⟩)), (9, .slice A19 (t14).length c20), (10, .int .i64 t26), (50, .bool true)]) rfl trivial fun a hk => ?_
    refine wpListIn_nil ?_
    refine then_n ?_
    exact ⟨(fun b_ => R_59 (o29 b_)), true, (by exact Kn.pick (ks := [1, 2, 3, 8, 9, 10, 50]) hk rfl), (hs.relab0 R_59 rfl), (f10.relab R_59 rfl), (f21.relab R_59 rfl), (fg0.relab R_59 rfl), (fg1.relab R_59 rfl), H⟩

/-! (*tidewrack/screen.Screen).print$3 -/
abbrev R_60 (LF R0 : Nat) (l_ : Nat) : Nat := if l_ = 1 then LF else if l_ = 7 then R0 else 0
set_option maxHeartbeats 4000000 in
set_option maxRecDepth 20000 in
theorem screen_Screen_print_3_calls (K : Nat) (Ap0_0 : Option Addr) (cp0_0 : Nat) (p0 : T65) (bp1 : Nat) (bq1 : Nat) (bs1_0 : Nat) (Aq1_0 : Option Addr) (cq1_0 : Nat) (p1 : T55) (bp2 : Nat) (p2 : Int) (w : World) (o : Nat → Nat) (LF : Nat) (Lg0 : Nat) (hg0 : Ft (RdC ET109 (some ⟨0, 0, none⟩) glob0) w o Lg0) (Lg1 : Nat) (hg1 : Ft (RdC ET109 (some ⟨1, 0, none⟩) glob1) w o Lg1) (Lp0_0 : Nat) (hp0_0 : Ft (RdC ET77 Ap0_0 p0.Cells) w o Lp0_0) (hcp0_0 : (p0.Cells).length ≤ cp0_0) (Lp1 : Nat) (hp1 : Ft (Bx bp1 23 [.pointer (some ⟨bq1, 0, none⟩)]) w o Lp1) (Lq1 : Nat) (hq1 : Ft (Bx bq1 56 [.pointer (some ⟨bs1_0, 0, none⟩), .int .i64 p1.spot_x, .int .i64 p1.spot_y, .int .i64 p1.spot_style_Fore, .int .i64 p1.spot_style_Back, .bool p1.spot_style_Bold, .bool p1.spot_style_Under, .bool p1.spot_style_Inverse, .int .i64 p1.saved_x, .int .i64 p1.saved_y, .int .i64 p1.saved_style_Fore, .int .i64 p1.saved_style_Back, .bool p1.saved_style_Bold, .bool p1.saved_style_Under, .bool p1.saved_style_Inverse, .bool p1.waiting, .int .i64 p1.top, .int .i64 p1.bottom, .bool p1.wraps, .string p1.title]) w o Lq1) (Lq1_0 : Nat) (hq1_0 : NRd dT65 Aq1_0 p1.g_l w o Lq1_0 LF) (hcq1_0 : (p1.g_l).length ≤ cq1_0) (Lbs1_0 : Nat) (hbs1_0 : Ft (Bx bs1_0 75 [.int .i64 p1.g_w, .slice Aq1_0 (p1.g_l).length cq1_0]) w o Lbs1_0) (Lp2 : Nat) (hp2 : Ft (Bx bp2 21 [.int .i32 p2]) w o Lp2) (hd0 : ([LF] : List Nat).Nodup) (hd1 : Lg0 ∉ [LF]) (hd2 : Lg1 ∉ [LF]) (hd3 : Lp0_0 ∉ [LF]) (hd4 : Lp1 ∉ [LF]) (hd5 : Lq1 ∉ [LF]) (hd6 : Lq1_0 ∉ [LF]) (hd7 : Lbs1_0 ∉ [LF]) (hd8 : Lp2 ∉ [LF]) (R0 : Nat) (r : T65) (H : screen_Screen_print_3 K p0 p1 p2 = some r) :
    Calls Tryz.prog 39 #[.agg #[.slice Ap0_0 (p0.Cells).length cp0_0, .bool p0.Wrapped], .pointer (some ⟨bp1, 0, none⟩), .pointer (some ⟨bp2, 0, none⟩)] w (Ret fun v_ w' => ∃ o' : Nat → Nat, ∃ A0 : Option Addr, ∃ c0 : Nat, v_ = .agg #[.slice A0 (r.Cells).length c0, .bool r.Wrapped] ∧ St [] w o w' o' ∧ Ft (Own ET77 78 (.slice A0 (r.Cells).length c0) r.Cells) w' o' R0 ∧ (r.Cells).length ≤ c0) := by
  refine x_enter (vs := [.agg #[.slice Ap0_0 (p0.Cells).length cp0_0, .bool p0.Wrapped], .pointer (some ⟨bp1, 0, none⟩), .pointer (some ⟨bp2, 0, none⟩)]) Tryz.func39 rfl rfl rfl fun a hk => ?_
  obtain ⟨oi, hs0, h0, h1, hob, hoz, hoa⟩ := St.startM2 w o (m := 1) hd0 rfl
  have hs := hs0 []
  have fg0 := h0 _ _ hd1 hg0
  have fg1 := h0 _ _ hd2 hg1
  have f900000 := h0 _ _ hd3 hp0_0
  have f9500020 := h0 _ _ hd4 hp1
  have f9600020 := h0 _ _ hd5 hq1
  have f9700400 := hq1_0.conv (fun P_ => h0 P_ _ hd6) (fun _ h_ => h1 0 1 h_ rfl rfl)
  have f9800400 := h0 _ _ hd7 hbs1_0
  have f9500040 := h0 _ _ hd8 hp2
  clear h0 h1 hs0
  rw [screen_Screen_print_3] at H
  refine x_seq ?_
  refine wpIn_region_lit ?_
  refine x_op hk rfl ?_
  refine op_box (o := oi) (t := 66) (v := .agg #[.slice Ap0_0 (p0.Cells).length cp0_0, .bool p0.Wrapped]) (cs := [.slice Ap0_0 (p0.Cells).length cp0_0, .bool p0.Wrapped]) hk rfl rfl 2 fun bx4 w1 o2 st3 f5 => ?_
  replace f900000 := f900000.st st3 (by decide)
  replace f9500020 := f9500020.st st3 (by decide)
  replace f9500040 := f9500040.st st3 (by decide)
  replace f9600020 := f9600020.st st3 (by decide)
  replace f9700400 := f9700400.st st3 (by decide)
  replace f9800400 := f9800400.st st3 (by decide)
  replace fg0 := fg0.st st3 (by decide)
  replace fg1 := fg1.st st3 (by decide)
  replace hs := hs.locQ st3 hob rfl
  have hk := hk.put 3 (.pointer (some ⟨bx4, 0, none⟩)) rfl
  refine x_op hk rfl ?_
  refine op_alloc (o := o2) tab (t := 66) (cs := [.slice none 0 0, .bool false]) rfl rfl 3 fun bx9 w6 o7 st8 f10 => ?_
  replace f5 := f5.st st8 (by decide)
  replace f900000 := f900000.st st8 (by decide)
  replace f9500020 := f9500020.st st8 (by decide)
  replace f9500040 := f9500040.st st8 (by decide)
  replace f9600020 := f9600020.st st8 (by decide)
  replace f9700400 := f9700400.st st8 (by decide)
  replace f9800400 := f9800400.st st8 (by decide)
  replace fg0 := fg0.st st8 (by decide)
  replace fg1 := fg1.st st8 (by decide)
  replace hs := hs.locQ st8 hob rfl
  have hk := hk.put 4 (.pointer (some ⟨bx9, 0, none⟩)) rfl
  refine wpListIn_nil ?_
  refine then_n ?_
  refine x_seq ?_
  obtain ⟨t34, hc35, H⟩ := bindS H
  obtain ⟨t42, hc43, H⟩ := bindS H
  refine xd_begin (o := o7) (fun W_ => (Bx bx4 66 [.slice Ap0_0 (p0.Cells).length cp0_0, .bool p0.Wrapped]) W_ ∧ (Bx bp1 23 [.pointer (some ⟨bq1, 0, none⟩)]) W_ ∧ (Bx bp2 21 [.int .i32 p2]) W_ ∧ (Bx bq1 56 [.pointer (some ⟨bs1_0, 0, none⟩), .int .i64 p1.spot_x, .int .i64 p1.spot_y, .int .i64 p1.spot_style_Fore, .int .i64 p1.spot_style_Back, .bool p1.spot_style_Bold, .bool p1.spot_style_Under, .bool p1.spot_style_Inverse, .int .i64 p1.saved_x, .int .i64 p1.saved_y, .int .i64 p1.saved_style_Fore, .int .i64 p1.saved_style_Back, .bool p1.saved_style_Bold, .bool p1.saved_style_Under, .bool p1.saved_style_Inverse, .bool p1.waiting, .int .i64 p1.top, .int .i64 p1.bottom, .bool p1.wraps, .string p1.title]) W_ ∧ True) mixed rfl rfl fun w73 st74 => ?_
  replace f10 := f10.st st74 (by decide)
  replace f5 := f5.st st74 (by decide)
  replace f900000 := f900000.st st74 (by decide)
  replace f9500020 := f9500020.st st74 (by decide)
  replace f9500040 := f9500040.st st74 (by decide)
  replace f9600020 := f9600020.st st74 (by decide)
  replace f9700400 := f9700400.st st74 (by decide)
  replace f9800400 := f9800400.st st74 (by decide)
  replace fg0 := fg0.st st74 (by decide)
  replace fg1 := fg1.st st74 (by decide)
  replace hs := hs.locQ st74 hob rfl
  refine xd_take tab hk (k := 3) (is := [0, 1, 2, 3, 4, 5, 6, 7]) (ls' := #[true, true, true, true, true, true, true, true, false, false, false]) (lv := [.agg #[.slice Ap0_0 (p0.Cells).length cp0_0, .bool p0.Wrapped], .pointer (some ⟨bq1, 0, none⟩), .int .i64 p1.spot_x, .int .i32 p2, .pointer (some ⟨bq1, 0, none⟩)]) (ks := [4, 5, 10, 11, 12]) (e' := [(4, .pointer (some ⟨bx9, 0, none⟩)), (5, .agg #[.slice Ap0_0 (p0.Cells).length cp0_0, .bool p0.Wrapped]), (10, .int .i64 p1.spot_x), (11, .int .i32 p2), (12, .pointer (some ⟨bq1, 0, none⟩))]) (by kernel_rfl) rfl rfl (by kernel_rfl) (np_then np_body) ⟨f5.now, f9500020.now, f9500040.now, f9600020.now, trivial⟩ (fun W_ hS => ⟨(load_box tab rfl rfl hS.1 (k := 0) rfl rfl), (load1 tab rfl ((Bx.cell hS.2.1 0).trans rfl)), (load1 tab rfl ((Bx.cell hS.2.2.2.1 1).trans rfl)), (load1 tab rfl ((Bx.cell hS.2.2.1 0).trans rfl)), (load1 tab rfl ((Bx.cell hS.2.1 0).trans rfl)), trivial⟩) fun a hk => ?_
  refine xd_op hk (i := 8) (by kernel_rfl) rfl rfl ?_
  refine op_call hk ent_38 (vs := [.pointer (some ⟨bq1, 0, none⟩)]) rfl (screen_Screen_num_calls bq1 bs1_0 Aq1_0 cq1_0 p1 _ o7 1 0 f9600020 _ f9700400 hcq1_0 0 f9800400 (by decide) (by decide) (by decide) (by decide)   _ hc35) ?_
  rintro _ w78 ⟨o79, rfl, st80⟩
  replace f10 := f10.st st80 (by decide)
  replace f5 := f5.st st80 (by decide)
  replace f900000 := f900000.st st80 (by decide)
  replace f9500020 := f9500020.st st80 (by decide)
  replace f9500040 := f9500040.st st80 (by decide)
  replace f9600020 := f9600020.st st80 (by decide)
  replace f9700400 := f9700400.st st80 (by decide)
  replace f9800400 := f9800400.st st80 (by decide)
  replace fg0 := fg0.st st80 (by decide)
  replace fg1 := fg1.st st80 (by decide)
  replace hs := hs.locQ st80 hob rfl
  have hk := hk.put 13 (.int .i64 t34) rfl
  refine ⟨.inr ⟨f5.now, f9500020.now, f9500040.now, f9600020.now, trivial⟩, ?_⟩
  refine xd_op hk (i := 9) (by kernel_rfl) rfl rfl ?_
  refine op_call hk ent_40 (vs := [.agg #[.slice Ap0_0 (p0.Cells).length cp0_0, .bool p0.Wrapped], .int .i64 p1.spot_x, .int .i32 p2, .int .i64 t34]) rfl (row_Row_Put_calls K Ap0_0 cp0_0 p0 p1.spot_x p2 t34 _ o79 0 fg0 0 fg1 _ f900000 hcp0_0 7  _ hc43) ?_
  rintro _ w84 ⟨o85, A87, c88, rfl, st86, f89, hc90⟩
  replace f10 := f10.st st86 (by decide)
  replace f5 := f5.st st86 (by decide)
  replace f900000 := f900000.st st86 (by decide)
  replace f9500020 := f9500020.st st86 (by decide)
  replace f9500040 := f9500040.st st86 (by decide)
  replace f9600020 := f9600020.st st86 (by decide)
  replace f9700400 := f9700400.st st86 (by decide)
  replace f9800400 := f9800400.st st86 (by decide)
  replace fg0 := fg0.st st86 (by decide)
  replace fg1 := fg1.st st86 (by decide)
  replace hs := hs.locQ st86 hob rfl
  have hk := hk.put 14 (.agg #[.slice A87 (t42.Cells).length c88, .bool t42.Wrapped]) rfl
  refine ⟨.inr ⟨f5.now, f9500020.now, f9500040.now, f9600020.now, trivial⟩, ?_⟩
  refine xd_op hk (i := 10) (by kernel_rfl) rfl rfl ?_
  refine op_store tab hk (t := 66) (v := .agg #[.slice A87 (t42.Cells).length c88, .bool t42.Wrapped]) (b := bx9) (k := 0) (cs' := [.slice A87 (t42.Cells).length c88, .bool t42.Wrapped]) rfl rfl rfl rfl rfl rfl f10 rfl rfl fun w91 o92 st93 f10_ => ?_
  replace f5 := f5.st st93 (by decide)
  replace f89 := f89.st st93 (by decide)
  replace f900000 := f900000.st st93 (by decide)
  replace f9500020 := f9500020.st st93 (by decide)
  replace f9500040 := f9500040.st st93 (by decide)
  replace f9600020 := f9600020.st st93 (by decide)
  replace f9700400 := f9700400.st st93 (by decide)
  replace f9800400 := f9800400.st st93 (by decide)
  replace fg0 := fg0.st st93 (by decide)
  replace fg1 := fg1.st st93 (by decide)
  replace hs := hs.locQ st93 hob rfl
  replace f10 := f10_
  refine ⟨.inl (by kernel_rfl), ?_⟩
  refine xd_done (by kernel_rfl) ?_
  refine then_n ?_
  refine wpIn_ret ?_
  obtain rfl := Option.some.inj H
  exact x_retG hk (rs := [.cell 4 66]) (vs := [.agg #[.slice A87 (t42.Cells).length c88, .bool t42.Wrapped]]) rfl ⟨⟨_, rfl, load_box tab rfl rfl f10.now (k := 0) rfl rfl⟩, trivial⟩ ⟨cl w oi o [] (R_60 LF R0) o92, A87, c88, rfl, hs.closeF (Lm := []) (Sh := []) hoa rfl (R_60 LF R0), hs.closeM_ft (o := o) (ρ := R_60 LF R0) f89 (lab_none hob rfl) rfl, hc90⟩

/-! (*tidewrack/screen.Screen).edit -/
abbrev R_61 (LF Lp0 Lp0_0 Lq0_0 : Nat) (l_ : Nat) : Nat := if l_ = 1 then LF else if l_ = 2 then Lp0 else if l_ = 3 then Lp0_0 else if l_ = 4 then Lq0_0 else 0
set_option maxHeartbeats 4000000 in
set_option maxRecDepth 20000 in
theorem screen_Screen_edit_of34_calls (K : Nat) (bp0 : Nat) (bq0_0 : Nat) (Ap0_0 : Option Addr) (cp0_0 : Nat) (p0 : T55) (w : World) (o : Nat → Nat) (LF : Nat) (Lp0 : Nat) (hp0 : Ft (Bx bp0 56 [.pointer (some ⟨bq0_0, 0, none⟩), .int .i64 p0.spot_x, .int .i64 p0.spot_y, .int .i64 p0.spot_style_Fore, .int .i64 p0.spot_style_Back, .bool p0.spot_style_Bold, .bool p0.spot_style_Under, .bool p0.spot_style_Inverse, .int .i64 p0.saved_x, .int .i64 p0.saved_y, .int .i64 p0.saved_style_Fore, .int .i64 p0.saved_style_Back, .bool p0.saved_style_Bold, .bool p0.saved_style_Under, .bool p0.saved_style_Inverse, .bool p0.waiting, .int .i64 p0.top, .int .i64 p0.bottom, .bool p0.wraps, .string p0.title]) w o Lp0) (Lp0_0 : Nat) (hp0_0 : NOwn dT65 66 Ap0_0 cp0_0 p0.g_l w o Lp0_0 LF) (hcp0_0 : (p0.g_l).length ≤ cp0_0) (Lq0_0 : Nat) (hq0_0 : Ft (Bx bq0_0 75 [.int .i64 p0.g_w, .slice Ap0_0 (p0.g_l).length cp0_0]) w o Lq0_0) (hd0 : ([LF, Lp0, Lp0_0, Lq0_0] : List Nat).Nodup) (r : T55) (H : screen_Screen_edit_of34 K p0 = some r) :
    Calls Tryz.prog 33 #[.pointer (some ⟨bp0, 0, none⟩), .func (.func 34) #[] #[]] w (Ret fun v_ w' => ∃ o' : Nat → Nat, ∃ b0 : Nat, ∃ A0 : Option Addr, ∃ c0 : Nat, v_ = .tuple #[] ∧ St [Lp0, Lp0_0, Lq0_0] w o w' o' ∧ Ft (Bx bp0 56 [.pointer (some ⟨b0, 0, none⟩), .int .i64 r.spot_x, .int .i64 r.spot_y, .int .i64 r.spot_style_Fore, .int .i64 r.spot_style_Back, .bool r.spot_style_Bold, .bool r.spot_style_Under, .bool r.spot_style_Inverse, .int .i64 r.saved_x, .int .i64 r.saved_y, .int .i64 r.saved_style_Fore, .int .i64 r.saved_style_Back, .bool r.saved_style_Bold, .bool r.saved_style_Under, .bool r.saved_style_Inverse, .bool r.waiting, .int .i64 r.top, .int .i64 r.bottom, .bool r.wraps, .string r.title]) w' o' Lp0 ∧ Ft (Bx b0 75 [.int .i64 r.g_w, .slice A0 (r.g_l).length c0]) w' o' Lq0_0 ∧ NOwn dT65 66 A0 c0 r.g_l w' o' Lp0_0 LF ∧ (r.g_l).length ≤ c0) := by
  refine x_enter (vs := [.pointer (some ⟨bp0, 0, none⟩), .func (.func 34) #[] #[]]) Tryz.func33 rfl rfl rfl fun a hk => ?_
  obtain ⟨oi, hs0, h0, h1, hob, hoz, hoa⟩ := St.startM2 w o (m := 4) hd0 rfl
  have hs := hs0 [2, 3, 4]
  have f900000 := hp0_0.conv (fun _ h_ => h1 2 3 h_ rfl rfl) (fun _ h_ => h1 0 1 h_ rfl rfl)
  have f900019 := h1 1 2 hp0 rfl rfl
  have f910000 := h1 3 4 hq0_0 rfl rfl
  clear h0 h1 hs0
  rw [screen_Screen_edit_of34] at H
  refine xd_begin (o := oi) (fun W_ => (Bx bp0 56 [.pointer (some ⟨bq0_0, 0, none⟩), .int .i64 p0.spot_x, .int .i64 p0.spot_y, .int .i64 p0.spot_style_Fore, .int .i64 p0.spot_style_Back, .bool p0.spot_style_Bold, .bool p0.spot_style_Under, .bool p0.spot_style_Inverse, .int .i64 p0.saved_x, .int .i64 p0.saved_y, .int .i64 p0.saved_style_Fore, .int .i64 p0.saved_style_Back, .bool p0.saved_style_Bold, .bool p0.saved_style_Under, .bool p0.saved_style_Inverse, .bool p0.waiting, .int .i64 p0.top, .int .i64 p0.bottom, .bool p0.wraps, .string p0.title]) W_ ∧ True) mixed rfl rfl fun w75 st76 => ?_
  replace f900000 := f900000.st st76 (by decide)
  replace f900019 := f900019.st st76 (by decide)
  replace f910000 := f910000.st st76 (by decide)
  replace hs := hs.locQ st76 hob rfl
  refine xd_take tab hk (k := 3) (is := [0, 1, 2, 3, 4, 5, 6, 7, 8, 9, 10, 11, 12, 13, 14, 15, 16, 17, 18]) (ls' := #[true, true, true, true, true, true, true, true, true, true, true, true, true, true, true, true, true, true, true, false, false, false]) (lv := [.pointer (some ⟨bq0_0, 0, none⟩), .int .i64 p0.spot_y, .pointer (some ⟨bq0_0, 0, none⟩), .int .i64 p0.spot_y]) (ks := [7, 12, 13, 17, 22]) (e' := [(7, .pointer (some ⟨bq0_0, 0, none⟩)), (12, .int .i64 p0.spot_y), (13, .func (.func 34) #[] #[]), (17, .pointer (some ⟨bq0_0, 0, none⟩)), (22, .int .i64 p0.spot_y)]) (by kernel_rfl) rfl rfl (by kernel_rfl) np_body ⟨f900019.now, trivial⟩ (fun W_ hS => ⟨(load1 tab rfl ((Bx.cell hS.1 0).trans rfl)), (load1 tab rfl ((Bx.cell hS.1 2).trans rfl)), (load1 tab rfl ((Bx.cell hS.1 0).trans rfl)), (load1 tab rfl ((Bx.cell hS.1 2).trans rfl)), trivial⟩) fun a hk => ?_
  refine xd_op hk (i := 19) (by kernel_rfl) rfl rfl ?_
  obtain ⟨t80, hc81, H⟩ := bindS H
  refine op_call hk ent_67 (vs := [.pointer (some ⟨bq0_0, 0, none⟩), .int .i64 p0.spot_y]) rfl (grid_Grid_Row_calls bq0_0 Ap0_0 cp0_0 (⟨p0.g_w, p0.g_l⟩ : T74) p0.spot_y _ oi 1 4 f910000 _ f900000.rd hcp0_0 (by decide) (by decide) (by decide) 7  _ hc81) ?_
  rintro _ w82 ⟨o83, A85, c86, rfl, st84, f87, hc88⟩
  replace f900000 := f900000.st st84 (by decide)
  replace f900019 := f900019.st st84 (by decide)
  replace f910000 := f910000.st st84 (by decide)
  replace hs := hs.locQ st84 hob rfl
  have hk := hk.put 23 (.agg #[.slice A85 (t80.Cells).length c86, .bool t80.Wrapped]) rfl
  refine ⟨.inr ⟨f900019.now, trivial⟩, ?_⟩
  refine xd_op hk (i := 20) (by kernel_rfl) rfl rfl ?_
  obtain ⟨t92, hc93, H⟩ := bindS H
  refine op_callv hk ent_34 rfl (vs := [.agg #[.slice A85 (t80.Cells).length c86, .bool t80.Wrapped]]) rfl (screen_Screen_print_1_calls A85 c86 t80 _ o83 7 (f87.imp fun _ h_ => Own.rd h_) hc88 (by decide)   _ hc93) ?_
  rintro _ w94 ⟨o95, A97, c98, rfl, st96, f99, hc100⟩
  replace f87 := f87.st st96 (by decide)
  replace f900000 := f900000.st st96 (by decide)
  replace f900019 := f900019.st st96 (by decide)
  replace f910000 := f910000.st st96 (by decide)
  replace hs := hs.locQ st96 hob rfl
  have hk := hk.put 24 (.agg #[.slice A97 (t92.Cells).length c98, .bool t92.Wrapped]) rfl
  refine ⟨.inr ⟨f900019.now, trivial⟩, ?_⟩
  refine xd_op hk (i := 21) (by kernel_rfl) rfl rfl ?_
  obtain ⟨t104, hc105, H⟩ := bindS H
  refine op_call hk ent_66 (vs := [.pointer (some ⟨bq0_0, 0, none⟩), .int .i64 p0.spot_y, .agg #[.slice A97 (t92.Cells).length c98, .bool t92.Wrapped]]) rfl (grid_Grid_Set_calls K bq0_0 Ap0_0 cp0_0 (⟨p0.g_w, p0.g_l⟩ : T74) p0.spot_y A97 c98 t92 _ o95 1 4 f910000 3 f900000 hcp0_0 _ f99 hc100 (by decide) (by decide)   _ hc105) ?_
  rintro _ w106 ⟨o107, A110, c111, rfl, st108, f109, f112, hc113⟩
  replace f87 := f87.st st108 (by decide)
  replace f900019 := f900019.st st108 (by decide)
  replace f99 := f99.st st108 (by decide)
  replace hs := hs.locQ st108 hob rfl
  have hk := hk.put 25 (.bool t104.1) rfl
  refine ⟨.inr ⟨f900019.now, trivial⟩, ?_⟩
  refine xd_done (by kernel_rfl) ?_
  obtain rfl := Option.some.inj H
  exact x_endG hk (rs := []) (vs := []) rfl trivial ⟨cl w oi o [2, 3, 4] (R_61 LF Lp0 Lp0_0 Lq0_0) o107, bq0_0, A110, c111, rfl, hs.closeF (Lm := [Lp0, Lp0_0, Lq0_0]) (Sh := []) hoa rfl (R_61 LF Lp0 Lp0_0 Lq0_0), hs.closeM_ft (o := o) (ρ := R_61 LF Lp0 Lp0_0 Lq0_0) f900019 (lab_at hoa (i := 1) rfl) rfl, hs.closeM_ft (o := o) (ρ := R_61 LF Lp0 Lp0_0 Lq0_0) f109 (lab_at hoa (i := 3) rfl) rfl, f112.conv (fun _ h_ => hs.closeM_ft (o := o) (ρ := R_61 LF Lp0 Lp0_0 Lq0_0) h_ (lab_at hoa (i := 2) rfl) rfl) (fun _ h_ => hs.closeM_ft (o := o) (ρ := R_61 LF Lp0 Lp0_0 Lq0_0) h_ (lab_at hoa (i := 0) rfl) rfl), hc113⟩

/-! (*tidewrack/screen.Screen).edit -/
abbrev R_62 (LF Lp0 Lp0_0 Lq0_0 : Nat) (l_ : Nat) : Nat := if l_ = 1 then LF else if l_ = 2 then Lp0 else if l_ = 3 then Lp0_0 else if l_ = 4 then Lq0_0 else 0
set_option maxHeartbeats 4000000 in
set_option maxRecDepth 20000 in
theorem screen_Screen_edit_of39_0_0_calls (K : Nat) (bp0 : Nat) (bq0_0 : Nat) (Ap0_0 : Option Addr) (cp0_0 : Nat) (p0 : T55) (bp1_0 : Nat) (bp1_1 : Nat) (p1_1 : Int) (w : World) (o : Nat → Nat) (LF : Nat) (Lg0 : Nat) (hg0 : Ft (RdC ET109 (some ⟨0, 0, none⟩) glob0) w o Lg0) (Lg1 : Nat) (hg1 : Ft (RdC ET109 (some ⟨1, 0, none⟩) glob1) w o Lg1) (Lp0 : Nat) (hp0 : Ft (Bx bp0 56 [.pointer (some ⟨bq0_0, 0, none⟩), .int .i64 p0.spot_x, .int .i64 p0.spot_y, .int .i64 p0.spot_style_Fore, .int .i64 p0.spot_style_Back, .bool p0.spot_style_Bold, .bool p0.spot_style_Under, .bool p0.spot_style_Inverse, .int .i64 p0.saved_x, .int .i64 p0.saved_y, .int .i64 p0.saved_style_Fore, .int .i64 p0.saved_style_Back, .bool p0.saved_style_Bold, .bool p0.saved_style_Under, .bool p0.saved_style_Inverse, .bool p0.waiting, .int .i64 p0.top, .int .i64 p0.bottom, .bool p0.wraps, .string p0.title]) w o Lp0) (Lp0_0 : Nat) (hp0_0 : NOwn dT65 66 Ap0_0 cp0_0 p0.g_l w o Lp0_0 LF) (hcp0_0 : (p0.g_l).length ≤ cp0_0) (Lq0_0 : Nat) (hq0_0 : Ft (Bx bq0_0 75 [.int .i64 p0.g_w, .slice Ap0_0 (p0.g_l).length cp0_0]) w o Lq0_0) (Lp1_0 : Nat) (hp1_0 : Ft (Bx bp1_0 23 [.pointer (some ⟨bp0, 0, none⟩)]) w o Lp1_0) (Lp1_1 : Nat) (hp1_1 : Ft (Bx bp1_1 21 [.int .i32 p1_1]) w o Lp1_1) (hd0 : ([LF, Lp0, Lp0_0, Lq0_0] : List Nat).Nodup) (hd1 : Lg0 ∉ [LF, Lp0, Lp0_0, Lq0_0]) (hd2 : Lg1 ∉ [LF, Lp0, Lp0_0, Lq0_0]) (hd3 : Lp1_0 ∉ [LF, Lp0, Lp0_0, Lq0_0]) (hd4 : Lp1_1 ∉ [LF, Lp0, Lp0_0, Lq0_0]) (r : T55) (H : screen_Screen_edit_of39_0_0 K p0 p1_1 = some r) :
    Calls Tryz.prog 33 #[.pointer (some ⟨bp0, 0, none⟩), .func (.func 39) #[] #[.pointer (some ⟨bp1_0, 0, none⟩), .pointer (some ⟨bp1_1, 0, none⟩)]] w (Ret fun v_ w' => ∃ o' : Nat → Nat, ∃ b0 : Nat, ∃ A0 : Option Addr, ∃ c0 : Nat, v_ = .tuple #[] ∧ St [Lp0, Lp0_0, Lq0_0] w o w' o' ∧ Ft (Bx bp0 56 [.pointer (some ⟨b0, 0, none⟩), .int .i64 r.spot_x, .int .i64 r.spot_y, .int .i64 r.spot_style_Fore, .int .i64 r.spot_style_Back, .bool r.spot_style_Bold, .bool r.spot_style_Under, .bool r.spot_style_Inverse, .int .i64 r.saved_x, .int .i64 r.saved_y, .int .i64 r.saved_style_Fore, .int .i64 r.saved_style_Back, .bool r.saved_style_Bold, .bool r.saved_style_Under, .bool r.saved_style_Inverse, .bool r.waiting, .int .i64 r.top, .int .i64 r.bottom, .bool r.wraps, .string r.title]) w' o' Lp0 ∧ Ft (Bx b0 75 [.int .i64 r.g_w, .slice A0 (r.g_l).length c0]) w' o' Lq0_0 ∧ NOwn dT65 66 A0 c0 r.g_l w' o' Lp0_0 LF ∧ (r.g_l).length ≤ c0) := by
  refine x_enter (vs := [.pointer (some ⟨bp0, 0, none⟩), .func (.func 39) #[] #[.pointer (some ⟨bp1_0, 0, none⟩), .pointer (some ⟨bp1_1, 0, none⟩)]]) Tryz.func33 rfl rfl rfl fun a hk => ?_
  obtain ⟨oi, hs0, h0, h1, hob, hoz, hoa⟩ := St.startM2 w o (m := 4) hd0 rfl
  have hs := hs0 [2, 3, 4]
  have fg0 := h0 _ _ hd1 hg0
  have fg1 := h0 _ _ hd2 hg1
  have f900000 := hp0_0.conv (fun _ h_ => h1 2 3 h_ rfl rfl) (fun _ h_ => h1 0 1 h_ rfl rfl)
  have f900019 := h1 1 2 hp0 rfl rfl
  have f910000 := h1 3 4 hq0_0 rfl rfl
  have f9500020 := h0 _ _ hd3 hp1_0
  have f9500021 := h0 _ _ hd4 hp1_1
  clear h0 h1 hs0
  rw [screen_Screen_edit_of39_0_0] at H
  refine xd_begin (o := oi) (fun W_ => (Bx bp0 56 [.pointer (some ⟨bq0_0, 0, none⟩), .int .i64 p0.spot_x, .int .i64 p0.spot_y, .int .i64 p0.spot_style_Fore, .int .i64 p0.spot_style_Back, .bool p0.spot_style_Bold, .bool p0.spot_style_Under, .bool p0.spot_style_Inverse, .int .i64 p0.saved_x, .int .i64 p0.saved_y, .int .i64 p0.saved_style_Fore, .int .i64 p0.saved_style_Back, .bool p0.saved_style_Bold, .bool p0.saved_style_Under, .bool p0.saved_style_Inverse, .bool p0.waiting, .int .i64 p0.top, .int .i64 p0.bottom, .bool p0.wraps, .string p0.title]) W_ ∧ True) mixed rfl rfl fun w75 st76 => ?_
  replace f900000 := f900000.st st76 (by decide)
  replace f900019 := f900019.st st76 (by decide)
  replace f910000 := f910000.st st76 (by decide)
  replace f9500020 := f9500020.st st76 (by decide)
  replace f9500021 := f9500021.st st76 (by decide)
  replace fg0 := fg0.st st76 (by decide)
  replace fg1 := fg1.st st76 (by decide)
  replace hs := hs.locQ st76 hob rfl
  refine xd_take tab hk (k := 3) (is := [0, 1, 2, 3, 4, 5, 6, 7, 8, 9, 10, 11, 12, 13, 14, 15, 16, 17, 18]) (ls' := #[true, true, true, true, true, true, true, true, true, true, true, true, true, true, true, true, true, true, true, false, false, false]) (lv := [.pointer (some ⟨bq0_0, 0, none⟩), .int .i64 p0.spot_y, .pointer (some ⟨bq0_0, 0, none⟩), .int .i64 p0.spot_y]) (ks := [7, 12, 13, 17, 22]) (e' := [(7, .pointer (some ⟨bq0_0, 0, none⟩)), (12, .int .i64 p0.spot_y), (13, .func (.func 39) #[] #[.pointer (some ⟨bp1_0, 0, none⟩), .pointer (some ⟨bp1_1, 0, none⟩)]), (17, .pointer (some ⟨bq0_0, 0, none⟩)), (22, .int .i64 p0.spot_y)]) (by kernel_rfl) rfl rfl (by kernel_rfl) np_body ⟨f900019.now, trivial⟩ (fun W_ hS => ⟨(load1 tab rfl ((Bx.cell hS.1 0).trans rfl)), (load1 tab rfl ((Bx.cell hS.1 2).trans rfl)), (load1 tab rfl ((Bx.cell hS.1 0).trans rfl)), (load1 tab rfl ((Bx.cell hS.1 2).trans rfl)), trivial⟩) fun a hk => ?_
  refine xd_op hk (i := 19) (by kernel_rfl) rfl rfl ?_
  obtain ⟨t80, hc81, H⟩ := bindS H
  refine op_call hk ent_67 (vs := [.pointer (some ⟨bq0_0, 0, none⟩), .int .i64 p0.spot_y]) rfl (grid_Grid_Row_calls bq0_0 Ap0_0 cp0_0 (⟨p0.g_w, p0.g_l⟩ : T74) p0.spot_y _ oi 1 4 f910000 _ f900000.rd hcp0_0 (by decide) (by decide) (by decide) 9  _ hc81) ?_
  rintro _ w82 ⟨o83, A85, c86, rfl, st84, f87, hc88⟩
  replace f900000 := f900000.st st84 (by decide)
  replace f900019 := f900019.st st84 (by decide)
  replace f910000 := f910000.st st84 (by decide)
  replace f9500020 := f9500020.st st84 (by decide)
  replace f9500021 := f9500021.st st84 (by decide)
  replace fg0 := fg0.st st84 (by decide)
  replace fg1 := fg1.st st84 (by decide)
  replace hs := hs.locQ st84 hob rfl
  have hk := hk.put 23 (.agg #[.slice A85 (t80.Cells).length c86, .bool t80.Wrapped]) rfl
  refine ⟨.inr ⟨f900019.now, trivial⟩, ?_⟩
  refine xd_op hk (i := 20) (by kernel_rfl) rfl rfl ?_
  obtain ⟨t92, hc93, H⟩ := bindS H
  refine op_callv hk ent_39 rfl (vs := [.agg #[.slice A85 (t80.Cells).length c86, .bool t80.Wrapped]]) rfl (screen_Screen_print_3_calls K A85 c86 t80 bp1_0 bp0 bq0_0 Ap0_0 cp0_0 p0 bp1_1 p1_1 _ o83 1 0 fg0 0 fg1 _ (f87.imp fun _ h_ => Own.rd h_) hc88 0 f9500020 2 f900019 _ f900000.rd hcp0_0 4 f910000 0 f9500021 (by decide) (by decide) (by decide) (by decide) (by decide) (by decide) (by decide) (by decide) (by decide) 10  _ hc93) ?_
  rintro _ w94 ⟨o95, A97, c98, rfl, st96, f99, hc100⟩
  replace f87 := f87.st st96 (by decide)
  replace f900000 := f900000.st st96 (by decide)
  replace f900019 := f900019.st st96 (by decide)
  replace f910000 := f910000.st st96 (by decide)
  replace f9500020 := f9500020.st st96 (by decide)
  replace f9500021 := f9500021.st st96 (by decide)
  replace fg0 := fg0.st st96 (by decide)
  replace fg1 := fg1.st st96 (by decide)
  replace hs := hs.locQ st96 hob rfl
  have hk := hk.put 24 (.agg #[.slice A97 (t92.Cells).length c98, .bool t92.Wrapped]) rfl
  refine ⟨.inr ⟨f900019.now, trivial⟩, ?_⟩
  refine xd_op hk (i := 21) (by kernel_rfl) rfl rfl ?_
  obtain ⟨t104, hc105, H⟩ := bindS H
  refine op_call hk ent_66 (vs := [.pointer (some ⟨bq0_0, 0, none⟩), .int .i64 p0.spot_y, .agg #[.slice A97 (t92.Cells).length c98, .bool t92.Wrapped]]) rfl (grid_Grid_Set_calls K bq0_0 Ap0_0 cp0_0 (⟨p0.g_w, p0.g_l⟩ : T74) p0.spot_y A97 c98 t92 _ o95 1 4 f910000 3 f900000 hcp0_0 _ (f99.imp fun _ h_ => Own.rd h_) hc100 (by decide) (by decide)   _ hc105) ?_
  rintro _ w106 ⟨o107, A110, c111, rfl, st108, f109, f112, hc113⟩
  replace f87 := f87.st st108 (by decide)
  replace f900019 := f900019.st st108 (by decide)
  replace f9500020 := f9500020.st st108 (by decide)
  replace f9500021 := f9500021.st st108 (by decide)
  replace f99 := f99.st st108 (by decide)
  replace fg0 := fg0.st st108 (by decide)
  replace fg1 := fg1.st st108 (by decide)
  replace hs := hs.locQ st108 hob rfl
  have hk := hk.put 25 (.bool t104.1) rfl
  refine ⟨.inr ⟨f900019.now, trivial⟩, ?_⟩
  refine xd_done (by kernel_rfl) ?_
  obtain rfl := Option.some.inj H
  exact x_endG hk (rs := []) (vs := []) rfl trivial ⟨cl w oi o [2, 3, 4] (R_62 LF Lp0 Lp0_0 Lq0_0) o107, bq0_0, A110, c111, rfl, hs.closeF (Lm := [Lp0, Lp0_0, Lq0_0]) (Sh := []) hoa rfl (R_62 LF Lp0 Lp0_0 Lq0_0), hs.closeM_ft (o := o) (ρ := R_62 LF Lp0 Lp0_0 Lq0_0) f900019 (lab_at hoa (i := 1) rfl) rfl, hs.closeM_ft (o := o) (ρ := R_62 LF Lp0 Lp0_0 Lq0_0) f109 (lab_at hoa (i := 3) rfl) rfl, f112.conv (fun _ h_ => hs.closeM_ft (o := o) (ρ := R_62 LF Lp0 Lp0_0 Lq0_0) h_ (lab_at hoa (i := 2) rfl) rfl) (fun _ h_ => hs.closeM_ft (o := o) (ρ := R_62 LF Lp0 Lp0_0 Lq0_0) h_ (lab_at hoa (i := 0) rfl) rfl), hc113⟩

/-! (*tidewrack/screen.Screen).print -/
abbrev R_63 (LF Lp0 Lp0_0 Lq0_0 R0 : Nat) (l_ : Nat) : Nat := if l_ = 1 then LF else if l_ = 2 then Lp0 else if l_ = 3 then Lp0_0 else if l_ = 4 then Lq0_0 else if l_ = 19 then R0 else 0
abbrev R_64 (l_ : Nat) : Nat := if l_ = 14 then 17 else if l_ = 15 then 18 else if l_ = 16 then 19 else l_
abbrev R_65 (l_ : Nat) : Nat := if l_ = 20 then 14 else if l_ = 21 then 15 else l_
abbrev R_66 (l_ : Nat) : Nat := if l_ = 20 then 14 else if l_ = 21 then 15 else if l_ = 23 then 16 else l_
abbrev R_67 (l_ : Nat) : Nat := if l_ = 7 then 20 else if l_ = 8 then 21 else l_
abbrev R_68 (l_ : Nat) : Nat := if l_ = 5 then 7 else if l_ = 6 then 8 else l_
abbrev R_69 (LF Lp0 Lp0_0 Lq0_0 : Nat) (l_ : Nat) : Nat := if l_ = 1 then LF else if l_ = 2 then Lp0 else if l_ = 3 then Lp0_0 else if l_ = 4 then Lq0_0 else 0
set_option maxHeartbeats 4000000 in
set_option maxRecDepth 20000 in
theorem screen_Screen_print_calls (K : Nat) (bp0 : Nat) (bq0_0 : Nat) (Ap0_0 : Option Addr) (cp0_0 : Nat) (p0 : T55) (p1 : Int) (w : World) (o : Nat → Nat) (LF : Nat) (Lg0 : Nat) (hg0 : Ft (RdC ET109 (some ⟨0, 0, none⟩) glob0) w o Lg0) (Lg1 : Nat) (hg1 : Ft (RdC ET109 (some ⟨1, 0, none⟩) glob1) w o Lg1) (Lp0 : Nat) (hp0 : Ft (Bx bp0 56 [.pointer (some ⟨bq0_0, 0, none⟩), .int .i64 p0.spot_x, .int .i64 p0.spot_y, .int .i64 p0.spot_style_Fore, .int .i64 p0.spot_style_Back, .bool p0.spot_style_Bold, .bool p0.spot_style_Under, .bool p0.spot_style_Inverse, .int .i64 p0.saved_x, .int .i64 p0.saved_y, .int .i64 p0.saved_style_Fore, .int .i64 p0.saved_style_Back, .bool p0.saved_style_Bold, .bool p0.saved_style_Under, .bool p0.saved_style_Inverse, .bool p0.waiting, .int .i64 p0.top, .int .i64 p0.bottom, .bool p0.wraps, .string p0.title]) w o Lp0) (Lp0_0 : Nat) (hp0_0 : NOwn dT65 66 Ap0_0 cp0_0 p0.g_l w o Lp0_0 LF) (hcp0_0 : (p0.g_l).length ≤ cp0_0) (Lq0_0 : Nat) (hq0_0 : Ft (Bx bq0_0 75 [.int .i64 p0.g_w, .slice Ap0_0 (p0.g_l).length cp0_0]) w o Lq0_0) (hd0 : ([LF, Lp0, Lp0_0, Lq0_0] : List Nat).Nodup) (hd1 : Lg0 ∉ [LF, Lp0, Lp0_0, Lq0_0]) (hd2 : Lg1 ∉ [LF, Lp0, Lp0_0, Lq0_0]) (R0 : Nat) (r : (List T65) × T55) (H : screen_Screen_print K p0 p1 = some r) :
    Calls Tryz.prog 17 #[.pointer (some ⟨bp0, 0, none⟩), .int .i32 p1] w (Ret fun v_ w' => ∃ o' : Nat → Nat, ∃ A0 : Option Addr, ∃ c0 : Nat, ∃ b0 : Nat, ∃ A1 : Option Addr, ∃ c1 : Nat, v_ = .slice A0 (r.1).length c0 ∧ St [Lp0, Lp0_0, Lq0_0] w o w' o' ∧ NOwn dT65 66 A0 c0 r.1 w' o' R0 LF ∧ (r.1).length ≤ c0 ∧ Ft (Bx bp0 56 [.pointer (some ⟨b0, 0, none⟩), .int .i64 r.2.spot_x, .int .i64 r.2.spot_y, .int .i64 r.2.spot_style_Fore, .int .i64 r.2.spot_style_Back, .bool r.2.spot_style_Bold, .bool r.2.spot_style_Under, .bool r.2.spot_style_Inverse, .int .i64 r.2.saved_x, .int .i64 r.2.saved_y, .int .i64 r.2.saved_style_Fore, .int .i64 r.2.saved_style_Back, .bool r.2.saved_style_Bold, .bool r.2.saved_style_Under, .bool r.2.saved_style_Inverse, .bool r.2.waiting, .int .i64 r.2.top, .int .i64 r.2.bottom, .bool r.2.wraps, .string r.2.title]) w' o' Lp0 ∧ Ft (Bx b0 75 [.int .i64 r.2.g_w, .slice A1 (r.2.g_l).length c1]) w' o' Lq0_0 ∧ NOwn dT65 66 A1 c1 r.2.g_l w' o' Lp0_0 LF ∧ (r.2.g_l).length ≤ c1) := by
  refine x_enter (vs := [.pointer (some ⟨bp0, 0, none⟩), .int .i32 p1]) Tryz.func17 rfl rfl rfl fun a hk => ?_
  obtain ⟨oi, hs0, h0, h1, hob, hoz, hoa⟩ := St.startM2 w o (m := 4) hd0 rfl
  have hs := hs0 [2, 3, 4]
  have fg0 := h0 _ _ hd1 hg0
  have fg1 := h0 _ _ hd2 hg1
  have f900000 := hp0_0.conv (fun _ h_ => h1 2 3 h_ rfl rfl) (fun _ h_ => h1 0 1 h_ rfl rfl)
  have f900019 := h1 1 2 hp0 rfl rfl
  have f910000 := h1 3 4 hq0_0 rfl rfl
  clear h0 h1 hs0
  rw [screen_Screen_print] at H
  refine x_seq ?_
  refine wpIn_region_lit ?_
  refine x_op hk rfl ?_
  refine op_box (o := oi) (t := 23) (v := .pointer (some ⟨bp0, 0, none⟩)) (cs := [.pointer (some ⟨bp0, 0, none⟩)]) hk rfl rfl 5 fun bx4 w1 o2 st3 f5 => ?_
  replace f900000 := f900000.st st3 (by decide)
  replace f900019 := f900019.st st3 (by decide)
  replace f910000 := f910000.st st3 (by decide)
  replace fg0 := fg0.st st3 (by decide)
  replace fg1 := fg1.st st3 (by decide)
  replace hs := hs.locQ st3 hob rfl
  have hk := hk.put 2 (.pointer (some ⟨bx4, 0, none⟩)) rfl
  refine x_op hk rfl ?_
  refine op_box (o := o2) (t := 21) (v := .int .i32 p1) (cs := [.int .i32 p1]) hk rfl rfl 6 fun bx9 w6 o7 st8 f10 => ?_
  replace f5 := f5.st st8 (by decide)
  replace f900000 := f900000.st st8 (by decide)
  replace f900019 := f900019.st st8 (by decide)
  replace f910000 := f910000.st st8 (by decide)
  replace fg0 := fg0.st st8 (by decide)
  replace fg1 := fg1.st st8 (by decide)
  replace hs := hs.locQ st8 hob rfl
  have hk := hk.put 3 (.pointer (some ⟨bx9, 0, none⟩)) rfl
  refine x_run tab hk (k := 1) (lv := []) (ks := [2, 3]) (e' := [(2, .pointer (some ⟨bx4, 0, none⟩)), (3, .pointer (some ⟨bx9, 0, none⟩))]) rfl trivial fun a hk => ?_
  refine wpListIn_nil ?_
  refine then_n ?_
  refine x_seq ?_
  refine wpIn_region_lit ?_
  refine x_run tab hk (k := 1) (lv := [.int .i32 p1]) (ks := [2, 3, 9]) (e' := [(2, .pointer (some ⟨bx4, 0, none⟩)), (3, .pointer (some ⟨bx9, 0, none⟩)), (9, .int .i32 p1)]) rfl ⟨(load1 tab rfl ((Bx.cell f10.now 0).trans rfl)), trivial⟩ fun a hk => ?_
  refine x_op hk rfl ?_
  obtain ⟨t14, hc15, H⟩ := bindS H
  refine op_call hk ent_32 (vs := [.int .i32 p1]) rfl (wide_Of_calls K p1 _ o7 0 fg0 0 fg1   _ hc15) ?_
  rintro _ w16 ⟨o17, rfl, st18⟩
  replace f10 := f10.st st18 (by decide)
  replace f5 := f5.st st18 (by decide)
  replace f900000 := f900000.st st18 (by decide)
  replace f900019 := f900019.st st18 (by decide)
  replace f910000 := f910000.st st18 (by decide)
  replace fg0 := fg0.st st18 (by decide)
  replace fg1 := fg1.st st18 (by decide)
  replace hs := hs.locQ st18 hob rfl
  have hk := hk.put 10 (.int .i64 t14) rfl
  refine x_run tab hk (k := 1) (lv := []) (ks := [2, 3, 5]) (e' := [(2, .pointer (some ⟨bx4, 0, none⟩)), (3, .pointer (some ⟨bx9, 0, none⟩)), (5, .int .i64 t14)]) rfl trivial fun a hk => ?_
  refine wpListIn_nil ?_
  refine then_n ?_
  refine x_seq ?_
  refine wpIn_region_lit ?_
  refine x_run tab hk (k := 4) (lv := [.pointer (some ⟨bp0, 0, none⟩), .pointer (some ⟨bq0_0, 0, none⟩)]) (ks := [2, 3, 5, 15]) (e' := [(2, .pointer (some ⟨bx4, 0, none⟩)), (3, .pointer (some ⟨bx9, 0, none⟩)), (5, .int .i64 t14), (15, .pointer (some ⟨bq0_0, 0, none⟩))]) rfl ⟨(load1 tab rfl ((Bx.cell f5.now 0).trans rfl)), (load1 tab rfl ((Bx.cell f900019.now 0).trans rfl)), trivial⟩ fun a hk => ?_
  refine x_op hk rfl ?_
  obtain ⟨t22, hc23, H⟩ := bindS H
  refine op_call hk ent_12 (vs := [.pointer (some ⟨bq0_0, 0, none⟩)]) rfl (grid_Grid_Size_calls bq0_0 Ap0_0 cp0_0 (⟨p0.g_w, p0.g_l⟩ : T74) _ o17 1 4 f910000 _ f900000.rd hcp0_0 (by decide) (by decide) (by decide)   _ hc23) ?_
  rintro _ w24 ⟨o25, rfl, st26⟩
  replace f10 := f10.st st26 (by decide)
  replace f5 := f5.st st26 (by decide)
  replace f900000 := f900000.st st26 (by decide)
  replace f900019 := f900019.st st26 (by decide)
  replace f910000 := f910000.st st26 (by decide)
  replace fg0 := fg0.st st26 (by decide)
  replace fg1 := fg1.st st26 (by decide)
  replace hs := hs.locQ st26 hob rfl
  have hk := hk.put 16 (.tuple #[.int .i64 t22.1, .int .i64 t22.2]) rfl
  refine x_run tab hk (k := 5) (lv := []) (ks := [2, 3, 5, 6]) (e' := [(2, .pointer (some ⟨bx4, 0, none⟩)), (3, .pointer (some ⟨bx9, 0, none⟩)), (5, .int .i64 t14), (6, .int .i64 t22.1)]) rfl trivial fun a hk => ?_
  refine wpListIn_nil ?_
  refine then_n ?_
  refine x_mid (fun a_ w_ => ∃ o32 : Nat → Nat, Kn 115 a_ [(2, .pointer (some ⟨bx4, 0, none⟩)), (3, .pointer (some ⟨bx9, 0, none⟩)), (5, .int .i64 t14), (6, .int .i64 t22.1)] ∧ St [2, 3, 4] w oi w_ o32 ∧ Ft (Bx bx9 21 [.int .i32 p1]) w_ o32 8 ∧ Ft (Bx bx4 23 [.pointer (some ⟨bp0, 0, none⟩)]) w_ o32 7 ∧ NOwn dT65 66 Ap0_0 cp0_0 p0.g_l w_ o32 3 1 ∧ Ft (Bx bp0 56 [.pointer (some ⟨bq0_0, 0, none⟩), .int .i64 p0.spot_x, .int .i64 p0.spot_y, .int .i64 p0.spot_style_Fore, .int .i64 p0.spot_style_Back, .bool p0.spot_style_Bold, .bool p0.spot_style_Under, .bool p0.spot_style_Inverse, .int .i64 p0.saved_x, .int .i64 p0.saved_y, .int .i64 p0.saved_style_Fore, .int .i64 p0.saved_style_Back, .bool p0.saved_style_Bold, .bool p0.saved_style_Under, .bool p0.saved_style_Inverse, .bool p0.waiting, .int .i64 p0.top, .int .i64 p0.bottom, .bool p0.wraps, .string p0.title]) w_ o32 2 ∧ Ft (Bx bq0_0 75 [.int .i64 p0.g_w, .slice Ap0_0 (p0.g_l).length cp0_0]) w_ o32 4 ∧ Ft (RdC ET109 (some ⟨0, 0, none⟩) glob0) w_ o32 0 ∧ Ft (RdC ET109 (some ⟨1, 0, none⟩) glob1) w_ o32 0 ∧ screen_Screen_print_j1 K p0 p1 t14 t22 = some r) ?_ ?_
  rotate_left
  · rintro a w33 ⟨o32, hk, hs, f10, f5, f900000, f900019, f910000, fg0, fg1, H⟩
    rw [screen_Screen_print_j1] at H
    refine x_seq ?_
    refine wpIn_region_lit ?_
    refine x_run tab hk (k := 1) (lv := []) (ks := [2, 3, 5, 6, 8]) (e' := [(2, .pointer (some ⟨bx4, 0, none⟩)), (3, .pointer (some ⟨bx9, 0, none⟩)), (5, .int .i64 t14), (6, .int .i64 t22.1), (8, .slice none 0 0)]) rfl trivial fun a hk => ?_
    refine wpListIn_nil ?_
    refine then_n ?_
    refine x_mid (fun a_ w_ => ∃ o130 : Nat → Nat, ∃ bx131 : Nat, ∃ x133 : Int, ∃ A134 : Option Addr, ∃ c135 : Nat, ∃ l136 : List T65, ∃ x139 : Int, ∃ x140 : Int, ∃ x141 : Int, ∃ x142 : Int, ∃ x143 : Bool, ∃ x144 : Bool, ∃ x145 : Bool, ∃ x146 : Int, ∃ x147 : Int, ∃ x148 : Int, ∃ x149 : Int, ∃ x150 : Bool, ∃ x151 : Bool, ∃ x152 : Bool, ∃ x153 : Bool, ∃ x154 : Int, ∃ x155 : Int, ∃ x156 : Bool, ∃ x157 : ByteArray, ∃ A158 : Option Addr, ∃ c159 : Nat, ∃ l160 : List T65, Kn 115 a_ [(2, .pointer (some ⟨bx4, 0, none⟩)), (3, .pointer (some ⟨bx9, 0, none⟩)), (5, .int .i64 t14), (6, .int .i64 t22.1), (8, .slice A158 (l160).length c159)] ∧ St [2, 3, 4] w oi w_ o130 ∧ Ft (Bx bx9 21 [.int .i32 p1]) w_ o130 15 ∧ Ft (Bx bx131 75 [.int .i64 x133, .slice A134 (l136).length c135]) w_ o130 4 ∧ NOwn dT65 66 A134 c135 l136 w_ o130 3 1 ∧ NOwn dT65 66 A158 c159 l160 w_ o130 16 1 ∧ Ft (Bx bx4 23 [.pointer (some ⟨bp0, 0, none⟩)]) w_ o130 14 ∧ Ft (Bx bp0 56 [.pointer (some ⟨bx131, 0, none⟩), .int .i64 x139, .int .i64 x140, .int .i64 x141, .int .i64 x142, .bool x143, .bool x144, .bool x145, .int .i64 x146, .int .i64 x147, .int .i64 x148, .int .i64 x149, .bool x150, .bool x151, .bool x152, .bool x153, .int .i64 x154, .int .i64 x155, .bool x156, .string x157]) w_ o130 2 ∧ Ft (RdC ET109 (some ⟨0, 0, none⟩) glob0) w_ o130 0 ∧ Ft (RdC ET109 (some ⟨1, 0, none⟩) glob1) w_ o130 0 ∧ (l136).length ≤ c135 ∧ (l160).length ≤ c159 ∧ screen_Screen_print_j2 K p1 t14 t22 x133 l136 x139 x140 x141 x142 x143 x144 x145 x146 x147 x148 x149 x150 x151 x152 x153 x154 x155 x156 x157 l160 = some r) ?_ ?_
    rotate_left
    · refine fun a w163 z0 => z0.elim fun o130 z1 => z1.elim fun bx131 z2 => z2.elim fun x133 z3 => z3.elim fun A134 z4 => z4.elim fun c135 z5 => z5.elim fun l136 z6 => z6.elim fun x139 z7 => z7.elim fun x140 z8 => z8.elim fun x141 z9 => z9.elim fun x142 z10 => z10.elim fun x143 z11 => z11.elim fun x144 z12 => z12.elim fun x145 z13 => z13.elim fun x146 z14 => z14.elim fun x147 z15 => z15.elim fun x148 z16 => z16.elim fun x149 z17 => z17.elim fun x150 z18 => z18.elim fun x151 z19 => z19.elim fun x152 z20 => z20.elim fun x153 z21 => z21.elim fun x154 z22 => z22.elim fun x155 z23 => z23.elim fun x156 z24 => z24.elim fun x157 z25 => z25.elim fun A158 z26 => z26.elim fun c159 z27 => z27.elim fun l160 z28 => z28.elim fun hk z29 => z29.elim fun hs z30 => z30.elim fun f10 z31 => z31.elim fun f132 z32 => z32.elim fun f137 z33 => z33.elim fun f161 z34 => z34.elim fun f5 z35 => z35.elim fun f900019 z36 => z36.elim fun fg0 z37 => z37.elim fun fg1 z38 => z38.elim fun hc138 z39 => z39.elim fun hc162 H => ?_
      clear z0 z1 z2 z3 z4 z5 z6 z7 z8 z9 z10 z11 z12 z13 z14 z15 z16 z17 z18 z19 z20 z21 z22 z23 z24 z25 z26 z27 z28 z29 z30 z31 z32 z33 z34 z35 z36 z37 z38 z39
      rw [screen_Screen_print_j2] at H
      refine x_mid (fun a_ w_ => ∃ o175 : Nat → Nat, ∃ x176 : Int, Kn 115 a_ [(2, .pointer (some ⟨bx4, 0, none⟩)), (3, .pointer (some ⟨bx9, 0, none⟩)), (5, .int .i64 t14), (6, .int .i64 t22.1), (8, .slice A158 (l160).length c159)] ∧ St [2, 3, 4] w oi w_ o175 ∧ Ft (Bx bx9 21 [.int .i32 p1]) w_ o175 18 ∧ Ft (Bx bx131 75 [.int .i64 x133, .slice A134 (l136).length c135]) w_ o175 4 ∧ NOwn dT65 66 A134 c135 l136 w_ o175 3 1 ∧ NOwn dT65 66 A158 c159 l160 w_ o175 19 1 ∧ Ft (Bx bx4 23 [.pointer (some ⟨bp0, 0, none⟩)]) w_ o175 17 ∧ Ft (Bx bp0 56 [.pointer (some ⟨bx131, 0, none⟩), .int .i64 x176, .int .i64 x140, .int .i64 x141, .int .i64 x142, .bool x143, .bool x144, .bool x145, .int .i64 x146, .int .i64 x147, .int .i64 x148, .int .i64 x149, .bool x150, .bool x151, .bool x152, .bool x153, .int .i64 x154, .int .i64 x155, .bool x156, .string x157]) w_ o175 2 ∧ Ft (RdC ET109 (some ⟨0, 0, none⟩) glob0) w_ o175 0 ∧ Ft (RdC ET109 (some ⟨1, 0, none⟩) glob1) w_ o175 0 ∧ screen_Screen_print_j3 K p1 t14 t22 x133 l136 x140 x141 x142 x143 x144 x145 x146 x147 x148 x149 x150 x151 x152 x153 x154 x155 x156 x157 l160 x176 = some r) ?_ ?_
      rotate_left
      · refine fun a w177 z0 => z0.elim fun o175 z1 => z1.elim fun x176 z2 => z2.elim fun hk z3 => z3.elim fun hs z4 => z4.elim fun f10 z5 => z5.elim fun f132 z6 => z6.elim fun f137 z7 => z7.elim fun f161 z8 => z8.elim fun f5 z9 => z9.elim fun f900019 z10 => z10.elim fun fg0 z11 => z11.elim fun fg1 H => ?_
        clear z0 z1 z2 z3 z4 z5 z6 z7 z8 z9 z10 z11
        rw [screen_Screen_print_j3] at H
        refine x_seq ?_
        refine wpIn_region_lit ?_
        refine x_run tab hk (k := 2) (lv := [.pointer (some ⟨bp0, 0, none⟩)]) (ks := [2, 5, 6, 8, 79, 80]) (e' := [(2, .pointer (some ⟨bx4, 0, none⟩)), (5, .int .i64 t14), (6, .int .i64 t22.1), (8, .slice A158 (l160).length c159), (79, .pointer (some ⟨bp0, 0, none⟩)), (80, .func (.func 39) #[] #[.pointer (some ⟨bx4, 0, none⟩), .pointer (some ⟨bx9, 0, none⟩)])]) rfl ⟨(load1 tab rfl ((Bx.cell f5.now 0).trans rfl)), trivial⟩ fun a hk => ?_
        refine x_op hk rfl ?_
        obtain ⟨t181, hc182, H⟩ := bindS H
        refine op_call hk ent_33 (vs := [.pointer (some ⟨bp0, 0, none⟩), .func (.func 39) #[] #[.pointer (some ⟨bx4, 0, none⟩), .pointer (some ⟨bx9, 0, none⟩)]]) rfl (screen_Screen_edit_of39_0_0_calls K bp0 bx131 A134 c135 (⟨x133, l136, x176, x140, x141, x142, x143, x144, x145, x146, x147, x148, x149, x150, x151, x152, x153, x154, x155, x156, x157⟩ : T55) bx4 bx9 p1 _ o175 1 0 fg0 0 fg1 2 f900019 3 f137 hc138 4 f132 17 f5 18 f10 (by decide) (by decide) (by decide) (by decide) (by decide)   _ hc182) ?_
        rintro _ w183 ⟨o184, bx187, A189, c190, rfl, st185, f186, f188, f191, hc192⟩
        replace f10 := f10.st st185 (by decide)
        replace f161 := f161.st st185 (by decide)
        replace f5 := f5.st st185 (by decide)
        replace fg0 := fg0.st st185 (by decide)
        replace fg1 := fg1.st st185 (by decide)
        replace hs := hs.locQ st185 hob rfl
        have hk := hk.put 81 (.tuple #[]) rfl
        refine wpListIn_nil ?_
        refine then_n ?_
        refine x_seq ?_
        refine wpIn_region_lit ?_
        refine x_run tab hk (k := 10) (lv := [.pointer (some ⟨bp0, 0, none⟩), .int .i64 t181.spot_x]) (ks := [2, 6, 8, 88, 91]) (e' := [(2, .pointer (some ⟨bx4, 0, none⟩)), (6, .int .i64 t22.1), (8, .slice A158 (l160).length c159), (88, .int .i64 (IntKind.wrap .i64 (t181.spot_x + t14))), (91, .pointer (some ((⟨bp0, 0, none⟩ : Addr).add 1)))]) rfl ⟨(load1 tab rfl ((Bx.cell f5.now 0).trans rfl)), (load1 tab rfl ((Bx.cell f186.now 1).trans rfl)), trivial⟩ fun a hk => ?_
        refine x_op hk rfl ?_
        refine op_store tab hk (t := 3) (v := .int .i64 (IntKind.wrap .i64 (t181.spot_x + t14))) (b := bp0) (k := 1) (cs' := [.pointer (some ⟨bx187, 0, none⟩), .int .i64 (IntKind.wrap .i64 (t181.spot_x + t14)), .int .i64 t181.spot_y, .int .i64 t181.spot_style_Fore, .int .i64 t181.spot_style_Back, .bool t181.spot_style_Bold, .bool t181.spot_style_Under, .bool t181.spot_style_Inverse, .int .i64 t181.saved_x, .int .i64 t181.saved_y, .int .i64 t181.saved_style_Fore, .int .i64 t181.saved_style_Back, .bool t181.saved_style_Bold, .bool t181.saved_style_Under, .bool t181.saved_style_Inverse, .bool t181.waiting, .int .i64 t181.top, .int .i64 t181.bottom, .bool t181.wraps, .string t181.title]) rfl rfl rfl rfl rfl rfl f186 rfl rfl fun w193 o194 st195 f186_ => ?_
        replace f161 := f161.st st195 (by decide)
        replace f188 := f188.st st195 (by decide)
        replace f191 := f191.st st195 (by decide)
        replace f5 := f5.st st195 (by decide)
        replace fg0 := fg0.st st195 (by decide)
        replace fg1 := fg1.st st195 (by decide)
        replace hs := hs.locQ st195 hob rfl
        replace f186 := f186_
        refine wpListIn_nil ?_
        refine then_n ?_
        refine x_seq ?_
        refine xd_begin (o := o194) (fun W_ => (Bx bx4 23 [.pointer (some ⟨bp0, 0, none⟩)]) W_ ∧ True) mixed rfl rfl fun w202 st203 => ?_
        replace f161 := f161.st st203 (by decide)
        replace f186 := f186.st st203 (by decide)
        replace f188 := f188.st st203 (by decide)
        replace f191 := f191.st st203 (by decide)
        replace f5 := f5.st st203 (by decide)
        replace fg0 := fg0.st st203 (by decide)
        replace fg1 := fg1.st st203 (by decide)
        replace hs := hs.locQ st203 hob rfl
        refine xd_take tab hk (k := 5) (is := [0, 1, 2, 3, 4, 6]) (ls' := #[true, true, true, true, true, false, true, false, false, false, false]) (lv := [.pointer (some ⟨bp0, 0, none⟩), .pointer (some ⟨bp0, 0, none⟩)]) (ks := [2, 6, 8, 92, 96, 98]) (e' := [(2, .pointer (some ⟨bx4, 0, none⟩)), (6, .int .i64 t22.1), (8, .slice A158 (l160).length c159), (92, .pointer (some ⟨bp0, 0, none⟩)), (96, .pointer (some ((⟨bp0, 0, none⟩ : Addr).add 1))), (98, .int .i64 t22.1)]) (by kernel_rfl) rfl rfl (by kernel_rfl) (np_then np_body) ⟨f5.now, trivial⟩ (fun W_ hS => ⟨(load1 tab rfl ((Bx.cell hS.1 0).trans rfl)), (load1 tab rfl ((Bx.cell hS.1 0).trans rfl)), trivial⟩) fun a hk => ?_
        refine xd_op hk (i := 5) (by kernel_rfl) rfl rfl ?_
        refine op_quiet tab hk (lv := [.int .i64 (IntKind.wrap .i64 (t181.spot_x + t14))]) (v := .int .i64 (IntKind.wrap .i64 (t181.spot_x + t14))) rfl ⟨(load1 tab rfl ((Bx.cell f186.now 1).trans rfl)), trivial⟩ ?_
        have hk := hk.put 97 (.int .i64 (IntKind.wrap .i64 (t181.spot_x + t14))) rfl
        refine ⟨.inr ⟨f5.now, trivial⟩, ?_⟩
        refine xd_take tab hk (k := 1) (is := [7, 8, 9]) (ls' := #[true, true, true, true, true, true, true, true, true, true, false]) (lv := []) (ks := [2, 6, 8, 99, 101]) (e' := [(2, .pointer (some ⟨bx4, 0, none⟩)), (6, .int .i64 t22.1), (8, .slice A158 (l160).length c159), (99, .bool ((IntKind.wrap .i64 (t181.spot_x + t14)) == t22.1)), (101, .pointer (some ((⟨bp0, 0, none⟩ : Addr).add 15)))]) (by kernel_rfl) rfl rfl (by kernel_rfl) (np_then np_body) ⟨f5.now, trivial⟩ (fun W_ hS => trivial) fun a hk => ?_
        refine xd_op hk (i := 10) (by kernel_rfl) rfl rfl ?_
        refine op_store tab hk (t := 4) (v := .bool ((IntKind.wrap .i64 (t181.spot_x + t14)) == t22.1)) (b := bp0) (k := 15) (cs' := [.pointer (some ⟨bx187, 0, none⟩), .int .i64 (IntKind.wrap .i64 (t181.spot_x + t14)), .int .i64 t181.spot_y, .int .i64 t181.spot_style_Fore, .int .i64 t181.spot_style_Back, .bool t181.spot_style_Bold, .bool t181.spot_style_Under, .bool t181.spot_style_Inverse, .int .i64 t181.saved_x, .int .i64 t181.saved_y, .int .i64 t181.saved_style_Fore, .int .i64 t181.saved_style_Back, .bool t181.saved_style_Bold, .bool t181.saved_style_Under, .bool t181.saved_style_Inverse, .bool ((IntKind.wrap .i64 (t181.spot_x + t14)) == t22.1), .int .i64 t181.top, .int .i64 t181.bottom, .bool t181.wraps, .string t181.title]) rfl rfl rfl rfl rfl rfl f186 rfl rfl fun w204 o205 st206 f186_ => ?_
        replace f161 := f161.st st206 (by decide)
        replace f188 := f188.st st206 (by decide)
        replace f191 := f191.st st206 (by decide)
        replace f5 := f5.st st206 (by decide)
        replace fg0 := fg0.st st206 (by decide)
        replace fg1 := fg1.st st206 (by decide)
        replace hs := hs.locQ st206 hob rfl
        replace f186 := f186_
        refine ⟨.inr ⟨f5.now, trivial⟩, ?_⟩
        refine xd_done (by kernel_rfl) ?_
        refine then_n ?_
        refine x_seq ?_
        refine xd_begin (o := o205) (fun W_ => (Bx bx4 23 [.pointer (some ⟨bp0, 0, none⟩)]) W_ ∧ True) mixed rfl rfl fun w216 st217 => ?_
        replace f161 := f161.st st217 (by decide)
        replace f186 := f186.st st217 (by decide)
        replace f188 := f188.st st217 (by decide)
        replace f191 := f191.st st217 (by decide)
        replace f5 := f5.st st217 (by decide)
        replace fg0 := fg0.st st217 (by decide)
        replace fg1 := fg1.st st217 (by decide)
        replace hs := hs.locQ st217 hob rfl
        refine xd_take tab hk (k := 6) (is := [0, 1, 2, 3, 4, 6, 7]) (ls' := #[true, true, true, true, true, false, true, true, false, false, false, false, false]) (lv := [.pointer (some ⟨bp0, 0, none⟩), .pointer (some ⟨bp0, 0, none⟩)]) (ks := [8, 102, 106, 109]) (e' := [(8, .slice A158 (l160).length c159), (102, .pointer (some ⟨bp0, 0, none⟩)), (106, .pointer (some ((⟨bp0, 0, none⟩ : Addr).add 1))), (109, .int .i64 (IntKind.wrap .i64 (t22.1 - 1)))]) (by kernel_rfl) rfl rfl (by kernel_rfl) (np_then np_body) ⟨f5.now, trivial⟩ (fun W_ hS => ⟨(load1 tab rfl ((Bx.cell hS.1 0).trans rfl)), (load1 tab rfl ((Bx.cell hS.1 0).trans rfl)), trivial⟩) fun a hk => ?_
        refine xd_op hk (i := 5) (by kernel_rfl) rfl rfl ?_
        refine op_quiet tab hk (lv := [.int .i64 (IntKind.wrap .i64 (t181.spot_x + t14))]) (v := .int .i64 (IntKind.wrap .i64 (t181.spot_x + t14))) rfl ⟨(load1 tab rfl ((Bx.cell f186.now 1).trans rfl)), trivial⟩ ?_
        have hk := hk.put 107 (.int .i64 (IntKind.wrap .i64 (t181.spot_x + t14))) rfl
        refine ⟨.inr ⟨f5.now, trivial⟩, ?_⟩
        refine xd_take tab hk (k := 1) (is := [8, 9, 10, 11]) (ls' := #[true, true, true, true, true, true, true, true, true, true, true, true, false]) (lv := []) (ks := [8, 110, 113]) (e' := [(8, .slice A158 (l160).length c159), (110, .int .i64 (mnI (IntKind.wrap .i64 (t181.spot_x + t14)) (IntKind.wrap .i64 (t22.1 - 1)))), (113, .pointer (some ((⟨bp0, 0, none⟩ : Addr).add 1)))]) (by kernel_rfl) rfl rfl (by kernel_rfl) (np_then np_body) ⟨f5.now, trivial⟩ (fun W_ hS => trivial) fun a hk => ?_
        refine xd_op hk (i := 12) (by kernel_rfl) rfl rfl ?_
        refine op_store tab hk (t := 3) (v := .int .i64 (mnI (IntKind.wrap .i64 (t181.spot_x + t14)) (IntKind.wrap .i64 (t22.1 - 1)))) (b := bp0) (k := 1) (cs' := [.pointer (some ⟨bx187, 0, none⟩), .int .i64 (mnI (IntKind.wrap .i64 (t181.spot_x + t14)) (IntKind.wrap .i64 (t22.1 - 1))), .int .i64 t181.spot_y, .int .i64 t181.spot_style_Fore, .int .i64 t181.spot_style_Back, .bool t181.spot_style_Bold, .bool t181.spot_style_Under, .bool t181.spot_style_Inverse, .int .i64 t181.saved_x, .int .i64 t181.saved_y, .int .i64 t181.saved_style_Fore, .int .i64 t181.saved_style_Back, .bool t181.saved_style_Bold, .bool t181.saved_style_Under, .bool t181.saved_style_Inverse, .bool ((IntKind.wrap .i64 (t181.spot_x + t14)) == t22.1), .int .i64 t181.top, .int .i64 t181.bottom, .bool t181.wraps, .string t181.title]) rfl rfl rfl rfl rfl rfl f186 rfl rfl fun w218 o219 st220 f186_ => ?_
        replace f161 := f161.st st220 (by decide)
        replace f188 := f188.st st220 (by decide)
        replace f191 := f191.st st220 (by decide)
        replace f5 := f5.st st220 (by decide)
        replace fg0 := fg0.st st220 (by decide)
        replace fg1 := fg1.st st220 (by decide)
        replace hs := hs.locQ st220 hob rfl
        replace f186 := f186_
        refine ⟨.inr ⟨f5.now, trivial⟩, ?_⟩
        refine xd_done (by kernel_rfl) ?_
        refine then_n ?_
        refine x_seq ?_
        refine wpIn_region_lit ?_
        refine x_run tab hk (k := 2) (lv := []) (ks := [4]) (e' := [(4, .slice A158 (l160).length c159)]) rfl trivial fun a hk => ?_
        refine wpListIn_nil ?_
        refine then_n ?_
        refine wpIn_ret ?_
        obtain rfl := Option.some.inj H
        exact x_retG hk (rs := [.tmp 4]) (vs := [.slice A158 (l160).length c159]) rfl ⟨rfl, trivial⟩ ⟨cl w oi o [2, 3, 4] (R_63 LF Lp0 Lp0_0 Lq0_0 R0) o219, A158, c159, bx187, A189, c190, rfl, hs.closeF (Lm := [Lp0, Lp0_0, Lq0_0]) (Sh := []) hoa rfl (R_63 LF Lp0 Lp0_0 Lq0_0 R0), f161.conv (fun _ h_ => hs.closeM_ft (o := o) (ρ := R_63 LF Lp0 Lp0_0 Lq0_0 R0) h_ (lab_none hob rfl) rfl) (fun _ h_ => hs.closeM_ft (o := o) (ρ := R_63 LF Lp0 Lp0_0 Lq0_0 R0) h_ (lab_at hoa (i := 0) rfl) rfl), hc162, hs.closeM_ft (o := o) (ρ := R_63 LF Lp0 Lp0_0 Lq0_0 R0) f186 (lab_at hoa (i := 1) rfl) rfl, hs.closeM_ft (o := o) (ρ := R_63 LF Lp0 Lp0_0 Lq0_0 R0) f188 (lab_at hoa (i := 3) rfl) rfl, f191.conv (fun _ h_ => hs.closeM_ft (o := o) (ρ := R_63 LF Lp0 Lp0_0 Lq0_0 R0) h_ (lab_at hoa (i := 2) rfl) rfl) (fun _ h_ => hs.closeM_ft (o := o) (ρ := R_63 LF Lp0 Lp0_0 Lq0_0 R0) h_ (lab_at hoa (i := 0) rfl) rfl), hc192⟩
      refine x_seq ?_
      refine wpIn_region_lit ?_
      refine x_run tab hk (k := 9) (lv := [.pointer (some ⟨bp0, 0, none⟩), .int .i64 x139]) (ks := [2, 3, 5, 6, 8, 54]) (e' := [(2, .pointer (some ⟨bx4, 0, none⟩)), (3, .pointer (some ⟨bx9, 0, none⟩)), (5, .int .i64 t14), (6, .int .i64 t22.1), (8, .slice A158 (l160).length c159), (54, .bool (decide ((IntKind.wrap .i64 (x139 + t14)) > t22.1)))]) rfl ⟨(load1 tab rfl ((Bx.cell f5.now 0).trans rfl)), (load1 tab rfl ((Bx.cell f900019.now 1).trans rfl)), trivial⟩ fun a hk => ?_
      refine wpListIn_nil ?_
      refine then_n ?_
      cases b221 : (decide ((IntKind.wrap .i64 (x139 + t14)) > t22.1))
      · rw [b221] at hk H
        replace H := bifF H
        refine x_if hk (b := false) rfl ?_
        refine (show Code.wpIn _ _ _ _ _ _ _ from ?_)
        refine wpIn_skip ?_
        refine then_n ?_
        exact ⟨(fun b_ => R_64 (o130 b_)), x139, (by exact Kn.pick (ks := [2, 3, 5, 6, 8]) hk rfl), (hs.relabM hob R_64 (by decide)), (f10.relab R_64 rfl), (f132.relab R_64 rfl), (f137.relab R_64 rfl), (f161.relab R_64 rfl), (f5.relab R_64 rfl), (f900019.relab R_64 rfl), (fg0.relab R_64 rfl), (fg1.relab R_64 rfl), H⟩
      · rw [b221] at hk H
        replace H := bifT H
        refine x_if hk (b := true) rfl ?_
        refine (show Code.wpIn _ _ _ _ _ _ _ from ?_)
        refine x_seq ?_
        refine wpIn_region_lit ?_
        refine x_run tab hk (k := 4) (lv := [.pointer (some ⟨bp0, 0, none⟩), .bool x156]) (ks := [2, 3, 5, 6, 8, 58]) (e' := [(2, .pointer (some ⟨bx4, 0, none⟩)), (3, .pointer (some ⟨bx9, 0, none⟩)), (5, .int .i64 t14), (6, .int .i64 t22.1), (8, .slice A158 (l160).length c159), (58, .bool x156)]) rfl ⟨(load1 tab rfl ((Bx.cell f5.now 0).trans rfl)), (load1 tab rfl ((Bx.cell f900019.now 18).trans rfl)), trivial⟩ fun a hk => ?_
        refine wpListIn_nil ?_
        refine then_n ?_
        cases b222 : x156
        · rw [b222] at hk H
          replace H := bifF H
          rw [b222] at f900019
          refine x_if hk (b := false) rfl ?_
          refine (show Code.wpIn _ _ _ _ _ _ _ from ?_)
          refine wpIn_region_lit ?_
          refine x_run tab hk (k := 9) (lv := [.pointer (some ⟨bp0, 0, none⟩), .int .i64 x139]) (ks := [2, 3, 5, 6, 8, 75, 78]) (e' := [(2, .pointer (some ⟨bx4, 0, none⟩)), (3, .pointer (some ⟨bx9, 0, none⟩)), (5, .int .i64 t14), (6, .int .i64 t22.1), (8, .slice A158 (l160).length c159), (75, .int .i64 (IntKind.wrap .i64 (x139 - 1))), (78, .pointer (some ((⟨bp0, 0, none⟩ : Addr).add 1)))]) rfl ⟨(load1 tab rfl ((Bx.cell f5.now 0).trans rfl)), (load1 tab rfl ((Bx.cell f900019.now 1).trans rfl)), trivial⟩ fun a hk => ?_
          refine x_op hk rfl ?_
          refine op_store tab hk (t := 3) (v := .int .i64 (IntKind.wrap .i64 (x139 - 1))) (b := bp0) (k := 1) (cs' := [.pointer (some ⟨bx131, 0, none⟩), .int .i64 (IntKind.wrap .i64 (x139 - 1)), .int .i64 x140, .int .i64 x141, .int .i64 x142, .bool x143, .bool x144, .bool x145, .int .i64 x146, .int .i64 x147, .int .i64 x148, .int .i64 x149, .bool x150, .bool x151, .bool x152, .bool x153, .int .i64 x154, .int .i64 x155, .bool false, .string x157]) rfl rfl rfl rfl rfl rfl f900019 rfl rfl fun w223 o224 st225 f900019_ => ?_
          replace f10 := f10.st st225 (by decide)
          replace f132 := f132.st st225 (by decide)
          replace f137 := f137.st st225 (by decide)
          replace f161 := f161.st st225 (by decide)
          replace f5 := f5.st st225 (by decide)
          replace fg0 := fg0.st st225 (by decide)
          replace fg1 := fg1.st st225 (by decide)
          replace hs := hs.locQ st225 hob rfl
          replace f900019 := f900019_
          refine wpListIn_nil ?_
          refine then_n ?_
          exact ⟨(fun b_ => R_64 (o224 b_)), (IntKind.wrap .i64 (x139 - 1)), (by (try rw [b222]); exact Kn.pick (ks := [2, 3, 5, 6, 8]) hk rfl), (hs.relabM hob R_64 (by decide)), (by (try rw [b222]); exact (f10.relab R_64 rfl)), (by (try rw [b222]); exact (f132.relab R_64 rfl)), (by (try rw [b222]); exact (f137.relab R_64 rfl)), (by (try rw [b222]); exact (f161.relab R_64 rfl)), (by (try rw [b222]); exact (f5.relab R_64 rfl)), (by (try rw [b222]); exact (f900019.relab R_64 rfl)), (fg0.relab R_64 rfl), (fg1.relab R_64 rfl), H⟩
        · rw [b222] at hk H
          replace H := bifT H
          rw [b222] at f900019
          refine x_if hk (b := true) rfl ?_
          refine (show Code.wpIn _ _ _ _ _ _ _ from ?_)
          refine x_seq ?_
          refine wpIn_region_lit ?_
          refine x_run tab hk (k := 2) (lv := [.pointer (some ⟨bp0, 0, none⟩)]) (ks := [2, 3, 5, 6, 8, 59, 60]) (e' := [(2, .pointer (some ⟨bx4, 0, none⟩)), (3, .pointer (some ⟨bx9, 0, none⟩)), (5, .int .i64 t14), (6, .int .i64 t22.1), (8, .slice A158 (l160).length c159), (59, .pointer (some ⟨bp0, 0, none⟩)), (60, .func (.func 36) #[] #[.pointer (some ⟨bx4, 0, none⟩)])]) rfl ⟨(load1 tab rfl ((Bx.cell f5.now 0).trans rfl)), trivial⟩ fun a hk => ?_
          exact absurd H (by simp)
    refine x_mid (fun a_ w_ => ∃ o234 : Nat → Nat, ∃ x235 : Bool, ∃ x236 : Bool, Kn 115 a_ [(2, .pointer (some ⟨bx4, 0, none⟩)), (3, .pointer (some ⟨bx9, 0, none⟩)), (5, .int .i64 t14), (6, .int .i64 t22.1), (8, .slice none 0 0), (35, .bool x236)] ∧ St [2, 3, 4] w oi w_ o234 ∧ Ft (Bx bx9 21 [.int .i32 p1]) w_ o234 21 ∧ Ft (Bx bx4 23 [.pointer (some ⟨bp0, 0, none⟩)]) w_ o234 20 ∧ NOwn dT65 66 Ap0_0 cp0_0 p0.g_l w_ o234 3 1 ∧ Ft (Bx bp0 56 [.pointer (some ⟨bq0_0, 0, none⟩), .int .i64 p0.spot_x, .int .i64 p0.spot_y, .int .i64 p0.spot_style_Fore, .int .i64 p0.spot_style_Back, .bool p0.spot_style_Bold, .bool p0.spot_style_Under, .bool p0.spot_style_Inverse, .int .i64 p0.saved_x, .int .i64 p0.saved_y, .int .i64 p0.saved_style_Fore, .int .i64 p0.saved_style_Back, .bool p0.saved_style_Bold, .bool p0.saved_style_Under, .bool p0.saved_style_Inverse, .bool x235, .int .i64 p0.top, .int .i64 p0.bottom, .bool p0.wraps, .string p0.title]) w_ o234 2 ∧ Ft (Bx bq0_0 75 [.int .i64 p0.g_w, .slice Ap0_0 (p0.g_l).length cp0_0]) w_ o234 4 ∧ Ft (RdC ET109 (some ⟨0, 0, none⟩) glob0) w_ o234 0 ∧ Ft (RdC ET109 (some ⟨1, 0, none⟩) glob1) w_ o234 0 ∧ screen_Screen_print_j4 K p0 p1 t14 t22 x235 x236 = some r) ?_ ?_
    rotate_left
    · refine fun a w237 z0 => z0.elim fun o234 z1 => z1.elim fun x235 z2 => z2.elim fun x236 z3 => z3.elim fun hk z4 => z4.elim fun hs z5 => z5.elim fun f10 z6 => z6.elim fun f5 z7 => z7.elim fun f900000 z8 => z8.elim fun f900019 z9 => z9.elim fun f910000 z10 => z10.elim fun fg0 z11 => z11.elim fun fg1 H => ?_
      clear z0 z1 z2 z3 z4 z5 z6 z7 z8 z9 z10 z11
      rw [screen_Screen_print_j4] at H
      cases b238 : x236
      · rw [b238] at hk H
        replace H := bifF H
        refine x_if hk (b := false) rfl ?_
        refine (show Code.wpIn _ _ _ _ _ _ _ from ?_)
        refine wpIn_skip ?_
        refine then_n ?_
        exact ⟨(fun b_ => R_65 (o234 b_)), bq0_0, p0.g_w, Ap0_0, cp0_0, p0.g_l, p0.spot_x, p0.spot_y, p0.spot_style_Fore, p0.spot_style_Back, p0.spot_style_Bold, p0.spot_style_Under, p0.spot_style_Inverse, p0.saved_x, p0.saved_y, p0.saved_style_Fore, p0.saved_style_Back, p0.saved_style_Bold, p0.saved_style_Under, p0.saved_style_Inverse, x235, p0.top, p0.bottom, p0.wraps, p0.title, none, 0, ([] : List T65), (by exact Kn.pick (ks := [2, 3, 5, 6, 8]) hk rfl), (hs.relabM hob R_65 (by decide)), (f10.relab R_65 rfl), (f910000.relab R_65 rfl), (f900000.relab R_65 rfl), (NOwn.nil _ _ _ _ _ _), (f5.relab R_65 rfl), (f900019.relab R_65 rfl), (fg0.relab R_65 rfl), (fg1.relab R_65 rfl), hcp0_0, (by simp), H⟩
      · rw [b238] at hk H
        replace H := bifT H
        refine x_if hk (b := true) rfl ?_
        refine (show Code.wpIn _ _ _ _ _ _ _ from ?_)
        refine x_seq ?_
        refine wpIn_region_lit ?_
        refine x_run tab hk (k := 1) (lv := [.pointer (some ⟨bp0, 0, none⟩)]) (ks := [2, 3, 5, 6, 8, 36]) (e' := [(2, .pointer (some ⟨bx4, 0, none⟩)), (3, .pointer (some ⟨bx9, 0, none⟩)), (5, .int .i64 t14), (6, .int .i64 t22.1), (8, .slice none 0 0), (36, .pointer (some ⟨bp0, 0, none⟩))]) rfl ⟨(load1 tab rfl ((Bx.cell f5.now 0).trans rfl)), trivial⟩ fun a hk => ?_
        refine x_op hk rfl ?_
        obtain ⟨t242, hc243, H⟩ := bindS H
        refine op_call hk ent_33 (vs := [.pointer (some ⟨bp0, 0, none⟩), .func (.func 34) #[] #[]]) rfl (screen_Screen_edit_of34_calls K bp0 bq0_0 Ap0_0 cp0_0 (⟨p0.g_w, p0.g_l, p0.spot_x, p0.spot_y, p0.spot_style_Fore, p0.spot_style_Back, p0.spot_style_Bold, p0.spot_style_Under, p0.spot_style_Inverse, p0.saved_x, p0.saved_y, p0.saved_style_Fore, p0.saved_style_Back, p0.saved_style_Bold, p0.saved_style_Under, p0.saved_style_Inverse, x235, p0.top, p0.bottom, p0.wraps, p0.title⟩ : T55) _ o234 1 2 f900019 3 f900000 hcp0_0 4 f910000 (by decide)   _ hc243) ?_
        rintro _ w244 ⟨o245, bx248, A250, c251, rfl, st246, f247, f249, f252, hc253⟩
        replace f10 := f10.st st246 (by decide)
        replace f5 := f5.st st246 (by decide)
        replace fg0 := fg0.st st246 (by decide)
        replace fg1 := fg1.st st246 (by decide)
        replace hs := hs.locQ st246 hob rfl
        have hk := hk.put 37 (.tuple #[]) rfl
        refine wpListIn_nil ?_
        refine then_n ?_
        refine x_seq ?_
        refine wpIn_region_lit ?_
        refine x_run tab hk (k := 4) (lv := [.pointer (some ⟨bp0, 0, none⟩)]) (ks := [2, 3, 5, 6, 8, 41]) (e' := [(2, .pointer (some ⟨bx4, 0, none⟩)), (3, .pointer (some ⟨bx9, 0, none⟩)), (5, .int .i64 t14), (6, .int .i64 t22.1), (8, .slice none 0 0), (41, .pointer (some ((⟨bp0, 0, none⟩ : Addr).add 1)))]) rfl ⟨(load1 tab rfl ((Bx.cell f5.now 0).trans rfl)), trivial⟩ fun a hk => ?_
        refine x_op hk rfl ?_
        refine op_store tab hk (t := 3) (v := .int .i64 0) (b := bp0) (k := 1) (cs' := [.pointer (some ⟨bx248, 0, none⟩), .int .i64 0, .int .i64 t242.spot_y, .int .i64 t242.spot_style_Fore, .int .i64 t242.spot_style_Back, .bool t242.spot_style_Bold, .bool t242.spot_style_Under, .bool t242.spot_style_Inverse, .int .i64 t242.saved_x, .int .i64 t242.saved_y, .int .i64 t242.saved_style_Fore, .int .i64 t242.saved_style_Back, .bool t242.saved_style_Bold, .bool t242.saved_style_Under, .bool t242.saved_style_Inverse, .bool t242.waiting, .int .i64 t242.top, .int .i64 t242.bottom, .bool t242.wraps, .string t242.title]) rfl rfl rfl rfl rfl rfl f247 rfl rfl fun w254 o255 st256 f247_ => ?_
        replace f10 := f10.st st256 (by decide)
        replace f249 := f249.st st256 (by decide)
        replace f252 := f252.st st256 (by decide)
        replace f5 := f5.st st256 (by decide)
        replace fg0 := fg0.st st256 (by decide)
        replace fg1 := fg1.st st256 (by decide)
        replace hs := hs.locQ st256 hob rfl
        replace f247 := f247_
        refine wpListIn_nil ?_
        refine then_n ?_
        refine wpIn_region_lit ?_
        refine x_run tab hk (k := 2) (lv := [.pointer (some ⟨bp0, 0, none⟩)]) (ks := [2, 3, 5, 6, 42, 43]) (e' := [(2, .pointer (some ⟨bx4, 0, none⟩)), (3, .pointer (some ⟨bx9, 0, none⟩)), (5, .int .i64 t14), (6, .int .i64 t22.1), (42, .slice none 0 0), (43, .pointer (some ⟨bp0, 0, none⟩))]) rfl ⟨(load1 tab rfl ((Bx.cell f5.now 0).trans rfl)), trivial⟩ fun a hk => ?_
        refine x_op hk rfl ?_
        obtain ⟨t260, hc261, H⟩ := bindS H
        refine op_call hk ent_35 (vs := [.pointer (some ⟨bp0, 0, none⟩)]) rfl (screen_Screen_line_calls K bp0 bx248 A250 c251 (⟨t242.g_w, t242.g_l, 0, t242.spot_y, t242.spot_style_Fore, t242.spot_style_Back, t242.spot_style_Bold, t242.spot_style_Under, t242.spot_style_Inverse, t242.saved_x, t242.saved_y, t242.saved_style_Fore, t242.saved_style_Back, t242.saved_style_Bold, t242.saved_style_Under, t242.saved_style_Inverse, t242.waiting, t242.top, t242.bottom, t242.wraps, t242.title⟩ : T55) _ o255 1 2 f247 3 f252 hc253 4 f249 (by decide) 22  _ hc261) ?_
        rintro _ w262 ⟨o263, A265, c266, bx270, A272, c273, rfl, st264, f267, hc268, f269, f271, f274, hc275⟩
        replace f10 := f10.st st264 (by decide)
        replace f5 := f5.st st264 (by decide)
        replace fg0 := fg0.st st264 (by decide)
        replace fg1 := fg1.st st264 (by decide)
        replace hs := hs.locQ st264 hob rfl
        have hk := hk.put 44 (.slice A265 (t260.1).length c266) rfl
        refine x_op hk rfl ?_
        obtain ⟨q279, H⟩ := ifS H
        refine op_appendN (o := o263) (D := dT65) (xs := ([] : List T65)) (ys := t260.1) tab hk rfl rfl rfl rfl rfl rfl rfl (NOwn.nil _ _ _ _ 23 1) f267.rd (by decide) q279 fun A280 c281 w276 o277 st278 f282 hc283 => ?_
        replace f10 := f10.st st278 (by decide)
        replace f267 := f267.st st278 (by decide)
        replace f269 := f269.st st278 (by decide)
        replace f271 := f271.st st278 (by decide)
        replace f274 := f274.st st278 (by decide)
        replace f5 := f5.st st278 (by decide)
        replace fg0 := fg0.st st278 (by decide)
        replace fg1 := fg1.st st278 (by decide)
        replace hs := hs.locQ st278 hob rfl
        have hk := hk.put 45 (.slice A280 ((([] : List T65) ++ t260.1)).length c281) rfl
        refine x_run tab hk (k := 1) (lv := []) (ks := [2, 3, 5, 6, 8]) (e' := [(2, .pointer (some ⟨bx4, 0, none⟩)), (3, .pointer (some ⟨bx9, 0, none⟩)), (5, .int .i64 t14), (6, .int .i64 t22.1), (8, .slice A280 ((([] : List T65) ++ t260.1)).length c281)]) rfl trivial fun a hk => ?_
        refine wpListIn_nil ?_
        refine then_n ?_
        exact ⟨(fun b_ => R_66 (o277 b_)), bx270, t260.2.g_w, A272, c273, t260.2.g_l, t260.2.spot_x, t260.2.spot_y, t260.2.spot_style_Fore, t260.2.spot_style_Back, t260.2.spot_style_Bold, t260.2.spot_style_Under, t260.2.spot_style_Inverse, t260.2.saved_x, t260.2.saved_y, t260.2.saved_style_Fore, t260.2.saved_style_Back, t260.2.saved_style_Bold, t260.2.saved_style_Under, t260.2.saved_style_Inverse, t260.2.waiting, t260.2.top, t260.2.bottom, t260.2.wraps, t260.2.title, A280, c281, (([] : List T65) ++ t260.1), (by exact Kn.pick (ks := [2, 3, 5, 6, 8]) hk rfl), (hs.relabM hob R_66 (by decide)), (f10.relab R_66 rfl), (f271.relab R_66 rfl), (f274.relab R_66 rfl), (f282.relab R_66 rfl), (f5.relab R_66 rfl), (f269.relab R_66 rfl), (fg0.relab R_66 rfl), (fg1.relab R_66 rfl), hc275, hc283, H⟩
    refine wpIn_region_lit ?_
    refine x_run tab hk (k := 5) (lv := [.pointer (some ⟨bp0, 0, none⟩), .bool p0.waiting]) (ks := [2, 3, 5, 6, 8, 30]) (e' := [(2, .pointer (some ⟨bx4, 0, none⟩)), (3, .pointer (some ⟨bx9, 0, none⟩)), (5, .int .i64 t14), (6, .int .i64 t22.1), (8, .slice none 0 0), (30, .bool p0.waiting)]) rfl ⟨(load1 tab rfl ((Bx.cell f5.now 0).trans rfl)), (load1 tab rfl ((Bx.cell f900019.now 15).trans rfl)), trivial⟩ fun a hk => ?_
    cases b284 : p0.waiting
    · rw [b284] at hk H
      replace H := bifF H
      rw [b284] at f900019
      refine x_run tab hk (k := 5) (lv := []) (ks := [2, 3, 5, 6, 8, 35]) (e' := [(2, .pointer (some ⟨bx4, 0, none⟩)), (3, .pointer (some ⟨bx9, 0, none⟩)), (5, .int .i64 t14), (6, .int .i64 t22.1), (8, .slice none 0 0), (35, .bool false)]) rfl trivial fun a hk => ?_
      refine wpListIn_nil ?_
      refine then_n ?_
      exact ⟨(fun b_ => R_67 (o32 b_)), false, false, (by exact Kn.pick (ks := [2, 3, 5, 6, 8, 35]) hk rfl), (hs.relabM hob R_67 (by decide)), (f10.relab R_67 rfl), (f5.relab R_67 rfl), (f900000.relab R_67 rfl), (f900019.relab R_67 rfl), (f910000.relab R_67 rfl), (fg0.relab R_67 rfl), (fg1.relab R_67 rfl), H⟩
    · rw [b284] at hk H
      replace H := bifT H
      rw [b284] at f900019
      refine x_run tab hk (k := 5) (lv := [.pointer (some ⟨bp0, 0, none⟩), .bool p0.wraps]) (ks := [2, 3, 5, 6, 8, 35]) (e' := [(2, .pointer (some ⟨bx4, 0, none⟩)), (3, .pointer (some ⟨bx9, 0, none⟩)), (5, .int .i64 t14), (6, .int .i64 t22.1), (8, .slice none 0 0), (35, .bool p0.wraps)]) rfl ⟨(load1 tab rfl ((Bx.cell f5.now 0).trans rfl)), (load1 tab rfl ((Bx.cell f900019.now 18).trans rfl)), trivial⟩ fun a hk => ?_
      refine wpListIn_nil ?_
      refine then_n ?_
      exact ⟨(fun b_ => R_67 (o32 b_)), true, p0.wraps, (by exact Kn.pick (ks := [2, 3, 5, 6, 8, 35]) hk rfl), (hs.relabM hob R_67 (by decide)), (f10.relab R_67 rfl), (f5.relab R_67 rfl), (f900000.relab R_67 rfl), (f900019.relab R_67 rfl), (f910000.relab R_67 rfl), (fg0.relab R_67 rfl), (fg1.relab R_67 rfl), H⟩
  refine x_seq ?_
  refine wpIn_region_lit ?_
  refine x_run tab hk (k := 3) (lv := []) (ks := [2, 3, 5, 6, 21]) (e' := [(2, .pointer (some ⟨bx4, 0, none⟩)), (3, .pointer (some ⟨bx9, 0, none⟩)), (5, .int .i64 t14), (6, .int .i64 t22.1), (21, .bool (t14 == (0 : Int)))]) rfl trivial fun a hk => ?_
  cases b285 : (t14 == (0 : Int))
  · rw [b285] at hk H
    replace H := bifF H
    refine x_run tab hk (k := 4) (lv := []) (ks := [2, 3, 5, 6, 25]) (e' := [(2, .pointer (some ⟨bx4, 0, none⟩)), (3, .pointer (some ⟨bx9, 0, none⟩)), (5, .int .i64 t14), (6, .int .i64 t22.1), (25, .bool (decide (t14 > t22.1)))]) rfl trivial fun a hk => ?_
    refine wpListIn_nil ?_
    refine then_n ?_
    cases b286 : (decide (t14 > t22.1))
    · rw [b286] at hk H
      replace H := bifF H
      refine x_if hk (b := false) rfl ?_
      refine (show Code.wpIn _ _ _ _ _ _ _ from ?_)
      refine wpIn_skip ?_
      refine then_n ?_
      exact ⟨(fun b_ => R_68 (o25 b_)), (by exact Kn.pick (ks := [2, 3, 5, 6]) hk rfl), (hs.relabM hob R_68 (by decide)), (f10.relab R_68 rfl), (f5.relab R_68 rfl), (f900000.relab R_68 rfl), (f900019.relab R_68 rfl), (f910000.relab R_68 rfl), (fg0.relab R_68 rfl), (fg1.relab R_68 rfl), H⟩
    · rw [b286] at hk H
      replace H := bifT H
      refine x_if hk (b := true) rfl ?_
      refine (show Code.wpIn _ _ _ _ _ _ _ from ?_)
      refine x_seq ?_
      refine wpIn_region_lit ?_
      refine x_run tab hk (k := 1) (lv := []) (ks := [4]) (e' := [(4, .slice none 0 0)]) rfl trivial fun a hk => ?_
      refine wpListIn_nil ?_
      refine then_n ?_
      refine wpIn_ret ?_
      refine then_r ?_
      obtain rfl := Option.some.inj H
      exact x_retG hk (rs := [.tmp 4]) (vs := [.slice none 0 0]) rfl ⟨rfl, trivial⟩ ⟨cl w oi o [2, 3, 4] (R_69 LF Lp0 Lp0_0 Lq0_0) o25, none, 0, bq0_0, Ap0_0, cp0_0, rfl, hs.closeF (Lm := [Lp0, Lp0_0, Lq0_0]) (Sh := []) hoa rfl (R_69 LF Lp0 Lp0_0 Lq0_0), (NOwn.nil _ _ _ _ _ _), (by simp), hs.closeM_ft (o := o) (ρ := R_69 LF Lp0 Lp0_0 Lq0_0) f900019 (lab_at hoa (i := 1) rfl) rfl, hs.closeM_ft (o := o) (ρ := R_69 LF Lp0 Lp0_0 Lq0_0) f910000 (lab_at hoa (i := 3) rfl) rfl, f900000.conv (fun _ h_ => hs.closeM_ft (o := o) (ρ := R_69 LF Lp0 Lp0_0 Lq0_0) h_ (lab_at hoa (i := 2) rfl) rfl) (fun _ h_ => hs.closeM_ft (o := o) (ρ := R_69 LF Lp0 Lp0_0 Lq0_0) h_ (lab_at hoa (i := 0) rfl) rfl), hcp0_0⟩
  · rw [b285] at hk H
    replace H := bifT H
    refine x_run tab hk (k := 4) (lv := []) (ks := [2, 3, 5, 6, 25]) (e' := [(2, .pointer (some ⟨bx4, 0, none⟩)), (3, .pointer (some ⟨bx9, 0, none⟩)), (5, .int .i64 t14), (6, .int .i64 t22.1), (25, .bool true)]) rfl trivial fun a hk => ?_
    refine wpListIn_nil ?_
    refine then_n ?_
    refine x_if hk (b := true) rfl ?_
    refine (show Code.wpIn _ _ _ _ _ _ _ from ?_)
    refine x_seq ?_
    refine wpIn_region_lit ?_
    refine x_run tab hk (k := 1) (lv := []) (ks := [4]) (e' := [(4, .slice none 0 0)]) rfl trivial fun a hk => ?_
    refine wpListIn_nil ?_
    refine then_n ?_
    refine wpIn_ret ?_
    refine then_r ?_
    obtain rfl := Option.some.inj H
    exact x_retG hk (rs := [.tmp 4]) (vs := [.slice none 0 0]) rfl ⟨rfl, trivial⟩ ⟨cl w oi o [2, 3, 4] (R_69 LF Lp0 Lp0_0 Lq0_0) o25, none, 0, bq0_0, Ap0_0, cp0_0, rfl, hs.closeF (Lm := [Lp0, Lp0_0, Lq0_0]) (Sh := []) hoa rfl (R_69 LF Lp0 Lp0_0 Lq0_0), (NOwn.nil _ _ _ _ _ _), (by simp), hs.closeM_ft (o := o) (ρ := R_69 LF Lp0 Lp0_0 Lq0_0) f900019 (lab_at hoa (i := 1) rfl) rfl, hs.closeM_ft (o := o) (ρ := R_69 LF Lp0 Lp0_0 Lq0_0) f910000 (lab_at hoa (i := 3) rfl) rfl, f900000.conv (fun _ h_ => hs.closeM_ft (o := o) (ρ := R_69 LF Lp0 Lp0_0 Lq0_0) h_ (lab_at hoa (i := 2) rfl) rfl) (fun _ h_ => hs.closeM_ft (o := o) (ρ := R_69 LF Lp0 Lp0_0 Lq0_0) h_ (lab_at hoa (i := 0) rfl) rfl), hcp0_0⟩

end Go.Proofs.YtpciioffkjpieaaGreatDoor
