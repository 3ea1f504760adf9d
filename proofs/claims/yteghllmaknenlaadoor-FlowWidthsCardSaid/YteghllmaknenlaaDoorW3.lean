/- Walks, printed by an own program: the machine's calls compute the plain functions. -/
import Derived.Test.YteghllmaknenlaaDoorW2
set_option linter.unusedVariables false
set_option linter.unusedSimpArgs false
namespace Go.Proofs.YteghllmaknenlaaDoor
open Go Go.Proofs.XC
/-! tidewrack/tidewracklaw15.FlowPlaces -/
set_option maxHeartbeats 4000000 in
theorem tidewracklaw15_FlowPlaces_calls (K : Nat) (Ap0 : Option Addr) (cp0 : Nat) (p0 : List T24) (p1 : Int) (w : World) (o : Nat → Nat) (Lg0 : Nat) (hg0 : Ft (RdC ET68 (some ⟨0, 0, none⟩) glob0) w o Lg0) (Lg1 : Nat) (hg1 : Ft (RdC ET68 (some ⟨1, 0, none⟩) glob1) w o Lg1) (Lp0 : Nat) (hp0 : Ft (RdC ET24 Ap0 p0) w o Lp0) (hcp0 : (p0).length ≤ cp0)  (r : Bool) (H : tidewracklaw15_FlowPlaces K p0 p1 = some r) :
    Calls Tryd.prog 6 #[.slice Ap0 (p0).length cp0, .int .i64 p1] w (Ret fun v_ w' => ∃ o' : Nat → Nat, v_ = .bool r ∧ St [] w o w' o') := by
  refine x_enter (vs := [.slice Ap0 (p0).length cp0, .int .i64 p1]) Tryd.func6 rfl rfl rfl fun a hk => ?_
  obtain ⟨o0, hs, h0⟩ := St.start w o
  have fg0 := h0 _ _ hg0
  have fg1 := h0 _ _ hg1
  have f900000 := h0 _ _ hp0
  clear h0
  rw [tidewracklaw15_FlowPlaces] at H
  refine x_seq ?_
  refine wpIn_region_lit ?_
  refine x_run tab hk (k := 1) (lv := []) (ks := [0, 1]) (e' := [(0, .slice Ap0 (p0).length cp0), (1, .int .i64 p1)]) rfl trivial fun a hk => ?_
  refine wpListIn_nil ?_
  refine then_n ?_
  refine x_seq ?_
  refine x_seq ?_
  refine wpIn_region_lit ?_
  refine x_op hk rfl ?_
  obtain ⟨t4, hc5, H⟩ := bindS H
  refine op_call hk ent_8 (vs := []) rfl (tidewracklaw15_awake_calls K  _ o0 0 fg0 0 fg1   _ hc5) ?_
  rintro _ w6 ⟨o7, rfl, st8⟩
  replace f900000 := f900000.st st8 (by decide)
  replace fg0 := fg0.st st8 (by decide)
  replace fg1 := fg1.st st8 (by decide)
  replace hs := hs.loc0 st8 (by decide)
  have hk := hk.put 12 (.bool t4) rfl
  refine x_run tab hk (k := 1) (lv := []) (ks := [0, 1, 13]) (e' := [(0, .slice Ap0 (p0).length cp0), (1, .int .i64 p1), (13, .bool (!t4))]) rfl trivial fun a hk => ?_
  refine wpListIn_nil ?_
  refine then_n ?_
  cases b9 : (!t4)
  · rw [b9] at hk H
    replace H := bifF H
    refine x_if hk (b := false) rfl ?_
    refine (show Code.wpIn _ _ _ _ _ _ _ from ?_)
    refine wpIn_skip ?_
    refine then_n ?_
    refine x_seq ?_
    refine wpIn_region_lit ?_
    refine x_op hk rfl ?_
    refine op_slice (o := o7) tab hk (vs := []) (cs := []) rfl rfl rfl rfl rfl rfl rfl rfl rfl 1 fun bx13 w10 o11 st12 f14 => ?_
    replace f900000 := f900000.st st12 (by decide)
    replace fg0 := fg0.st st12 (by decide)
    replace fg1 := fg1.st st12 (by decide)
    replace hs := hs.loc0 st12 (by decide)
    have f15 : Ft (Own ET24 25 (.slice (some ⟨bx13, 0, none⟩) (([] : List T24)).length 0) ([] : List T24)) w10 o11 1 := f14.imp fun _ h_ => Own.of_box h_ rfl (by simp)
    have hk := hk.put 14 (.slice (some ⟨bx13, 0, none⟩) (([] : List T24)).length 0) rfl
    obtain ⟨q16, H⟩ := ifS H
    obtain ⟨q17, H⟩ := ifS H
    obtain ⟨A18, c19, ak21, f20, hc22⟩ := ask_cut (P := Tryd.prog) tab (t := 22) rfl rfl f900000 hcp0 none (some (.int .i64 (mnI ((p0).length : Int) 40))) rfl ⟨q16, (by have := q17; have := hcp0; omega), trivial⟩ (by have := q16; have := q17; omega) (by have := q16; have := q17; omega)
    refine x_run tab hk (k := 5) (lv := [.slice A18 ((List.drop 0 (List.take (Int.toNat (mnI ((p0).length : Int) 40)) p0))).length c19]) (ks := [1, 14, 19]) (e' := [(1, .int .i64 p1), (14, .slice (some ⟨bx13, 0, none⟩) (([] : List T24)).length 0), (19, .slice A18 ((List.drop 0 (List.take (Int.toNat (mnI ((p0).length : Int) 40)) p0))).length c19)]) rfl ⟨(ak21 rfl rfl rfl _), trivial⟩ fun a hk => ?_
    refine x_op hk rfl ?_
    obtain ⟨q26, H⟩ := ifS H
    refine op_append (o := o11) (E := ET24) (xs := ([] : List T24)) (ys := (List.drop 0 (List.take (Int.toNat (mnI ((p0).length : Int) 40)) p0))) tab hk rfl rfl rfl rfl rfl rfl rfl f15 f20.now q26 fun A27 c28 w23 o24 st25 f29 hc30 => ?_
    replace f20 := f20.st st25 (by decide)
    replace fg0 := fg0.st st25 (by decide)
    replace fg1 := fg1.st st25 (by decide)
    replace hs := hs.loc0 st25 (by decide)
    have hk := hk.put 20 (.slice A27 ((([] : List T24) ++ (List.drop 0 (List.take (Int.toNat (mnI ((p0).length : Int) 40)) p0)))).length c28) rfl
    refine x_run tab hk (k := 1) (lv := []) (ks := [0, 1]) (e' := [(0, .slice A27 ((([] : List T24) ++ (List.drop 0 (List.take (Int.toNat (mnI ((p0).length : Int) 40)) p0)))).length c28), (1, .int .i64 p1)]) rfl trivial fun a hk => ?_
    refine wpListIn_nil ?_
    refine then_n ?_
    refine x_seq ?_
    refine wpIn_region_lit ?_
    refine x_run tab hk (k := 2) (lv := []) (ks := [0, 1, 5, 6]) (e' := [(0, .slice A27 ((([] : List T24) ++ (List.drop 0 (List.take (Int.toNat (mnI ((p0).length : Int) 40)) p0)))).length c28), (1, .int .i64 p1), (5, .int .i64 0), (6, .int .i64 0)]) rfl trivial fun a hk => ?_
    refine wpListIn_nil ?_
    refine then_n ?_
    refine x_mid (fun a_ w_ => ∃ o165 : Nat → Nat, ∃ x166 : Int, Kn 87 a_ [(0, .slice A27 ((([] : List T24) ++ (List.drop 0 (List.take (Int.toNat (mnI ((p0).length : Int) 40)) p0)))).length c28), (1, .int .i64 p1), (5, .int .i64 x166)] ∧ St [] w (fun _ => 0) w_ o165 ∧ Ft (Own ET24 25 (.slice A27 ((([] : List T24) ++ (List.drop 0 (List.take (Int.toNat (mnI ((p0).length : Int) 40)) p0)))).length c28) (([] : List T24) ++ (List.drop 0 (List.take (Int.toNat (mnI ((p0).length : Int) 40)) p0)))) w_ o165 8 ∧ Ft (RdC ET68 (some ⟨0, 0, none⟩) glob0) w_ o165 0 ∧ Ft (RdC ET68 (some ⟨1, 0, none⟩) glob1) w_ o165 0 ∧ tidewracklaw15_FlowPlaces_j1 K p0 p1 x166 = some r) ?_ ?_
    rotate_left
    · rintro a w167 ⟨o165, x166, hk, hs, f29, fg0, fg1, H⟩
      rw [tidewracklaw15_FlowPlaces_j1] at H
      refine x_seq ?_
      refine wpIn_region_lit ?_
      refine x_run tab hk (k := 2) (lv := []) (ks := [5, 81, 82]) (e' := [(5, .int .i64 x166), (81, .slice A27 ((([] : List T24) ++ (List.drop 0 (List.take (Int.toNat (mnI ((p0).length : Int) 40)) p0)))).length c28), (82, .int .i64 p1)]) rfl trivial fun a hk => ?_
      refine x_op hk rfl ?_
      obtain ⟨t171, hc172, H⟩ := bindS H
      refine op_call hk ent_10 (vs := [.slice A27 ((([] : List T24) ++ (List.drop 0 (List.take (Int.toNat (mnI ((p0).length : Int) 40)) p0)))).length c28, .int .i64 p1]) rfl (flow_Count_calls K A27 c28 (([] : List T24) ++ (List.drop 0 (List.take (Int.toNat (mnI ((p0).length : Int) 40)) p0))) p1 _ o165 0 fg0 0 fg1 8 (f29.imp fun _ h_ => Own.rd h_) hc30 (by decide) (by decide) (by decide)   _ hc172) ?_
      rintro _ w173 ⟨o174, rfl, st175⟩
      replace f29 := f29.st st175 (by decide)
      replace fg0 := fg0.st st175 (by decide)
      replace fg1 := fg1.st st175 (by decide)
      replace hs := hs.loc0 st175 (by decide)
      have hk := hk.put 83 (.int .i64 t171) rfl
      refine x_run tab hk (k := 4) (lv := []) (ks := [4]) (e' := [(4, .bool (t171 == (IntKind.wrap .i64 (x166 + 1))))]) rfl trivial fun a hk => ?_
      refine wpListIn_nil ?_
      refine then_n ?_
      refine wpIn_ret ?_
      obtain rfl := Option.some.inj H
      exact x_retG hk (rs := [.tmp 4]) (vs := [.bool (t171 == (IntKind.wrap .i64 (x166 + 1)))]) rfl ⟨rfl, trivial⟩ ⟨fun b_ => if b_ < w.heap.size then o b_ else (fun _ => 0) (o174 b_), rfl, hs.close0 o (fun _ => 0)⟩
    refine x_seq ?_
    refine wpIn_region_lit ?_
    refine x_run tab hk (k := 3) (lv := []) (ks := [0, 1, 5, 6, 21, 22, 23]) (e' := [(0, .slice A27 ((([] : List T24) ++ (List.drop 0 (List.take (Int.toNat (mnI ((p0).length : Int) 40)) p0)))).length c28), (1, .int .i64 p1), (5, .int .i64 0), (6, .int .i64 0), (21, .slice A27 ((([] : List T24) ++ (List.drop 0 (List.take (Int.toNat (mnI ((p0).length : Int) 40)) p0)))).length c28), (22, .int .i64 (((([] : List T24) ++ (List.drop 0 (List.take (Int.toNat (mnI ((p0).length : Int) 40)) p0)))).length : Int)), (23, .int .i64 0)]) rfl trivial fun a hk => ?_
    refine wpListIn_nil ?_
    refine then_n ?_
    refine wpIn_block ?_
    refine x_loop (fun j_ a_ w_ => ∃ o218 : Nat → Nat, ∃ x219 : Int, ∃ x220 : Int, ∃ x221 : Int, Kn 87 a_ [(0, .slice A27 ((([] : List T24) ++ (List.drop 0 (List.take (Int.toNat (mnI ((p0).length : Int) 40)) p0)))).length c28), (1, .int .i64 p1), (5, .int .i64 x219), (6, .int .i64 x220), (21, .slice A27 ((([] : List T24) ++ (List.drop 0 (List.take (Int.toNat (mnI ((p0).length : Int) 40)) p0)))).length c28), (22, .int .i64 (((([] : List T24) ++ (List.drop 0 (List.take (Int.toNat (mnI ((p0).length : Int) 40)) p0)))).length : Int)), (23, .int .i64 x221)] ∧ St [] w (fun _ => 0) w_ o218 ∧ Ft (Own ET24 25 (.slice A27 ((([] : List T24) ++ (List.drop 0 (List.take (Int.toNat (mnI ((p0).length : Int) 40)) p0)))).length c28) (([] : List T24) ++ (List.drop 0 (List.take (Int.toNat (mnI ((p0).length : Int) 40)) p0)))) w_ o218 12 ∧ Ft (RdC ET68 (some ⟨0, 0, none⟩) glob0) w_ o218 0 ∧ Ft (RdC ET68 (some ⟨1, 0, none⟩) glob1) w_ o218 0 ∧ tidewracklaw15_FlowPlaces_l2 K p0 p1 j_ x219 x220 x221 = some r) (k := K) ⟨(fun b_ => (fun l_ => if l_ = 1 then 12 else l_) (o24 b_)), 0, 0, 0, (by exact Kn.pick (ks := [0, 1, 5, 6, 21, 22, 23]) hk rfl), (hs.relab0 (fun l_ => if l_ = 1 then 12 else l_) rfl), (f29.relab (fun l_ => if l_ = 1 then 12 else l_) rfl), (fg0.relab (fun l_ => if l_ = 1 then 12 else l_) rfl), (fg1.relab (fun l_ => if l_ = 1 then 12 else l_) rfl), H⟩ (by rintro _ _ ⟨_, _, _, _, _, _, _, _, _, H_⟩; exact absurd (show (none : Option Bool) = some r from H_) (by simp)) ?_
    rintro k262 a w261 ⟨o218, x219, x220, x221, hk, hs, f29, fg0, fg1, H⟩
    rw [tidewracklaw15_FlowPlaces_l2] at H
    obtain ⟨lp263, hlp264⟩ : ∃ lp_, lp_ = tidewracklaw15_FlowPlaces_l2 K p0 p1 k262 := ⟨_, rfl⟩
    rw [← hlp264] at H
    refine x_seq ?_
    refine wpIn_region_lit ?_
    refine x_run tab hk (k := 1) (lv := []) (ks := [0, 1, 5, 6, 21, 22, 23, 24]) (e' := [(0, .slice A27 ((([] : List T24) ++ (List.drop 0 (List.take (Int.toNat (mnI ((p0).length : Int) 40)) p0)))).length c28), (1, .int .i64 p1), (5, .int .i64 x219), (6, .int .i64 x220), (21, .slice A27 ((([] : List T24) ++ (List.drop 0 (List.take (Int.toNat (mnI ((p0).length : Int) 40)) p0)))).length c28), (22, .int .i64 (((([] : List T24) ++ (List.drop 0 (List.take (Int.toNat (mnI ((p0).length : Int) 40)) p0)))).length : Int)), (23, .int .i64 x221), (24, .bool (decide (x221 < (((([] : List T24) ++ (List.drop 0 (List.take (Int.toNat (mnI ((p0).length : Int) 40)) p0)))).length : Int))))]) rfl trivial fun a hk => ?_
    refine wpListIn_nil ?_
    refine then_n ?_
    refine x_seq ?_
    cases b265 : (decide (x221 < (((([] : List T24) ++ (List.drop 0 (List.take (Int.toNat (mnI ((p0).length : Int) 40)) p0)))).length : Int)))
    · rw [b265] at hk H
      replace H := bifF H
      refine x_if hk (b := false) rfl ?_
      refine (show Code.wpIn _ _ _ _ _ _ _ from ?_)
      refine wpIn_exit ?_
      refine then_x ?_
      refine then_x ?_
      refine blk_x ?_
      refine then_n ?_
      exact ⟨(fun b_ => (fun l_ => if l_ = 12 then 8 else l_) (o218 b_)), x219, (by exact Kn.pick (ks := [0, 1, 5]) hk rfl), (hs.relab0 (fun l_ => if l_ = 12 then 8 else l_) rfl), (f29.relab (fun l_ => if l_ = 12 then 8 else l_) rfl), (fg0.relab (fun l_ => if l_ = 12 then 8 else l_) rfl), (fg1.relab (fun l_ => if l_ = 12 then 8 else l_) rfl), H⟩
    · rw [b265] at hk H
      replace H := bifT H
      refine x_if hk (b := true) rfl ?_
      refine (show Code.wpIn _ _ _ _ _ _ _ from ?_)
      refine wpIn_skip ?_
      refine then_n ?_
      refine x_seq ?_
      refine wpIn_block ?_
      refine x_seq ?_
      refine wpIn_region_lit ?_
      obtain ⟨q266, H⟩ := ifS H
      obtain ⟨ad267, hAad267⟩ := RdC.addr (Own.rd f29.now) q266
      have hk_C := hk
      have f29_C := f29
      have fg0_C := fg0
      have fg1_C := fg1
      subst hAad267
      have hk := hk_C
      clear hk_C
      have f29 := f29_C
      clear f29_C
      have fg0 := fg0_C
      clear fg0_C
      have fg1 := fg1_C
      clear fg1_C
      refine x_run tab hk (k := 3) (lv := [.agg #[.int .i32 ((rdD zT24 (([] : List T24) ++ (List.drop 0 (List.take (Int.toNat (mnI ((p0).length : Int) 40)) p0))) x221).Rune), .int .i64 ((rdD zT24 (([] : List T24) ++ (List.drop 0 (List.take (Int.toNat (mnI ((p0).length : Int) 40)) p0))) x221).Style)]]) (ks := [0, 1, 5, 6, 21, 22, 23, 25, 27]) (e' := [(0, .slice (some ad267) ((([] : List T24) ++ (List.drop 0 (List.take (Int.toNat (mnI ((p0).length : Int) 40)) p0)))).length c28), (1, .int .i64 p1), (5, .int .i64 x219), (6, .int .i64 x220), (21, .slice (some ad267) ((([] : List T24) ++ (List.drop 0 (List.take (Int.toNat (mnI ((p0).length : Int) 40)) p0)))).length c28), (22, .int .i64 (((([] : List T24) ++ (List.drop 0 (List.take (Int.toNat (mnI ((p0).length : Int) 40)) p0)))).length : Int)), (23, .int .i64 x221), (25, .int .i64 x221), (27, .agg #[.int .i32 ((rdD zT24 (([] : List T24) ++ (List.drop 0 (List.take (Int.toNat (mnI ((p0).length : Int) 40)) p0))) x221).Rune), .int .i64 ((rdD zT24 (([] : List T24) ++ (List.drop 0 (List.take (Int.toNat (mnI ((p0).length : Int) 40)) p0))) x221).Style)])]) rfl ⟨q266, (load_elem (E := ET24) (i := x221) (dx := zT24) tab rfl rfl (Own.rd f29.now) q266), trivial⟩ fun a hk => ?_
      refine x_op hk rfl ?_
      refine op_alloc (o := o218) tab (t := 25) (cs := [.int .i32 0, .int .i64 0]) rfl rfl 14 fun bx271 w268 o269 st270 f272 => ?_
      replace f29 := f29.st st270 (by decide)
      replace fg0 := fg0.st st270 (by decide)
      replace fg1 := fg1.st st270 (by decide)
      replace hs := hs.loc0 st270 (by decide)
      have hk := hk.put 8 (.pointer (some ⟨bx271, 0, none⟩)) rfl
      refine x_run tab hk (k := 1) (lv := []) (ks := [0, 1, 5, 6, 7, 8, 21, 22, 23, 27]) (e' := [(0, .slice (some ad267) ((([] : List T24) ++ (List.drop 0 (List.take (Int.toNat (mnI ((p0).length : Int) 40)) p0)))).length c28), (1, .int .i64 p1), (5, .int .i64 x219), (6, .int .i64 x220), (7, .int .i64 x221), (8, .pointer (some ⟨bx271, 0, none⟩)), (21, .slice (some ad267) ((([] : List T24) ++ (List.drop 0 (List.take (Int.toNat (mnI ((p0).length : Int) 40)) p0)))).length c28), (22, .int .i64 (((([] : List T24) ++ (List.drop 0 (List.take (Int.toNat (mnI ((p0).length : Int) 40)) p0)))).length : Int)), (23, .int .i64 x221), (27, .agg #[.int .i32 ((rdD zT24 (([] : List T24) ++ (List.drop 0 (List.take (Int.toNat (mnI ((p0).length : Int) 40)) p0))) x221).Rune), .int .i64 ((rdD zT24 (([] : List T24) ++ (List.drop 0 (List.take (Int.toNat (mnI ((p0).length : Int) 40)) p0))) x221).Style)])]) rfl trivial fun a hk => ?_
      refine x_op hk rfl ?_
      refine op_store tab hk (t := 25) (v := .agg #[.int .i32 ((rdD zT24 (([] : List T24) ++ (List.drop 0 (List.take (Int.toNat (mnI ((p0).length : Int) 40)) p0))) x221).Rune), .int .i64 ((rdD zT24 (([] : List T24) ++ (List.drop 0 (List.take (Int.toNat (mnI ((p0).length : Int) 40)) p0))) x221).Style)]) (b := bx271) (k := 0) (cs' := [.int .i32 ((rdD zT24 (([] : List T24) ++ (List.drop 0 (List.take (Int.toNat (mnI ((p0).length : Int) 40)) p0))) x221).Rune), .int .i64 ((rdD zT24 (([] : List T24) ++ (List.drop 0 (List.take (Int.toNat (mnI ((p0).length : Int) 40)) p0))) x221).Style)]) rfl rfl rfl rfl rfl rfl f272 rfl rfl fun w273 o274 st275 f272_ => ?_
      replace f29 := f29.st st275 (by decide)
      replace fg0 := fg0.st st275 (by decide)
      replace fg1 := fg1.st st275 (by decide)
      replace hs := hs.loc0 st275 (by decide)
      replace f272 := f272_
      refine wpListIn_nil ?_
      refine then_n ?_
      refine x_seq ?_
      refine wpIn_region_lit ?_
      refine x_run tab hk (k := 3) (lv := []) (ks := [0, 1, 5, 6, 8, 21, 22, 23, 29, 30, 31]) (e' := [(0, .slice (some ad267) ((([] : List T24) ++ (List.drop 0 (List.take (Int.toNat (mnI ((p0).length : Int) 40)) p0)))).length c28), (1, .int .i64 p1), (5, .int .i64 x219), (6, .int .i64 x220), (8, .pointer (some ⟨bx271, 0, none⟩)), (21, .slice (some ad267) ((([] : List T24) ++ (List.drop 0 (List.take (Int.toNat (mnI ((p0).length : Int) 40)) p0)))).length c28), (22, .int .i64 (((([] : List T24) ++ (List.drop 0 (List.take (Int.toNat (mnI ((p0).length : Int) 40)) p0)))).length : Int)), (23, .int .i64 x221), (29, .slice (some ad267) ((([] : List T24) ++ (List.drop 0 (List.take (Int.toNat (mnI ((p0).length : Int) 40)) p0)))).length c28), (30, .int .i64 p1), (31, .int .i64 x221)]) rfl trivial fun a hk => ?_
      refine x_op hk rfl ?_
      obtain ⟨t279, hc280, H⟩ := bindS H
      refine op_call hk ent_13 (vs := [.slice (some ad267) ((([] : List T24) ++ (List.drop 0 (List.take (Int.toNat (mnI ((p0).length : Int) 40)) p0)))).length c28, .int .i64 p1, .int .i64 x221]) rfl (flow_At_calls K (some ad267) c28 (([] : List T24) ++ (List.drop 0 (List.take (Int.toNat (mnI ((p0).length : Int) 40)) p0))) p1 x221 _ o274 0 fg0 0 fg1 12 (f29.imp fun _ h_ => Own.rd h_) hc30 (by decide) (by decide) (by decide)   _ hc280) ?_
      rintro _ w281 ⟨o282, rfl, st283⟩
      replace f272 := f272.st st283 (by decide)
      replace f29 := f29.st st283 (by decide)
      replace fg0 := fg0.st st283 (by decide)
      replace fg1 := fg1.st st283 (by decide)
      replace hs := hs.loc0 st283 (by decide)
      have hk := hk.put 32 (.tuple #[.int .i64 t279.1, .int .i64 t279.2]) rfl
      refine x_run tab hk (k := 5) (lv := []) (ks := [0, 1, 5, 6, 8, 9, 10, 21, 22, 23]) (e' := [(0, .slice (some ad267) ((([] : List T24) ++ (List.drop 0 (List.take (Int.toNat (mnI ((p0).length : Int) 40)) p0)))).length c28), (1, .int .i64 p1), (5, .int .i64 x219), (6, .int .i64 x220), (8, .pointer (some ⟨bx271, 0, none⟩)), (9, .int .i64 t279.1), (10, .int .i64 t279.2), (21, .slice (some ad267) ((([] : List T24) ++ (List.drop 0 (List.take (Int.toNat (mnI ((p0).length : Int) 40)) p0)))).length c28), (22, .int .i64 (((([] : List T24) ++ (List.drop 0 (List.take (Int.toNat (mnI ((p0).length : Int) 40)) p0)))).length : Int)), (23, .int .i64 x221)]) rfl trivial fun a hk => ?_
      refine wpListIn_nil ?_
      refine then_n ?_
      refine x_seq ?_
      refine wpIn_region_lit ?_
      refine x_run tab hk (k := 3) (lv := [.int .i32 ((rdD zT24 (([] : List T24) ++ (List.drop 0 (List.take (Int.toNat (mnI ((p0).length : Int) 40)) p0))) x221).Rune)]) (ks := [0, 1, 5, 6, 9, 10, 21, 22, 23, 37]) (e' := [(0, .slice (some ad267) ((([] : List T24) ++ (List.drop 0 (List.take (Int.toNat (mnI ((p0).length : Int) 40)) p0)))).length c28), (1, .int .i64 p1), (5, .int .i64 x219), (6, .int .i64 x220), (9, .int .i64 t279.1), (10, .int .i64 t279.2), (21, .slice (some ad267) ((([] : List T24) ++ (List.drop 0 (List.take (Int.toNat (mnI ((p0).length : Int) 40)) p0)))).length c28), (22, .int .i64 (((([] : List T24) ++ (List.drop 0 (List.take (Int.toNat (mnI ((p0).length : Int) 40)) p0)))).length : Int)), (23, .int .i64 x221), (37, .int .i64 (IntKind.wrap .i64 ((rdD zT24 (([] : List T24) ++ (List.drop 0 (List.take (Int.toNat (mnI ((p0).length : Int) 40)) p0))) x221).Rune)))]) rfl ⟨(load1 tab rfl ((Bx.cell f272.now 0).trans rfl)), trivial⟩ fun a hk => ?_
      refine x_op hk rfl ?_
      obtain ⟨t287, hc288, H⟩ := bindS H
      refine op_call hk ent_9 (vs := [.int .i64 (IntKind.wrap .i64 ((rdD zT24 (([] : List T24) ++ (List.drop 0 (List.take (Int.toNat (mnI ((p0).length : Int) 40)) p0))) x221).Rune))]) rfl (tidewrackref06_Of_calls K (IntKind.wrap .i64 ((rdD zT24 (([] : List T24) ++ (List.drop 0 (List.take (Int.toNat (mnI ((p0).length : Int) 40)) p0))) x221).Rune)) _ o282    _ hc288) ?_
      rintro _ w289 ⟨o290, rfl, st291⟩
      replace f29 := f29.st st291 (by decide)
      replace fg0 := fg0.st st291 (by decide)
      replace fg1 := fg1.st st291 (by decide)
      replace hs := hs.loc0 st291 (by decide)
      have hk := hk.put 38 (.int .i64 t287) rfl
      refine x_run tab hk (k := 1) (lv := []) (ks := [0, 1, 5, 6, 9, 10, 11, 21, 22, 23]) (e' := [(0, .slice (some ad267) ((([] : List T24) ++ (List.drop 0 (List.take (Int.toNat (mnI ((p0).length : Int) 40)) p0)))).length c28), (1, .int .i64 p1), (5, .int .i64 x219), (6, .int .i64 x220), (9, .int .i64 t279.1), (10, .int .i64 t279.2), (11, .int .i64 t287), (21, .slice (some ad267) ((([] : List T24) ++ (List.drop 0 (List.take (Int.toNat (mnI ((p0).length : Int) 40)) p0)))).length c28), (22, .int .i64 (((([] : List T24) ++ (List.drop 0 (List.take (Int.toNat (mnI ((p0).length : Int) 40)) p0)))).length : Int)), (23, .int .i64 x221)]) rfl trivial fun a hk => ?_
      refine wpListIn_nil ?_
      refine then_n ?_
      refine x_seq ?_
      refine x_seq ?_
      refine wpIn_region_lit ?_
      refine x_run tab hk (k := 4) (lv := []) (ks := [0, 1, 5, 6, 9, 10, 11, 21, 22, 23, 42]) (e' := [(0, .slice (some ad267) ((([] : List T24) ++ (List.drop 0 (List.take (Int.toNat (mnI ((p0).length : Int) 40)) p0)))).length c28), (1, .int .i64 p1), (5, .int .i64 x219), (6, .int .i64 x220), (9, .int .i64 t279.1), (10, .int .i64 t279.2), (11, .int .i64 t287), (21, .slice (some ad267) ((([] : List T24) ++ (List.drop 0 (List.take (Int.toNat (mnI ((p0).length : Int) 40)) p0)))).length c28), (22, .int .i64 (((([] : List T24) ++ (List.drop 0 (List.take (Int.toNat (mnI ((p0).length : Int) 40)) p0)))).length : Int)), (23, .int .i64 x221), (42, .bool (decide (t279.1 < x219)))]) rfl trivial fun a hk => ?_
      cases b292 : (decide (t279.1 < x219))
      · rw [b292] at hk H
        replace H := bifF H
        refine x_run tab hk (k := 6) (lv := []) (ks := [0, 1, 5, 6, 9, 10, 11, 21, 22, 23, 48]) (e' := [(0, .slice (some ad267) ((([] : List T24) ++ (List.drop 0 (List.take (Int.toNat (mnI ((p0).length : Int) 40)) p0)))).length c28), (1, .int .i64 p1), (5, .int .i64 x219), (6, .int .i64 x220), (9, .int .i64 t279.1), (10, .int .i64 t279.2), (11, .int .i64 t287), (21, .slice (some ad267) ((([] : List T24) ++ (List.drop 0 (List.take (Int.toNat (mnI ((p0).length : Int) 40)) p0)))).length c28), (22, .int .i64 (((([] : List T24) ++ (List.drop 0 (List.take (Int.toNat (mnI ((p0).length : Int) 40)) p0)))).length : Int)), (23, .int .i64 x221), (48, .bool (decide (t279.1 > (IntKind.wrap .i64 (x219 + 1)))))]) rfl trivial fun a hk => ?_
        cases b293 : (decide (t279.1 > (IntKind.wrap .i64 (x219 + 1))))
        · rw [b293] at hk H
          replace H := bifF H
          refine x_run tab hk (k := 4) (lv := []) (ks := [0, 1, 5, 6, 9, 10, 11, 21, 22, 23, 48, 52]) (e' := [(0, .slice (some ad267) ((([] : List T24) ++ (List.drop 0 (List.take (Int.toNat (mnI ((p0).length : Int) 40)) p0)))).length c28), (1, .int .i64 p1), (5, .int .i64 x219), (6, .int .i64 x220), (9, .int .i64 t279.1), (10, .int .i64 t279.2), (11, .int .i64 t287), (21, .slice (some ad267) ((([] : List T24) ++ (List.drop 0 (List.take (Int.toNat (mnI ((p0).length : Int) 40)) p0)))).length c28), (22, .int .i64 (((([] : List T24) ++ (List.drop 0 (List.take (Int.toNat (mnI ((p0).length : Int) 40)) p0)))).length : Int)), (23, .int .i64 x221), (48, .bool false), (52, .bool (t279.1 == x219))]) rfl trivial fun a hk => ?_
          cases b294 : (t279.1 == x219)
          · rw [b294] at hk H
            replace H := bifF H
            refine x_run tab hk (k := 10) (lv := []) (ks := [0, 1, 9, 10, 11, 21, 22, 23, 58, 62]) (e' := [(0, .slice (some ad267) ((([] : List T24) ++ (List.drop 0 (List.take (Int.toNat (mnI ((p0).length : Int) 40)) p0)))).length c28), (1, .int .i64 p1), (9, .int .i64 t279.1), (10, .int .i64 t279.2), (11, .int .i64 t287), (21, .slice (some ad267) ((([] : List T24) ++ (List.drop 0 (List.take (Int.toNat (mnI ((p0).length : Int) 40)) p0)))).length c28), (22, .int .i64 (((([] : List T24) ++ (List.drop 0 (List.take (Int.toNat (mnI ((p0).length : Int) 40)) p0)))).length : Int)), (23, .int .i64 x221), (58, .bool false), (62, .bool (decide (t279.1 > x219)))]) rfl trivial fun a hk => ?_
            cases b295 : (decide (t279.1 > x219))
            · rw [b295] at hk H
              replace H := bifF H
              refine x_run tab hk (k := 10) (lv := []) (ks := [0, 1, 9, 10, 11, 21, 22, 23, 67, 70, 72]) (e' := [(0, .slice (some ad267) ((([] : List T24) ++ (List.drop 0 (List.take (Int.toNat (mnI ((p0).length : Int) 40)) p0)))).length c28), (1, .int .i64 p1), (9, .int .i64 t279.1), (10, .int .i64 t279.2), (11, .int .i64 t287), (21, .slice (some ad267) ((([] : List T24) ++ (List.drop 0 (List.take (Int.toNat (mnI ((p0).length : Int) 40)) p0)))).length c28), (22, .int .i64 (((([] : List T24) ++ (List.drop 0 (List.take (Int.toNat (mnI ((p0).length : Int) 40)) p0)))).length : Int)), (23, .int .i64 x221), (67, .bool false), (70, .int .i64 (IntKind.wrap .i64 (t279.2 + t287))), (72, .int .i64 (mnI p1 1000))]) rfl trivial fun a hk => ?_
              refine x_run tab hk (k := 3) (lv := []) (ks := [0, 1, 9, 10, 11, 21, 22, 23, 75]) (e' := [(0, .slice (some ad267) ((([] : List T24) ++ (List.drop 0 (List.take (Int.toNat (mnI ((p0).length : Int) 40)) p0)))).length c28), (1, .int .i64 p1), (9, .int .i64 t279.1), (10, .int .i64 t279.2), (11, .int .i64 t287), (21, .slice (some ad267) ((([] : List T24) ++ (List.drop 0 (List.take (Int.toNat (mnI ((p0).length : Int) 40)) p0)))).length c28), (22, .int .i64 (((([] : List T24) ++ (List.drop 0 (List.take (Int.toNat (mnI ((p0).length : Int) 40)) p0)))).length : Int)), (23, .int .i64 x221), (75, .bool (decide ((IntKind.wrap .i64 (t279.2 + t287)) > (mxI 2 (mnI p1 1000)))))]) rfl trivial fun a hk => ?_
              refine wpListIn_nil ?_
              refine then_n ?_
              cases b296 : (decide ((IntKind.wrap .i64 (t279.2 + t287)) > (mxI 2 (mnI p1 1000))))
              · rw [b296] at hk H
                replace H := bifF H
                refine x_if hk (b := false) rfl ?_
                refine (show Code.wpIn _ _ _ _ _ _ _ from ?_)
                refine wpIn_skip ?_
                refine then_n ?_
                refine wpIn_region_lit ?_
                refine x_run tab hk (k := 6) (lv := []) (ks := [0, 1, 5, 6, 21, 22, 23]) (e' := [(0, .slice (some ad267) ((([] : List T24) ++ (List.drop 0 (List.take (Int.toNat (mnI ((p0).length : Int) 40)) p0)))).length c28), (1, .int .i64 p1), (5, .int .i64 t279.1), (6, .int .i64 (IntKind.wrap .i64 (t279.2 + t287))), (21, .slice (some ad267) ((([] : List T24) ++ (List.drop 0 (List.take (Int.toNat (mnI ((p0).length : Int) 40)) p0)))).length c28), (22, .int .i64 (((([] : List T24) ++ (List.drop 0 (List.take (Int.toNat (mnI ((p0).length : Int) 40)) p0)))).length : Int)), (23, .int .i64 x221)]) rfl trivial fun a hk => ?_
                refine wpListIn_nil ?_
                refine blk_n ?_
                refine then_n ?_
                refine wpIn_region_lit ?_
                refine x_run tab hk (k := 2) (lv := []) (ks := [0, 1, 5, 6, 21, 22, 23]) (e' := [(0, .slice (some ad267) ((([] : List T24) ++ (List.drop 0 (List.take (Int.toNat (mnI ((p0).length : Int) 40)) p0)))).length c28), (1, .int .i64 p1), (5, .int .i64 t279.1), (6, .int .i64 (IntKind.wrap .i64 (t279.2 + t287))), (21, .slice (some ad267) ((([] : List T24) ++ (List.drop 0 (List.take (Int.toNat (mnI ((p0).length : Int) 40)) p0)))).length c28), (22, .int .i64 (((([] : List T24) ++ (List.drop 0 (List.take (Int.toNat (mnI ((p0).length : Int) 40)) p0)))).length : Int)), (23, .int .i64 (IntKind.wrap .i64 (x221 + 1)))]) rfl trivial fun a hk => ?_
                refine wpListIn_nil ?_
                refine then_n ?_
                exact ⟨k262, Nat.le_refl _, o290, t279.1, (IntKind.wrap .i64 (t279.2 + t287)), (IntKind.wrap .i64 (x221 + 1)), (by exact Kn.pick (ks := [0, 1, 5, 6, 21, 22, 23]) hk rfl), hs, f29, fg0, fg1, (hlp264 ▸ H)⟩
              · rw [b296] at hk H
                replace H := bifT H
                refine x_if hk (b := true) rfl ?_
                refine (show Code.wpIn _ _ _ _ _ _ _ from ?_)
                refine x_seq ?_
                refine wpIn_region_lit ?_
                refine x_run tab hk (k := 1) (lv := []) (ks := [4]) (e' := [(4, .bool false)]) rfl trivial fun a hk => ?_
                refine wpListIn_nil ?_
                refine then_n ?_
                refine wpIn_ret ?_
                refine then_r ?_
                refine blk_r ?_
                refine then_r ?_
                refine then_r ?_
                refine blk_r ?_
                refine then_r ?_
                obtain rfl := Option.some.inj H
                exact x_retG hk (rs := [.tmp 4]) (vs := [.bool false]) rfl ⟨rfl, trivial⟩ ⟨fun b_ => if b_ < w.heap.size then o b_ else (fun _ => 0) (o290 b_), rfl, hs.close0 o (fun _ => 0)⟩
            · rw [b295] at hk H
              replace H := bifT H
              refine x_run tab hk (k := 5) (lv := []) (ks := [0, 1, 9, 10, 11, 21, 22, 23, 67]) (e' := [(0, .slice (some ad267) ((([] : List T24) ++ (List.drop 0 (List.take (Int.toNat (mnI ((p0).length : Int) 40)) p0)))).length c28), (1, .int .i64 p1), (9, .int .i64 t279.1), (10, .int .i64 t279.2), (11, .int .i64 t287), (21, .slice (some ad267) ((([] : List T24) ++ (List.drop 0 (List.take (Int.toNat (mnI ((p0).length : Int) 40)) p0)))).length c28), (22, .int .i64 (((([] : List T24) ++ (List.drop 0 (List.take (Int.toNat (mnI ((p0).length : Int) 40)) p0)))).length : Int)), (23, .int .i64 x221), (67, .bool (t279.2 != (0 : Int)))]) rfl trivial fun a hk => ?_
              cases b297 : (t279.2 != (0 : Int))
              · rw [b297] at hk H
                replace H := bifF H
                refine x_run tab hk (k := 8) (lv := []) (ks := [0, 1, 9, 10, 11, 21, 22, 23, 75]) (e' := [(0, .slice (some ad267) ((([] : List T24) ++ (List.drop 0 (List.take (Int.toNat (mnI ((p0).length : Int) 40)) p0)))).length c28), (1, .int .i64 p1), (9, .int .i64 t279.1), (10, .int .i64 t279.2), (11, .int .i64 t287), (21, .slice (some ad267) ((([] : List T24) ++ (List.drop 0 (List.take (Int.toNat (mnI ((p0).length : Int) 40)) p0)))).length c28), (22, .int .i64 (((([] : List T24) ++ (List.drop 0 (List.take (Int.toNat (mnI ((p0).length : Int) 40)) p0)))).length : Int)), (23, .int .i64 x221), (75, .bool (decide ((IntKind.wrap .i64 (t279.2 + t287)) > (mxI 2 (mnI p1 1000)))))]) rfl trivial fun a hk => ?_
                refine wpListIn_nil ?_
                refine then_n ?_
                cases b298 : (decide ((IntKind.wrap .i64 (t279.2 + t287)) > (mxI 2 (mnI p1 1000))))
                · rw [b298] at hk H
                  replace H := bifF H
                  refine x_if hk (b := false) rfl ?_
                  refine (show Code.wpIn _ _ _ _ _ _ _ from ?_)
                  refine wpIn_skip ?_
                  refine then_n ?_
                  refine wpIn_region_lit ?_
                  refine x_run tab hk (k := 6) (lv := []) (ks := [0, 1, 5, 6, 21, 22, 23]) (e' := [(0, .slice (some ad267) ((([] : List T24) ++ (List.drop 0 (List.take (Int.toNat (mnI ((p0).length : Int) 40)) p0)))).length c28), (1, .int .i64 p1), (5, .int .i64 t279.1), (6, .int .i64 (IntKind.wrap .i64 (t279.2 + t287))), (21, .slice (some ad267) ((([] : List T24) ++ (List.drop 0 (List.take (Int.toNat (mnI ((p0).length : Int) 40)) p0)))).length c28), (22, .int .i64 (((([] : List T24) ++ (List.drop 0 (List.take (Int.toNat (mnI ((p0).length : Int) 40)) p0)))).length : Int)), (23, .int .i64 x221)]) rfl trivial fun a hk => ?_
                  refine wpListIn_nil ?_
                  refine blk_n ?_
                  refine then_n ?_
                  refine wpIn_region_lit ?_
                  refine x_run tab hk (k := 2) (lv := []) (ks := [0, 1, 5, 6, 21, 22, 23]) (e' := [(0, .slice (some ad267) ((([] : List T24) ++ (List.drop 0 (List.take (Int.toNat (mnI ((p0).length : Int) 40)) p0)))).length c28), (1, .int .i64 p1), (5, .int .i64 t279.1), (6, .int .i64 (IntKind.wrap .i64 (t279.2 + t287))), (21, .slice (some ad267) ((([] : List T24) ++ (List.drop 0 (List.take (Int.toNat (mnI ((p0).length : Int) 40)) p0)))).length c28), (22, .int .i64 (((([] : List T24) ++ (List.drop 0 (List.take (Int.toNat (mnI ((p0).length : Int) 40)) p0)))).length : Int)), (23, .int .i64 (IntKind.wrap .i64 (x221 + 1)))]) rfl trivial fun a hk => ?_
                  refine wpListIn_nil ?_
                  refine then_n ?_
                  exact ⟨k262, Nat.le_refl _, o290, t279.1, (IntKind.wrap .i64 (t279.2 + t287)), (IntKind.wrap .i64 (x221 + 1)), (by exact Kn.pick (ks := [0, 1, 5, 6, 21, 22, 23]) hk rfl), hs, f29, fg0, fg1, (hlp264 ▸ H)⟩
                · rw [b298] at hk H
                  replace H := bifT H
                  refine x_if hk (b := true) rfl ?_
                  refine (show Code.wpIn _ _ _ _ _ _ _ from ?_)
                  refine x_seq ?_
                  refine wpIn_region_lit ?_
                  refine x_run tab hk (k := 1) (lv := []) (ks := [4]) (e' := [(4, .bool false)]) rfl trivial fun a hk => ?_
                  refine wpListIn_nil ?_
                  refine then_n ?_
                  refine wpIn_ret ?_
                  refine then_r ?_
                  refine blk_r ?_
                  refine then_r ?_
                  refine then_r ?_
                  refine blk_r ?_
                  refine then_r ?_
                  obtain rfl := Option.some.inj H
                  exact x_retG hk (rs := [.tmp 4]) (vs := [.bool false]) rfl ⟨rfl, trivial⟩ ⟨fun b_ => if b_ < w.heap.size then o b_ else (fun _ => 0) (o290 b_), rfl, hs.close0 o (fun _ => 0)⟩
              · rw [b297] at hk H
                replace H := bifT H
                refine x_run tab hk (k := 8) (lv := []) (ks := [0, 1, 9, 10, 11, 21, 22, 23, 75]) (e' := [(0, .slice (some ad267) ((([] : List T24) ++ (List.drop 0 (List.take (Int.toNat (mnI ((p0).length : Int) 40)) p0)))).length c28), (1, .int .i64 p1), (9, .int .i64 t279.1), (10, .int .i64 t279.2), (11, .int .i64 t287), (21, .slice (some ad267) ((([] : List T24) ++ (List.drop 0 (List.take (Int.toNat (mnI ((p0).length : Int) 40)) p0)))).length c28), (22, .int .i64 (((([] : List T24) ++ (List.drop 0 (List.take (Int.toNat (mnI ((p0).length : Int) 40)) p0)))).length : Int)), (23, .int .i64 x221), (75, .bool true)]) rfl trivial fun a hk => ?_
                refine wpListIn_nil ?_
                refine then_n ?_
                refine x_if hk (b := true) rfl ?_
                refine (show Code.wpIn _ _ _ _ _ _ _ from ?_)
                refine x_seq ?_
                refine wpIn_region_lit ?_
                refine x_run tab hk (k := 1) (lv := []) (ks := [4]) (e' := [(4, .bool false)]) rfl trivial fun a hk => ?_
                refine wpListIn_nil ?_
                refine then_n ?_
                refine wpIn_ret ?_
                refine then_r ?_
                refine blk_r ?_
                refine then_r ?_
                refine then_r ?_
                refine blk_r ?_
                refine then_r ?_
                obtain rfl := Option.some.inj H
                exact x_retG hk (rs := [.tmp 4]) (vs := [.bool false]) rfl ⟨rfl, trivial⟩ ⟨fun b_ => if b_ < w.heap.size then o b_ else (fun _ => 0) (o290 b_), rfl, hs.close0 o (fun _ => 0)⟩
          · rw [b294] at hk H
            replace H := bifT H
            refine x_run tab hk (k := 6) (lv := []) (ks := [0, 1, 5, 9, 10, 11, 21, 22, 23, 58]) (e' := [(0, .slice (some ad267) ((([] : List T24) ++ (List.drop 0 (List.take (Int.toNat (mnI ((p0).length : Int) 40)) p0)))).length c28), (1, .int .i64 p1), (5, .int .i64 x219), (9, .int .i64 t279.1), (10, .int .i64 t279.2), (11, .int .i64 t287), (21, .slice (some ad267) ((([] : List T24) ++ (List.drop 0 (List.take (Int.toNat (mnI ((p0).length : Int) 40)) p0)))).length c28), (22, .int .i64 (((([] : List T24) ++ (List.drop 0 (List.take (Int.toNat (mnI ((p0).length : Int) 40)) p0)))).length : Int)), (23, .int .i64 x221), (58, .bool (t279.2 != x220))]) rfl trivial fun a hk => ?_
            cases b299 : (t279.2 != x220)
            · rw [b299] at hk H
              replace H := bifF H
              refine x_run tab hk (k := 4) (lv := []) (ks := [0, 1, 9, 10, 11, 21, 22, 23, 58, 62]) (e' := [(0, .slice (some ad267) ((([] : List T24) ++ (List.drop 0 (List.take (Int.toNat (mnI ((p0).length : Int) 40)) p0)))).length c28), (1, .int .i64 p1), (9, .int .i64 t279.1), (10, .int .i64 t279.2), (11, .int .i64 t287), (21, .slice (some ad267) ((([] : List T24) ++ (List.drop 0 (List.take (Int.toNat (mnI ((p0).length : Int) 40)) p0)))).length c28), (22, .int .i64 (((([] : List T24) ++ (List.drop 0 (List.take (Int.toNat (mnI ((p0).length : Int) 40)) p0)))).length : Int)), (23, .int .i64 x221), (58, .bool false), (62, .bool (decide (t279.1 > x219)))]) rfl trivial fun a hk => ?_
              cases b300 : (decide (t279.1 > x219))
              · rw [b300] at hk H
                replace H := bifF H
                refine x_run tab hk (k := 10) (lv := []) (ks := [0, 1, 9, 10, 11, 21, 22, 23, 67, 70, 72]) (e' := [(0, .slice (some ad267) ((([] : List T24) ++ (List.drop 0 (List.take (Int.toNat (mnI ((p0).length : Int) 40)) p0)))).length c28), (1, .int .i64 p1), (9, .int .i64 t279.1), (10, .int .i64 t279.2), (11, .int .i64 t287), (21, .slice (some ad267) ((([] : List T24) ++ (List.drop 0 (List.take (Int.toNat (mnI ((p0).length : Int) 40)) p0)))).length c28), (22, .int .i64 (((([] : List T24) ++ (List.drop 0 (List.take (Int.toNat (mnI ((p0).length : Int) 40)) p0)))).length : Int)), (23, .int .i64 x221), (67, .bool false), (70, .int .i64 (IntKind.wrap .i64 (t279.2 + t287))), (72, .int .i64 (mnI p1 1000))]) rfl trivial fun a hk => ?_
                refine x_run tab hk (k := 3) (lv := []) (ks := [0, 1, 9, 10, 11, 21, 22, 23, 75]) (e' := [(0, .slice (some ad267) ((([] : List T24) ++ (List.drop 0 (List.take (Int.toNat (mnI ((p0).length : Int) 40)) p0)))).length c28), (1, .int .i64 p1), (9, .int .i64 t279.1), (10, .int .i64 t279.2), (11, .int .i64 t287), (21, .slice (some ad267) ((([] : List T24) ++ (List.drop 0 (List.take (Int.toNat (mnI ((p0).length : Int) 40)) p0)))).length c28), (22, .int .i64 (((([] : List T24) ++ (List.drop 0 (List.take (Int.toNat (mnI ((p0).length : Int) 40)) p0)))).length : Int)), (23, .int .i64 x221), (75, .bool (decide ((IntKind.wrap .i64 (t279.2 + t287)) > (mxI 2 (mnI p1 1000)))))]) rfl trivial fun a hk => ?_
                refine wpListIn_nil ?_
                refine then_n ?_
                cases b301 : (decide ((IntKind.wrap .i64 (t279.2 + t287)) > (mxI 2 (mnI p1 1000))))
                · rw [b301] at hk H
                  replace H := bifF H
                  refine x_if hk (b := false) rfl ?_
                  refine (show Code.wpIn _ _ _ _ _ _ _ from ?_)
                  refine wpIn_skip ?_
                  refine then_n ?_
                  refine wpIn_region_lit ?_
                  refine x_run tab hk (k := 6) (lv := []) (ks := [0, 1, 5, 6, 21, 22, 23]) (e' := [(0, .slice (some ad267) ((([] : List T24) ++ (List.drop 0 (List.take (Int.toNat (mnI ((p0).length : Int) 40)) p0)))).length c28), (1, .int .i64 p1), (5, .int .i64 t279.1), (6, .int .i64 (IntKind.wrap .i64 (t279.2 + t287))), (21, .slice (some ad267) ((([] : List T24) ++ (List.drop 0 (List.take (Int.toNat (mnI ((p0).length : Int) 40)) p0)))).length c28), (22, .int .i64 (((([] : List T24) ++ (List.drop 0 (List.take (Int.toNat (mnI ((p0).length : Int) 40)) p0)))).length : Int)), (23, .int .i64 x221)]) rfl trivial fun a hk => ?_
                  refine wpListIn_nil ?_
                  refine blk_n ?_
                  refine then_n ?_
                  refine wpIn_region_lit ?_
                  refine x_run tab hk (k := 2) (lv := []) (ks := [0, 1, 5, 6, 21, 22, 23]) (e' := [(0, .slice (some ad267) ((([] : List T24) ++ (List.drop 0 (List.take (Int.toNat (mnI ((p0).length : Int) 40)) p0)))).length c28), (1, .int .i64 p1), (5, .int .i64 t279.1), (6, .int .i64 (IntKind.wrap .i64 (t279.2 + t287))), (21, .slice (some ad267) ((([] : List T24) ++ (List.drop 0 (List.take (Int.toNat (mnI ((p0).length : Int) 40)) p0)))).length c28), (22, .int .i64 (((([] : List T24) ++ (List.drop 0 (List.take (Int.toNat (mnI ((p0).length : Int) 40)) p0)))).length : Int)), (23, .int .i64 (IntKind.wrap .i64 (x221 + 1)))]) rfl trivial fun a hk => ?_
                  refine wpListIn_nil ?_
                  refine then_n ?_
                  exact ⟨k262, Nat.le_refl _, o290, t279.1, (IntKind.wrap .i64 (t279.2 + t287)), (IntKind.wrap .i64 (x221 + 1)), (by exact Kn.pick (ks := [0, 1, 5, 6, 21, 22, 23]) hk rfl), hs, f29, fg0, fg1, (hlp264 ▸ H)⟩
                · rw [b301] at hk H
                  replace H := bifT H
                  refine x_if hk (b := true) rfl ?_
                  refine (show Code.wpIn _ _ _ _ _ _ _ from ?_)
                  refine x_seq ?_
                  refine wpIn_region_lit ?_
                  refine x_run tab hk (k := 1) (lv := []) (ks := [4]) (e' := [(4, .bool false)]) rfl trivial fun a hk => ?_
                  refine wpListIn_nil ?_
                  refine then_n ?_
                  refine wpIn_ret ?_
                  refine then_r ?_
                  refine blk_r ?_
                  refine then_r ?_
                  refine then_r ?_
                  refine blk_r ?_
                  refine then_r ?_
                  obtain rfl := Option.some.inj H
                  exact x_retG hk (rs := [.tmp 4]) (vs := [.bool false]) rfl ⟨rfl, trivial⟩ ⟨fun b_ => if b_ < w.heap.size then o b_ else (fun _ => 0) (o290 b_), rfl, hs.close0 o (fun _ => 0)⟩
              · rw [b300] at hk H
                replace H := bifT H
                refine x_run tab hk (k := 5) (lv := []) (ks := [0, 1, 9, 10, 11, 21, 22, 23, 67]) (e' := [(0, .slice (some ad267) ((([] : List T24) ++ (List.drop 0 (List.take (Int.toNat (mnI ((p0).length : Int) 40)) p0)))).length c28), (1, .int .i64 p1), (9, .int .i64 t279.1), (10, .int .i64 t279.2), (11, .int .i64 t287), (21, .slice (some ad267) ((([] : List T24) ++ (List.drop 0 (List.take (Int.toNat (mnI ((p0).length : Int) 40)) p0)))).length c28), (22, .int .i64 (((([] : List T24) ++ (List.drop 0 (List.take (Int.toNat (mnI ((p0).length : Int) 40)) p0)))).length : Int)), (23, .int .i64 x221), (67, .bool (t279.2 != (0 : Int)))]) rfl trivial fun a hk => ?_
                cases b302 : (t279.2 != (0 : Int))
                · rw [b302] at hk H
                  replace H := bifF H
                  refine x_run tab hk (k := 8) (lv := []) (ks := [0, 1, 9, 10, 11, 21, 22, 23, 75]) (e' := [(0, .slice (some ad267) ((([] : List T24) ++ (List.drop 0 (List.take (Int.toNat (mnI ((p0).length : Int) 40)) p0)))).length c28), (1, .int .i64 p1), (9, .int .i64 t279.1), (10, .int .i64 t279.2), (11, .int .i64 t287), (21, .slice (some ad267) ((([] : List T24) ++ (List.drop 0 (List.take (Int.toNat (mnI ((p0).length : Int) 40)) p0)))).length c28), (22, .int .i64 (((([] : List T24) ++ (List.drop 0 (List.take (Int.toNat (mnI ((p0).length : Int) 40)) p0)))).length : Int)), (23, .int .i64 x221), (75, .bool (decide ((IntKind.wrap .i64 (t279.2 + t287)) > (mxI 2 (mnI p1 1000)))))]) rfl trivial fun a hk => ?_
                  refine wpListIn_nil ?_
                  refine then_n ?_
                  cases b303 : (decide ((IntKind.wrap .i64 (t279.2 + t287)) > (mxI 2 (mnI p1 1000))))
                  · rw [b303] at hk H
                    replace H := bifF H
                    refine x_if hk (b := false) rfl ?_
                    refine (show Code.wpIn _ _ _ _ _ _ _ from ?_)
                    refine wpIn_skip ?_
                    refine then_n ?_
                    refine wpIn_region_lit ?_
                    refine x_run tab hk (k := 6) (lv := []) (ks := [0, 1, 5, 6, 21, 22, 23]) (e' := [(0, .slice (some ad267) ((([] : List T24) ++ (List.drop 0 (List.take (Int.toNat (mnI ((p0).length : Int) 40)) p0)))).length c28), (1, .int .i64 p1), (5, .int .i64 t279.1), (6, .int .i64 (IntKind.wrap .i64 (t279.2 + t287))), (21, .slice (some ad267) ((([] : List T24) ++ (List.drop 0 (List.take (Int.toNat (mnI ((p0).length : Int) 40)) p0)))).length c28), (22, .int .i64 (((([] : List T24) ++ (List.drop 0 (List.take (Int.toNat (mnI ((p0).length : Int) 40)) p0)))).length : Int)), (23, .int .i64 x221)]) rfl trivial fun a hk => ?_
                    refine wpListIn_nil ?_
                    refine blk_n ?_
                    refine then_n ?_
                    refine wpIn_region_lit ?_
                    refine x_run tab hk (k := 2) (lv := []) (ks := [0, 1, 5, 6, 21, 22, 23]) (e' := [(0, .slice (some ad267) ((([] : List T24) ++ (List.drop 0 (List.take (Int.toNat (mnI ((p0).length : Int) 40)) p0)))).length c28), (1, .int .i64 p1), (5, .int .i64 t279.1), (6, .int .i64 (IntKind.wrap .i64 (t279.2 + t287))), (21, .slice (some ad267) ((([] : List T24) ++ (List.drop 0 (List.take (Int.toNat (mnI ((p0).length : Int) 40)) p0)))).length c28), (22, .int .i64 (((([] : List T24) ++ (List.drop 0 (List.take (Int.toNat (mnI ((p0).length : Int) 40)) p0)))).length : Int)), (23, .int .i64 (IntKind.wrap .i64 (x221 + 1)))]) rfl trivial fun a hk => ?_
                    refine wpListIn_nil ?_
                    refine then_n ?_
                    exact ⟨k262, Nat.le_refl _, o290, t279.1, (IntKind.wrap .i64 (t279.2 + t287)), (IntKind.wrap .i64 (x221 + 1)), (by exact Kn.pick (ks := [0, 1, 5, 6, 21, 22, 23]) hk rfl), hs, f29, fg0, fg1, (hlp264 ▸ H)⟩
                  · rw [b303] at hk H
                    replace H := bifT H
                    refine x_if hk (b := true) rfl ?_
                    refine (show Code.wpIn _ _ _ _ _ _ _ from ?_)
                    refine x_seq ?_
                    refine wpIn_region_lit ?_
                    refine x_run tab hk (k := 1) (lv := []) (ks := [4]) (e' := [(4, .bool false)]) rfl trivial fun a hk => ?_
                    refine wpListIn_nil ?_
                    refine then_n ?_
                    refine wpIn_ret ?_
                    refine then_r ?_
                    refine blk_r ?_
                    refine then_r ?_
                    refine then_r ?_
                    refine blk_r ?_
                    refine then_r ?_
                    obtain rfl := Option.some.inj H
                    exact x_retG hk (rs := [.tmp 4]) (vs := [.bool false]) rfl ⟨rfl, trivial⟩ ⟨fun b_ => if b_ < w.heap.size then o b_ else (fun _ => 0) (o290 b_), rfl, hs.close0 o (fun _ => 0)⟩
                · rw [b302] at hk H
                  replace H := bifT H
                  refine x_run tab hk (k := 8) (lv := []) (ks := [0, 1, 9, 10, 11, 21, 22, 23, 75]) (e' := [(0, .slice (some ad267) ((([] : List T24) ++ (List.drop 0 (List.take (Int.toNat (mnI ((p0).length : Int) 40)) p0)))).length c28), (1, .int .i64 p1), (9, .int .i64 t279.1), (10, .int .i64 t279.2), (11, .int .i64 t287), (21, .slice (some ad267) ((([] : List T24) ++ (List.drop 0 (List.take (Int.toNat (mnI ((p0).length : Int) 40)) p0)))).length c28), (22, .int .i64 (((([] : List T24) ++ (List.drop 0 (List.take (Int.toNat (mnI ((p0).length : Int) 40)) p0)))).length : Int)), (23, .int .i64 x221), (75, .bool true)]) rfl trivial fun a hk => ?_
                  refine wpListIn_nil ?_
                  refine then_n ?_
                  refine x_if hk (b := true) rfl ?_
                  refine (show Code.wpIn _ _ _ _ _ _ _ from ?_)
                  refine x_seq ?_
                  refine wpIn_region_lit ?_
                  refine x_run tab hk (k := 1) (lv := []) (ks := [4]) (e' := [(4, .bool false)]) rfl trivial fun a hk => ?_
                  refine wpListIn_nil ?_
                  refine then_n ?_
                  refine wpIn_ret ?_
                  refine then_r ?_
                  refine blk_r ?_
                  refine then_r ?_
                  refine then_r ?_
                  refine blk_r ?_
                  refine then_r ?_
                  obtain rfl := Option.some.inj H
                  exact x_retG hk (rs := [.tmp 4]) (vs := [.bool false]) rfl ⟨rfl, trivial⟩ ⟨fun b_ => if b_ < w.heap.size then o b_ else (fun _ => 0) (o290 b_), rfl, hs.close0 o (fun _ => 0)⟩
            · rw [b299] at hk H
              replace H := bifT H
              refine x_run tab hk (k := 16) (lv := []) (ks := [0, 1, 9, 10, 11, 21, 22, 23, 67, 74]) (e' := [(0, .slice (some ad267) ((([] : List T24) ++ (List.drop 0 (List.take (Int.toNat (mnI ((p0).length : Int) 40)) p0)))).length c28), (1, .int .i64 p1), (9, .int .i64 t279.1), (10, .int .i64 t279.2), (11, .int .i64 t287), (21, .slice (some ad267) ((([] : List T24) ++ (List.drop 0 (List.take (Int.toNat (mnI ((p0).length : Int) 40)) p0)))).length c28), (22, .int .i64 (((([] : List T24) ++ (List.drop 0 (List.take (Int.toNat (mnI ((p0).length : Int) 40)) p0)))).length : Int)), (23, .int .i64 x221), (67, .bool true), (74, undef)]) rfl trivial fun a hk => ?_
              refine x_run tab hk (k := 1) (lv := []) (ks := [0, 1, 9, 10, 11, 21, 22, 23, 75]) (e' := [(0, .slice (some ad267) ((([] : List T24) ++ (List.drop 0 (List.take (Int.toNat (mnI ((p0).length : Int) 40)) p0)))).length c28), (1, .int .i64 p1), (9, .int .i64 t279.1), (10, .int .i64 t279.2), (11, .int .i64 t287), (21, .slice (some ad267) ((([] : List T24) ++ (List.drop 0 (List.take (Int.toNat (mnI ((p0).length : Int) 40)) p0)))).length c28), (22, .int .i64 (((([] : List T24) ++ (List.drop 0 (List.take (Int.toNat (mnI ((p0).length : Int) 40)) p0)))).length : Int)), (23, .int .i64 x221), (75, .bool true)]) rfl trivial fun a hk => ?_
              refine wpListIn_nil ?_
              refine then_n ?_
              refine x_if hk (b := true) rfl ?_
              refine (show Code.wpIn _ _ _ _ _ _ _ from ?_)
              refine x_seq ?_
              refine wpIn_region_lit ?_
              refine x_run tab hk (k := 1) (lv := []) (ks := [4]) (e' := [(4, .bool false)]) rfl trivial fun a hk => ?_
              refine wpListIn_nil ?_
              refine then_n ?_
              refine wpIn_ret ?_
              refine then_r ?_
              refine blk_r ?_
              refine then_r ?_
              refine then_r ?_
              refine blk_r ?_
              refine then_r ?_
              obtain rfl := Option.some.inj H
              exact x_retG hk (rs := [.tmp 4]) (vs := [.bool false]) rfl ⟨rfl, trivial⟩ ⟨fun b_ => if b_ < w.heap.size then o b_ else (fun _ => 0) (o290 b_), rfl, hs.close0 o (fun _ => 0)⟩
        · rw [b293] at hk H
          replace H := bifT H
          refine x_run tab hk (k := 17) (lv := []) (ks := [0, 1, 9, 10, 11, 21, 22, 23, 58, 65]) (e' := [(0, .slice (some ad267) ((([] : List T24) ++ (List.drop 0 (List.take (Int.toNat (mnI ((p0).length : Int) 40)) p0)))).length c28), (1, .int .i64 p1), (9, .int .i64 t279.1), (10, .int .i64 t279.2), (11, .int .i64 t287), (21, .slice (some ad267) ((([] : List T24) ++ (List.drop 0 (List.take (Int.toNat (mnI ((p0).length : Int) 40)) p0)))).length c28), (22, .int .i64 (((([] : List T24) ++ (List.drop 0 (List.take (Int.toNat (mnI ((p0).length : Int) 40)) p0)))).length : Int)), (23, .int .i64 x221), (58, .bool true), (65, undef)]) rfl trivial fun a hk => ?_
          refine x_run tab hk (k := 10) (lv := []) (ks := [0, 1, 9, 10, 11, 21, 22, 23, 75]) (e' := [(0, .slice (some ad267) ((([] : List T24) ++ (List.drop 0 (List.take (Int.toNat (mnI ((p0).length : Int) 40)) p0)))).length c28), (1, .int .i64 p1), (9, .int .i64 t279.1), (10, .int .i64 t279.2), (11, .int .i64 t287), (21, .slice (some ad267) ((([] : List T24) ++ (List.drop 0 (List.take (Int.toNat (mnI ((p0).length : Int) 40)) p0)))).length c28), (22, .int .i64 (((([] : List T24) ++ (List.drop 0 (List.take (Int.toNat (mnI ((p0).length : Int) 40)) p0)))).length : Int)), (23, .int .i64 x221), (75, .bool true)]) rfl trivial fun a hk => ?_
          refine wpListIn_nil ?_
          refine then_n ?_
          refine x_if hk (b := true) rfl ?_
          refine (show Code.wpIn _ _ _ _ _ _ _ from ?_)
          refine x_seq ?_
          refine wpIn_region_lit ?_
          refine x_run tab hk (k := 1) (lv := []) (ks := [4]) (e' := [(4, .bool false)]) rfl trivial fun a hk => ?_
          refine wpListIn_nil ?_
          refine then_n ?_
          refine wpIn_ret ?_
          refine then_r ?_
          refine blk_r ?_
          refine then_r ?_
          refine then_r ?_
          refine blk_r ?_
          refine then_r ?_
          obtain rfl := Option.some.inj H
          exact x_retG hk (rs := [.tmp 4]) (vs := [.bool false]) rfl ⟨rfl, trivial⟩ ⟨fun b_ => if b_ < w.heap.size then o b_ else (fun _ => 0) (o290 b_), rfl, hs.close0 o (fun _ => 0)⟩
      · rw [b292] at hk H
        replace H := bifT H
        refine x_run tab hk (k := 14) (lv := []) (ks := [0, 1, 5, 9, 10, 11, 21, 22, 23, 48, 56]) (e' := [(0, .slice (some ad267) ((([] : List T24) ++ (List.drop 0 (List.take (Int.toNat (mnI ((p0).length : Int) 40)) p0)))).length c28), (1, .int .i64 p1), (5, .int .i64 x219), (9, .int .i64 t279.1), (10, .int .i64 t279.2), (11, .int .i64 t287), (21, .slice (some ad267) ((([] : List T24) ++ (List.drop 0 (List.take (Int.toNat (mnI ((p0).length : Int) 40)) p0)))).length c28), (22, .int .i64 (((([] : List T24) ++ (List.drop 0 (List.take (Int.toNat (mnI ((p0).length : Int) 40)) p0)))).length : Int)), (23, .int .i64 x221), (48, .bool true), (56, undef)]) rfl trivial fun a hk => ?_
        refine x_run tab hk (k := 10) (lv := []) (ks := [0, 1, 9, 10, 11, 21, 22, 23, 66]) (e' := [(0, .slice (some ad267) ((([] : List T24) ++ (List.drop 0 (List.take (Int.toNat (mnI ((p0).length : Int) 40)) p0)))).length c28), (1, .int .i64 p1), (9, .int .i64 t279.1), (10, .int .i64 t279.2), (11, .int .i64 t287), (21, .slice (some ad267) ((([] : List T24) ++ (List.drop 0 (List.take (Int.toNat (mnI ((p0).length : Int) 40)) p0)))).length c28), (22, .int .i64 (((([] : List T24) ++ (List.drop 0 (List.take (Int.toNat (mnI ((p0).length : Int) 40)) p0)))).length : Int)), (23, .int .i64 x221), (66, .bool true)]) rfl trivial fun a hk => ?_
        refine x_run tab hk (k := 9) (lv := []) (ks := [0, 1, 9, 10, 11, 21, 22, 23, 75]) (e' := [(0, .slice (some ad267) ((([] : List T24) ++ (List.drop 0 (List.take (Int.toNat (mnI ((p0).length : Int) 40)) p0)))).length c28), (1, .int .i64 p1), (9, .int .i64 t279.1), (10, .int .i64 t279.2), (11, .int .i64 t287), (21, .slice (some ad267) ((([] : List T24) ++ (List.drop 0 (List.take (Int.toNat (mnI ((p0).length : Int) 40)) p0)))).length c28), (22, .int .i64 (((([] : List T24) ++ (List.drop 0 (List.take (Int.toNat (mnI ((p0).length : Int) 40)) p0)))).length : Int)), (23, .int .i64 x221), (75, .bool true)]) rfl trivial fun a hk => ?_
        refine wpListIn_nil ?_
        refine then_n ?_
        refine x_if hk (b := true) rfl ?_
        refine (show Code.wpIn _ _ _ _ _ _ _ from ?_)
        refine x_seq ?_
        refine wpIn_region_lit ?_
        refine x_run tab hk (k := 1) (lv := []) (ks := [4]) (e' := [(4, .bool false)]) rfl trivial fun a hk => ?_
        refine wpListIn_nil ?_
        refine then_n ?_
        refine wpIn_ret ?_
        refine then_r ?_
        refine blk_r ?_
        refine then_r ?_
        refine then_r ?_
        refine blk_r ?_
        refine then_r ?_
        obtain rfl := Option.some.inj H
        exact x_retG hk (rs := [.tmp 4]) (vs := [.bool false]) rfl ⟨rfl, trivial⟩ ⟨fun b_ => if b_ < w.heap.size then o b_ else (fun _ => 0) (o290 b_), rfl, hs.close0 o (fun _ => 0)⟩
  · rw [b9] at hk H
    replace H := bifT H
    refine x_if hk (b := true) rfl ?_
    refine (show Code.wpIn _ _ _ _ _ _ _ from ?_)
    refine x_seq ?_
    refine wpIn_region_lit ?_
    refine x_run tab hk (k := 1) (lv := []) (ks := [4]) (e' := [(4, .bool false)]) rfl trivial fun a hk => ?_
    refine wpListIn_nil ?_
    refine then_n ?_
    refine wpIn_ret ?_
    refine then_r ?_
    obtain rfl := Option.some.inj H
    exact x_retG hk (rs := [.tmp 4]) (vs := [.bool false]) rfl ⟨rfl, trivial⟩ ⟨fun b_ => if b_ < w.heap.size then o b_ else (fun _ => 0) (o7 b_), rfl, hs.close0 o (fun _ => 0)⟩

/-! tidewrack/tidewracklaw15.FlowWidths -/
theorem tidewracklaw15_FlowWidths_calls (K : Nat) (Ap0 : Option Addr) (cp0 : Nat) (p0 : List T24) (p1 : Int) (p2 : Int) (w : World) (o : Nat → Nat) (Lg0 : Nat) (hg0 : Ft (RdC ET68 (some ⟨0, 0, none⟩) glob0) w o Lg0) (Lg1 : Nat) (hg1 : Ft (RdC ET68 (some ⟨1, 0, none⟩) glob1) w o Lg1) (Lp0 : Nat) (hp0 : Ft (RdC ET24 Ap0 p0) w o Lp0) (hcp0 : (p0).length ≤ cp0)  (r : Bool) (H : tidewracklaw15_FlowWidths K p0 p1 p2 = some r) :
    Calls Tryd.prog 7 #[.slice Ap0 (p0).length cp0, .int .i64 p1, .int .i64 p2] w (Ret fun v_ w' => ∃ o' : Nat → Nat, v_ = .bool r ∧ St [] w o w' o') := by
  refine x_enter (vs := [.slice Ap0 (p0).length cp0, .int .i64 p1, .int .i64 p2]) Tryd.func7 rfl rfl rfl fun a hk => ?_
  obtain ⟨o0, hs, h0⟩ := St.start w o
  have fg0 := h0 _ _ hg0
  have fg1 := h0 _ _ hg1
  have f900000 := h0 _ _ hp0
  clear h0
  rw [tidewracklaw15_FlowWidths] at H
  refine x_seq ?_
  refine wpIn_region_lit ?_
  refine x_run tab hk (k := 1) (lv := []) (ks := [0, 1, 2]) (e' := [(0, .slice Ap0 (p0).length cp0), (1, .int .i64 p1), (2, .int .i64 p2)]) rfl trivial fun a hk => ?_
  refine wpListIn_nil ?_
  refine then_n ?_
  refine x_seq ?_
  refine x_seq ?_
  refine wpIn_region_lit ?_
  refine x_op hk rfl ?_
  obtain ⟨t4, hc5, H⟩ := bindS H
  refine op_call hk ent_8 (vs := []) rfl (tidewracklaw15_awake_calls K  _ o0 0 fg0 0 fg1   _ hc5) ?_
  rintro _ w6 ⟨o7, rfl, st8⟩
  replace f900000 := f900000.st st8 (by decide)
  replace fg0 := fg0.st st8 (by decide)
  replace fg1 := fg1.st st8 (by decide)
  replace hs := hs.loc0 st8 (by decide)
  have hk := hk.put 12 (.bool t4) rfl
  refine x_run tab hk (k := 1) (lv := []) (ks := [0, 1, 2, 13]) (e' := [(0, .slice Ap0 (p0).length cp0), (1, .int .i64 p1), (2, .int .i64 p2), (13, .bool (!t4))]) rfl trivial fun a hk => ?_
  refine wpListIn_nil ?_
  refine then_n ?_
  cases b9 : (!t4)
  · rw [b9] at hk H
    replace H := bifF H
    refine x_if hk (b := false) rfl ?_
    refine (show Code.wpIn _ _ _ _ _ _ _ from ?_)
    refine wpIn_skip ?_
    refine then_n ?_
    refine x_seq ?_
    refine wpIn_region_lit ?_
    refine x_op hk rfl ?_
    refine op_slice (o := o7) tab hk (vs := []) (cs := []) rfl rfl rfl rfl rfl rfl rfl rfl rfl 2 fun bx13 w10 o11 st12 f14 => ?_
    replace f900000 := f900000.st st12 (by decide)
    replace fg0 := fg0.st st12 (by decide)
    replace fg1 := fg1.st st12 (by decide)
    replace hs := hs.loc0 st12 (by decide)
    have f15 : Ft (Own ET24 25 (.slice (some ⟨bx13, 0, none⟩) (([] : List T24)).length 0) ([] : List T24)) w10 o11 2 := f14.imp fun _ h_ => Own.of_box h_ rfl (by simp)
    have hk := hk.put 14 (.slice (some ⟨bx13, 0, none⟩) (([] : List T24)).length 0) rfl
    obtain ⟨q16, H⟩ := ifS H
    obtain ⟨q17, H⟩ := ifS H
    obtain ⟨A18, c19, ak21, f20, hc22⟩ := ask_cut (P := Tryd.prog) tab (t := 22) rfl rfl f900000 hcp0 none (some (.int .i64 (mnI ((p0).length : Int) 60))) rfl ⟨q16, (by have := q17; have := hcp0; omega), trivial⟩ (by have := q16; have := q17; omega) (by have := q16; have := q17; omega)
    refine x_run tab hk (k := 5) (lv := [.slice A18 ((List.drop 0 (List.take (Int.toNat (mnI ((p0).length : Int) 60)) p0))).length c19]) (ks := [1, 2, 14, 19]) (e' := [(1, .int .i64 p1), (2, .int .i64 p2), (14, .slice (some ⟨bx13, 0, none⟩) (([] : List T24)).length 0), (19, .slice A18 ((List.drop 0 (List.take (Int.toNat (mnI ((p0).length : Int) 60)) p0))).length c19)]) rfl ⟨(ak21 rfl rfl rfl _), trivial⟩ fun a hk => ?_
    refine x_op hk rfl ?_
    obtain ⟨q26, H⟩ := ifS H
    refine op_append (o := o11) (E := ET24) (xs := ([] : List T24)) (ys := (List.drop 0 (List.take (Int.toNat (mnI ((p0).length : Int) 60)) p0))) tab hk rfl rfl rfl rfl rfl rfl rfl f15 f20.now q26 fun A27 c28 w23 o24 st25 f29 hc30 => ?_
    replace f20 := f20.st st25 (by decide)
    replace fg0 := fg0.st st25 (by decide)
    replace fg1 := fg1.st st25 (by decide)
    replace hs := hs.loc0 st25 (by decide)
    have hk := hk.put 20 (.slice A27 ((([] : List T24) ++ (List.drop 0 (List.take (Int.toNat (mnI ((p0).length : Int) 60)) p0)))).length c28) rfl
    refine x_run tab hk (k := 1) (lv := []) (ks := [0, 1, 2]) (e' := [(0, .slice A27 ((([] : List T24) ++ (List.drop 0 (List.take (Int.toNat (mnI ((p0).length : Int) 60)) p0)))).length c28), (1, .int .i64 p1), (2, .int .i64 p2)]) rfl trivial fun a hk => ?_
    refine wpListIn_nil ?_
    refine then_n ?_
    refine x_seq ?_
    refine wpIn_region_lit ?_
    refine x_run tab hk (k := 2) (lv := []) (ks := [0, 1, 2, 21, 22]) (e' := [(0, .slice A27 ((([] : List T24) ++ (List.drop 0 (List.take (Int.toNat (mnI ((p0).length : Int) 60)) p0)))).length c28), (1, .int .i64 p1), (2, .int .i64 p2), (21, .slice A27 ((([] : List T24) ++ (List.drop 0 (List.take (Int.toNat (mnI ((p0).length : Int) 60)) p0)))).length c28), (22, .int .i64 p1)]) rfl trivial fun a hk => ?_
    refine x_op hk rfl ?_
    obtain ⟨t34, hc35, H⟩ := bindS H
    refine op_call hk ent_12 (vs := [.slice A27 ((([] : List T24) ++ (List.drop 0 (List.take (Int.toNat (mnI ((p0).length : Int) 60)) p0)))).length c28, .int .i64 p1]) rfl (flow_Cut_calls K A27 c28 (([] : List T24) ++ (List.drop 0 (List.take (Int.toNat (mnI ((p0).length : Int) 60)) p0))) p1 _ o24 1 0 fg0 0 fg1 2 (f29.imp fun _ h_ => Own.rd h_) hc30 (by decide) (by decide) (by decide) 3  _ hc35) ?_
    rintro _ w36 ⟨o37, A39, c40, rfl, st38, f41, hc42⟩
    replace f29 := f29.st st38 (by decide)
    replace fg0 := fg0.st st38 (by decide)
    replace fg1 := fg1.st st38 (by decide)
    replace hs := hs.loc0 st38 (by decide)
    have hk := hk.put 23 (.slice A39 (t34).length c40) rfl
    refine x_run tab hk (k := 1) (lv := []) (ks := [0, 1, 2, 7]) (e' := [(0, .slice A27 ((([] : List T24) ++ (List.drop 0 (List.take (Int.toNat (mnI ((p0).length : Int) 60)) p0)))).length c28), (1, .int .i64 p1), (2, .int .i64 p2), (7, .slice A39 (t34).length c40)]) rfl trivial fun a hk => ?_
    refine wpListIn_nil ?_
    refine then_n ?_
    refine x_seq ?_
    refine wpIn_region_lit ?_
    refine x_run tab hk (k := 1) (lv := []) (ks := [0, 1, 2, 7, 24]) (e' := [(0, .slice A27 ((([] : List T24) ++ (List.drop 0 (List.take (Int.toNat (mnI ((p0).length : Int) 60)) p0)))).length c28), (1, .int .i64 p1), (2, .int .i64 p2), (7, .slice A39 (t34).length c40), (24, .slice A39 (t34).length c40)]) rfl trivial fun a hk => ?_
    refine x_op hk rfl ?_
    obtain ⟨t46, hc47, H⟩ := bindS H
    refine op_call hk ent_20 (vs := [.slice A39 (t34).length c40]) rfl (flow_Join_calls K A39 c40 t34 _ o37 1 _ f41.rd hc42 (by decide) (by decide) 4  _ hc47) ?_
    rintro _ w48 ⟨o49, A51, c52, rfl, st50, f53, hc54⟩
    replace f29 := f29.st st50 (by decide)
    replace f41 := f41.st st50 (by decide)
    replace fg0 := fg0.st st50 (by decide)
    replace fg1 := fg1.st st50 (by decide)
    replace hs := hs.loc0 st50 (by decide)
    have hk := hk.put 25 (.slice A51 (t46).length c52) rfl
    refine x_run tab hk (k := 1) (lv := []) (ks := [0, 1, 2, 7, 25, 26]) (e' := [(0, .slice A27 ((([] : List T24) ++ (List.drop 0 (List.take (Int.toNat (mnI ((p0).length : Int) 60)) p0)))).length c28), (1, .int .i64 p1), (2, .int .i64 p2), (7, .slice A39 (t34).length c40), (25, .slice A51 (t46).length c52), (26, .int .i64 p2)]) rfl trivial fun a hk => ?_
    refine x_op hk rfl ?_
    obtain ⟨t58, hc59, H⟩ := bindS H
    refine op_call hk ent_12 (vs := [.slice A51 (t46).length c52, .int .i64 p2]) rfl (flow_Cut_calls K A51 c52 t46 p2 _ o49 1 0 fg0 0 fg1 4 (f53.imp fun _ h_ => Own.rd h_) hc54 (by decide) (by decide) (by decide) 5  _ hc59) ?_
    rintro _ w60 ⟨o61, A63, c64, rfl, st62, f65, hc66⟩
    replace f29 := f29.st st62 (by decide)
    replace f41 := f41.st st62 (by decide)
    replace f53 := f53.st st62 (by decide)
    replace fg0 := fg0.st st62 (by decide)
    replace fg1 := fg1.st st62 (by decide)
    replace hs := hs.loc0 st62 (by decide)
    have hk := hk.put 27 (.slice A63 (t58).length c64) rfl
    refine x_run tab hk (k := 1) (lv := []) (ks := [0, 1, 2, 7, 8]) (e' := [(0, .slice A27 ((([] : List T24) ++ (List.drop 0 (List.take (Int.toNat (mnI ((p0).length : Int) 60)) p0)))).length c28), (1, .int .i64 p1), (2, .int .i64 p2), (7, .slice A39 (t34).length c40), (8, .slice A63 (t58).length c64)]) rfl trivial fun a hk => ?_
    refine wpListIn_nil ?_
    refine then_n ?_
    refine x_seq ?_
    refine wpIn_region_lit ?_
    refine x_run tab hk (k := 1) (lv := []) (ks := [0, 1, 2, 7, 28]) (e' := [(0, .slice A27 ((([] : List T24) ++ (List.drop 0 (List.take (Int.toNat (mnI ((p0).length : Int) 60)) p0)))).length c28), (1, .int .i64 p1), (2, .int .i64 p2), (7, .slice A39 (t34).length c40), (28, .slice A63 (t58).length c64)]) rfl trivial fun a hk => ?_
    refine x_op hk rfl ?_
    obtain ⟨t70, hc71, H⟩ := bindS H
    refine op_call hk ent_20 (vs := [.slice A63 (t58).length c64]) rfl (flow_Join_calls K A63 c64 t58 _ o61 1 _ f65.rd hc66 (by decide) (by decide) 6  _ hc71) ?_
    rintro _ w72 ⟨o73, A75, c76, rfl, st74, f77, hc78⟩
    replace f29 := f29.st st74 (by decide)
    replace f41 := f41.st st74 (by decide)
    replace f65 := f65.st st74 (by decide)
    replace fg0 := fg0.st st74 (by decide)
    replace fg1 := fg1.st st74 (by decide)
    replace hs := hs.loc0 st74 (by decide)
    have hk := hk.put 29 (.slice A75 (t70).length c76) rfl
    refine x_run tab hk (k := 1) (lv := []) (ks := [0, 1, 2, 7, 29, 30]) (e' := [(0, .slice A27 ((([] : List T24) ++ (List.drop 0 (List.take (Int.toNat (mnI ((p0).length : Int) 60)) p0)))).length c28), (1, .int .i64 p1), (2, .int .i64 p2), (7, .slice A39 (t34).length c40), (29, .slice A75 (t70).length c76), (30, .int .i64 p1)]) rfl trivial fun a hk => ?_
    refine x_op hk rfl ?_
    obtain ⟨t82, hc83, H⟩ := bindS H
    refine op_call hk ent_12 (vs := [.slice A75 (t70).length c76, .int .i64 p1]) rfl (flow_Cut_calls K A75 c76 t70 p1 _ o73 1 0 fg0 0 fg1 6 (f77.imp fun _ h_ => Own.rd h_) hc78 (by decide) (by decide) (by decide) 7  _ hc83) ?_
    rintro _ w84 ⟨o85, A87, c88, rfl, st86, f89, hc90⟩
    replace f29 := f29.st st86 (by decide)
    replace f41 := f41.st st86 (by decide)
    replace f77 := f77.st st86 (by decide)
    replace fg0 := fg0.st st86 (by decide)
    replace fg1 := fg1.st st86 (by decide)
    replace hs := hs.loc0 st86 (by decide)
    have hk := hk.put 31 (.slice A87 (t82).length c88) rfl
    refine x_run tab hk (k := 1) (lv := []) (ks := [0, 1, 2, 7, 9]) (e' := [(0, .slice A27 ((([] : List T24) ++ (List.drop 0 (List.take (Int.toNat (mnI ((p0).length : Int) 60)) p0)))).length c28), (1, .int .i64 p1), (2, .int .i64 p2), (7, .slice A39 (t34).length c40), (9, .slice A87 (t82).length c88)]) rfl trivial fun a hk => ?_
    refine wpListIn_nil ?_
    refine then_n ?_
    refine x_seq ?_
    refine wpIn_region_lit ?_
    refine x_run tab hk (k := 8) (lv := []) (ks := [0, 1, 7, 9, 10, 11]) (e' := [(0, .slice A27 ((([] : List T24) ++ (List.drop 0 (List.take (Int.toNat (mnI ((p0).length : Int) 60)) p0)))).length c28), (1, .int .i64 p1), (7, .slice A39 (t34).length c40), (9, .slice A87 (t82).length c88), (10, .int .i64 (mnI p1 p2)), (11, .int .i64 (mxI p1 p2))]) rfl trivial fun a hk => ?_
    refine wpListIn_nil ?_
    refine then_n ?_
    refine x_seq ?_
    refine wpIn_region_lit ?_
    refine x_run tab hk (k := 2) (lv := []) (ks := [0, 1, 7, 9, 10, 11, 38, 39]) (e' := [(0, .slice A27 ((([] : List T24) ++ (List.drop 0 (List.take (Int.toNat (mnI ((p0).length : Int) 60)) p0)))).length c28), (1, .int .i64 p1), (7, .slice A39 (t34).length c40), (9, .slice A87 (t82).length c88), (10, .int .i64 (mnI p1 p2)), (11, .int .i64 (mxI p1 p2)), (38, .slice A87 (t82).length c88), (39, .slice A27 ((([] : List T24) ++ (List.drop 0 (List.take (Int.toNat (mnI ((p0).length : Int) 60)) p0)))).length c28)]) rfl trivial fun a hk => ?_
    refine x_op hk rfl ?_
    obtain ⟨t94, hc95, H⟩ := bindS H
    refine op_call hk ent_11 (vs := [.slice A27 ((([] : List T24) ++ (List.drop 0 (List.take (Int.toNat (mnI ((p0).length : Int) 60)) p0)))).length c28]) rfl (tidewracklaw14_Told_calls K A27 c28 (([] : List T24) ++ (List.drop 0 (List.take (Int.toNat (mnI ((p0).length : Int) 60)) p0))) _ o85 _ (f29.imp fun _ h_ => Own.rd h_) hc30 8  _ hc95) ?_
    rintro _ w96 ⟨o97, A99, c100, rfl, st98, f101, hc102⟩
    replace f29 := f29.st st98 (by decide)
    replace f41 := f41.st st98 (by decide)
    replace f89 := f89.st st98 (by decide)
    replace fg0 := fg0.st st98 (by decide)
    replace fg1 := fg1.st st98 (by decide)
    replace hs := hs.loc0 st98 (by decide)
    have hk := hk.put 40 (.slice A99 (t94).length c100) rfl
    refine x_run tab hk (k := 1) (lv := []) (ks := [0, 7, 9, 10, 11, 38, 40, 41]) (e' := [(0, .slice A27 ((([] : List T24) ++ (List.drop 0 (List.take (Int.toNat (mnI ((p0).length : Int) 60)) p0)))).length c28), (7, .slice A39 (t34).length c40), (9, .slice A87 (t82).length c88), (10, .int .i64 (mnI p1 p2)), (11, .int .i64 (mxI p1 p2)), (38, .slice A87 (t82).length c88), (40, .slice A99 (t94).length c100), (41, .int .i64 p1)]) rfl trivial fun a hk => ?_
    refine x_op hk rfl ?_
    obtain ⟨t106, hc107, H⟩ := bindS H
    refine op_call hk ent_16 (vs := [.slice A99 (t94).length c100, .int .i64 p1]) rfl (tidewrackref15_Cut_calls K A99 c100 t94 p1 _ o97 1 _ (f101.imp fun _ h_ => Own.rd h_) hc102 (by decide) (by decide) 9  _ hc107) ?_
    rintro _ w108 ⟨o109, A111, c112, rfl, st110, f113, hc114⟩
    replace f101 := f101.st st110 (by decide)
    replace f29 := f29.st st110 (by decide)
    replace f41 := f41.st st110 (by decide)
    replace f89 := f89.st st110 (by decide)
    replace fg0 := fg0.st st110 (by decide)
    replace fg1 := fg1.st st110 (by decide)
    replace hs := hs.loc0 st110 (by decide)
    have hk := hk.put 42 (.slice A111 (t106).length c112) rfl
    refine x_op hk rfl ?_
    obtain ⟨t118, hc119, H⟩ := bindS H
    refine op_call hk ent_15 (vs := [.slice A87 (t82).length c88, .slice A111 (t106).length c112]) rfl (tidewracklaw15_Rows_calls K A87 c88 t82 A111 c112 t106 _ o109 1 _ f89.rd hc90 _ f113.rd hc114 (by decide) (by decide) (by decide)   _ hc119) ?_
    rintro _ w120 ⟨o121, rfl, st122⟩
    replace f101 := f101.st st122 (by decide)
    replace f113 := f113.st st122 (by decide)
    replace f29 := f29.st st122 (by decide)
    replace f41 := f41.st st122 (by decide)
    replace f89 := f89.st st122 (by decide)
    replace fg0 := fg0.st st122 (by decide)
    replace fg1 := fg1.st st122 (by decide)
    replace hs := hs.loc0 st122 (by decide)
    have hk := hk.put 43 (.bool t118) rfl
    refine x_run tab hk (k := 1) (lv := []) (ks := [0, 7, 9, 10, 11, 44]) (e' := [(0, .slice A27 ((([] : List T24) ++ (List.drop 0 (List.take (Int.toNat (mnI ((p0).length : Int) 60)) p0)))).length c28), (7, .slice A39 (t34).length c40), (9, .slice A87 (t82).length c88), (10, .int .i64 (mnI p1 p2)), (11, .int .i64 (mxI p1 p2)), (44, .bool t118)]) rfl trivial fun a hk => ?_
    cases b123 : t118
    · rw [b123] at hk H
      replace H := bifF H
      refine x_run tab hk (k := 14) (lv := []) (ks := [51, 58]) (e' := [(51, .bool false), (58, undef)]) rfl trivial fun a hk => ?_
      refine x_run tab hk (k := 2) (lv := []) (ks := [6]) (e' := [(6, .bool false)]) rfl trivial fun a hk => ?_
      refine wpListIn_nil ?_
      refine then_n ?_
      refine wpIn_ret ?_
      obtain rfl := Option.some.inj H
      exact x_retG hk (rs := [.tmp 6]) (vs := [.bool false]) rfl ⟨rfl, trivial⟩ ⟨fun b_ => if b_ < w.heap.size then o b_ else (fun _ => 0) (o121 b_), rfl, hs.close0 o (fun _ => 0)⟩
    · rw [b123] at hk H
      replace H := bifT H
      refine x_run tab hk (k := 7) (lv := []) (ks := [0, 10, 11, 51]) (e' := [(0, .slice A27 ((([] : List T24) ++ (List.drop 0 (List.take (Int.toNat (mnI ((p0).length : Int) 60)) p0)))).length c28), (10, .int .i64 (mnI p1 p2)), (11, .int .i64 (mxI p1 p2)), (51, .bool (((t34).length : Int) == ((t82).length : Int)))]) rfl trivial fun a hk => ?_
      cases b124 : (((t34).length : Int) == ((t82).length : Int))
      · rw [b124] at hk H
        replace H := bifF H
        refine x_run tab hk (k := 9) (lv := []) (ks := [6]) (e' := [(6, .bool false)]) rfl trivial fun a hk => ?_
        refine wpListIn_nil ?_
        refine then_n ?_
        refine wpIn_ret ?_
        obtain rfl := Option.some.inj H
        exact x_retG hk (rs := [.tmp 6]) (vs := [.bool false]) rfl ⟨rfl, trivial⟩ ⟨fun b_ => if b_ < w.heap.size then o b_ else (fun _ => 0) (o121 b_), rfl, hs.close0 o (fun _ => 0)⟩
      · rw [b124] at hk H
        replace H := bifT H
        refine x_run tab hk (k := 2) (lv := []) (ks := [0, 10, 51, 52, 53]) (e' := [(0, .slice A27 ((([] : List T24) ++ (List.drop 0 (List.take (Int.toNat (mnI ((p0).length : Int) 60)) p0)))).length c28), (10, .int .i64 (mnI p1 p2)), (51, .bool true), (52, .slice A27 ((([] : List T24) ++ (List.drop 0 (List.take (Int.toNat (mnI ((p0).length : Int) 60)) p0)))).length c28), (53, .int .i64 (mxI p1 p2))]) rfl trivial fun a hk => ?_
        refine x_op hk rfl ?_
        obtain ⟨t128, hc129, H⟩ := bindS H
        refine op_call hk ent_10 (vs := [.slice A27 ((([] : List T24) ++ (List.drop 0 (List.take (Int.toNat (mnI ((p0).length : Int) 60)) p0)))).length c28, .int .i64 (mxI p1 p2)]) rfl (flow_Count_calls K A27 c28 (([] : List T24) ++ (List.drop 0 (List.take (Int.toNat (mnI ((p0).length : Int) 60)) p0))) (mxI p1 p2) _ o121 0 fg0 0 fg1 2 (f29.imp fun _ h_ => Own.rd h_) hc30 (by decide) (by decide) (by decide)   _ hc129) ?_
        rintro _ w130 ⟨o131, rfl, st132⟩
        replace f29 := f29.st st132 (by decide)
        replace fg0 := fg0.st st132 (by decide)
        replace fg1 := fg1.st st132 (by decide)
        replace hs := hs.loc0 st132 (by decide)
        have hk := hk.put 54 (.int .i64 t128) rfl
        refine x_run tab hk (k := 2) (lv := []) (ks := [51, 54, 55, 56]) (e' := [(51, .bool true), (54, .int .i64 t128), (55, .slice A27 ((([] : List T24) ++ (List.drop 0 (List.take (Int.toNat (mnI ((p0).length : Int) 60)) p0)))).length c28), (56, .int .i64 (mnI p1 p2))]) rfl trivial fun a hk => ?_
        refine x_op hk rfl ?_
        obtain ⟨t136, hc137, H⟩ := bindS H
        refine op_call hk ent_10 (vs := [.slice A27 ((([] : List T24) ++ (List.drop 0 (List.take (Int.toNat (mnI ((p0).length : Int) 60)) p0)))).length c28, .int .i64 (mnI p1 p2)]) rfl (flow_Count_calls K A27 c28 (([] : List T24) ++ (List.drop 0 (List.take (Int.toNat (mnI ((p0).length : Int) 60)) p0))) (mnI p1 p2) _ o131 0 fg0 0 fg1 2 (f29.imp fun _ h_ => Own.rd h_) hc30 (by decide) (by decide) (by decide)   _ hc137) ?_
        rintro _ w138 ⟨o139, rfl, st140⟩
        replace f29 := f29.st st140 (by decide)
        replace fg0 := fg0.st st140 (by decide)
        replace fg1 := fg1.st st140 (by decide)
        replace hs := hs.loc0 st140 (by decide)
        have hk := hk.put 57 (.int .i64 t136) rfl
        refine x_run tab hk (k := 3) (lv := []) (ks := [6]) (e' := [(6, .bool (decide (t128 ≤ t136)))]) rfl trivial fun a hk => ?_
        refine wpListIn_nil ?_
        refine then_n ?_
        refine wpIn_ret ?_
        obtain rfl := Option.some.inj H
        exact x_retG hk (rs := [.tmp 6]) (vs := [.bool (decide (t128 ≤ t136))]) rfl ⟨rfl, trivial⟩ ⟨fun b_ => if b_ < w.heap.size then o b_ else (fun _ => 0) (o139 b_), rfl, hs.close0 o (fun _ => 0)⟩
  · rw [b9] at hk H
    replace H := bifT H
    refine x_if hk (b := true) rfl ?_
    refine (show Code.wpIn _ _ _ _ _ _ _ from ?_)
    refine x_seq ?_
    refine wpIn_region_lit ?_
    refine x_run tab hk (k := 1) (lv := []) (ks := [6]) (e' := [(6, .bool false)]) rfl trivial fun a hk => ?_
    refine wpListIn_nil ?_
    refine then_n ?_
    refine wpIn_ret ?_
    refine then_r ?_
    obtain rfl := Option.some.inj H
    exact x_retG hk (rs := [.tmp 6]) (vs := [.bool false]) rfl ⟨rfl, trivial⟩ ⟨fun b_ => if b_ < w.heap.size then o b_ else (fun _ => 0) (o7 b_), rfl, hs.close0 o (fun _ => 0)⟩

end Go.Proofs.YteghllmaknenlaaDoor
