/- Walks, printed by an own program: the machine's calls compute the plain functions. -/
import Derived.Test.YtjbdijgenhhgaaaW1
set_option linter.unusedVariables false
set_option linter.unusedSimpArgs false
namespace Go.Proofs.Ytjbdijgenhhgaaa
open Go Go.Proofs.XC
/-! tidewrack/tidewracklaw13.SpansCounts -/
theorem tidewracklaw13_SpansCounts_calls (K : Nat) (Ap0 : Option Addr) (cp0 : Nat) (p0 : List T35) (w : World) (o : Nat → Nat) (Lp0 : Nat) (hp0 : Ft (RdC ET35 Ap0 p0) w o Lp0) (hcp0 : (p0).length ≤ cp0)  (r : Bool) (H : tidewracklaw13_SpansCounts K p0 = some r) :
    Calls Try.prog 4 #[.slice Ap0 (p0).length cp0] w (Ret fun v_ w' => ∃ o' : Nat → Nat, v_ = .bool r ∧ St [] w o w' o') := by
  refine x_enter (vs := [.slice Ap0 (p0).length cp0]) Try.func4 rfl rfl rfl fun a hk => ?_
  obtain ⟨o0, hs, h0⟩ := St.start w o
  have f900000 := h0 _ _ hp0
  clear h0
  rw [tidewracklaw13_SpansCounts] at H
  refine x_seq ?_
  refine wpIn_region_lit ?_
  refine x_run tab hk (k := 1) (lv := []) (ks := [0]) (e' := [(0, .slice Ap0 (p0).length cp0)]) rfl trivial fun a hk => ?_
  refine wpListIn_nil ?_
  refine then_n ?_
  refine x_seq ?_
  refine x_seq ?_
  refine wpIn_region_lit ?_
  refine x_op hk rfl ?_
  obtain ⟨t4, hc5, H⟩ := bindS H
  refine op_call hk ent_8 (vs := []) rfl (tidewracklaw13_awake_calls K  _ o0    _ hc5) ?_
  rintro _ w6 ⟨o7, rfl, st8⟩
  replace f900000 := f900000.st st8 (by decide)
  replace hs := hs.loc0 st8 (by decide)
  have hk := hk.put 9 (.bool t4) rfl
  refine x_run tab hk (k := 1) (lv := []) (ks := [0, 10]) (e' := [(0, .slice Ap0 (p0).length cp0), (10, .bool (!t4))]) rfl trivial fun a hk => ?_
  refine wpListIn_nil ?_
  refine then_n ?_
  cases b9 : (!t4)
  · rw [b9] at hk H
    replace H := bifF H
    refine x_if hk (b := false) rfl ?_
    refine (show Code.wpIn _ _ _ _ _ _ _ from ?_)
    refine wpIn_skip ?_
    refine then_n ?_
    refine x_seq ?_
    refine wpIn_region_lit ?_
    refine x_op hk rfl ?_
    refine op_alloc (o := o7) tab (t := 26) (cs := [.slice none 0 0]) rfl rfl 1 fun bx13 w10 o11 st12 f14 => ?_
    replace f900000 := f900000.st st12 (by decide)
    replace hs := hs.loc0 st12 (by decide)
    have hk := hk.put 3 (.pointer (some ⟨bx13, 0, none⟩)) rfl
    refine wpListIn_nil ?_
    refine then_n ?_
    refine x_mid (fun a_ w_ => ∃ o237 : Nat → Nat, ∃ A238 : Option Addr, ∃ c239 : Nat, ∃ l240 : List T28, Kn 61 a_ [(3, .pointer (some ⟨bx13, 0, none⟩))] ∧ St [] w (fun _ => 0) w_ o237 ∧ Ft (Bx bx13 26 [.slice A238 (l240).length c239]) w_ o237 26 ∧ Ft (Own ET28 29 (.slice A238 (l240).length c239) l240) w_ o237 25 ∧ (l240).length ≤ c239 ∧ tidewracklaw13_SpansCounts_j1 K l240 = some r) ?_ ?_
    rotate_left
    · rintro a w243 ⟨o237, A238, c239, l240, hk, hs, f14, f241, hc242, H⟩
      rw [tidewracklaw13_SpansCounts_j1] at H
      refine x_seq ?_
      refine wpIn_region_lit ?_
      refine x_run tab hk (k := 1) (lv := []) (ks := [3, 7]) (e' := [(3, .pointer (some ⟨bx13, 0, none⟩)), (7, .int .i64 0)]) rfl trivial fun a hk => ?_
      refine wpListIn_nil ?_
      refine then_n ?_
      refine x_mid (fun a_ w_ => ∃ o290 : Nat → Nat, ∃ x291 : Int, Kn 61 a_ [(3, .pointer (some ⟨bx13, 0, none⟩)), (7, .int .i64 x291)] ∧ St [] w (fun _ => 0) w_ o290 ∧ Ft (Bx bx13 26 [.slice A238 (l240).length c239]) w_ o290 32 ∧ Ft (Own ET28 29 (.slice A238 (l240).length c239) l240) w_ o290 31 ∧ tidewracklaw13_SpansCounts_j2 K l240 x291 = some r) ?_ ?_
      rotate_left
      · rintro a w292 ⟨o290, x291, hk, hs, f14, f241, H⟩
        rw [tidewracklaw13_SpansCounts_j2] at H
        refine x_seq ?_
        refine wpIn_region_lit ?_
        refine x_run tab hk (k := 1) (lv := []) (ks := [3, 50]) (e' := [(3, .pointer (some ⟨bx13, 0, none⟩)), (50, .int .i64 x291)]) rfl trivial fun a hk => ?_
        refine x_op hk rfl ?_
        obtain ⟨t296, hc297, H⟩ := bindS H
        refine op_call hk ent_11 (vs := [.pointer (some ⟨bx13, 0, none⟩)]) rfl (spans_Set_Len_calls K bx13 A238 c239 (⟨l240⟩ : T25) _ o290 32 f14 _ (f241.imp fun _ h_ => Own.rd h_) hc242   _ hc297) ?_
        rintro _ w298 ⟨o299, rfl, st300⟩
        replace f14 := f14.st st300 (by decide)
        replace f241 := f241.st st300 (by decide)
        replace hs := hs.loc0 st300 (by decide)
        have hk := hk.put 51 (.int .i64 t296) rfl
        refine x_run tab hk (k := 2) (lv := []) (ks := [3, 53]) (e' := [(3, .pointer (some ⟨bx13, 0, none⟩)), (53, .bool (x291 == t296))]) rfl trivial fun a hk => ?_
        cases b301 : (x291 == t296)
        · rw [b301] at hk H
          replace H := bifF H
          refine x_run tab hk (k := 8) (lv := []) (ks := [2]) (e' := [(2, .bool false)]) rfl trivial fun a hk => ?_
          refine wpListIn_nil ?_
          refine then_n ?_
          refine wpIn_ret ?_
          obtain rfl := Option.some.inj H
          exact x_retG hk (rs := [.tmp 2]) (vs := [.bool false]) rfl ⟨rfl, trivial⟩ ⟨fun b_ => if b_ < w.heap.size then o b_ else (fun _ => 0) (o299 b_), rfl, hs.close0 o (fun _ => 0)⟩
        · rw [b301] at hk H
          replace H := bifT H
          refine x_op hk rfl ?_
          obtain ⟨t305, hc306, H⟩ := bindS H
          refine op_call hk ent_13 (vs := [.pointer (some ⟨bx13, 0, none⟩), .int .i64 (-1)]) rfl (spans_Set_Has_calls K bx13 A238 c239 (⟨l240⟩ : T25) (-1) _ o299 32 f14 _ (f241.imp fun _ h_ => Own.rd h_) hc242   _ hc306) ?_
          rintro _ w307 ⟨o308, rfl, st309⟩
          replace f14 := f14.st st309 (by decide)
          replace f241 := f241.st st309 (by decide)
          replace hs := hs.loc0 st309 (by decide)
          have hk := hk.put 54 (.bool t305) rfl
          refine x_run tab hk (k := 3) (lv := []) (ks := [3, 57]) (e' := [(3, .pointer (some ⟨bx13, 0, none⟩)), (57, .bool (!t305))]) rfl trivial fun a hk => ?_
          cases b310 : (!t305)
          · rw [b310] at hk H
            replace H := bifF H
            refine x_run tab hk (k := 4) (lv := []) (ks := [2]) (e' := [(2, .bool false)]) rfl trivial fun a hk => ?_
            refine wpListIn_nil ?_
            refine then_n ?_
            refine wpIn_ret ?_
            obtain rfl := Option.some.inj H
            exact x_retG hk (rs := [.tmp 2]) (vs := [.bool false]) rfl ⟨rfl, trivial⟩ ⟨fun b_ => if b_ < w.heap.size then o b_ else (fun _ => 0) (o308 b_), rfl, hs.close0 o (fun _ => 0)⟩
          · rw [b310] at hk H
            replace H := bifT H
            refine x_op hk rfl ?_
            obtain ⟨t314, hc315, H⟩ := bindS H
            refine op_call hk ent_13 (vs := [.pointer (some ⟨bx13, 0, none⟩), .int .i64 63]) rfl (spans_Set_Has_calls K bx13 A238 c239 (⟨l240⟩ : T25) 63 _ o308 32 f14 _ (f241.imp fun _ h_ => Own.rd h_) hc242   _ hc315) ?_
            rintro _ w316 ⟨o317, rfl, st318⟩
            replace f14 := f14.st st318 (by decide)
            replace f241 := f241.st st318 (by decide)
            replace hs := hs.loc0 st318 (by decide)
            have hk := hk.put 58 (.bool t314) rfl
            refine x_run tab hk (k := 3) (lv := []) (ks := [2]) (e' := [(2, .bool (!t314))]) rfl trivial fun a hk => ?_
            refine wpListIn_nil ?_
            refine then_n ?_
            refine wpIn_ret ?_
            obtain rfl := Option.some.inj H
            exact x_retG hk (rs := [.tmp 2]) (vs := [.bool (!t314)]) rfl ⟨rfl, trivial⟩ ⟨fun b_ => if b_ < w.heap.size then o b_ else (fun _ => 0) (o317 b_), rfl, hs.close0 o (fun _ => 0)⟩
      refine x_seq ?_
      refine wpIn_region_lit ?_
      refine x_run tab hk (k := 1) (lv := []) (ks := [3, 7, 8]) (e' := [(3, .pointer (some ⟨bx13, 0, none⟩)), (7, .int .i64 0), (8, .int .i64 (-1))]) rfl trivial fun a hk => ?_
      refine wpListIn_nil ?_
      refine then_n ?_
      refine wpIn_block ?_
      refine x_loop (fun j_ a_ w_ => ∃ o332 : Nat → Nat, ∃ x333 : Int, ∃ x334 : Int, Kn 61 a_ [(3, .pointer (some ⟨bx13, 0, none⟩)), (7, .int .i64 x333), (8, .int .i64 x334)] ∧ St [] w (fun _ => 0) w_ o332 ∧ Ft (Bx bx13 26 [.slice A238 (l240).length c239]) w_ o332 36 ∧ Ft (Own ET28 29 (.slice A238 (l240).length c239) l240) w_ o332 35 ∧ tidewracklaw13_SpansCounts_l3 K l240 j_ x333 x334 = some r) (k := K) ⟨(fun b_ => (fun l_ => if l_ = 25 then 35 else if l_ = 26 then 36 else l_) (o237 b_)), 0, (-1), (by exact Kn.pick (ks := [3, 7, 8]) hk rfl), (hs.relab0 (fun l_ => if l_ = 25 then 35 else if l_ = 26 then 36 else l_) rfl), (f14.relab (fun l_ => if l_ = 25 then 35 else if l_ = 26 then 36 else l_) rfl), (f241.relab (fun l_ => if l_ = 25 then 35 else if l_ = 26 then 36 else l_) rfl), H⟩ (by rintro _ _ ⟨_, _, _, _, _, _, _, H_⟩; exact absurd (show (none : Option Bool) = some r from H_) (by simp)) ?_
      rintro k346 a w345 ⟨o332, x333, x334, hk, hs, f14, f241, H⟩
      rw [tidewracklaw13_SpansCounts_l3] at H
      obtain ⟨lp347, hlp348⟩ : ∃ lp_, lp_ = tidewracklaw13_SpansCounts_l3 K l240 k346 := ⟨_, rfl⟩
      rw [← hlp348] at H
      refine x_seq ?_
      refine x_seq ?_
      refine wpIn_region_lit ?_
      refine x_run tab hk (k := 2) (lv := []) (ks := [3, 7, 8, 43]) (e' := [(3, .pointer (some ⟨bx13, 0, none⟩)), (7, .int .i64 x333), (8, .int .i64 x334), (43, .bool (decide (x334 ≤ (64 : Int))))]) rfl trivial fun a hk => ?_
      refine wpListIn_nil ?_
      refine then_n ?_
      cases b349 : (decide (x334 ≤ (64 : Int)))
      · rw [b349] at hk H
        replace H := bifF H
        refine x_if hk (b := false) rfl ?_
        refine (show Code.wpIn _ _ _ _ _ _ _ from ?_)
        refine wpIn_exit ?_
        refine then_x ?_
        refine then_x ?_
        refine blk_x ?_
        refine then_n ?_
        exact ⟨(fun b_ => (fun l_ => if l_ = 35 then 31 else if l_ = 36 then 32 else l_) (o332 b_)), x333, (by exact Kn.pick (ks := [3, 7]) hk rfl), (hs.relab0 (fun l_ => if l_ = 35 then 31 else if l_ = 36 then 32 else l_) rfl), (f14.relab (fun l_ => if l_ = 35 then 31 else if l_ = 36 then 32 else l_) rfl), (f241.relab (fun l_ => if l_ = 35 then 31 else if l_ = 36 then 32 else l_) rfl), H⟩
      · rw [b349] at hk H
        replace H := bifT H
        refine x_if hk (b := true) rfl ?_
        refine (show Code.wpIn _ _ _ _ _ _ _ from ?_)
        refine wpIn_skip ?_
        refine then_n ?_
        refine x_seq ?_
        refine wpIn_block ?_
        refine x_seq ?_
        refine wpIn_region_lit ?_
        refine x_run tab hk (k := 1) (lv := []) (ks := [3, 7, 8, 46]) (e' := [(3, .pointer (some ⟨bx13, 0, none⟩)), (7, .int .i64 x333), (8, .int .i64 x334), (46, .int .i64 x334)]) rfl trivial fun a hk => ?_
        refine x_op hk rfl ?_
        obtain ⟨t353, hc354, H⟩ := bindS H
        refine op_call hk ent_13 (vs := [.pointer (some ⟨bx13, 0, none⟩), .int .i64 x334]) rfl (spans_Set_Has_calls K bx13 A238 c239 (⟨l240⟩ : T25) x334 _ o332 36 f14 _ (f241.imp fun _ h_ => Own.rd h_) hc242   _ hc354) ?_
        rintro _ w355 ⟨o356, rfl, st357⟩
        replace f14 := f14.st st357 (by decide)
        replace f241 := f241.st st357 (by decide)
        replace hs := hs.loc0 st357 (by decide)
        have hk := hk.put 47 (.bool t353) rfl
        refine wpListIn_nil ?_
        refine then_n ?_
        cases b358 : t353
        · rw [b358] at hk H
          replace H := bifF H
          refine x_if hk (b := false) rfl ?_
          refine (show Code.wpIn _ _ _ _ _ _ _ from ?_)
          refine wpIn_skip ?_
          refine blk_n ?_
          refine then_n ?_
          refine wpIn_region_lit ?_
          refine x_run tab hk (k := 3) (lv := []) (ks := [3, 7, 8]) (e' := [(3, .pointer (some ⟨bx13, 0, none⟩)), (7, .int .i64 x333), (8, .int .i64 (IntKind.wrap .i64 (x334 + 1)))]) rfl trivial fun a hk => ?_
          refine wpListIn_nil ?_
          refine then_n ?_
          exact ⟨k346, Nat.le_refl _, o356, x333, (IntKind.wrap .i64 (x334 + 1)), (by exact Kn.pick (ks := [3, 7, 8]) hk rfl), hs, f14, f241, (hlp348 ▸ H)⟩
        · rw [b358] at hk H
          replace H := bifT H
          refine x_if hk (b := true) rfl ?_
          refine (show Code.wpIn _ _ _ _ _ _ _ from ?_)
          refine wpIn_region_lit ?_
          refine x_run tab hk (k := 3) (lv := []) (ks := [3, 7, 8]) (e' := [(3, .pointer (some ⟨bx13, 0, none⟩)), (7, .int .i64 (IntKind.wrap .i64 (x333 + 1))), (8, .int .i64 x334)]) rfl trivial fun a hk => ?_
          refine wpListIn_nil ?_
          refine blk_n ?_
          refine then_n ?_
          refine wpIn_region_lit ?_
          refine x_run tab hk (k := 3) (lv := []) (ks := [3, 7, 8]) (e' := [(3, .pointer (some ⟨bx13, 0, none⟩)), (7, .int .i64 (IntKind.wrap .i64 (x333 + 1))), (8, .int .i64 (IntKind.wrap .i64 (x334 + 1)))]) rfl trivial fun a hk => ?_
          refine wpListIn_nil ?_
          refine then_n ?_
          exact ⟨k346, Nat.le_refl _, o356, (IntKind.wrap .i64 (x333 + 1)), (IntKind.wrap .i64 (x334 + 1)), (by exact Kn.pick (ks := [3, 7, 8]) hk rfl), hs, f14, f241, (hlp348 ▸ H)⟩
    refine x_seq ?_
    refine wpIn_region_lit ?_
    refine x_run tab hk (k := 1) (lv := []) (ks := [0, 3, 4]) (e' := [(0, .slice Ap0 (p0).length cp0), (3, .pointer (some ⟨bx13, 0, none⟩)), (4, .int .i64 0)]) rfl trivial fun a hk => ?_
    refine wpListIn_nil ?_
    refine then_n ?_
    refine wpIn_block ?_
    refine x_loop (fun j_ a_ w_ => ∃ o428 : Nat → Nat, ∃ A429 : Option Addr, ∃ c430 : Nat, ∃ l431 : List T28, ∃ x434 : Int, Kn 61 a_ [(0, .slice Ap0 (p0).length cp0), (3, .pointer (some ⟨bx13, 0, none⟩)), (4, .int .i64 x434)] ∧ St [] w (fun _ => 0) w_ o428 ∧ Ft (Bx bx13 26 [.slice A429 (l431).length c430]) w_ o428 46 ∧ Ft (Own ET28 29 (.slice A429 (l431).length c430) l431) w_ o428 45 ∧ Ft (RdC ET35 Ap0 p0) w_ o428 0 ∧ (l431).length ≤ c430 ∧ tidewracklaw13_SpansCounts_l4 K p0 j_ l431 x434 = some r) (k := K) ⟨(fun b_ => (fun l_ => if l_ = 1 then 46 else l_) (o11 b_)), none, 0, ([] : List T28), 0, (by exact Kn.pick (ks := [0, 3, 4]) hk rfl), (hs.relab0 (fun l_ => if l_ = 1 then 46 else l_) rfl), (f14.relab (fun l_ => if l_ = 1 then 46 else l_) rfl), (Ft.of_all (fun _ => Own.nil _ _ _) _ _ _), (f900000.relab (fun l_ => if l_ = 1 then 46 else l_) rfl), (by simp), H⟩ (by rintro _ _ ⟨_, _, _, _, _, _, _, _, _, _, _, H_⟩; exact absurd (show (none : Option Bool) = some r from H_) (by simp)) ?_
    rintro k502 a w501 ⟨o428, A429, c430, l431, x434, hk, hs, f14, f432, f900000, hc433, H⟩
    rw [tidewracklaw13_SpansCounts_l4] at H
    obtain ⟨lp503, hlp504⟩ : ∃ lp_, lp_ = tidewracklaw13_SpansCounts_l4 K p0 k502 := ⟨_, rfl⟩
    rw [← hlp504] at H
    refine x_mid (fun a_ w_ => ∃ o510 : Nat → Nat, Kn 61 a_ [(0, .slice Ap0 (p0).length cp0), (3, .pointer (some ⟨bx13, 0, none⟩)), (4, .int .i64 x434)] ∧ St [] w (fun _ => 0) w_ o510 ∧ Ft (Bx bx13 26 [.slice A429 (l431).length c430]) w_ o510 54 ∧ Ft (Own ET28 29 (.slice A429 (l431).length c430) l431) w_ o510 53 ∧ Ft (RdC ET35 Ap0 p0) w_ o510 0 ∧ tidewracklaw13_SpansCounts_j5 K p0 l431 x434 lp503 = some r) ?_ ?_
    rotate_left
    · rintro a w511 ⟨o510, hk, hs, f14, f432, f900000, H⟩
      rw [tidewracklaw13_SpansCounts_j5] at H
      refine x_seq ?_
      refine wpIn_block ?_
      refine x_seq ?_
      refine wpIn_region_lit ?_
      obtain ⟨q512, H⟩ := ifS H
      obtain ⟨ad513, hAad513⟩ := RdC.addr f900000.now q512
      have hk_C := hk
      have f14_C := f14
      have f432_C := f432
      have f900000_C := f900000
      subst hAad513
      have hk := hk_C
      clear hk_C
      have f14 := f14_C
      clear f14_C
      have f432 := f432_C
      clear f432_C
      have f900000 := f900000_C
      clear f900000_C
      refine x_run tab hk (k := 4) (lv := [.agg #[.bool ((rdD zT35 p0 x434).Cut), .int .i64 ((rdD zT35 p0 x434).Span_From), .int .i64 ((rdD zT35 p0 x434).Span_To)]]) (ks := [0, 3, 4, 24]) (e' := [(0, .slice (some ad513) (p0).length cp0), (3, .pointer (some ⟨bx13, 0, none⟩)), (4, .int .i64 x434), (24, .agg #[.bool ((rdD zT35 p0 x434).Cut), .int .i64 ((rdD zT35 p0 x434).Span_From), .int .i64 ((rdD zT35 p0 x434).Span_To)])]) rfl ⟨q512, (load_elem (E := ET35) (i := x434) (dx := zT35) tab rfl rfl f900000.now q512), trivial⟩ fun a hk => ?_
      refine x_op hk rfl ?_
      refine op_alloc (o := o510) tab (t := 36) (cs := [.bool false, .int .i64 0, .int .i64 0]) rfl rfl 55 fun bx517 w514 o515 st516 f518 => ?_
      replace f14 := f14.st st516 (by decide)
      replace f432 := f432.st st516 (by decide)
      replace f900000 := f900000.st st516 (by decide)
      replace hs := hs.loc0 st516 (by decide)
      have hk := hk.put 5 (.pointer (some ⟨bx517, 0, none⟩)) rfl
      refine x_op hk rfl ?_
      refine op_store tab hk (t := 36) (v := .agg #[.bool ((rdD zT35 p0 x434).Cut), .int .i64 ((rdD zT35 p0 x434).Span_From), .int .i64 ((rdD zT35 p0 x434).Span_To)]) (b := bx517) (k := 0) (cs' := [.bool ((rdD zT35 p0 x434).Cut), .int .i64 ((rdD zT35 p0 x434).Span_From), .int .i64 ((rdD zT35 p0 x434).Span_To)]) rfl rfl rfl rfl rfl rfl f518 rfl rfl fun w519 o520 st521 f518_ => ?_
      replace f14 := f14.st st521 (by decide)
      replace f432 := f432.st st521 (by decide)
      replace f900000 := f900000.st st521 (by decide)
      replace hs := hs.loc0 st521 (by decide)
      replace f518 := f518_
      refine wpListIn_nil ?_
      refine then_n ?_
      refine x_seq ?_
      refine wpIn_region_lit ?_
      refine x_run tab hk (k := 9) (lv := [.int .i64 ((rdD zT35 p0 x434).Span_From), .int .i64 ((rdD zT35 p0 x434).Span_To)]) (ks := [0, 3, 4, 5, 33]) (e' := [(0, .slice (some ad513) (p0).length cp0), (3, .pointer (some ⟨bx13, 0, none⟩)), (4, .int .i64 x434), (5, .pointer (some ⟨bx517, 0, none⟩)), (33, .agg #[.int .i64 (bits .and .i64 ((rdD zT35 p0 x434).Span_From) 63), .int .i64 (bits .and .i64 ((rdD zT35 p0 x434).Span_To) 63)])]) rfl ⟨(load1 tab rfl ((Bx.cell f518.now 1).trans rfl)), (load1 tab rfl ((Bx.cell f518.now 2).trans rfl)), trivial⟩ fun a hk => ?_
      refine x_op hk rfl ?_
      refine op_alloc (o := o520) tab (t := 29) (cs := [.int .i64 0, .int .i64 0]) rfl rfl 56 fun bx525 w522 o523 st524 f526 => ?_
      replace f14 := f14.st st524 (by decide)
      replace f432 := f432.st st524 (by decide)
      replace f518 := f518.st st524 (by decide)
      replace f900000 := f900000.st st524 (by decide)
      replace hs := hs.loc0 st524 (by decide)
      have hk := hk.put 6 (.pointer (some ⟨bx525, 0, none⟩)) rfl
      refine x_op hk rfl ?_
      refine op_store tab hk (t := 29) (v := .agg #[.int .i64 (bits .and .i64 ((rdD zT35 p0 x434).Span_From) 63), .int .i64 (bits .and .i64 ((rdD zT35 p0 x434).Span_To) 63)]) (b := bx525) (k := 0) (cs' := [.int .i64 (bits .and .i64 ((rdD zT35 p0 x434).Span_From) 63), .int .i64 (bits .and .i64 ((rdD zT35 p0 x434).Span_To) 63)]) rfl rfl rfl rfl rfl rfl f526 rfl rfl fun w527 o528 st529 f526_ => ?_
      replace f14 := f14.st st529 (by decide)
      replace f432 := f432.st st529 (by decide)
      replace f518 := f518.st st529 (by decide)
      replace f900000 := f900000.st st529 (by decide)
      replace hs := hs.loc0 st529 (by decide)
      replace f526 := f526_
      refine wpListIn_nil ?_
      refine then_n ?_
      refine x_seq ?_
      refine wpIn_region_lit ?_
      refine x_run tab hk (k := 2) (lv := [.bool ((rdD zT35 p0 x434).Cut)]) (ks := [0, 3, 4, 6, 35]) (e' := [(0, .slice (some ad513) (p0).length cp0), (3, .pointer (some ⟨bx13, 0, none⟩)), (4, .int .i64 x434), (6, .pointer (some ⟨bx525, 0, none⟩)), (35, .bool ((rdD zT35 p0 x434).Cut))]) rfl ⟨(load1 tab rfl ((Bx.cell f518.now 0).trans rfl)), trivial⟩ fun a hk => ?_
      refine wpListIn_nil ?_
      refine then_n ?_
      cases b530 : (rdD zT35 p0 x434).Cut
      · rw [b530] at hk H
        replace H := bifF H
        refine x_if hk (b := false) rfl ?_
        refine (show Code.wpIn _ _ _ _ _ _ _ from ?_)
        refine wpIn_region_lit ?_
        refine x_run tab hk (k := 1) (lv := [.agg #[.int .i64 (bits .and .i64 ((rdD zT35 p0 x434).Span_From) 63), .int .i64 (bits .and .i64 ((rdD zT35 p0 x434).Span_To) 63)]]) (ks := [0, 3, 4, 39]) (e' := [(0, .slice (some ad513) (p0).length cp0), (3, .pointer (some ⟨bx13, 0, none⟩)), (4, .int .i64 x434), (39, .agg #[.int .i64 (bits .and .i64 ((rdD zT35 p0 x434).Span_From) 63), .int .i64 (bits .and .i64 ((rdD zT35 p0 x434).Span_To) 63)])]) rfl ⟨(load_box tab rfl rfl f526.now (k := 0) rfl rfl), trivial⟩ fun a hk => ?_
        refine x_op hk rfl ?_
        refine op_slice (o := o528) tab hk (vs := [.agg #[.int .i64 (bits .and .i64 ((rdD zT35 p0 x434).Span_From) 63), .int .i64 (bits .and .i64 ((rdD zT35 p0 x434).Span_To) 63)]]) (cs := [.int .i64 (bits .and .i64 ((rdD zT35 p0 x434).Span_From) 63), .int .i64 (bits .and .i64 ((rdD zT35 p0 x434).Span_To) 63)]) rfl rfl rfl rfl rfl rfl rfl rfl rfl 57 fun bx534 w531 o532 st533 f535 => ?_
        replace f14 := f14.st st533 (by decide)
        replace f432 := f432.st st533 (by decide)
        replace f900000 := f900000.st st533 (by decide)
        replace hs := hs.loc0 st533 (by decide)
        have f536 : Ft (Own ET28 29 (.slice (some ⟨bx534, 0, none⟩) (([(⟨(bits .and .i64 ((rdD zT35 p0 x434).Span_From) 63), (bits .and .i64 ((rdD zT35 p0 x434).Span_To) 63)⟩ : T28)] : List T28)).length 1) ([(⟨(bits .and .i64 ((rdD zT35 p0 x434).Span_From) 63), (bits .and .i64 ((rdD zT35 p0 x434).Span_To) 63)⟩ : T28)] : List T28)) w531 o532 57 := f535.imp fun _ h_ => Own.of_box h_ rfl (by simp)
        have hk := hk.put 40 (.slice (some ⟨bx534, 0, none⟩) (([(⟨(bits .and .i64 ((rdD zT35 p0 x434).Span_From) 63), (bits .and .i64 ((rdD zT35 p0 x434).Span_To) 63)⟩ : T28)] : List T28)).length 1) rfl
        refine x_op hk rfl ?_
        obtain ⟨t540, hc541, H⟩ := bindS H
        refine op_call hk ent_9 (vs := [.pointer (some ⟨bx13, 0, none⟩), .slice (some ⟨bx534, 0, none⟩) (([(⟨(bits .and .i64 ((rdD zT35 p0 x434).Span_From) 63), (bits .and .i64 ((rdD zT35 p0 x434).Span_To) 63)⟩ : T28)] : List T28)).length 1]) rfl (spans_Set_Add_calls K bx13 A429 c430 (⟨l431⟩ : T25) (some ⟨bx534, 0, none⟩) 1 ([(⟨(bits .and .i64 ((rdD zT35 p0 x434).Span_From) 63), (bits .and .i64 ((rdD zT35 p0 x434).Span_To) 63)⟩ : T28)] : List T28) _ o532 54 f14 53 f432 hc433 _ (f536.imp fun _ h_ => Own.rd h_) (Nat.le_refl _) (by decide) (by decide)   _ hc541) ?_
        rintro _ w542 ⟨o543, A546, c547, rfl, st544, f545, f548, hc549⟩
        replace f536 := f536.st st544 (by decide)
        replace f900000 := f900000.st st544 (by decide)
        replace hs := hs.loc0 st544 (by decide)
        have hk := hk.put 41 (.tuple #[]) rfl
        refine wpListIn_nil ?_
        refine blk_n ?_
        refine then_n ?_
        refine wpIn_region_lit ?_
        refine x_run tab hk (k := 3) (lv := []) (ks := [0, 3, 4]) (e' := [(0, .slice (some ad513) (p0).length cp0), (3, .pointer (some ⟨bx13, 0, none⟩)), (4, .int .i64 (IntKind.wrap .i64 (x434 + 1)))]) rfl trivial fun a hk => ?_
        refine wpListIn_nil ?_
        refine then_n ?_
        exact ⟨k502, Nat.le_refl _, (fun b_ => (fun l_ => if l_ = 53 then 45 else if l_ = 54 then 46 else l_) (o543 b_)), A546, c547, t540.l, (IntKind.wrap .i64 (x434 + 1)), (by exact Kn.pick (ks := [0, 3, 4]) hk rfl), (hs.relab0 (fun l_ => if l_ = 53 then 45 else if l_ = 54 then 46 else l_) rfl), (f545.relab (fun l_ => if l_ = 53 then 45 else if l_ = 54 then 46 else l_) rfl), (f548.relab (fun l_ => if l_ = 53 then 45 else if l_ = 54 then 46 else l_) rfl), (f900000.relab (fun l_ => if l_ = 53 then 45 else if l_ = 54 then 46 else l_) rfl), hc549, (hlp504 ▸ H)⟩
      · rw [b530] at hk H
        replace H := bifT H
        refine x_if hk (b := true) rfl ?_
        refine (show Code.wpIn _ _ _ _ _ _ _ from ?_)
        refine wpIn_region_lit ?_
        refine x_run tab hk (k := 1) (lv := [.agg #[.int .i64 (bits .and .i64 ((rdD zT35 p0 x434).Span_From) 63), .int .i64 (bits .and .i64 ((rdD zT35 p0 x434).Span_To) 63)]]) (ks := [0, 3, 4, 36]) (e' := [(0, .slice (some ad513) (p0).length cp0), (3, .pointer (some ⟨bx13, 0, none⟩)), (4, .int .i64 x434), (36, .agg #[.int .i64 (bits .and .i64 ((rdD zT35 p0 x434).Span_From) 63), .int .i64 (bits .and .i64 ((rdD zT35 p0 x434).Span_To) 63)])]) rfl ⟨(load_box tab rfl rfl f526.now (k := 0) rfl rfl), trivial⟩ fun a hk => ?_
        refine x_op hk rfl ?_
        refine op_slice (o := o528) tab hk (vs := [.agg #[.int .i64 (bits .and .i64 ((rdD zT35 p0 x434).Span_From) 63), .int .i64 (bits .and .i64 ((rdD zT35 p0 x434).Span_To) 63)]]) (cs := [.int .i64 (bits .and .i64 ((rdD zT35 p0 x434).Span_From) 63), .int .i64 (bits .and .i64 ((rdD zT35 p0 x434).Span_To) 63)]) rfl rfl rfl rfl rfl rfl rfl rfl rfl 58 fun bx553 w550 o551 st552 f554 => ?_
        replace f14 := f14.st st552 (by decide)
        replace f432 := f432.st st552 (by decide)
        replace f900000 := f900000.st st552 (by decide)
        replace hs := hs.loc0 st552 (by decide)
        have f555 : Ft (Own ET28 29 (.slice (some ⟨bx553, 0, none⟩) (([(⟨(bits .and .i64 ((rdD zT35 p0 x434).Span_From) 63), (bits .and .i64 ((rdD zT35 p0 x434).Span_To) 63)⟩ : T28)] : List T28)).length 1) ([(⟨(bits .and .i64 ((rdD zT35 p0 x434).Span_From) 63), (bits .and .i64 ((rdD zT35 p0 x434).Span_To) 63)⟩ : T28)] : List T28)) w550 o551 58 := f554.imp fun _ h_ => Own.of_box h_ rfl (by simp)
        have hk := hk.put 37 (.slice (some ⟨bx553, 0, none⟩) (([(⟨(bits .and .i64 ((rdD zT35 p0 x434).Span_From) 63), (bits .and .i64 ((rdD zT35 p0 x434).Span_To) 63)⟩ : T28)] : List T28)).length 1) rfl
        refine x_op hk rfl ?_
        obtain ⟨t559, hc560, H⟩ := bindS H
        refine op_call hk ent_12 (vs := [.pointer (some ⟨bx13, 0, none⟩), .slice (some ⟨bx553, 0, none⟩) (([(⟨(bits .and .i64 ((rdD zT35 p0 x434).Span_From) 63), (bits .and .i64 ((rdD zT35 p0 x434).Span_To) 63)⟩ : T28)] : List T28)).length 1]) rfl (spans_Set_Cut_calls K bx13 A429 c430 (⟨l431⟩ : T25) (some ⟨bx553, 0, none⟩) 1 ([(⟨(bits .and .i64 ((rdD zT35 p0 x434).Span_From) 63), (bits .and .i64 ((rdD zT35 p0 x434).Span_To) 63)⟩ : T28)] : List T28) _ o551 54 f14 53 f432 hc433 _ (f555.imp fun _ h_ => Own.rd h_) (Nat.le_refl _) (by decide) (by decide)   _ hc560) ?_
        rintro _ w561 ⟨o562, A565, c566, rfl, st563, f564, f567, hc568⟩
        replace f555 := f555.st st563 (by decide)
        replace f900000 := f900000.st st563 (by decide)
        replace hs := hs.loc0 st563 (by decide)
        have hk := hk.put 38 (.tuple #[]) rfl
        refine wpListIn_nil ?_
        refine blk_n ?_
        refine then_n ?_
        refine wpIn_region_lit ?_
        refine x_run tab hk (k := 3) (lv := []) (ks := [0, 3, 4]) (e' := [(0, .slice (some ad513) (p0).length cp0), (3, .pointer (some ⟨bx13, 0, none⟩)), (4, .int .i64 (IntKind.wrap .i64 (x434 + 1)))]) rfl trivial fun a hk => ?_
        refine wpListIn_nil ?_
        refine then_n ?_
        exact ⟨k502, Nat.le_refl _, (fun b_ => (fun l_ => if l_ = 53 then 45 else if l_ = 54 then 46 else l_) (o562 b_)), A565, c566, t559.l, (IntKind.wrap .i64 (x434 + 1)), (by exact Kn.pick (ks := [0, 3, 4]) hk rfl), (hs.relab0 (fun l_ => if l_ = 53 then 45 else if l_ = 54 then 46 else l_) rfl), (f564.relab (fun l_ => if l_ = 53 then 45 else if l_ = 54 then 46 else l_) rfl), (f567.relab (fun l_ => if l_ = 53 then 45 else if l_ = 54 then 46 else l_) rfl), (f900000.relab (fun l_ => if l_ = 53 then 45 else if l_ = 54 then 46 else l_) rfl), hc568, (hlp504 ▸ H)⟩
    refine x_seq ?_
    refine wpIn_region_lit ?_
    refine x_run tab hk (k := 5) (lv := []) (ks := [0, 3, 4, 15]) (e' := [(0, .slice Ap0 (p0).length cp0), (3, .pointer (some ⟨bx13, 0, none⟩)), (4, .int .i64 x434), (15, .bool (decide (x434 < ((p0).length : Int))))]) rfl trivial fun a hk => ?_
    cases b569 : (decide (x434 < ((p0).length : Int)))
    · rw [b569] at hk H
      replace H := bifF H
      refine x_run tab hk (k := 3) (lv := []) (ks := [0, 3, 4, 18]) (e' := [(0, .slice Ap0 (p0).length cp0), (3, .pointer (some ⟨bx13, 0, none⟩)), (4, .int .i64 x434), (18, .bool false)]) rfl trivial fun a hk => ?_
      refine wpListIn_nil ?_
      refine then_n ?_
      refine x_if hk (b := false) rfl ?_
      refine (show Code.wpIn _ _ _ _ _ _ _ from ?_)
      refine wpIn_exit ?_
      refine then_x ?_
      refine then_x ?_
      refine blk_x ?_
      refine then_n ?_
      exact ⟨(fun b_ => (fun l_ => if l_ = 45 then 25 else if l_ = 46 then 26 else l_) (o428 b_)), A429, c430, l431, (by exact Kn.pick (ks := [3]) hk rfl), (hs.relab0 (fun l_ => if l_ = 45 then 25 else if l_ = 46 then 26 else l_) rfl), (f14.relab (fun l_ => if l_ = 45 then 25 else if l_ = 46 then 26 else l_) rfl), (f432.relab (fun l_ => if l_ = 45 then 25 else if l_ = 46 then 26 else l_) rfl), hc433, H⟩
    · rw [b569] at hk H
      replace H := bifT H
      refine x_run tab hk (k := 3) (lv := []) (ks := [0, 3, 4, 18]) (e' := [(0, .slice Ap0 (p0).length cp0), (3, .pointer (some ⟨bx13, 0, none⟩)), (4, .int .i64 x434), (18, .bool (decide (x434 < (20 : Int))))]) rfl trivial fun a hk => ?_
      refine wpListIn_nil ?_
      refine then_n ?_
      cases b570 : (decide (x434 < (20 : Int)))
      · rw [b570] at hk H
        replace H := bifF H
        refine x_if hk (b := false) rfl ?_
        refine (show Code.wpIn _ _ _ _ _ _ _ from ?_)
        refine wpIn_exit ?_
        refine then_x ?_
        refine then_x ?_
        refine blk_x ?_
        refine then_n ?_
        exact ⟨(fun b_ => (fun l_ => if l_ = 45 then 25 else if l_ = 46 then 26 else l_) (o428 b_)), A429, c430, l431, (by exact Kn.pick (ks := [3]) hk rfl), (hs.relab0 (fun l_ => if l_ = 45 then 25 else if l_ = 46 then 26 else l_) rfl), (f14.relab (fun l_ => if l_ = 45 then 25 else if l_ = 46 then 26 else l_) rfl), (f432.relab (fun l_ => if l_ = 45 then 25 else if l_ = 46 then 26 else l_) rfl), hc433, H⟩
      · rw [b570] at hk H
        replace H := bifT H
        refine x_if hk (b := true) rfl ?_
        refine (show Code.wpIn _ _ _ _ _ _ _ from ?_)
        refine wpIn_skip ?_
        refine then_n ?_
        exact ⟨(fun b_ => (fun l_ => if l_ = 45 then 53 else if l_ = 46 then 54 else l_) (o428 b_)), (by exact Kn.pick (ks := [0, 3, 4]) hk rfl), (hs.relab0 (fun l_ => if l_ = 45 then 53 else if l_ = 46 then 54 else l_) rfl), (f14.relab (fun l_ => if l_ = 45 then 53 else if l_ = 46 then 54 else l_) rfl), (f432.relab (fun l_ => if l_ = 45 then 53 else if l_ = 46 then 54 else l_) rfl), (f900000.relab (fun l_ => if l_ = 45 then 53 else if l_ = 46 then 54 else l_) rfl), H⟩
  · rw [b9] at hk H
    replace H := bifT H
    refine x_if hk (b := true) rfl ?_
    refine (show Code.wpIn _ _ _ _ _ _ _ from ?_)
    refine x_seq ?_
    refine wpIn_region_lit ?_
    refine x_run tab hk (k := 1) (lv := []) (ks := [2]) (e' := [(2, .bool false)]) rfl trivial fun a hk => ?_
    refine wpListIn_nil ?_
    refine then_n ?_
    refine wpIn_ret ?_
    refine then_r ?_
    obtain rfl := Option.some.inj H
    exact x_retG hk (rs := [.tmp 2]) (vs := [.bool false]) rfl ⟨rfl, trivial⟩ ⟨fun b_ => if b_ < w.heap.size then o b_ else (fun _ => 0) (o7 b_), rfl, hs.close0 o (fun _ => 0)⟩

/-! (tidewrack/spans.Span).both -/
theorem spans_Span_both_calls (p0 : T28) (p1 : T28) (w : World) (o : Nat → Nat)   (r : T28) (H : spans_Span_both p0 p1 = some r) :
    Calls Try.prog 31 #[.agg #[.int .i64 p0.From, .int .i64 p0.To], .agg #[.int .i64 p1.From, .int .i64 p1.To]] w (Ret fun v_ w' => ∃ o' : Nat → Nat, v_ = .agg #[.int .i64 r.From, .int .i64 r.To] ∧ St [] w o w' o') := by
  refine x_enter (vs := [.agg #[.int .i64 p0.From, .int .i64 p0.To], .agg #[.int .i64 p1.From, .int .i64 p1.To]]) Try.func31 rfl rfl rfl fun a hk => ?_
  obtain ⟨o0, hs, h0⟩ := St.start w o
  clear h0
  rw [spans_Span_both] at H
  refine x_seq ?_
  refine wpIn_region_lit ?_
  refine x_op hk rfl ?_
  refine op_box (o := o0) (t := 29) (v := .agg #[.int .i64 p0.From, .int .i64 p0.To]) (cs := [.int .i64 p0.From, .int .i64 p0.To]) hk rfl rfl 1 fun bx4 w1 o2 st3 f5 => ?_
  replace hs := hs.loc0 st3 (by decide)
  have hk := hk.put 2 (.pointer (some ⟨bx4, 0, none⟩)) rfl
  refine x_op hk rfl ?_
  refine op_box (o := o2) (t := 29) (v := .agg #[.int .i64 p1.From, .int .i64 p1.To]) (cs := [.int .i64 p1.From, .int .i64 p1.To]) hk rfl rfl 2 fun bx9 w6 o7 st8 f10 => ?_
  replace f5 := f5.st st8 (by decide)
  replace hs := hs.loc0 st8 (by decide)
  have hk := hk.put 3 (.pointer (some ⟨bx9, 0, none⟩)) rfl
  refine x_op hk rfl ?_
  refine op_alloc (o := o7) tab (t := 29) (cs := [.int .i64 0, .int .i64 0]) rfl rfl 3 fun bx14 w11 o12 st13 f15 => ?_
  replace f10 := f10.st st13 (by decide)
  replace f5 := f5.st st13 (by decide)
  replace hs := hs.loc0 st13 (by decide)
  have hk := hk.put 4 (.pointer (some ⟨bx14, 0, none⟩)) rfl
  refine wpListIn_nil ?_
  refine then_n ?_
  refine x_seq ?_
  refine wpIn_region_lit ?_
  refine x_run tab hk (k := 10) (lv := [.int .i64 p0.From, .int .i64 p1.From, .int .i64 p0.To, .int .i64 p1.To]) (ks := [4, 9, 14]) (e' := [(4, .pointer (some ⟨bx14, 0, none⟩)), (9, .int .i64 (mxI p0.From p1.From)), (14, .int .i64 (mnI p0.To p1.To))]) rfl ⟨(load1 tab rfl ((Bx.cell f5.now 0).trans rfl)), (load1 tab rfl ((Bx.cell f10.now 0).trans rfl)), (load1 tab rfl ((Bx.cell f5.now 1).trans rfl)), (load1 tab rfl ((Bx.cell f10.now 1).trans rfl)), trivial⟩ fun a hk => ?_
  refine x_run tab hk (k := 1) (lv := []) (ks := [4, 15]) (e' := [(4, .pointer (some ⟨bx14, 0, none⟩)), (15, .agg #[.int .i64 (mxI p0.From p1.From), .int .i64 (mnI p0.To p1.To)])]) rfl trivial fun a hk => ?_
  refine x_op hk rfl ?_
  refine op_store tab hk (t := 29) (v := .agg #[.int .i64 (mxI p0.From p1.From), .int .i64 (mnI p0.To p1.To)]) (b := bx14) (k := 0) (cs' := [.int .i64 (mxI p0.From p1.From), .int .i64 (mnI p0.To p1.To)]) rfl rfl rfl rfl rfl rfl f15 rfl rfl fun w16 o17 st18 f15_ => ?_
  replace hs := hs.loc0 st18 (by decide)
  replace f15 := f15_
  refine wpListIn_nil ?_
  refine then_n ?_
  refine wpIn_ret ?_
  obtain rfl := Option.some.inj H
  exact x_retG hk (rs := [.cell 4 29]) (vs := [.agg #[.int .i64 (mxI p0.From p1.From), .int .i64 (mnI p0.To p1.To)]]) rfl ⟨⟨_, rfl, load_box tab rfl rfl f15.now (k := 0) rfl rfl⟩, trivial⟩ ⟨fun b_ => if b_ < w.heap.size then o b_ else (fun _ => 0) (o17 b_), rfl, hs.close0 o (fun _ => 0)⟩

/-! (*tidewrack/spans.Set).In -/
theorem spans_Set_In_calls (K : Nat) (bp0 : Nat) (Ap0_0 : Option Addr) (cp0_0 : Nat) (p0 : T25) (p1 : T28) (w : World) (o : Nat → Nat) (Lp0 : Nat) (hp0 : Ft (Bx bp0 26 [.slice Ap0_0 (p0.l).length cp0_0]) w o Lp0) (Lp0_0 : Nat) (hp0_0 : Ft (RdC ET28 Ap0_0 p0.l) w o Lp0_0) (hcp0_0 : (p0.l).length ≤ cp0_0)  (R0 : Nat) (r : List T28) (H : spans_Set_In K p0 p1 = some r) :
    Calls Try.prog 14 #[.pointer (some ⟨bp0, 0, none⟩), .agg #[.int .i64 p1.From, .int .i64 p1.To]] w (Ret fun v_ w' => ∃ o' : Nat → Nat, ∃ A0 : Option Addr, ∃ c0 : Nat, v_ = .slice A0 (r).length c0 ∧ St [] w o w' o' ∧ Ft (Own ET28 29 (.slice A0 (r).length c0) (r)) w' o' R0 ∧ (r).length ≤ c0) := by
  refine x_enter (vs := [.pointer (some ⟨bp0, 0, none⟩), .agg #[.int .i64 p1.From, .int .i64 p1.To]]) Try.func14 rfl rfl rfl fun a hk => ?_
  obtain ⟨o0, hs, h0⟩ := St.start w o
  have f900000 := h0 _ _ hp0_0
  have f900019 := h0 _ _ hp0
  clear h0
  rw [spans_Set_In] at H
  refine x_seq ?_
  refine wpIn_region_lit ?_
  refine x_op hk rfl ?_
  refine op_box (o := o0) (t := 29) (v := .agg #[.int .i64 p1.From, .int .i64 p1.To]) (cs := [.int .i64 p1.From, .int .i64 p1.To]) hk rfl rfl 1 fun bx4 w1 o2 st3 f5 => ?_
  replace f900000 := f900000.st st3 (by decide)
  replace f900019 := f900019.st st3 (by decide)
  replace hs := hs.loc0 st3 (by decide)
  have hk := hk.put 3 (.pointer (some ⟨bx4, 0, none⟩)) rfl
  refine x_run tab hk (k := 1) (lv := []) (ks := [0, 3]) (e' := [(0, .pointer (some ⟨bp0, 0, none⟩)), (3, .pointer (some ⟨bx4, 0, none⟩))]) rfl trivial fun a hk => ?_
  refine wpListIn_nil ?_
  refine then_n ?_
  refine x_seq ?_
  refine wpIn_region_lit ?_
  refine x_run tab hk (k := 1) (lv := []) (ks := [0, 3, 5]) (e' := [(0, .pointer (some ⟨bp0, 0, none⟩)), (3, .pointer (some ⟨bx4, 0, none⟩)), (5, .slice none 0 0)]) rfl trivial fun a hk => ?_
  refine wpListIn_nil ?_
  refine then_n ?_
  refine x_mid (fun a_ w_ => ∃ o1380 : Nat → Nat, ∃ A1381 : Option Addr, ∃ c1382 : Nat, ∃ l1383 : List T28, Kn 31 a_ [(5, .slice A1381 (l1383).length c1382)] ∧ St [] w (fun _ => 0) w_ o1380 ∧ Ft (Own ET28 29 (.slice A1381 (l1383).length c1382) l1383) w_ o1380 148 ∧ Ft (RdC ET28 Ap0_0 p0.l) w_ o1380 0 ∧ Ft (Bx bp0 26 [.slice Ap0_0 (p0.l).length cp0_0]) w_ o1380 0 ∧ (l1383).length ≤ c1382 ∧ spans_Set_In_j1 l1383 = some r) ?_ ?_
  rotate_left
  · rintro a w1386 ⟨o1380, A1381, c1382, l1383, hk, hs, f1384, f900000, f900019, hc1385, H⟩
    rw [spans_Set_In_j1] at H
    refine x_seq ?_
    refine wpIn_region_lit ?_
    refine x_run tab hk (k := 2) (lv := []) (ks := [4]) (e' := [(4, .slice A1381 (l1383).length c1382)]) rfl trivial fun a hk => ?_
    refine wpListIn_nil ?_
    refine then_n ?_
    refine wpIn_ret ?_
    obtain rfl := Option.some.inj H
    exact x_retG hk (rs := [.tmp 4]) (vs := [.slice A1381 (l1383).length c1382]) rfl ⟨rfl, trivial⟩ ⟨fun b_ => if b_ < w.heap.size then o b_ else (fun _ => R0) (o1380 b_), A1381, c1382, rfl, hs.close0 o (fun _ => R0), hs.close_ft (o := o) (ρ := fun _ => R0) f1384 (by decide) rfl, hc1385⟩
  refine x_seq ?_
  refine wpIn_region_lit ?_
  refine x_run tab hk (k := 6) (lv := [.slice Ap0_0 (p0.l).length cp0_0]) (ks := [3, 5, 12, 13, 14]) (e' := [(3, .pointer (some ⟨bx4, 0, none⟩)), (5, .slice none 0 0), (12, .slice Ap0_0 (p0.l).length cp0_0), (13, .int .i64 ((p0.l).length : Int)), (14, .int .i64 0)]) rfl ⟨(load1 tab rfl ((Bx.cell f900019.now 0).trans rfl)), trivial⟩ fun a hk => ?_
  refine wpListIn_nil ?_
  refine then_n ?_
  refine wpIn_block ?_
  refine x_loop (fun j_ a_ w_ => ∃ o1840 : Nat → Nat, ∃ A1841 : Option Addr, ∃ c1842 : Nat, ∃ l1843 : List T28, ∃ x1846 : Int, Kn 31 a_ [(3, .pointer (some ⟨bx4, 0, none⟩)), (5, .slice A1841 (l1843).length c1842), (12, .slice Ap0_0 (p0.l).length cp0_0), (13, .int .i64 ((p0.l).length : Int)), (14, .int .i64 x1846)] ∧ St [] w (fun _ => 0) w_ o1840 ∧ Ft (Own ET28 29 (.slice A1841 (l1843).length c1842) l1843) w_ o1840 193 ∧ Ft (Bx bx4 29 [.int .i64 p1.From, .int .i64 p1.To]) w_ o1840 192 ∧ Ft (RdC ET28 Ap0_0 p0.l) w_ o1840 0 ∧ Ft (Bx bp0 26 [.slice Ap0_0 (p0.l).length cp0_0]) w_ o1840 0 ∧ (l1843).length ≤ c1842 ∧ spans_Set_In_l2 p0 p1 j_ l1843 x1846 = some r) (k := K) ⟨(fun b_ => (fun l_ => if l_ = 1 then 192 else l_) (o2 b_)), none, 0, ([] : List T28), 0, (by exact Kn.pick (ks := [3, 5, 12, 13, 14]) hk rfl), (hs.relab0 (fun l_ => if l_ = 1 then 192 else l_) rfl), (Ft.of_all (fun _ => Own.nil _ _ _) _ _ _), (f5.relab (fun l_ => if l_ = 1 then 192 else l_) rfl), (f900000.relab (fun l_ => if l_ = 1 then 192 else l_) rfl), (f900019.relab (fun l_ => if l_ = 1 then 192 else l_) rfl), (by simp), H⟩ (by rintro _ _ ⟨_, _, _, _, _, _, _, _, _, _, _, _, H_⟩; exact absurd (show (none : Option (List T28)) = some r from H_) (by simp)) ?_
  rintro k2298 a w2297 ⟨o1840, A1841, c1842, l1843, x1846, hk, hs, f1844, f5, f900000, f900019, hc1845, H⟩
  rw [spans_Set_In_l2] at H
  obtain ⟨lp2299, hlp2300⟩ : ∃ lp_, lp_ = spans_Set_In_l2 p0 p1 k2298 := ⟨_, rfl⟩
  rw [← hlp2300] at H
  refine x_seq ?_
  refine wpIn_region_lit ?_
  refine x_run tab hk (k := 1) (lv := []) (ks := [3, 5, 12, 13, 14, 15]) (e' := [(3, .pointer (some ⟨bx4, 0, none⟩)), (5, .slice A1841 (l1843).length c1842), (12, .slice Ap0_0 (p0.l).length cp0_0), (13, .int .i64 ((p0.l).length : Int)), (14, .int .i64 x1846), (15, .bool (decide (x1846 < ((p0.l).length : Int))))]) rfl trivial fun a hk => ?_
  refine wpListIn_nil ?_
  refine then_n ?_
  refine x_seq ?_
  cases b2301 : (decide (x1846 < ((p0.l).length : Int)))
  · rw [b2301] at hk H
    replace H := bifF H
    refine x_if hk (b := false) rfl ?_
    refine (show Code.wpIn _ _ _ _ _ _ _ from ?_)
    refine wpIn_exit ?_
    refine then_x ?_
    refine then_x ?_
    refine blk_x ?_
    refine then_n ?_
    exact ⟨(fun b_ => (fun l_ => if l_ = 193 then 148 else l_) (o1840 b_)), A1841, c1842, l1843, (by exact Kn.pick (ks := [5]) hk rfl), (hs.relab0 (fun l_ => if l_ = 193 then 148 else l_) rfl), (f1844.relab (fun l_ => if l_ = 193 then 148 else l_) rfl), (f900000.relab (fun l_ => if l_ = 193 then 148 else l_) rfl), (f900019.relab (fun l_ => if l_ = 193 then 148 else l_) rfl), hc1845, H⟩
  · rw [b2301] at hk H
    replace H := bifT H
    refine x_if hk (b := true) rfl ?_
    refine (show Code.wpIn _ _ _ _ _ _ _ from ?_)
    refine wpIn_skip ?_
    refine then_n ?_
    refine x_seq ?_
    refine wpIn_block ?_
    refine x_seq ?_
    refine wpIn_region_lit ?_
    obtain ⟨q2302, H⟩ := ifS H
    obtain ⟨ad2303, hAad2303⟩ := RdC.addr f900000.now q2302
    have hk_C := hk
    have f1844_C := f1844
    have f5_C := f5
    have f900000_C := f900000
    have f900019_C := f900019
    subst hAad2303
    have hk := hk_C
    clear hk_C
    have f1844 := f1844_C
    clear f1844_C
    have f5 := f5_C
    clear f5_C
    have f900000 := f900000_C
    clear f900000_C
    have f900019 := f900019_C
    clear f900019_C
    refine x_run tab hk (k := 2) (lv := [.agg #[.int .i64 ((rdD zT28 p0.l x1846).From), .int .i64 ((rdD zT28 p0.l x1846).To)]]) (ks := [3, 5, 12, 13, 14, 17]) (e' := [(3, .pointer (some ⟨bx4, 0, none⟩)), (5, .slice A1841 (l1843).length c1842), (12, .slice (some ad2303) (p0.l).length cp0_0), (13, .int .i64 ((p0.l).length : Int)), (14, .int .i64 x1846), (17, .agg #[.int .i64 ((rdD zT28 p0.l x1846).From), .int .i64 ((rdD zT28 p0.l x1846).To)])]) rfl ⟨q2302, (load_elem (E := ET28) (i := x1846) (dx := zT28) tab rfl rfl f900000.now q2302), trivial⟩ fun a hk => ?_
    refine x_op hk rfl ?_
    refine op_alloc (o := o1840) tab (t := 29) (cs := [.int .i64 0, .int .i64 0]) rfl rfl 244 fun bx2307 w2304 o2305 st2306 f2308 => ?_
    replace f1844 := f1844.st st2306 (by decide)
    replace f5 := f5.st st2306 (by decide)
    replace f900000 := f900000.st st2306 (by decide)
    replace f900019 := f900019.st st2306 (by decide)
    replace hs := hs.loc0 st2306 (by decide)
    have hk := hk.put 7 (.pointer (some ⟨bx2307, 0, none⟩)) rfl
    refine x_op hk rfl ?_
    refine op_store tab hk (t := 29) (v := .agg #[.int .i64 ((rdD zT28 p0.l x1846).From), .int .i64 ((rdD zT28 p0.l x1846).To)]) (b := bx2307) (k := 0) (cs' := [.int .i64 ((rdD zT28 p0.l x1846).From), .int .i64 ((rdD zT28 p0.l x1846).To)]) rfl rfl rfl rfl rfl rfl f2308 rfl rfl fun w2309 o2310 st2311 f2308_ => ?_
    replace f1844 := f1844.st st2311 (by decide)
    replace f5 := f5.st st2311 (by decide)
    replace f900000 := f900000.st st2311 (by decide)
    replace f900019 := f900019.st st2311 (by decide)
    replace hs := hs.loc0 st2311 (by decide)
    replace f2308 := f2308_
    refine wpListIn_nil ?_
    refine then_n ?_
    refine x_seq ?_
    refine x_cut (fun a_ w_ => ∃ o2532 : Nat → Nat, ∃ bx2533 : Nat, ∃ x2535 : T28, Kn 31 a_ [(3, .pointer (some ⟨bx4, 0, none⟩)), (5, .slice A1841 (l1843).length c1842), (8, .pointer (some ⟨bx2533, 0, none⟩)), (12, .slice (some ad2303) (p0.l).length cp0_0), (13, .int .i64 ((p0.l).length : Int)), (14, .int .i64 x1846)] ∧ St [] w (fun _ => 0) w_ o2532 ∧ Ft (Own ET28 29 (.slice A1841 (l1843).length c1842) l1843) w_ o2532 269 ∧ Ft (Bx bx2533 29 [.int .i64 x2535.From, .int .i64 x2535.To]) w_ o2532 270 ∧ Ft (Bx bx4 29 [.int .i64 p1.From, .int .i64 p1.To]) w_ o2532 268 ∧ Ft (RdC ET28 (some ad2303) p0.l) w_ o2532 0 ∧ Ft (Bx bp0 26 [.slice (some ad2303) (p0.l).length cp0_0]) w_ o2532 0 ∧ spans_Set_In_j3 l1843 x1846 lp2299 x2535 = some r) ?_ ?_
    rotate_left
    · rintro a w2536 ⟨o2532, bx2533, x2535, hk, hs, f1844, f2534, f5, f900000, f900019, H⟩
      rw [spans_Set_In_j3] at H
      refine then_n ?_
      refine x_seq ?_
      refine wpIn_region_lit ?_
      refine x_run tab hk (k := 1) (lv := [.agg #[.int .i64 x2535.From, .int .i64 x2535.To]]) (ks := [3, 5, 8, 12, 13, 14, 22]) (e' := [(3, .pointer (some ⟨bx4, 0, none⟩)), (5, .slice A1841 (l1843).length c1842), (8, .pointer (some ⟨bx2533, 0, none⟩)), (12, .slice (some ad2303) (p0.l).length cp0_0), (13, .int .i64 ((p0.l).length : Int)), (14, .int .i64 x1846), (22, .agg #[.int .i64 x2535.From, .int .i64 x2535.To])]) rfl ⟨(load_box tab rfl rfl f2534.now (k := 0) rfl rfl), trivial⟩ fun a hk => ?_
      refine x_op hk rfl ?_
      obtain ⟨t2540, hc2541, H⟩ := bindS H
      refine op_call hk ent_25 (vs := [.agg #[.int .i64 x2535.From, .int .i64 x2535.To]]) rfl (spans_Span_empty_calls x2535 _ o2532    _ hc2541) ?_
      rintro _ w2542 ⟨o2543, rfl, st2544⟩
      replace f1844 := f1844.st st2544 (by decide)
      replace f2534 := f2534.st st2544 (by decide)
      replace f5 := f5.st st2544 (by decide)
      replace f900000 := f900000.st st2544 (by decide)
      replace f900019 := f900019.st st2544 (by decide)
      replace hs := hs.loc0 st2544 (by decide)
      have hk := hk.put 23 (.bool t2540) rfl
      refine x_run tab hk (k := 1) (lv := []) (ks := [3, 5, 8, 12, 13, 14, 24]) (e' := [(3, .pointer (some ⟨bx4, 0, none⟩)), (5, .slice A1841 (l1843).length c1842), (8, .pointer (some ⟨bx2533, 0, none⟩)), (12, .slice (some ad2303) (p0.l).length cp0_0), (13, .int .i64 ((p0.l).length : Int)), (14, .int .i64 x1846), (24, .bool (!t2540))]) rfl trivial fun a hk => ?_
      refine wpListIn_nil ?_
      refine then_n ?_
      cases b2545 : (!t2540)
      · rw [b2545] at hk H
        replace H := bifF H
        refine x_if hk (b := false) rfl ?_
        refine (show Code.wpIn _ _ _ _ _ _ _ from ?_)
        refine wpIn_skip ?_
        refine blk_n ?_
        refine then_n ?_
        refine wpIn_region_lit ?_
        refine x_run tab hk (k := 2) (lv := []) (ks := [3, 5, 12, 13, 14]) (e' := [(3, .pointer (some ⟨bx4, 0, none⟩)), (5, .slice A1841 (l1843).length c1842), (12, .slice (some ad2303) (p0.l).length cp0_0), (13, .int .i64 ((p0.l).length : Int)), (14, .int .i64 (IntKind.wrap .i64 (x1846 + 1)))]) rfl trivial fun a hk => ?_
        refine wpListIn_nil ?_
        refine then_n ?_
        exact ⟨k2298, Nat.le_refl _, (fun b_ => (fun l_ => if l_ = 268 then 192 else if l_ = 269 then 193 else l_) (o2543 b_)), A1841, c1842, l1843, (IntKind.wrap .i64 (x1846 + 1)), (by exact Kn.pick (ks := [3, 5, 12, 13, 14]) hk rfl), (hs.relab0 (fun l_ => if l_ = 268 then 192 else if l_ = 269 then 193 else l_) rfl), (f1844.relab (fun l_ => if l_ = 268 then 192 else if l_ = 269 then 193 else l_) rfl), (f5.relab (fun l_ => if l_ = 268 then 192 else if l_ = 269 then 193 else l_) rfl), (f900000.relab (fun l_ => if l_ = 268 then 192 else if l_ = 269 then 193 else l_) rfl), (f900019.relab (fun l_ => if l_ = 268 then 192 else if l_ = 269 then 193 else l_) rfl), hc1845, (hlp2300 ▸ H)⟩
      · rw [b2545] at hk H
        replace H := bifT H
        refine x_if hk (b := true) rfl ?_
        refine (show Code.wpIn _ _ _ _ _ _ _ from ?_)
        refine wpIn_region_lit ?_
        refine x_run tab hk (k := 2) (lv := [.agg #[.int .i64 x2535.From, .int .i64 x2535.To]]) (ks := [3, 12, 13, 14, 25, 26]) (e' := [(3, .pointer (some ⟨bx4, 0, none⟩)), (12, .slice (some ad2303) (p0.l).length cp0_0), (13, .int .i64 ((p0.l).length : Int)), (14, .int .i64 x1846), (25, .slice A1841 (l1843).length c1842), (26, .agg #[.int .i64 x2535.From, .int .i64 x2535.To])]) rfl ⟨(load_box tab rfl rfl f2534.now (k := 0) rfl rfl), trivial⟩ fun a hk => ?_
        refine x_op hk rfl ?_
        refine op_slice (o := o2543) tab hk (vs := [.agg #[.int .i64 x2535.From, .int .i64 x2535.To]]) (cs := [.int .i64 x2535.From, .int .i64 x2535.To]) rfl rfl rfl rfl rfl rfl rfl rfl rfl 271 fun bx2549 w2546 o2547 st2548 f2550 => ?_
        replace f1844 := f1844.st st2548 (by decide)
        replace f5 := f5.st st2548 (by decide)
        replace f900000 := f900000.st st2548 (by decide)
        replace f900019 := f900019.st st2548 (by decide)
        replace hs := hs.loc0 st2548 (by decide)
        have f2551 : Ft (Own ET28 29 (.slice (some ⟨bx2549, 0, none⟩) (([x2535] : List T28)).length 1) ([x2535] : List T28)) w2546 o2547 271 := f2550.imp fun _ h_ => Own.of_box h_ rfl (by simp)
        have hk := hk.put 27 (.slice (some ⟨bx2549, 0, none⟩) (([x2535] : List T28)).length 1) rfl
        refine x_op hk rfl ?_
        obtain ⟨q2555, H⟩ := ifS H
        refine op_append (o := o2547) (E := ET28) (xs := l1843) (ys := ([x2535] : List T28)) tab hk rfl rfl rfl rfl rfl rfl rfl f1844 (Own.rd f2551.now) q2555 fun A2556 c2557 w2552 o2553 st2554 f2558 hc2559 => ?_
        replace f2551 := f2551.st st2554 (by decide)
        replace f5 := f5.st st2554 (by decide)
        replace f900000 := f900000.st st2554 (by decide)
        replace f900019 := f900019.st st2554 (by decide)
        replace hs := hs.loc0 st2554 (by decide)
        have hk := hk.put 28 (.slice A2556 ((l1843 ++ ([x2535] : List T28))).length c2557) rfl
        refine x_run tab hk (k := 1) (lv := []) (ks := [3, 5, 12, 13, 14]) (e' := [(3, .pointer (some ⟨bx4, 0, none⟩)), (5, .slice A2556 ((l1843 ++ ([x2535] : List T28))).length c2557), (12, .slice (some ad2303) (p0.l).length cp0_0), (13, .int .i64 ((p0.l).length : Int)), (14, .int .i64 x1846)]) rfl trivial fun a hk => ?_
        refine wpListIn_nil ?_
        refine blk_n ?_
        refine then_n ?_
        refine wpIn_region_lit ?_
        refine x_run tab hk (k := 2) (lv := []) (ks := [3, 5, 12, 13, 14]) (e' := [(3, .pointer (some ⟨bx4, 0, none⟩)), (5, .slice A2556 ((l1843 ++ ([x2535] : List T28))).length c2557), (12, .slice (some ad2303) (p0.l).length cp0_0), (13, .int .i64 ((p0.l).length : Int)), (14, .int .i64 (IntKind.wrap .i64 (x1846 + 1)))]) rfl trivial fun a hk => ?_
        refine wpListIn_nil ?_
        refine then_n ?_
        exact ⟨k2298, Nat.le_refl _, (fun b_ => (fun l_ => if l_ = 268 then 192 else if l_ = 269 then 193 else l_) (o2553 b_)), A2556, c2557, (l1843 ++ ([x2535] : List T28)), (IntKind.wrap .i64 (x1846 + 1)), (by exact Kn.pick (ks := [3, 5, 12, 13, 14]) hk rfl), (hs.relab0 (fun l_ => if l_ = 268 then 192 else if l_ = 269 then 193 else l_) rfl), (f2558.relab (fun l_ => if l_ = 268 then 192 else if l_ = 269 then 193 else l_) rfl), (f5.relab (fun l_ => if l_ = 268 then 192 else if l_ = 269 then 193 else l_) rfl), (f900000.relab (fun l_ => if l_ = 268 then 192 else if l_ = 269 then 193 else l_) rfl), (f900019.relab (fun l_ => if l_ = 268 then 192 else if l_ = 269 then 193 else l_) rfl), hc2559, (hlp2300 ▸ H)⟩
    obtain ⟨t2584, hc2585, H⟩ := bindS H
    obtain ⟨t2592, hc2593, H⟩ := bindS H
    refine xd_begin (o := o2310) (fun W_ => (Bx bx2307 29 [.int .i64 ((rdD zT28 p0.l x1846).From), .int .i64 ((rdD zT28 p0.l x1846).To)]) W_ ∧ (Bx bx4 29 [.int .i64 p1.From, .int .i64 p1.To]) W_ ∧ True) mixed rfl rfl fun w2659 st2660 => ?_
    replace f1844 := f1844.st st2660 (by decide)
    replace f2308 := f2308.st st2660 (by decide)
    replace f5 := f5.st st2660 (by decide)
    replace f900000 := f900000.st st2660 (by decide)
    replace f900019 := f900019.st st2660 (by decide)
    replace hs := hs.loc0 st2660 (by decide)
    refine xd_abs fun G hG => ?_
    have N2684 : ∀ (a_ : Act) (w_ : World), (∃ o2682 : Nat → Nat, Kn 31 a_ [(3, .pointer (some ⟨bx4, 0, none⟩)), (5, .slice A1841 (l1843).length c1842), (12, .slice (some ad2303) (p0.l).length cp0_0), (13, .int .i64 ((p0.l).length : Int)), (14, .int .i64 x1846), (21, .agg #[.int .i64 t2592.From, .int .i64 t2592.To])] ∧ St [] w (fun _ => 0) w_ o2682 ∧ Ft (Own ET28 29 (.slice A1841 (l1843).length c1842) l1843) w_ o2682 282 ∧ Ft (Bx bx2307 29 [.int .i64 ((rdD zT28 p0.l x1846).From), .int .i64 ((rdD zT28 p0.l x1846).To)]) w_ o2682 281 ∧ Ft (Bx bx4 29 [.int .i64 p1.From, .int .i64 p1.To]) w_ o2682 280 ∧ Ft (RdC ET28 (some ad2303) p0.l) w_ o2682 0 ∧ Ft (Bx bp0 26 [.slice (some ad2303) (p0.l).length cp0_0]) w_ o2682 0) → G 2 #[true, true, true, true, false, false] a_ w_ := by
      rintro a w2683 ⟨o2682, hk, hs, f1844, f2308, f5, f900000, f900019⟩
      refine xd_of hG ?_
      refine xd_op hk (i := 4) (by kernel_rfl) rfl rfl ?_
      refine op_alloc (o := o2682) tab (t := 29) (cs := [.int .i64 0, .int .i64 0]) rfl rfl 283 fun bx2688 w2685 o2686 st2687 f2689 => ?_
      replace f1844 := f1844.st st2687 (by decide)
      replace f2308 := f2308.st st2687 (by decide)
      replace f5 := f5.st st2687 (by decide)
      replace f900000 := f900000.st st2687 (by decide)
      replace f900019 := f900019.st st2687 (by decide)
      replace hs := hs.loc0 st2687 (by decide)
      have hk := hk.put 8 (.pointer (some ⟨bx2688, 0, none⟩)) rfl
      refine ⟨.inr ⟨f2308.now, f5.now, trivial⟩, ?_⟩
      refine xd_op hk (i := 5) (by kernel_rfl) rfl rfl ?_
      refine op_store tab hk (t := 29) (v := .agg #[.int .i64 t2592.From, .int .i64 t2592.To]) (b := bx2688) (k := 0) (cs' := [.int .i64 t2592.From, .int .i64 t2592.To]) rfl rfl rfl rfl rfl rfl f2689 rfl rfl fun w2690 o2691 st2692 f2689_ => ?_
      replace f1844 := f1844.st st2692 (by decide)
      replace f2308 := f2308.st st2692 (by decide)
      replace f5 := f5.st st2692 (by decide)
      replace f900000 := f900000.st st2692 (by decide)
      replace f900019 := f900019.st st2692 (by decide)
      replace hs := hs.loc0 st2692 (by decide)
      replace f2689 := f2689_
      refine ⟨.inl (by kernel_rfl), ?_⟩
      refine xd_done (by kernel_rfl) ?_
      refine then_n ?_
      exact ⟨(fun b_ => (fun l_ => if l_ = 280 then 268 else if l_ = 282 then 269 else if l_ = 283 then 270 else l_) (o2691 b_)), bx2688, t2592, (by exact Kn.pick (ks := [3, 5, 8, 12, 13, 14]) hk rfl), (hs.relab0 (fun l_ => if l_ = 280 then 268 else if l_ = 282 then 269 else if l_ = 283 then 270 else l_) rfl), (f1844.relab (fun l_ => if l_ = 280 then 268 else if l_ = 282 then 269 else if l_ = 283 then 270 else l_) rfl), (f2689.relab (fun l_ => if l_ = 280 then 268 else if l_ = 282 then 269 else if l_ = 283 then 270 else l_) rfl), (f5.relab (fun l_ => if l_ = 280 then 268 else if l_ = 282 then 269 else if l_ = 283 then 270 else l_) rfl), (f900000.relab (fun l_ => if l_ = 280 then 268 else if l_ = 282 then 269 else if l_ = 283 then 270 else l_) rfl), (f900019.relab (fun l_ => if l_ = 280 then 268 else if l_ = 282 then 269 else if l_ = 283 then 270 else l_) rfl), H⟩
    have N2709 : ∀ (a_ : Act) (w_ : World), (∃ o2705 : Nat → Nat, ∃ bx2706 : Nat, Kn 31 a_ [(3, .pointer (some ⟨bx4, 0, none⟩)), (5, .slice A1841 (l1843).length c1842), (8, .pointer (some ⟨bx2706, 0, none⟩)), (12, .slice (some ad2303) (p0.l).length cp0_0), (13, .int .i64 ((p0.l).length : Int)), (14, .int .i64 x1846), (18, .agg #[.int .i64 ((rdD zT28 p0.l x1846).From), .int .i64 ((rdD zT28 p0.l x1846).To)]), (20, .agg #[.int .i64 t2584.From, .int .i64 t2584.To])] ∧ St [] w (fun _ => 0) w_ o2705 ∧ Ft (Own ET28 29 (.slice A1841 (l1843).length c1842) l1843) w_ o2705 287 ∧ Ft (Bx bx2307 29 [.int .i64 ((rdD zT28 p0.l x1846).From), .int .i64 ((rdD zT28 p0.l x1846).To)]) w_ o2705 286 ∧ Ft (Bx bx2706 29 [.int .i64 0, .int .i64 0]) w_ o2705 288 ∧ Ft (Bx bx4 29 [.int .i64 p1.From, .int .i64 p1.To]) w_ o2705 285 ∧ Ft (RdC ET28 (some ad2303) p0.l) w_ o2705 0 ∧ Ft (Bx bp0 26 [.slice (some ad2303) (p0.l).length cp0_0]) w_ o2705 0) → G 2 #[true, true, true, false, true, false] a_ w_ := by
      rintro a w2708 ⟨o2705, bx2706, hk, hs, f1844, f2308, f2707, f5, f900000, f900019⟩
      refine xd_of hG ?_
      refine xd_op hk (i := 3) (by kernel_rfl) rfl rfl ?_
      refine op_call hk ent_31 (vs := [.agg #[.int .i64 ((rdD zT28 p0.l x1846).From), .int .i64 ((rdD zT28 p0.l x1846).To)], .agg #[.int .i64 t2584.From, .int .i64 t2584.To]]) rfl (spans_Span_both_calls (rdD zT28 p0.l x1846) t2584 _ o2705    _ hc2593) ?_
      rintro _ w2713 ⟨o2714, rfl, st2715⟩
      replace f1844 := f1844.st st2715 (by decide)
      replace f2308 := f2308.st st2715 (by decide)
      replace f2707 := f2707.st st2715 (by decide)
      replace f5 := f5.st st2715 (by decide)
      replace f900000 := f900000.st st2715 (by decide)
      replace f900019 := f900019.st st2715 (by decide)
      replace hs := hs.loc0 st2715 (by decide)
      have hk := hk.put 21 (.agg #[.int .i64 t2592.From, .int .i64 t2592.To]) rfl
      refine ⟨.inr ⟨f2308.now, f5.now, trivial⟩, ?_⟩
      refine xd_op hk (i := 5) (by kernel_rfl) rfl rfl ?_
      refine op_store tab hk (t := 29) (v := .agg #[.int .i64 t2592.From, .int .i64 t2592.To]) (b := bx2706) (k := 0) (cs' := [.int .i64 t2592.From, .int .i64 t2592.To]) rfl rfl rfl rfl rfl rfl f2707 rfl rfl fun w2716 o2717 st2718 f2707_ => ?_
      replace f1844 := f1844.st st2718 (by decide)
      replace f2308 := f2308.st st2718 (by decide)
      replace f5 := f5.st st2718 (by decide)
      replace f900000 := f900000.st st2718 (by decide)
      replace f900019 := f900019.st st2718 (by decide)
      replace hs := hs.loc0 st2718 (by decide)
      replace f2707 := f2707_
      refine ⟨.inl (by kernel_rfl), ?_⟩
      refine xd_done (by kernel_rfl) ?_
      refine then_n ?_
      exact ⟨(fun b_ => (fun l_ => if l_ = 285 then 268 else if l_ = 287 then 269 else if l_ = 288 then 270 else l_) (o2717 b_)), bx2706, t2592, (by exact Kn.pick (ks := [3, 5, 8, 12, 13, 14]) hk rfl), (hs.relab0 (fun l_ => if l_ = 285 then 268 else if l_ = 287 then 269 else if l_ = 288 then 270 else l_) rfl), (f1844.relab (fun l_ => if l_ = 285 then 268 else if l_ = 287 then 269 else if l_ = 288 then 270 else l_) rfl), (f2707.relab (fun l_ => if l_ = 285 then 268 else if l_ = 287 then 269 else if l_ = 288 then 270 else l_) rfl), (f5.relab (fun l_ => if l_ = 285 then 268 else if l_ = 287 then 269 else if l_ = 288 then 270 else l_) rfl), (f900000.relab (fun l_ => if l_ = 285 then 268 else if l_ = 287 then 269 else if l_ = 288 then 270 else l_) rfl), (f900019.relab (fun l_ => if l_ = 285 then 268 else if l_ = 287 then 269 else if l_ = 288 then 270 else l_) rfl), H⟩
    have N2672 : ∀ (a_ : Act) (w_ : World), (∃ o2670 : Nat → Nat, Kn 31 a_ [(3, .pointer (some ⟨bx4, 0, none⟩)), (5, .slice A1841 (l1843).length c1842), (12, .slice (some ad2303) (p0.l).length cp0_0), (13, .int .i64 ((p0.l).length : Int)), (14, .int .i64 x1846), (18, .agg #[.int .i64 ((rdD zT28 p0.l x1846).From), .int .i64 ((rdD zT28 p0.l x1846).To)]), (20, .agg #[.int .i64 t2584.From, .int .i64 t2584.To])] ∧ St [] w (fun _ => 0) w_ o2670 ∧ Ft (Own ET28 29 (.slice A1841 (l1843).length c1842) l1843) w_ o2670 279 ∧ Ft (Bx bx2307 29 [.int .i64 ((rdD zT28 p0.l x1846).From), .int .i64 ((rdD zT28 p0.l x1846).To)]) w_ o2670 278 ∧ Ft (Bx bx4 29 [.int .i64 p1.From, .int .i64 p1.To]) w_ o2670 277 ∧ Ft (RdC ET28 (some ad2303) p0.l) w_ o2670 0 ∧ Ft (Bx bp0 26 [.slice (some ad2303) (p0.l).length cp0_0]) w_ o2670 0) → G 3 #[true, true, true, false, false, false] a_ w_ := by
      rintro a w2671 ⟨o2670, hk, hs, f1844, f2308, f5, f900000, f900019⟩
      refine xd_of hG ?_
      refine xd_each [3, 4] (by kernel_rfl) rfl ⟨?_, ?_, trivial⟩
      · refine xd_one hk rfl rfl ?_
        refine op_call hk ent_31 (vs := [.agg #[.int .i64 ((rdD zT28 p0.l x1846).From), .int .i64 ((rdD zT28 p0.l x1846).To)], .agg #[.int .i64 t2584.From, .int .i64 t2584.To]]) rfl (spans_Span_both_calls (rdD zT28 p0.l x1846) t2584 _ o2670    _ hc2593) ?_
        rintro _ w2676 ⟨o2677, rfl, st2678⟩
        replace f1844 := f1844.st st2678 (by decide)
        replace f2308 := f2308.st st2678 (by decide)
        replace f5 := f5.st st2678 (by decide)
        replace f900000 := f900000.st st2678 (by decide)
        replace f900019 := f900019.st st2678 (by decide)
        replace hs := hs.loc0 st2678 (by decide)
        have hk := hk.put 21 (.agg #[.int .i64 t2592.From, .int .i64 t2592.To]) rfl
        refine ⟨.inr ⟨f2308.now, f5.now, trivial⟩, ?_⟩
        exact xd_to hG rfl (N2684 _ _ ⟨(fun b_ => (fun l_ => if l_ = 277 then 280 else if l_ = 278 then 281 else if l_ = 279 then 282 else l_) (o2677 b_)), (by exact Kn.pick (ks := [3, 5, 12, 13, 14, 21]) hk rfl), (hs.relab0 (fun l_ => if l_ = 277 then 280 else if l_ = 278 then 281 else if l_ = 279 then 282 else l_) rfl), (f1844.relab (fun l_ => if l_ = 277 then 280 else if l_ = 278 then 281 else if l_ = 279 then 282 else l_) rfl), (f2308.relab (fun l_ => if l_ = 277 then 280 else if l_ = 278 then 281 else if l_ = 279 then 282 else l_) rfl), (f5.relab (fun l_ => if l_ = 277 then 280 else if l_ = 278 then 281 else if l_ = 279 then 282 else l_) rfl), (f900000.relab (fun l_ => if l_ = 277 then 280 else if l_ = 278 then 281 else if l_ = 279 then 282 else l_) rfl), (f900019.relab (fun l_ => if l_ = 277 then 280 else if l_ = 278 then 281 else if l_ = 279 then 282 else l_) rfl)⟩)
      · refine xd_one hk rfl rfl ?_
        refine op_alloc (o := o2670) tab (t := 29) (cs := [.int .i64 0, .int .i64 0]) rfl rfl 284 fun bx2696 w2693 o2694 st2695 f2697 => ?_
        replace f1844 := f1844.st st2695 (by decide)
        replace f2308 := f2308.st st2695 (by decide)
        replace f5 := f5.st st2695 (by decide)
        replace f900000 := f900000.st st2695 (by decide)
        replace f900019 := f900019.st st2695 (by decide)
        replace hs := hs.loc0 st2695 (by decide)
        have hk := hk.put 8 (.pointer (some ⟨bx2696, 0, none⟩)) rfl
        refine ⟨.inr ⟨f2308.now, f5.now, trivial⟩, ?_⟩
        exact xd_to hG rfl (N2709 _ _ ⟨(fun b_ => (fun l_ => if l_ = 277 then 285 else if l_ = 278 then 286 else if l_ = 279 then 287 else if l_ = 284 then 288 else l_) (o2694 b_)), bx2696, (by exact Kn.pick (ks := [3, 5, 8, 12, 13, 14, 18, 20]) hk rfl), (hs.relab0 (fun l_ => if l_ = 277 then 285 else if l_ = 278 then 286 else if l_ = 279 then 287 else if l_ = 284 then 288 else l_) rfl), (f1844.relab (fun l_ => if l_ = 277 then 285 else if l_ = 278 then 286 else if l_ = 279 then 287 else if l_ = 284 then 288 else l_) rfl), (f2308.relab (fun l_ => if l_ = 277 then 285 else if l_ = 278 then 286 else if l_ = 279 then 287 else if l_ = 284 then 288 else l_) rfl), (f2697.relab (fun l_ => if l_ = 277 then 285 else if l_ = 278 then 286 else if l_ = 279 then 287 else if l_ = 284 then 288 else l_) rfl), (f5.relab (fun l_ => if l_ = 277 then 285 else if l_ = 278 then 286 else if l_ = 279 then 287 else if l_ = 284 then 288 else l_) rfl), (f900000.relab (fun l_ => if l_ = 277 then 285 else if l_ = 278 then 286 else if l_ = 279 then 287 else if l_ = 284 then 288 else l_) rfl), (f900019.relab (fun l_ => if l_ = 277 then 285 else if l_ = 278 then 286 else if l_ = 279 then 287 else if l_ = 284 then 288 else l_) rfl)⟩)
    have N2735 : ∀ (a_ : Act) (w_ : World), (∃ o2731 : Nat → Nat, ∃ bx2732 : Nat, Kn 31 a_ [(3, .pointer (some ⟨bx4, 0, none⟩)), (5, .slice A1841 (l1843).length c1842), (8, .pointer (some ⟨bx2732, 0, none⟩)), (12, .slice (some ad2303) (p0.l).length cp0_0), (13, .int .i64 ((p0.l).length : Int)), (14, .int .i64 x1846), (18, .agg #[.int .i64 ((rdD zT28 p0.l x1846).From), .int .i64 ((rdD zT28 p0.l x1846).To)]), (19, .agg #[.int .i64 p1.From, .int .i64 p1.To])] ∧ St [] w (fun _ => 0) w_ o2731 ∧ Ft (Own ET28 29 (.slice A1841 (l1843).length c1842) l1843) w_ o2731 292 ∧ Ft (Bx bx2307 29 [.int .i64 ((rdD zT28 p0.l x1846).From), .int .i64 ((rdD zT28 p0.l x1846).To)]) w_ o2731 291 ∧ Ft (Bx bx2732 29 [.int .i64 0, .int .i64 0]) w_ o2731 293 ∧ Ft (Bx bx4 29 [.int .i64 p1.From, .int .i64 p1.To]) w_ o2731 290 ∧ Ft (RdC ET28 (some ad2303) p0.l) w_ o2731 0 ∧ Ft (Bx bp0 26 [.slice (some ad2303) (p0.l).length cp0_0]) w_ o2731 0) → G 3 #[true, true, false, false, true, false] a_ w_ := by
      rintro a w2734 ⟨o2731, bx2732, hk, hs, f1844, f2308, f2733, f5, f900000, f900019⟩
      refine xd_of hG ?_
      refine xd_op hk (i := 2) (by kernel_rfl) rfl rfl ?_
      refine op_call hk ent_24 (vs := [.agg #[.int .i64 p1.From, .int .i64 p1.To]]) rfl (spans_Span_fit_calls p1 _ o2731    _ hc2585) ?_
      rintro _ w2739 ⟨o2740, rfl, st2741⟩
      replace f1844 := f1844.st st2741 (by decide)
      replace f2308 := f2308.st st2741 (by decide)
      replace f2733 := f2733.st st2741 (by decide)
      replace f5 := f5.st st2741 (by decide)
      replace f900000 := f900000.st st2741 (by decide)
      replace f900019 := f900019.st st2741 (by decide)
      replace hs := hs.loc0 st2741 (by decide)
      have hk := hk.put 20 (.agg #[.int .i64 t2584.From, .int .i64 t2584.To]) rfl
      refine ⟨.inr ⟨f2308.now, f5.now, trivial⟩, ?_⟩
      refine xd_op hk (i := 3) (by kernel_rfl) rfl rfl ?_
      refine op_call hk ent_31 (vs := [.agg #[.int .i64 ((rdD zT28 p0.l x1846).From), .int .i64 ((rdD zT28 p0.l x1846).To)], .agg #[.int .i64 t2584.From, .int .i64 t2584.To]]) rfl (spans_Span_both_calls (rdD zT28 p0.l x1846) t2584 _ o2740    _ hc2593) ?_
      rintro _ w2745 ⟨o2746, rfl, st2747⟩
      replace f1844 := f1844.st st2747 (by decide)
      replace f2308 := f2308.st st2747 (by decide)
      replace f2733 := f2733.st st2747 (by decide)
      replace f5 := f5.st st2747 (by decide)
      replace f900000 := f900000.st st2747 (by decide)
      replace f900019 := f900019.st st2747 (by decide)
      replace hs := hs.loc0 st2747 (by decide)
      have hk := hk.put 21 (.agg #[.int .i64 t2592.From, .int .i64 t2592.To]) rfl
      refine ⟨.inr ⟨f2308.now, f5.now, trivial⟩, ?_⟩
      refine xd_op hk (i := 5) (by kernel_rfl) rfl rfl ?_
      refine op_store tab hk (t := 29) (v := .agg #[.int .i64 t2592.From, .int .i64 t2592.To]) (b := bx2732) (k := 0) (cs' := [.int .i64 t2592.From, .int .i64 t2592.To]) rfl rfl rfl rfl rfl rfl f2733 rfl rfl fun w2748 o2749 st2750 f2733_ => ?_
      replace f1844 := f1844.st st2750 (by decide)
      replace f2308 := f2308.st st2750 (by decide)
      replace f5 := f5.st st2750 (by decide)
      replace f900000 := f900000.st st2750 (by decide)
      replace f900019 := f900019.st st2750 (by decide)
      replace hs := hs.loc0 st2750 (by decide)
      replace f2733 := f2733_
      refine ⟨.inl (by kernel_rfl), ?_⟩
      refine xd_done (by kernel_rfl) ?_
      refine then_n ?_
      exact ⟨(fun b_ => (fun l_ => if l_ = 290 then 268 else if l_ = 292 then 269 else if l_ = 293 then 270 else l_) (o2749 b_)), bx2732, t2592, (by exact Kn.pick (ks := [3, 5, 8, 12, 13, 14]) hk rfl), (hs.relab0 (fun l_ => if l_ = 290 then 268 else if l_ = 292 then 269 else if l_ = 293 then 270 else l_) rfl), (f1844.relab (fun l_ => if l_ = 290 then 268 else if l_ = 292 then 269 else if l_ = 293 then 270 else l_) rfl), (f2733.relab (fun l_ => if l_ = 290 then 268 else if l_ = 292 then 269 else if l_ = 293 then 270 else l_) rfl), (f5.relab (fun l_ => if l_ = 290 then 268 else if l_ = 292 then 269 else if l_ = 293 then 270 else l_) rfl), (f900000.relab (fun l_ => if l_ = 290 then 268 else if l_ = 292 then 269 else if l_ = 293 then 270 else l_) rfl), (f900019.relab (fun l_ => if l_ = 290 then 268 else if l_ = 292 then 269 else if l_ = 293 then 270 else l_) rfl), H⟩
    refine xd_of hG ?_
    refine xd_take tab hk (k := 4) (is := [0, 1]) (ls' := #[true, true, false, false, false, false]) (lv := [.agg #[.int .i64 ((rdD zT28 p0.l x1846).From), .int .i64 ((rdD zT28 p0.l x1846).To)], .agg #[.int .i64 p1.From, .int .i64 p1.To]]) (ks := [3, 5, 12, 13, 14, 18, 19]) (e' := [(3, .pointer (some ⟨bx4, 0, none⟩)), (5, .slice A1841 (l1843).length c1842), (12, .slice (some ad2303) (p0.l).length cp0_0), (13, .int .i64 ((p0.l).length : Int)), (14, .int .i64 x1846), (18, .agg #[.int .i64 ((rdD zT28 p0.l x1846).From), .int .i64 ((rdD zT28 p0.l x1846).To)]), (19, .agg #[.int .i64 p1.From, .int .i64 p1.To])]) (by kernel_rfl) rfl rfl (by kernel_rfl) (np_then (np_then (np_blk (np_then (np_then (np_blk (np_then np_body))))))) ⟨f2308.now, f5.now, trivial⟩ (fun W_ hS => ⟨(load_box tab rfl rfl hS.1 (k := 0) rfl rfl), (load_box tab rfl rfl hS.2.1 (k := 0) rfl rfl), trivial⟩) fun a hk => ?_
    refine xd_each [2, 4] (by kernel_rfl) rfl ⟨?_, ?_, trivial⟩
    · refine xd_one hk rfl rfl ?_
      refine op_call hk ent_24 (vs := [.agg #[.int .i64 p1.From, .int .i64 p1.To]]) rfl (spans_Span_fit_calls p1 _ o2310    _ hc2585) ?_
      rintro _ w2664 ⟨o2665, rfl, st2666⟩
      replace f1844 := f1844.st st2666 (by decide)
      replace f2308 := f2308.st st2666 (by decide)
      replace f5 := f5.st st2666 (by decide)
      replace f900000 := f900000.st st2666 (by decide)
      replace f900019 := f900019.st st2666 (by decide)
      replace hs := hs.loc0 st2666 (by decide)
      have hk := hk.put 20 (.agg #[.int .i64 t2584.From, .int .i64 t2584.To]) rfl
      refine ⟨.inr ⟨f2308.now, f5.now, trivial⟩, ?_⟩
      exact xd_to hG rfl (N2672 _ _ ⟨(fun b_ => (fun l_ => if l_ = 192 then 277 else if l_ = 193 then 279 else if l_ = 244 then 278 else l_) (o2665 b_)), (by exact Kn.pick (ks := [3, 5, 12, 13, 14, 18, 20]) hk rfl), (hs.relab0 (fun l_ => if l_ = 192 then 277 else if l_ = 193 then 279 else if l_ = 244 then 278 else l_) rfl), (f1844.relab (fun l_ => if l_ = 192 then 277 else if l_ = 193 then 279 else if l_ = 244 then 278 else l_) rfl), (f2308.relab (fun l_ => if l_ = 192 then 277 else if l_ = 193 then 279 else if l_ = 244 then 278 else l_) rfl), (f5.relab (fun l_ => if l_ = 192 then 277 else if l_ = 193 then 279 else if l_ = 244 then 278 else l_) rfl), (f900000.relab (fun l_ => if l_ = 192 then 277 else if l_ = 193 then 279 else if l_ = 244 then 278 else l_) rfl), (f900019.relab (fun l_ => if l_ = 192 then 277 else if l_ = 193 then 279 else if l_ = 244 then 278 else l_) rfl)⟩)
    · refine xd_one hk rfl rfl ?_
      refine op_alloc (o := o2310) tab (t := 29) (cs := [.int .i64 0, .int .i64 0]) rfl rfl 289 fun bx2722 w2719 o2720 st2721 f2723 => ?_
      replace f1844 := f1844.st st2721 (by decide)
      replace f2308 := f2308.st st2721 (by decide)
      replace f5 := f5.st st2721 (by decide)
      replace f900000 := f900000.st st2721 (by decide)
      replace f900019 := f900019.st st2721 (by decide)
      replace hs := hs.loc0 st2721 (by decide)
      have hk := hk.put 8 (.pointer (some ⟨bx2722, 0, none⟩)) rfl
      refine ⟨.inr ⟨f2308.now, f5.now, trivial⟩, ?_⟩
      exact xd_to hG rfl (N2735 _ _ ⟨(fun b_ => (fun l_ => if l_ = 192 then 290 else if l_ = 193 then 292 else if l_ = 244 then 291 else if l_ = 289 then 293 else l_) (o2720 b_)), bx2722, (by exact Kn.pick (ks := [3, 5, 8, 12, 13, 14, 18, 19]) hk rfl), (hs.relab0 (fun l_ => if l_ = 192 then 290 else if l_ = 193 then 292 else if l_ = 244 then 291 else if l_ = 289 then 293 else l_) rfl), (f1844.relab (fun l_ => if l_ = 192 then 290 else if l_ = 193 then 292 else if l_ = 244 then 291 else if l_ = 289 then 293 else l_) rfl), (f2308.relab (fun l_ => if l_ = 192 then 290 else if l_ = 193 then 292 else if l_ = 244 then 291 else if l_ = 289 then 293 else l_) rfl), (f2723.relab (fun l_ => if l_ = 192 then 290 else if l_ = 193 then 292 else if l_ = 244 then 291 else if l_ = 289 then 293 else l_) rfl), (f5.relab (fun l_ => if l_ = 192 then 290 else if l_ = 193 then 292 else if l_ = 244 then 291 else if l_ = 289 then 293 else l_) rfl), (f900000.relab (fun l_ => if l_ = 192 then 290 else if l_ = 193 then 292 else if l_ = 244 then 291 else if l_ = 289 then 293 else l_) rfl), (f900019.relab (fun l_ => if l_ = 192 then 290 else if l_ = 193 then 292 else if l_ = 244 then 291 else if l_ = 289 then 293 else l_) rfl)⟩)

/-! tidewrack/tidewracklaw13.SpansCutBack -/
theorem tidewracklaw13_SpansCutBack_calls (K : Nat) (Ap0 : Option Addr) (cp0 : Nat) (p0 : List T28) (p1 : T28) (w : World) (o : Nat → Nat) (Lp0 : Nat) (hp0 : Ft (RdC ET28 Ap0 p0) w o Lp0) (hcp0 : (p0).length ≤ cp0)  (r : Bool) (H : tidewracklaw13_SpansCutBack K p0 p1 = some r) :
    Calls Try.prog 5 #[.slice Ap0 (p0).length cp0, .agg #[.int .i64 p1.From, .int .i64 p1.To]] w (Ret fun v_ w' => ∃ o' : Nat → Nat, v_ = .bool r ∧ St [] w o w' o') := by
  refine x_enter (vs := [.slice Ap0 (p0).length cp0, .agg #[.int .i64 p1.From, .int .i64 p1.To]]) Try.func5 rfl rfl rfl fun a hk => ?_
  obtain ⟨o0, hs, h0⟩ := St.start w o
  have f900000 := h0 _ _ hp0
  clear h0
  rw [tidewracklaw13_SpansCutBack] at H
  refine x_seq ?_
  refine wpIn_region_lit ?_
  refine x_op hk rfl ?_
  refine op_box (o := o0) (t := 30) (v := .agg #[.int .i64 p1.From, .int .i64 p1.To]) (cs := [.int .i64 p1.From, .int .i64 p1.To]) hk rfl rfl 1 fun bx4 w1 o2 st3 f5 => ?_
  replace f900000 := f900000.st st3 (by decide)
  replace hs := hs.loc0 st3 (by decide)
  have hk := hk.put 3 (.pointer (some ⟨bx4, 0, none⟩)) rfl
  refine x_run tab hk (k := 1) (lv := []) (ks := [0, 3]) (e' := [(0, .slice Ap0 (p0).length cp0), (3, .pointer (some ⟨bx4, 0, none⟩))]) rfl trivial fun a hk => ?_
  refine wpListIn_nil ?_
  refine then_n ?_
  refine x_seq ?_
  refine x_seq ?_
  refine wpIn_region_lit ?_
  refine x_op hk rfl ?_
  obtain ⟨t9, hc10, H⟩ := bindS H
  refine op_call hk ent_8 (vs := []) rfl (tidewracklaw13_awake_calls K  _ o2    _ hc10) ?_
  rintro _ w11 ⟨o12, rfl, st13⟩
  replace f5 := f5.st st13 (by decide)
  replace f900000 := f900000.st st13 (by decide)
  replace hs := hs.loc0 st13 (by decide)
  have hk := hk.put 12 (.bool t9) rfl
  refine x_run tab hk (k := 1) (lv := []) (ks := [0, 3, 13]) (e' := [(0, .slice Ap0 (p0).length cp0), (3, .pointer (some ⟨bx4, 0, none⟩)), (13, .bool (!t9))]) rfl trivial fun a hk => ?_
  refine wpListIn_nil ?_
  refine then_n ?_
  cases b14 : (!t9)
  · rw [b14] at hk H
    replace H := bifF H
    refine x_if hk (b := false) rfl ?_
    refine (show Code.wpIn _ _ _ _ _ _ _ from ?_)
    refine wpIn_skip ?_
    refine then_n ?_
    refine x_seq ?_
    refine wpIn_region_lit ?_
    refine x_op hk rfl ?_
    refine op_alloc (o := o12) tab (t := 26) (cs := [.slice none 0 0]) rfl rfl 2 fun bx18 w15 o16 st17 f19 => ?_
    replace f5 := f5.st st17 (by decide)
    replace f900000 := f900000.st st17 (by decide)
    replace hs := hs.loc0 st17 (by decide)
    have hk := hk.put 5 (.pointer (some ⟨bx18, 0, none⟩)) rfl
    refine x_op hk rfl ?_
    refine op_alloc (o := o16) tab (t := 26) (cs := [.slice none 0 0]) rfl rfl 3 fun bx23 w20 o21 st22 f24 => ?_
    replace f19 := f19.st st22 (by decide)
    replace f5 := f5.st st22 (by decide)
    replace f900000 := f900000.st st22 (by decide)
    replace hs := hs.loc0 st22 (by decide)
    have hk := hk.put 6 (.pointer (some ⟨bx23, 0, none⟩)) rfl
    refine wpListIn_nil ?_
    refine then_n ?_
    refine x_mid (fun a_ w_ => ∃ o206 : Nat → Nat, ∃ A207 : Option Addr, ∃ c208 : Nat, ∃ l209 : List T28, ∃ A212 : Option Addr, ∃ c213 : Nat, ∃ l214 : List T28, Kn 69 a_ [(3, .pointer (some ⟨bx4, 0, none⟩)), (5, .pointer (some ⟨bx18, 0, none⟩)), (6, .pointer (some ⟨bx23, 0, none⟩))] ∧ St [] w (fun _ => 0) w_ o206 ∧ Ft (Bx bx18 26 [.slice A207 (l209).length c208]) w_ o206 37 ∧ Ft (Own ET28 29 (.slice A207 (l209).length c208) l209) w_ o206 36 ∧ Ft (Own ET28 29 (.slice A212 (l214).length c213) l214) w_ o206 38 ∧ Ft (Bx bx23 26 [.slice A212 (l214).length c213]) w_ o206 39 ∧ Ft (Bx bx4 30 [.int .i64 p1.From, .int .i64 p1.To]) w_ o206 35 ∧ (l209).length ≤ c208 ∧ (l214).length ≤ c213 ∧ tidewracklaw13_SpansCutBack_j1 K p1 l209 l214 = some r) ?_ ?_
    rotate_left
    · rintro a w217 ⟨o206, A207, c208, l209, A212, c213, l214, hk, hs, f19, f210, f215, f24, f5, hc211, hc216, H⟩
      rw [tidewracklaw13_SpansCutBack_j1] at H
      refine x_seq ?_
      refine wpIn_region_lit ?_
      refine x_run tab hk (k := 1) (lv := [.agg #[.int .i64 p1.From, .int .i64 p1.To]]) (ks := [3, 5, 6, 36]) (e' := [(3, .pointer (some ⟨bx4, 0, none⟩)), (5, .pointer (some ⟨bx18, 0, none⟩)), (6, .pointer (some ⟨bx23, 0, none⟩)), (36, .agg #[.int .i64 p1.From, .int .i64 p1.To])]) rfl ⟨(load_box tab rfl rfl f5.now (k := 0) rfl rfl), trivial⟩ fun a hk => ?_
      refine x_op hk rfl ?_
      obtain ⟨t221, hc222, H⟩ := bindS H
      refine op_call hk ent_14 (vs := [.pointer (some ⟨bx18, 0, none⟩), .agg #[.int .i64 p1.From, .int .i64 p1.To]]) rfl (spans_Set_In_calls K bx18 A207 c208 (⟨l209⟩ : T25) p1 _ o206 37 f19 _ (f210.imp fun _ h_ => Own.rd h_) hc211 40  _ hc222) ?_
      rintro _ w223 ⟨o224, A226, c227, rfl, st225, f228, hc229⟩
      replace f19 := f19.st st225 (by decide)
      replace f210 := f210.st st225 (by decide)
      replace f215 := f215.st st225 (by decide)
      replace f24 := f24.st st225 (by decide)
      replace f5 := f5.st st225 (by decide)
      replace hs := hs.loc0 st225 (by decide)
      have hk := hk.put 37 (.slice A226 (t221).length c227) rfl
      refine x_run tab hk (k := 1) (lv := []) (ks := [3, 5, 6, 8]) (e' := [(3, .pointer (some ⟨bx4, 0, none⟩)), (5, .pointer (some ⟨bx18, 0, none⟩)), (6, .pointer (some ⟨bx23, 0, none⟩)), (8, .slice A226 (t221).length c227)]) rfl trivial fun a hk => ?_
      refine wpListIn_nil ?_
      refine then_n ?_
      refine x_seq ?_
      refine wpIn_region_lit ?_
      refine x_run tab hk (k := 1) (lv := [.agg #[.int .i64 p1.From, .int .i64 p1.To]]) (ks := [3, 5, 6, 8, 38]) (e' := [(3, .pointer (some ⟨bx4, 0, none⟩)), (5, .pointer (some ⟨bx18, 0, none⟩)), (6, .pointer (some ⟨bx23, 0, none⟩)), (8, .slice A226 (t221).length c227), (38, .agg #[.int .i64 p1.From, .int .i64 p1.To])]) rfl ⟨(load_box tab rfl rfl f5.now (k := 0) rfl rfl), trivial⟩ fun a hk => ?_
      refine x_op hk rfl ?_
      refine op_slice (o := o224) tab hk (vs := [.agg #[.int .i64 p1.From, .int .i64 p1.To]]) (cs := [.int .i64 p1.From, .int .i64 p1.To]) rfl rfl rfl rfl rfl rfl rfl rfl rfl 41 fun bx233 w230 o231 st232 f234 => ?_
      replace f19 := f19.st st232 (by decide)
      replace f210 := f210.st st232 (by decide)
      replace f215 := f215.st st232 (by decide)
      replace f228 := f228.st st232 (by decide)
      replace f24 := f24.st st232 (by decide)
      replace f5 := f5.st st232 (by decide)
      replace hs := hs.loc0 st232 (by decide)
      have f235 : Ft (Own ET28 29 (.slice (some ⟨bx233, 0, none⟩) (([p1] : List T28)).length 1) ([p1] : List T28)) w230 o231 41 := f234.imp fun _ h_ => Own.of_box h_ rfl (by simp)
      have hk := hk.put 39 (.slice (some ⟨bx233, 0, none⟩) (([p1] : List T28)).length 1) rfl
      refine x_op hk rfl ?_
      obtain ⟨t239, hc240, H⟩ := bindS H
      refine op_call hk ent_12 (vs := [.pointer (some ⟨bx18, 0, none⟩), .slice (some ⟨bx233, 0, none⟩) (([p1] : List T28)).length 1]) rfl (spans_Set_Cut_calls K bx18 A207 c208 (⟨l209⟩ : T25) (some ⟨bx233, 0, none⟩) 1 ([p1] : List T28) _ o231 37 f19 36 f210 hc211 _ (f235.imp fun _ h_ => Own.rd h_) (Nat.le_refl _) (by decide) (by decide)   _ hc240) ?_
      rintro _ w241 ⟨o242, A245, c246, rfl, st243, f244, f247, hc248⟩
      replace f215 := f215.st st243 (by decide)
      replace f228 := f228.st st243 (by decide)
      replace f235 := f235.st st243 (by decide)
      replace f24 := f24.st st243 (by decide)
      replace f5 := f5.st st243 (by decide)
      replace hs := hs.loc0 st243 (by decide)
      have hk := hk.put 40 (.tuple #[]) rfl
      refine wpListIn_nil ?_
      refine then_n ?_
      refine x_seq ?_
      refine x_seq ?_
      refine wpIn_region_lit ?_
      refine x_run tab hk (k := 1) (lv := [.agg #[.int .i64 p1.From, .int .i64 p1.To]]) (ks := [5, 6, 8, 41]) (e' := [(5, .pointer (some ⟨bx18, 0, none⟩)), (6, .pointer (some ⟨bx23, 0, none⟩)), (8, .slice A226 (t221).length c227), (41, .agg #[.int .i64 p1.From, .int .i64 p1.To])]) rfl ⟨(load_box tab rfl rfl f5.now (k := 0) rfl rfl), trivial⟩ fun a hk => ?_
      refine x_op hk rfl ?_
      obtain ⟨t252, hc253, H⟩ := bindS H
      refine op_call hk ent_14 (vs := [.pointer (some ⟨bx18, 0, none⟩), .agg #[.int .i64 p1.From, .int .i64 p1.To]]) rfl (spans_Set_In_calls K bx18 A245 c246 t239 p1 _ o242 37 f244 _ (f247.imp fun _ h_ => Own.rd h_) hc248 42  _ hc253) ?_
      rintro _ w254 ⟨o255, A257, c258, rfl, st256, f259, hc260⟩
      replace f215 := f215.st st256 (by decide)
      replace f228 := f228.st st256 (by decide)
      replace f24 := f24.st st256 (by decide)
      replace f244 := f244.st st256 (by decide)
      replace f247 := f247.st st256 (by decide)
      replace hs := hs.loc0 st256 (by decide)
      have hk := hk.put 42 (.slice A257 (t252).length c258) rfl
      refine x_run tab hk (k := 2) (lv := []) (ks := [5, 6, 8, 44]) (e' := [(5, .pointer (some ⟨bx18, 0, none⟩)), (6, .pointer (some ⟨bx23, 0, none⟩)), (8, .slice A226 (t221).length c227), (44, .bool (((t252).length : Int) != (0 : Int)))]) rfl trivial fun a hk => ?_
      refine wpListIn_nil ?_
      refine then_n ?_
      cases b261 : (((t252).length : Int) != (0 : Int))
      · rw [b261] at hk H
        replace H := bifF H
        refine x_if hk (b := false) rfl ?_
        refine (show Code.wpIn _ _ _ _ _ _ _ from ?_)
        refine wpIn_skip ?_
        refine then_n ?_
        refine x_seq ?_
        refine wpIn_region_lit ?_
        refine x_run tab hk (k := 1) (lv := []) (ks := [5, 6, 45]) (e' := [(5, .pointer (some ⟨bx18, 0, none⟩)), (6, .pointer (some ⟨bx23, 0, none⟩)), (45, .slice A226 (t221).length c227)]) rfl trivial fun a hk => ?_
        refine x_op hk rfl ?_
        obtain ⟨t265, hc266, H⟩ := bindS H
        refine op_call hk ent_9 (vs := [.pointer (some ⟨bx18, 0, none⟩), .slice A226 (t221).length c227]) rfl (spans_Set_Add_calls K bx18 A245 c246 t239 A226 c227 t221 _ o255 37 f244 36 f247 hc248 _ (f228.imp fun _ h_ => Own.rd h_) hc229 (by decide) (by decide)   _ hc266) ?_
        rintro _ w267 ⟨o268, A271, c272, rfl, st269, f270, f273, hc274⟩
        replace f215 := f215.st st269 (by decide)
        replace f228 := f228.st st269 (by decide)
        replace f24 := f24.st st269 (by decide)
        replace hs := hs.loc0 st269 (by decide)
        have hk := hk.put 46 (.tuple #[]) rfl
        refine wpListIn_nil ?_
        refine then_n ?_
        refine x_seq ?_
        refine wpIn_region_lit ?_
        refine x_op hk rfl ?_
        obtain ⟨t278, hc279, H⟩ := bindS H
        refine op_call hk ent_10 (vs := [.pointer (some ⟨bx18, 0, none⟩)]) rfl (spans_Set_Spans_calls bx18 A271 c272 t265 _ o268 37 f270 _ (f273.imp fun _ h_ => Own.rd h_) hc274 43  _ hc279) ?_
        rintro _ w280 ⟨o281, A283, c284, rfl, st282, f285, hc286⟩
        replace f215 := f215.st st282 (by decide)
        replace f228 := f228.st st282 (by decide)
        replace f24 := f24.st st282 (by decide)
        replace f270 := f270.st st282 (by decide)
        replace f273 := f273.st st282 (by decide)
        replace hs := hs.loc0 st282 (by decide)
        have hk := hk.put 47 (.slice A283 (t278).length c284) rfl
        refine x_op hk rfl ?_
        obtain ⟨t290, hc291, H⟩ := bindS H
        refine op_call hk ent_10 (vs := [.pointer (some ⟨bx23, 0, none⟩)]) rfl (spans_Set_Spans_calls bx23 A212 c213 (⟨l214⟩ : T25) _ o281 39 f24 _ (f215.imp fun _ h_ => Own.rd h_) hc216 44  _ hc291) ?_
        rintro _ w292 ⟨o293, A295, c296, rfl, st294, f297, hc298⟩
        replace f215 := f215.st st294 (by decide)
        replace f228 := f228.st st294 (by decide)
        replace f24 := f24.st st294 (by decide)
        replace f270 := f270.st st294 (by decide)
        replace f273 := f273.st st294 (by decide)
        replace f285 := f285.st st294 (by decide)
        replace hs := hs.loc0 st294 (by decide)
        have hk := hk.put 48 (.slice A295 (t290).length c296) rfl
        refine x_run tab hk (k := 2) (lv := []) (ks := [9, 10]) (e' := [(9, .slice A283 (t278).length c284), (10, .slice A295 (t290).length c296)]) rfl trivial fun a hk => ?_
        refine wpListIn_nil ?_
        refine then_n ?_
        refine x_seq ?_
        refine x_seq ?_
        refine wpIn_region_lit ?_
        refine x_run tab hk (k := 5) (lv := []) (ks := [9, 10, 53]) (e' := [(9, .slice A283 (t278).length c284), (10, .slice A295 (t290).length c296), (53, .bool (((t278).length : Int) != ((t290).length : Int)))]) rfl trivial fun a hk => ?_
        refine wpListIn_nil ?_
        refine then_n ?_
        cases b299 : (((t278).length : Int) != ((t290).length : Int))
        · rw [b299] at hk H
          replace H := bifF H
          refine x_if hk (b := false) rfl ?_
          refine (show Code.wpIn _ _ _ _ _ _ _ from ?_)
          refine wpIn_skip ?_
          refine then_n ?_
          refine x_mid (fun a_ w_ => ∃ o360 : Nat → Nat, Kn 69 a_ [] ∧ St [] w (fun _ => 0) w_ o360 ∧ tidewracklaw13_SpansCutBack_j2 = some r) ?_ ?_
          rotate_left
          · rintro a w361 ⟨o360, hk, hs, H⟩
            rw [tidewracklaw13_SpansCutBack_j2] at H
            refine x_seq ?_
            refine wpIn_region_lit ?_
            refine x_run tab hk (k := 1) (lv := []) (ks := [4]) (e' := [(4, .bool true)]) rfl trivial fun a hk => ?_
            refine wpListIn_nil ?_
            refine then_n ?_
            refine wpIn_ret ?_
            obtain rfl := Option.some.inj H
            exact x_retG hk (rs := [.tmp 4]) (vs := [.bool true]) rfl ⟨rfl, trivial⟩ ⟨fun b_ => if b_ < w.heap.size then o b_ else (fun _ => 0) (o360 b_), rfl, hs.close0 o (fun _ => 0)⟩
          refine x_seq ?_
          refine wpIn_region_lit ?_
          refine x_run tab hk (k := 3) (lv := []) (ks := [9, 10, 55, 56]) (e' := [(9, .slice A283 (t278).length c284), (10, .slice A295 (t290).length c296), (55, .int .i64 ((t278).length : Int)), (56, .int .i64 0)]) rfl trivial fun a hk => ?_
          refine wpListIn_nil ?_
          refine then_n ?_
          refine wpIn_block ?_
          refine x_loop (fun j_ a_ w_ => ∃ o381 : Nat → Nat, ∃ x382 : Int, Kn 69 a_ [(9, .slice A283 (t278).length c284), (10, .slice A295 (t290).length c296), (55, .int .i64 ((t278).length : Int)), (56, .int .i64 x382)] ∧ St [] w (fun _ => 0) w_ o381 ∧ Ft (Own ET28 29 (.slice A283 (t278).length c284) t278) w_ o381 51 ∧ Ft (Own ET28 29 (.slice A295 (t290).length c296) t290) w_ o381 52 ∧ tidewracklaw13_SpansCutBack_l3 t278 t290 j_ x382 = some r) (k := K) ⟨(fun b_ => (fun l_ => if l_ = 43 then 51 else if l_ = 44 then 52 else l_) (o293 b_)), 0, (by exact Kn.pick (ks := [9, 10, 55, 56]) hk rfl), (hs.relab0 (fun l_ => if l_ = 43 then 51 else if l_ = 44 then 52 else l_) rfl), (f285.relab (fun l_ => if l_ = 43 then 51 else if l_ = 44 then 52 else l_) rfl), (f297.relab (fun l_ => if l_ = 43 then 51 else if l_ = 44 then 52 else l_) rfl), H⟩ (by rintro _ _ ⟨_, _, _, _, _, _, H_⟩; exact absurd (show (none : Option Bool) = some r from H_) (by simp)) ?_
          rintro k400 a w399 ⟨o381, x382, hk, hs, f285, f297, H⟩
          rw [tidewracklaw13_SpansCutBack_l3] at H
          obtain ⟨lp401, hlp402⟩ : ∃ lp_, lp_ = tidewracklaw13_SpansCutBack_l3 t278 t290 k400 := ⟨_, rfl⟩
          rw [← hlp402] at H
          refine x_seq ?_
          refine wpIn_region_lit ?_
          refine x_run tab hk (k := 1) (lv := []) (ks := [9, 10, 55, 56, 57]) (e' := [(9, .slice A283 (t278).length c284), (10, .slice A295 (t290).length c296), (55, .int .i64 ((t278).length : Int)), (56, .int .i64 x382), (57, .bool (decide (x382 < ((t278).length : Int))))]) rfl trivial fun a hk => ?_
          refine wpListIn_nil ?_
          refine then_n ?_
          refine x_seq ?_
          cases b403 : (decide (x382 < ((t278).length : Int)))
          · rw [b403] at hk H
            replace H := bifF H
            refine x_if hk (b := false) rfl ?_
            refine (show Code.wpIn _ _ _ _ _ _ _ from ?_)
            refine wpIn_exit ?_
            refine then_x ?_
            refine then_x ?_
            refine blk_x ?_
            refine then_n ?_
            exact ⟨o381, (by exact Kn.pick (ks := []) hk rfl), hs, H⟩
          · rw [b403] at hk H
            replace H := bifT H
            refine x_if hk (b := true) rfl ?_
            refine (show Code.wpIn _ _ _ _ _ _ _ from ?_)
            refine wpIn_skip ?_
            refine then_n ?_
            refine x_seq ?_
            refine wpIn_block ?_
            refine x_seq ?_
            refine wpIn_region_lit ?_
            refine x_run tab hk (k := 2) (lv := []) (ks := [9, 10, 11, 55, 56]) (e' := [(9, .slice A283 (t278).length c284), (10, .slice A295 (t290).length c296), (11, .int .i64 x382), (55, .int .i64 ((t278).length : Int)), (56, .int .i64 x382)]) rfl trivial fun a hk => ?_
            refine wpListIn_nil ?_
            refine then_n ?_
            refine x_seq ?_
            refine xd_begin (o := o381) (fun W_ => (Own ET28 29 (.slice A283 (t278).length c284) t278) W_ ∧ (Own ET28 29 (.slice A295 (t290).length c296) t290) W_ ∧ True) mixed rfl rfl fun w412 st413 => ?_
            replace f285 := f285.st st413 (by decide)
            replace f297 := f297.st st413 (by decide)
            replace hs := hs.loc0 st413 (by decide)
            obtain ⟨q414, H⟩ := ifS H
            obtain ⟨ad415, hAad415⟩ := RdC.addr (Own.rd f285.now) q414
            have hk_C := hk
            have f285_C := f285
            have f297_C := f297
            subst hAad415
            have hk := hk_C
            clear hk_C
            have f285 := f285_C
            clear f285_C
            have f297 := f297_C
            clear f297_C
            obtain ⟨q416, H⟩ := ifS H
            obtain ⟨ad417, hAad417⟩ := RdC.addr (Own.rd f297.now) q416
            have hk_C := hk
            have f285_C := f285
            have f297_C := f297
            subst hAad417
            have hk := hk_C
            clear hk_C
            have f285 := f285_C
            clear f285_C
            have f297 := f297_C
            clear f297_C
            refine xd_take tab hk (k := 0) (is := [0, 1, 2, 3, 4, 5, 6, 7, 8]) (ls' := #[true, true, true, true, true, true, true, true, true]) (lv := [.agg #[.int .i64 ((rdD zT28 t278 x382).From), .int .i64 ((rdD zT28 t278 x382).To)], .agg #[.int .i64 ((rdD zT28 t290 x382).From), .int .i64 ((rdD zT28 t290 x382).To)], .bool (!(eqT28 (rdD zT28 t278 x382) (rdD zT28 t290 x382)))]) (ks := [9, 10, 55, 56, 67]) (e' := [(9, .slice (some ad415) (t278).length c284), (10, .slice (some ad417) (t290).length c296), (55, .int .i64 ((t278).length : Int)), (56, .int .i64 x382), (67, .bool (!(eqT28 (rdD zT28 t278 x382) (rdD zT28 t290 x382))))]) (by kernel_rfl) rfl rfl (by kernel_rfl) (np_then (np_blk (np_then (np_then (np_blk (np_then np_body)))))) ⟨f285.now, f297.now, trivial⟩ (fun W_ hS => ⟨q414, (load_elem (E := ET28) (i := x382) (dx := zT28) tab rfl rfl (Own.rd hS.1) q414), q416, (load_elem (E := ET28) (i := x382) (dx := zT28) tab rfl rfl (Own.rd hS.2.1) q416), (ask_neq tab stood rfl rfl rfl rfl), trivial⟩) fun a hk => ?_
            refine xd_done (by kernel_rfl) ?_
            refine then_n ?_
            cases b418 : (!(eqT28 (rdD zT28 t278 x382) (rdD zT28 t290 x382)))
            · rw [b418] at hk H
              replace H := bifF H
              refine x_if hk (b := false) rfl ?_
              refine (show Code.wpIn _ _ _ _ _ _ _ from ?_)
              refine wpIn_skip ?_
              refine blk_n ?_
              refine then_n ?_
              refine wpIn_region_lit ?_
              refine x_run tab hk (k := 2) (lv := []) (ks := [9, 10, 55, 56]) (e' := [(9, .slice (some ad415) (t278).length c284), (10, .slice (some ad417) (t290).length c296), (55, .int .i64 ((t278).length : Int)), (56, .int .i64 (IntKind.wrap .i64 (x382 + 1)))]) rfl trivial fun a hk => ?_
              refine wpListIn_nil ?_
              refine then_n ?_
              exact ⟨k400, Nat.le_refl _, o381, (IntKind.wrap .i64 (x382 + 1)), (by exact Kn.pick (ks := [9, 10, 55, 56]) hk rfl), hs, f285, f297, (hlp402 ▸ H)⟩
            · rw [b418] at hk H
              replace H := bifT H
              refine x_if hk (b := true) rfl ?_
              refine (show Code.wpIn _ _ _ _ _ _ _ from ?_)
              refine x_seq ?_
              refine wpIn_region_lit ?_
              refine x_run tab hk (k := 1) (lv := []) (ks := [4]) (e' := [(4, .bool false)]) rfl trivial fun a hk => ?_
              refine wpListIn_nil ?_
              refine then_n ?_
              refine wpIn_ret ?_
              refine blk_r ?_
              refine then_r ?_
              refine then_r ?_
              refine blk_r ?_
              refine then_r ?_
              obtain rfl := Option.some.inj H
              exact x_retG hk (rs := [.tmp 4]) (vs := [.bool false]) rfl ⟨rfl, trivial⟩ ⟨fun b_ => if b_ < w.heap.size then o b_ else (fun _ => 0) (o381 b_), rfl, hs.close0 o (fun _ => 0)⟩
        · rw [b299] at hk H
          replace H := bifT H
          refine x_if hk (b := true) rfl ?_
          refine (show Code.wpIn _ _ _ _ _ _ _ from ?_)
          refine x_seq ?_
          refine wpIn_region_lit ?_
          refine x_run tab hk (k := 1) (lv := []) (ks := [4]) (e' := [(4, .bool false)]) rfl trivial fun a hk => ?_
          refine wpListIn_nil ?_
          refine then_n ?_
          refine wpIn_ret ?_
          refine then_r ?_
          obtain rfl := Option.some.inj H
          exact x_retG hk (rs := [.tmp 4]) (vs := [.bool false]) rfl ⟨rfl, trivial⟩ ⟨fun b_ => if b_ < w.heap.size then o b_ else (fun _ => 0) (o293 b_), rfl, hs.close0 o (fun _ => 0)⟩
      · rw [b261] at hk H
        replace H := bifT H
        refine x_if hk (b := true) rfl ?_
        refine (show Code.wpIn _ _ _ _ _ _ _ from ?_)
        refine x_seq ?_
        refine wpIn_region_lit ?_
        refine x_run tab hk (k := 1) (lv := []) (ks := [4]) (e' := [(4, .bool false)]) rfl trivial fun a hk => ?_
        refine wpListIn_nil ?_
        refine then_n ?_
        refine wpIn_ret ?_
        refine then_r ?_
        obtain rfl := Option.some.inj H
        exact x_retG hk (rs := [.tmp 4]) (vs := [.bool false]) rfl ⟨rfl, trivial⟩ ⟨fun b_ => if b_ < w.heap.size then o b_ else (fun _ => 0) (o255 b_), rfl, hs.close0 o (fun _ => 0)⟩
    refine x_seq ?_
    refine wpIn_region_lit ?_
    refine x_run tab hk (k := 1) (lv := []) (ks := [0, 3, 5, 6, 7]) (e' := [(0, .slice Ap0 (p0).length cp0), (3, .pointer (some ⟨bx4, 0, none⟩)), (5, .pointer (some ⟨bx18, 0, none⟩)), (6, .pointer (some ⟨bx23, 0, none⟩)), (7, .int .i64 0)]) rfl trivial fun a hk => ?_
    refine wpListIn_nil ?_
    refine then_n ?_
    refine wpIn_block ?_
    refine x_loop (fun j_ a_ w_ => ∃ o471 : Nat → Nat, ∃ A472 : Option Addr, ∃ c473 : Nat, ∃ l474 : List T28, ∃ A477 : Option Addr, ∃ c478 : Nat, ∃ l479 : List T28, ∃ x482 : Int, Kn 69 a_ [(0, .slice Ap0 (p0).length cp0), (3, .pointer (some ⟨bx4, 0, none⟩)), (5, .pointer (some ⟨bx18, 0, none⟩)), (6, .pointer (some ⟨bx23, 0, none⟩)), (7, .int .i64 x482)] ∧ St [] w (fun _ => 0) w_ o471 ∧ Ft (Bx bx18 26 [.slice A472 (l474).length c473]) w_ o471 65 ∧ Ft (Bx bx23 26 [.slice A477 (l479).length c478]) w_ o471 67 ∧ Ft (Own ET28 29 (.slice A472 (l474).length c473) l474) w_ o471 64 ∧ Ft (Own ET28 29 (.slice A477 (l479).length c478) l479) w_ o471 66 ∧ Ft (Bx bx4 30 [.int .i64 p1.From, .int .i64 p1.To]) w_ o471 63 ∧ Ft (RdC ET28 Ap0 p0) w_ o471 0 ∧ (l474).length ≤ c473 ∧ (l479).length ≤ c478 ∧ tidewracklaw13_SpansCutBack_l4 K p0 p1 j_ l474 l479 x482 = some r) (k := K) ⟨(fun b_ => (fun l_ => if l_ = 1 then 63 else if l_ = 2 then 65 else if l_ = 3 then 67 else l_) (o21 b_)), none, 0, ([] : List T28), none, 0, ([] : List T28), 0, (by exact Kn.pick (ks := [0, 3, 5, 6, 7]) hk rfl), (hs.relab0 (fun l_ => if l_ = 1 then 63 else if l_ = 2 then 65 else if l_ = 3 then 67 else l_) rfl), (f19.relab (fun l_ => if l_ = 1 then 63 else if l_ = 2 then 65 else if l_ = 3 then 67 else l_) rfl), (f24.relab (fun l_ => if l_ = 1 then 63 else if l_ = 2 then 65 else if l_ = 3 then 67 else l_) rfl), (Ft.of_all (fun _ => Own.nil _ _ _) _ _ _), (Ft.of_all (fun _ => Own.nil _ _ _) _ _ _), (f5.relab (fun l_ => if l_ = 1 then 63 else if l_ = 2 then 65 else if l_ = 3 then 67 else l_) rfl), (f900000.relab (fun l_ => if l_ = 1 then 63 else if l_ = 2 then 65 else if l_ = 3 then 67 else l_) rfl), (by simp), (by simp), H⟩ (by rintro _ _ ⟨_, _, _, _, _, _, _, _, _, _, _, _, _, _, _, _, _, _, H_⟩; exact absurd (show (none : Option Bool) = some r from H_) (by simp)) ?_
    rintro k533 a w532 ⟨o471, A472, c473, l474, A477, c478, l479, x482, hk, hs, f19, f24, f475, f480, f5, f900000, hc476, hc481, H⟩
    rw [tidewracklaw13_SpansCutBack_l4] at H
    obtain ⟨lp534, hlp535⟩ : ∃ lp_, lp_ = tidewracklaw13_SpansCutBack_l4 K p0 p1 k533 := ⟨_, rfl⟩
    rw [← hlp535] at H
    refine x_mid (fun a_ w_ => ∃ o541 : Nat → Nat, Kn 69 a_ [(0, .slice Ap0 (p0).length cp0), (3, .pointer (some ⟨bx4, 0, none⟩)), (5, .pointer (some ⟨bx18, 0, none⟩)), (6, .pointer (some ⟨bx23, 0, none⟩)), (7, .int .i64 x482)] ∧ St [] w (fun _ => 0) w_ o541 ∧ Ft (Bx bx18 26 [.slice A472 (l474).length c473]) w_ o541 77 ∧ Ft (Bx bx23 26 [.slice A477 (l479).length c478]) w_ o541 79 ∧ Ft (Own ET28 29 (.slice A472 (l474).length c473) l474) w_ o541 76 ∧ Ft (Own ET28 29 (.slice A477 (l479).length c478) l479) w_ o541 78 ∧ Ft (Bx bx4 30 [.int .i64 p1.From, .int .i64 p1.To]) w_ o541 75 ∧ Ft (RdC ET28 Ap0 p0) w_ o541 0 ∧ tidewracklaw13_SpansCutBack_j5 K p0 l474 l479 x482 lp534 = some r) ?_ ?_
    rotate_left
    · rintro a w542 ⟨o541, hk, hs, f19, f24, f475, f480, f5, f900000, H⟩
      rw [tidewracklaw13_SpansCutBack_j5] at H
      refine x_seq ?_
      refine wpIn_block ?_
      refine x_seq ?_
      refine wpIn_region_lit ?_
      obtain ⟨q543, H⟩ := ifS H
      obtain ⟨ad544, hAad544⟩ := RdC.addr f900000.now q543
      have hk_C := hk
      have f19_C := f19
      have f24_C := f24
      have f475_C := f475
      have f480_C := f480
      have f5_C := f5
      have f900000_C := f900000
      subst hAad544
      have hk := hk_C
      clear hk_C
      have f19 := f19_C
      clear f19_C
      have f24 := f24_C
      clear f24_C
      have f475 := f475_C
      clear f475_C
      have f480 := f480_C
      clear f480_C
      have f5 := f5_C
      clear f5_C
      have f900000 := f900000_C
      clear f900000_C
      refine x_run tab hk (k := 4) (lv := [.agg #[.int .i64 ((rdD zT28 p0 x482).From), .int .i64 ((rdD zT28 p0 x482).To)]]) (ks := [0, 3, 5, 6, 7, 27]) (e' := [(0, .slice (some ad544) (p0).length cp0), (3, .pointer (some ⟨bx4, 0, none⟩)), (5, .pointer (some ⟨bx18, 0, none⟩)), (6, .pointer (some ⟨bx23, 0, none⟩)), (7, .int .i64 x482), (27, .agg #[.int .i64 ((rdD zT28 p0 x482).From), .int .i64 ((rdD zT28 p0 x482).To)])]) rfl ⟨q543, (load_elem (E := ET28) (i := x482) (dx := zT28) tab rfl rfl f900000.now q543), trivial⟩ fun a hk => ?_
      refine x_op hk rfl ?_
      refine op_slice (o := o541) tab hk (vs := [.agg #[.int .i64 ((rdD zT28 p0 x482).From), .int .i64 ((rdD zT28 p0 x482).To)]]) (cs := [.int .i64 ((rdD zT28 p0 x482).From), .int .i64 ((rdD zT28 p0 x482).To)]) rfl rfl rfl rfl rfl rfl rfl rfl rfl 80 fun bx548 w545 o546 st547 f549 => ?_
      replace f19 := f19.st st547 (by decide)
      replace f24 := f24.st st547 (by decide)
      replace f475 := f475.st st547 (by decide)
      replace f480 := f480.st st547 (by decide)
      replace f5 := f5.st st547 (by decide)
      replace f900000 := f900000.st st547 (by decide)
      replace hs := hs.loc0 st547 (by decide)
      have f550 : Ft (Own ET28 29 (.slice (some ⟨bx548, 0, none⟩) (([(rdD zT28 p0 x482)] : List T28)).length 1) ([(rdD zT28 p0 x482)] : List T28)) w545 o546 80 := f549.imp fun _ h_ => Own.of_box h_ rfl (by simp)
      have hk := hk.put 28 (.slice (some ⟨bx548, 0, none⟩) (([(rdD zT28 p0 x482)] : List T28)).length 1) rfl
      refine x_op hk rfl ?_
      obtain ⟨t554, hc555, H⟩ := bindS H
      refine op_call hk ent_9 (vs := [.pointer (some ⟨bx18, 0, none⟩), .slice (some ⟨bx548, 0, none⟩) (([(rdD zT28 p0 x482)] : List T28)).length 1]) rfl (spans_Set_Add_calls K bx18 A472 c473 (⟨l474⟩ : T25) (some ⟨bx548, 0, none⟩) 1 ([(rdD zT28 p0 x482)] : List T28) _ o546 77 f19 76 f475 hc476 _ (f550.imp fun _ h_ => Own.rd h_) (Nat.le_refl _) (by decide) (by decide)   _ hc555) ?_
      rintro _ w556 ⟨o557, A560, c561, rfl, st558, f559, f562, hc563⟩
      replace f24 := f24.st st558 (by decide)
      replace f480 := f480.st st558 (by decide)
      replace f5 := f5.st st558 (by decide)
      replace f550 := f550.st st558 (by decide)
      replace f900000 := f900000.st st558 (by decide)
      replace hs := hs.loc0 st558 (by decide)
      have hk := hk.put 29 (.tuple #[]) rfl
      refine wpListIn_nil ?_
      refine then_n ?_
      refine wpIn_region_lit ?_
      refine x_run tab hk (k := 4) (lv := [.agg #[.int .i64 ((rdD zT28 p0 x482).From), .int .i64 ((rdD zT28 p0 x482).To)]]) (ks := [0, 3, 5, 6, 7, 33]) (e' := [(0, .slice (some ad544) (p0).length cp0), (3, .pointer (some ⟨bx4, 0, none⟩)), (5, .pointer (some ⟨bx18, 0, none⟩)), (6, .pointer (some ⟨bx23, 0, none⟩)), (7, .int .i64 x482), (33, .agg #[.int .i64 ((rdD zT28 p0 x482).From), .int .i64 ((rdD zT28 p0 x482).To)])]) rfl ⟨q543, (load_elem (E := ET28) (i := x482) (dx := zT28) tab rfl rfl f900000.now q543), trivial⟩ fun a hk => ?_
      refine x_op hk rfl ?_
      refine op_slice (o := o557) tab hk (vs := [.agg #[.int .i64 ((rdD zT28 p0 x482).From), .int .i64 ((rdD zT28 p0 x482).To)]]) (cs := [.int .i64 ((rdD zT28 p0 x482).From), .int .i64 ((rdD zT28 p0 x482).To)]) rfl rfl rfl rfl rfl rfl rfl rfl rfl 81 fun bx567 w564 o565 st566 f568 => ?_
      replace f24 := f24.st st566 (by decide)
      replace f480 := f480.st st566 (by decide)
      replace f5 := f5.st st566 (by decide)
      replace f559 := f559.st st566 (by decide)
      replace f562 := f562.st st566 (by decide)
      replace f900000 := f900000.st st566 (by decide)
      replace hs := hs.loc0 st566 (by decide)
      have f569 : Ft (Own ET28 29 (.slice (some ⟨bx567, 0, none⟩) (([(rdD zT28 p0 x482)] : List T28)).length 1) ([(rdD zT28 p0 x482)] : List T28)) w564 o565 81 := f568.imp fun _ h_ => Own.of_box h_ rfl (by simp)
      have hk := hk.put 34 (.slice (some ⟨bx567, 0, none⟩) (([(rdD zT28 p0 x482)] : List T28)).length 1) rfl
      refine x_op hk rfl ?_
      obtain ⟨t573, hc574, H⟩ := bindS H
      refine op_call hk ent_9 (vs := [.pointer (some ⟨bx23, 0, none⟩), .slice (some ⟨bx567, 0, none⟩) (([(rdD zT28 p0 x482)] : List T28)).length 1]) rfl (spans_Set_Add_calls K bx23 A477 c478 (⟨l479⟩ : T25) (some ⟨bx567, 0, none⟩) 1 ([(rdD zT28 p0 x482)] : List T28) _ o565 79 f24 78 f480 hc481 _ (f569.imp fun _ h_ => Own.rd h_) (Nat.le_refl _) (by decide) (by decide)   _ hc574) ?_
      rintro _ w575 ⟨o576, A579, c580, rfl, st577, f578, f581, hc582⟩
      replace f5 := f5.st st577 (by decide)
      replace f559 := f559.st st577 (by decide)
      replace f562 := f562.st st577 (by decide)
      replace f569 := f569.st st577 (by decide)
      replace f900000 := f900000.st st577 (by decide)
      replace hs := hs.loc0 st577 (by decide)
      have hk := hk.put 35 (.tuple #[]) rfl
      refine wpListIn_nil ?_
      refine blk_n ?_
      refine then_n ?_
      refine wpIn_region_lit ?_
      refine x_run tab hk (k := 3) (lv := []) (ks := [0, 3, 5, 6, 7]) (e' := [(0, .slice (some ad544) (p0).length cp0), (3, .pointer (some ⟨bx4, 0, none⟩)), (5, .pointer (some ⟨bx18, 0, none⟩)), (6, .pointer (some ⟨bx23, 0, none⟩)), (7, .int .i64 (IntKind.wrap .i64 (x482 + 1)))]) rfl trivial fun a hk => ?_
      refine wpListIn_nil ?_
      refine then_n ?_
      exact ⟨k533, Nat.le_refl _, (fun b_ => (fun l_ => if l_ = 75 then 63 else if l_ = 76 then 64 else if l_ = 77 then 65 else if l_ = 78 then 66 else if l_ = 79 then 67 else l_) (o576 b_)), A560, c561, t554.l, A579, c580, t573.l, (IntKind.wrap .i64 (x482 + 1)), (by exact Kn.pick (ks := [0, 3, 5, 6, 7]) hk rfl), (hs.relab0 (fun l_ => if l_ = 75 then 63 else if l_ = 76 then 64 else if l_ = 77 then 65 else if l_ = 78 then 66 else if l_ = 79 then 67 else l_) rfl), (f559.relab (fun l_ => if l_ = 75 then 63 else if l_ = 76 then 64 else if l_ = 77 then 65 else if l_ = 78 then 66 else if l_ = 79 then 67 else l_) rfl), (f578.relab (fun l_ => if l_ = 75 then 63 else if l_ = 76 then 64 else if l_ = 77 then 65 else if l_ = 78 then 66 else if l_ = 79 then 67 else l_) rfl), (f562.relab (fun l_ => if l_ = 75 then 63 else if l_ = 76 then 64 else if l_ = 77 then 65 else if l_ = 78 then 66 else if l_ = 79 then 67 else l_) rfl), (f581.relab (fun l_ => if l_ = 75 then 63 else if l_ = 76 then 64 else if l_ = 77 then 65 else if l_ = 78 then 66 else if l_ = 79 then 67 else l_) rfl), (f5.relab (fun l_ => if l_ = 75 then 63 else if l_ = 76 then 64 else if l_ = 77 then 65 else if l_ = 78 then 66 else if l_ = 79 then 67 else l_) rfl), (f900000.relab (fun l_ => if l_ = 75 then 63 else if l_ = 76 then 64 else if l_ = 77 then 65 else if l_ = 78 then 66 else if l_ = 79 then 67 else l_) rfl), hc563, hc582, (hlp535 ▸ H)⟩
    refine x_seq ?_
    refine wpIn_region_lit ?_
    refine x_run tab hk (k := 5) (lv := []) (ks := [0, 3, 5, 6, 7, 18]) (e' := [(0, .slice Ap0 (p0).length cp0), (3, .pointer (some ⟨bx4, 0, none⟩)), (5, .pointer (some ⟨bx18, 0, none⟩)), (6, .pointer (some ⟨bx23, 0, none⟩)), (7, .int .i64 x482), (18, .bool (decide (x482 < ((p0).length : Int))))]) rfl trivial fun a hk => ?_
    cases b583 : (decide (x482 < ((p0).length : Int)))
    · rw [b583] at hk H
      replace H := bifF H
      refine x_run tab hk (k := 3) (lv := []) (ks := [0, 3, 5, 6, 7, 21]) (e' := [(0, .slice Ap0 (p0).length cp0), (3, .pointer (some ⟨bx4, 0, none⟩)), (5, .pointer (some ⟨bx18, 0, none⟩)), (6, .pointer (some ⟨bx23, 0, none⟩)), (7, .int .i64 x482), (21, .bool false)]) rfl trivial fun a hk => ?_
      refine wpListIn_nil ?_
      refine then_n ?_
      refine x_if hk (b := false) rfl ?_
      refine (show Code.wpIn _ _ _ _ _ _ _ from ?_)
      refine wpIn_exit ?_
      refine then_x ?_
      refine then_x ?_
      refine blk_x ?_
      refine then_n ?_
      exact ⟨(fun b_ => (fun l_ => if l_ = 63 then 35 else if l_ = 64 then 36 else if l_ = 65 then 37 else if l_ = 66 then 38 else if l_ = 67 then 39 else l_) (o471 b_)), A472, c473, l474, A477, c478, l479, (by exact Kn.pick (ks := [3, 5, 6]) hk rfl), (hs.relab0 (fun l_ => if l_ = 63 then 35 else if l_ = 64 then 36 else if l_ = 65 then 37 else if l_ = 66 then 38 else if l_ = 67 then 39 else l_) rfl), (f19.relab (fun l_ => if l_ = 63 then 35 else if l_ = 64 then 36 else if l_ = 65 then 37 else if l_ = 66 then 38 else if l_ = 67 then 39 else l_) rfl), (f475.relab (fun l_ => if l_ = 63 then 35 else if l_ = 64 then 36 else if l_ = 65 then 37 else if l_ = 66 then 38 else if l_ = 67 then 39 else l_) rfl), (f480.relab (fun l_ => if l_ = 63 then 35 else if l_ = 64 then 36 else if l_ = 65 then 37 else if l_ = 66 then 38 else if l_ = 67 then 39 else l_) rfl), (f24.relab (fun l_ => if l_ = 63 then 35 else if l_ = 64 then 36 else if l_ = 65 then 37 else if l_ = 66 then 38 else if l_ = 67 then 39 else l_) rfl), (f5.relab (fun l_ => if l_ = 63 then 35 else if l_ = 64 then 36 else if l_ = 65 then 37 else if l_ = 66 then 38 else if l_ = 67 then 39 else l_) rfl), hc476, hc481, H⟩
    · rw [b583] at hk H
      replace H := bifT H
      refine x_run tab hk (k := 3) (lv := []) (ks := [0, 3, 5, 6, 7, 21]) (e' := [(0, .slice Ap0 (p0).length cp0), (3, .pointer (some ⟨bx4, 0, none⟩)), (5, .pointer (some ⟨bx18, 0, none⟩)), (6, .pointer (some ⟨bx23, 0, none⟩)), (7, .int .i64 x482), (21, .bool (decide (x482 < (15 : Int))))]) rfl trivial fun a hk => ?_
      refine wpListIn_nil ?_
      refine then_n ?_
      cases b584 : (decide (x482 < (15 : Int)))
      · rw [b584] at hk H
        replace H := bifF H
        refine x_if hk (b := false) rfl ?_
        refine (show Code.wpIn _ _ _ _ _ _ _ from ?_)
        refine wpIn_exit ?_
        refine then_x ?_
        refine then_x ?_
        refine blk_x ?_
        refine then_n ?_
        exact ⟨(fun b_ => (fun l_ => if l_ = 63 then 35 else if l_ = 64 then 36 else if l_ = 65 then 37 else if l_ = 66 then 38 else if l_ = 67 then 39 else l_) (o471 b_)), A472, c473, l474, A477, c478, l479, (by exact Kn.pick (ks := [3, 5, 6]) hk rfl), (hs.relab0 (fun l_ => if l_ = 63 then 35 else if l_ = 64 then 36 else if l_ = 65 then 37 else if l_ = 66 then 38 else if l_ = 67 then 39 else l_) rfl), (f19.relab (fun l_ => if l_ = 63 then 35 else if l_ = 64 then 36 else if l_ = 65 then 37 else if l_ = 66 then 38 else if l_ = 67 then 39 else l_) rfl), (f475.relab (fun l_ => if l_ = 63 then 35 else if l_ = 64 then 36 else if l_ = 65 then 37 else if l_ = 66 then 38 else if l_ = 67 then 39 else l_) rfl), (f480.relab (fun l_ => if l_ = 63 then 35 else if l_ = 64 then 36 else if l_ = 65 then 37 else if l_ = 66 then 38 else if l_ = 67 then 39 else l_) rfl), (f24.relab (fun l_ => if l_ = 63 then 35 else if l_ = 64 then 36 else if l_ = 65 then 37 else if l_ = 66 then 38 else if l_ = 67 then 39 else l_) rfl), (f5.relab (fun l_ => if l_ = 63 then 35 else if l_ = 64 then 36 else if l_ = 65 then 37 else if l_ = 66 then 38 else if l_ = 67 then 39 else l_) rfl), hc476, hc481, H⟩
      · rw [b584] at hk H
        replace H := bifT H
        refine x_if hk (b := true) rfl ?_
        refine (show Code.wpIn _ _ _ _ _ _ _ from ?_)
        refine wpIn_skip ?_
        refine then_n ?_
        exact ⟨(fun b_ => (fun l_ => if l_ = 63 then 75 else if l_ = 64 then 76 else if l_ = 65 then 77 else if l_ = 66 then 78 else if l_ = 67 then 79 else l_) (o471 b_)), (by exact Kn.pick (ks := [0, 3, 5, 6, 7]) hk rfl), (hs.relab0 (fun l_ => if l_ = 63 then 75 else if l_ = 64 then 76 else if l_ = 65 then 77 else if l_ = 66 then 78 else if l_ = 67 then 79 else l_) rfl), (f19.relab (fun l_ => if l_ = 63 then 75 else if l_ = 64 then 76 else if l_ = 65 then 77 else if l_ = 66 then 78 else if l_ = 67 then 79 else l_) rfl), (f24.relab (fun l_ => if l_ = 63 then 75 else if l_ = 64 then 76 else if l_ = 65 then 77 else if l_ = 66 then 78 else if l_ = 67 then 79 else l_) rfl), (f475.relab (fun l_ => if l_ = 63 then 75 else if l_ = 64 then 76 else if l_ = 65 then 77 else if l_ = 66 then 78 else if l_ = 67 then 79 else l_) rfl), (f480.relab (fun l_ => if l_ = 63 then 75 else if l_ = 64 then 76 else if l_ = 65 then 77 else if l_ = 66 then 78 else if l_ = 67 then 79 else l_) rfl), (f5.relab (fun l_ => if l_ = 63 then 75 else if l_ = 64 then 76 else if l_ = 65 then 77 else if l_ = 66 then 78 else if l_ = 67 then 79 else l_) rfl), (f900000.relab (fun l_ => if l_ = 63 then 75 else if l_ = 64 then 76 else if l_ = 65 then 77 else if l_ = 66 then 78 else if l_ = 67 then 79 else l_) rfl), H⟩
  · rw [b14] at hk H
    replace H := bifT H
    refine x_if hk (b := true) rfl ?_
    refine (show Code.wpIn _ _ _ _ _ _ _ from ?_)
    refine x_seq ?_
    refine wpIn_region_lit ?_
    refine x_run tab hk (k := 1) (lv := []) (ks := [4]) (e' := [(4, .bool false)]) rfl trivial fun a hk => ?_
    refine wpListIn_nil ?_
    refine then_n ?_
    refine wpIn_ret ?_
    refine then_r ?_
    obtain rfl := Option.some.inj H
    exact x_retG hk (rs := [.tmp 4]) (vs := [.bool false]) rfl ⟨rfl, trivial⟩ ⟨fun b_ => if b_ < w.heap.size then o b_ else (fun _ => 0) (o12 b_), rfl, hs.close0 o (fun _ => 0)⟩

/-! (*tidewrack/spans.Set).Missing -/
theorem spans_Set_Missing_calls (K : Nat) (bp0 : Nat) (Ap0_0 : Option Addr) (cp0_0 : Nat) (p0 : T25) (p1 : T28) (w : World) (o : Nat → Nat) (Lp0 : Nat) (hp0 : Ft (Bx bp0 26 [.slice Ap0_0 (p0.l).length cp0_0]) w o Lp0) (Lp0_0 : Nat) (hp0_0 : Ft (RdC ET28 Ap0_0 p0.l) w o Lp0_0) (hcp0_0 : (p0.l).length ≤ cp0_0)  (R0 : Nat) (r : List T28) (H : spans_Set_Missing K p0 p1 = some r) :
    Calls Try.prog 15 #[.pointer (some ⟨bp0, 0, none⟩), .agg #[.int .i64 p1.From, .int .i64 p1.To]] w (Ret fun v_ w' => ∃ o' : Nat → Nat, ∃ A0 : Option Addr, ∃ c0 : Nat, v_ = .slice A0 (r).length c0 ∧ St [] w o w' o' ∧ Ft (Own ET28 29 (.slice A0 (r).length c0) (r)) w' o' R0 ∧ (r).length ≤ c0) := by
  refine x_enter (vs := [.pointer (some ⟨bp0, 0, none⟩), .agg #[.int .i64 p1.From, .int .i64 p1.To]]) Try.func15 rfl rfl rfl fun a hk => ?_
  obtain ⟨o0, hs, h0⟩ := St.start w o
  have f900000 := h0 _ _ hp0_0
  have f900019 := h0 _ _ hp0
  clear h0
  rw [spans_Set_Missing] at H
  refine x_seq ?_
  refine wpIn_region_lit ?_
  refine x_op hk rfl ?_
  refine op_box (o := o0) (t := 29) (v := .agg #[.int .i64 p1.From, .int .i64 p1.To]) (cs := [.int .i64 p1.From, .int .i64 p1.To]) hk rfl rfl 1 fun bx4 w1 o2 st3 f5 => ?_
  replace f900000 := f900000.st st3 (by decide)
  replace f900019 := f900019.st st3 (by decide)
  replace hs := hs.loc0 st3 (by decide)
  have hk := hk.put 3 (.pointer (some ⟨bx4, 0, none⟩)) rfl
  refine x_run tab hk (k := 1) (lv := []) (ks := [0, 3]) (e' := [(0, .pointer (some ⟨bp0, 0, none⟩)), (3, .pointer (some ⟨bx4, 0, none⟩))]) rfl trivial fun a hk => ?_
  refine wpListIn_nil ?_
  refine then_n ?_
  refine x_seq ?_
  refine wpIn_region_lit ?_
  refine x_op hk rfl ?_
  refine op_alloc (o := o2) tab (t := 26) (cs := [.slice none 0 0]) rfl rfl 2 fun bx9 w6 o7 st8 f10 => ?_
  replace f5 := f5.st st8 (by decide)
  replace f900000 := f900000.st st8 (by decide)
  replace f900019 := f900019.st st8 (by decide)
  replace hs := hs.loc0 st8 (by decide)
  have hk := hk.put 5 (.pointer (some ⟨bx9, 0, none⟩)) rfl
  refine wpListIn_nil ?_
  refine then_n ?_
  refine x_seq ?_
  refine wpIn_region_lit ?_
  refine x_run tab hk (k := 1) (lv := [.agg #[.int .i64 p1.From, .int .i64 p1.To]]) (ks := [0, 5, 6]) (e' := [(0, .pointer (some ⟨bp0, 0, none⟩)), (5, .pointer (some ⟨bx9, 0, none⟩)), (6, .agg #[.int .i64 p1.From, .int .i64 p1.To])]) rfl ⟨(load_box tab rfl rfl f5.now (k := 0) rfl rfl), trivial⟩ fun a hk => ?_
  refine x_op hk rfl ?_
  refine op_slice (o := o7) tab hk (vs := [.agg #[.int .i64 p1.From, .int .i64 p1.To]]) (cs := [.int .i64 p1.From, .int .i64 p1.To]) rfl rfl rfl rfl rfl rfl rfl rfl rfl 3 fun bx14 w11 o12 st13 f15 => ?_
  replace f10 := f10.st st13 (by decide)
  replace f900000 := f900000.st st13 (by decide)
  replace f900019 := f900019.st st13 (by decide)
  replace hs := hs.loc0 st13 (by decide)
  have f16 : Ft (Own ET28 29 (.slice (some ⟨bx14, 0, none⟩) (([p1] : List T28)).length 1) ([p1] : List T28)) w11 o12 3 := f15.imp fun _ h_ => Own.of_box h_ rfl (by simp)
  have hk := hk.put 7 (.slice (some ⟨bx14, 0, none⟩) (([p1] : List T28)).length 1) rfl
  refine x_op hk rfl ?_
  obtain ⟨t20, hc21, H⟩ := bindS H
  refine op_call hk ent_9 (vs := [.pointer (some ⟨bx9, 0, none⟩), .slice (some ⟨bx14, 0, none⟩) (([p1] : List T28)).length 1]) rfl (spans_Set_Add_calls K bx9 none 0 (⟨([] : List T28)⟩ : T25) (some ⟨bx14, 0, none⟩) 1 ([p1] : List T28) _ o12 2 f10 4 (Ft.of_all (fun _ => Own.nil _ _ _) _ _ 4) (by simp) _ (f16.imp fun _ h_ => Own.rd h_) (Nat.le_refl _) (by decide) (by decide)   _ hc21) ?_
  rintro _ w22 ⟨o23, A26, c27, rfl, st24, f25, f28, hc29⟩
  replace f16 := f16.st st24 (by decide)
  replace f900000 := f900000.st st24 (by decide)
  replace f900019 := f900019.st st24 (by decide)
  replace hs := hs.loc0 st24 (by decide)
  have hk := hk.put 8 (.tuple #[]) rfl
  refine wpListIn_nil ?_
  refine then_n ?_
  refine x_seq ?_
  refine wpIn_region_lit ?_
  refine x_run tab hk (k := 4) (lv := [.slice Ap0_0 (p0.l).length cp0_0]) (ks := [5, 12]) (e' := [(5, .pointer (some ⟨bx9, 0, none⟩)), (12, .slice Ap0_0 (p0.l).length cp0_0)]) rfl ⟨(load1 tab rfl ((Bx.cell f900019.now 0).trans rfl)), trivial⟩ fun a hk => ?_
  refine x_op hk rfl ?_
  obtain ⟨t33, hc34, H⟩ := bindS H
  refine op_call hk ent_12 (vs := [.pointer (some ⟨bx9, 0, none⟩), .slice Ap0_0 (p0.l).length cp0_0]) rfl (spans_Set_Cut_calls K bx9 A26 c27 t20 Ap0_0 cp0_0 p0.l _ o23 2 f25 4 f28 hc29 _ f900000 hcp0_0 (by decide) (by decide)   _ hc34) ?_
  rintro _ w35 ⟨o36, A39, c40, rfl, st37, f38, f41, hc42⟩
  replace f900000 := f900000.st st37 (by decide)
  replace f900019 := f900019.st st37 (by decide)
  replace hs := hs.loc0 st37 (by decide)
  have hk := hk.put 13 (.tuple #[]) rfl
  refine wpListIn_nil ?_
  refine then_n ?_
  refine x_seq ?_
  refine wpIn_region_lit ?_
  refine x_run tab hk (k := 3) (lv := [.slice A39 (t33.l).length c40]) (ks := [4]) (e' := [(4, .slice A39 (t33.l).length c40)]) rfl ⟨(load1 tab rfl ((Bx.cell f38.now 0).trans rfl)), trivial⟩ fun a hk => ?_
  refine wpListIn_nil ?_
  refine then_n ?_
  refine wpIn_ret ?_
  obtain rfl := Option.some.inj H
  exact x_retG hk (rs := [.tmp 4]) (vs := [.slice A39 (t33.l).length c40]) rfl ⟨rfl, trivial⟩ ⟨fun b_ => if b_ < w.heap.size then o b_ else (fun _ => R0) (o36 b_), A39, c40, rfl, hs.close0 o (fun _ => R0), hs.close_ft (o := o) (ρ := fun _ => R0) f41 (by decide) rfl, hc42⟩

/-! tidewrack/tidewrackref13.near -/
theorem tidewrackref13_near_calls (p0 : Int) (w : World) (o : Nat → Nat)   (r : Int) (H : tidewrackref13_near p0 = some r) :
    Calls Try.prog 32 #[.int .i64 p0] w (Ret fun v_ w' => ∃ o' : Nat → Nat, v_ = .int .i64 r ∧ St [] w o w' o') := by
  refine x_enter (vs := [.int .i64 p0]) Try.func32 rfl rfl rfl fun a hk => ?_
  obtain ⟨o0, hs, h0⟩ := St.start w o
  clear h0
  rw [tidewrackref13_near] at H
  refine x_seq ?_
  refine wpIn_region_lit ?_
  refine x_run tab hk (k := 1) (lv := []) (ks := [0]) (e' := [(0, .int .i64 p0)]) rfl trivial fun a hk => ?_
  refine wpListIn_nil ?_
  refine then_n ?_
  refine x_seq ?_
  refine x_seq ?_
  refine wpIn_region_lit ?_
  refine x_run tab hk (k := 2) (lv := []) (ks := [0, 4]) (e' := [(0, .int .i64 p0), (4, .bool (decide (p0 < (-1152921504606846976))))]) rfl trivial fun a hk => ?_
  refine wpListIn_nil ?_
  refine then_n ?_
  cases b1 : (decide (p0 < (-1152921504606846976)))
  · rw [b1] at hk H
    replace H := bifF H
    refine x_if hk (b := false) rfl ?_
    refine (show Code.wpIn _ _ _ _ _ _ _ from ?_)
    refine wpIn_skip ?_
    refine then_n ?_
    refine x_seq ?_
    refine x_seq ?_
    refine wpIn_region_lit ?_
    refine x_run tab hk (k := 2) (lv := []) (ks := [0, 6]) (e' := [(0, .int .i64 p0), (6, .bool (decide (p0 > (1152921504606846976 : Int))))]) rfl trivial fun a hk => ?_
    refine wpListIn_nil ?_
    refine then_n ?_
    cases b2 : (decide (p0 > (1152921504606846976 : Int)))
    · rw [b2] at hk H
      replace H := bifF H
      refine x_if hk (b := false) rfl ?_
      refine (show Code.wpIn _ _ _ _ _ _ _ from ?_)
      refine wpIn_skip ?_
      refine then_n ?_
      refine x_seq ?_
      refine wpIn_region_lit ?_
      refine x_run tab hk (k := 2) (lv := []) (ks := [2]) (e' := [(2, .int .i64 p0)]) rfl trivial fun a hk => ?_
      refine wpListIn_nil ?_
      refine then_n ?_
      refine wpIn_ret ?_
      obtain rfl := Option.some.inj H
      exact x_retG hk (rs := [.tmp 2]) (vs := [.int .i64 p0]) rfl ⟨rfl, trivial⟩ ⟨fun b_ => if b_ < w.heap.size then o b_ else (fun _ => 0) (o0 b_), rfl, hs.close0 o (fun _ => 0)⟩
    · rw [b2] at hk H
      replace H := bifT H
      refine x_if hk (b := true) rfl ?_
      refine (show Code.wpIn _ _ _ _ _ _ _ from ?_)
      refine x_seq ?_
      refine wpIn_region_lit ?_
      refine x_run tab hk (k := 1) (lv := []) (ks := [2]) (e' := [(2, .int .i64 1152921504606846976)]) rfl trivial fun a hk => ?_
      refine wpListIn_nil ?_
      refine then_n ?_
      refine wpIn_ret ?_
      refine then_r ?_
      obtain rfl := Option.some.inj H
      exact x_retG hk (rs := [.tmp 2]) (vs := [.int .i64 1152921504606846976]) rfl ⟨rfl, trivial⟩ ⟨fun b_ => if b_ < w.heap.size then o b_ else (fun _ => 0) (o0 b_), rfl, hs.close0 o (fun _ => 0)⟩
  · rw [b1] at hk H
    replace H := bifT H
    refine x_if hk (b := true) rfl ?_
    refine (show Code.wpIn _ _ _ _ _ _ _ from ?_)
    refine x_seq ?_
    refine wpIn_region_lit ?_
    refine x_run tab hk (k := 1) (lv := []) (ks := [2]) (e' := [(2, .int .i64 (-1152921504606846976))]) rfl trivial fun a hk => ?_
    refine wpListIn_nil ?_
    refine then_n ?_
    refine wpIn_ret ?_
    refine then_r ?_
    obtain rfl := Option.some.inj H
    exact x_retG hk (rs := [.tmp 2]) (vs := [.int .i64 (-1152921504606846976)]) rfl ⟨rfl, trivial⟩ ⟨fun b_ => if b_ < w.heap.size then o b_ else (fun _ => 0) (o0 b_), rfl, hs.close0 o (fun _ => 0)⟩

/-! tidewrack/tidewrackref13.Fit -/
theorem tidewrackref13_Fit_calls (p0 : T28) (w : World) (o : Nat → Nat)   (r : T28) (H : tidewrackref13_Fit p0 = some r) :
    Calls Try.prog 16 #[.agg #[.int .i64 p0.From, .int .i64 p0.To]] w (Ret fun v_ w' => ∃ o' : Nat → Nat, v_ = .agg #[.int .i64 r.From, .int .i64 r.To] ∧ St [] w o w' o') := by
  refine x_enter (vs := [.agg #[.int .i64 p0.From, .int .i64 p0.To]]) Try.func16 rfl rfl rfl fun a hk => ?_
  obtain ⟨o0, hs, h0⟩ := St.start w o
  clear h0
  rw [tidewrackref13_Fit] at H
  refine x_seq ?_
  refine wpIn_region_lit ?_
  refine x_op hk rfl ?_
  refine op_box (o := o0) (t := 30) (v := .agg #[.int .i64 p0.From, .int .i64 p0.To]) (cs := [.int .i64 p0.From, .int .i64 p0.To]) hk rfl rfl 1 fun bx4 w1 o2 st3 f5 => ?_
  replace hs := hs.loc0 st3 (by decide)
  have hk := hk.put 1 (.pointer (some ⟨bx4, 0, none⟩)) rfl
  refine x_op hk rfl ?_
  refine op_alloc (o := o2) tab (t := 30) (cs := [.int .i64 0, .int .i64 0]) rfl rfl 2 fun bx9 w6 o7 st8 f10 => ?_
  replace f5 := f5.st st8 (by decide)
  replace hs := hs.loc0 st8 (by decide)
  have hk := hk.put 2 (.pointer (some ⟨bx9, 0, none⟩)) rfl
  refine wpListIn_nil ?_
  refine then_n ?_
  refine x_seq ?_
  refine xd_begin (o := o7) (fun W_ => (Bx bx4 30 [.int .i64 p0.From, .int .i64 p0.To]) W_ ∧ True) mixed rfl rfl fun w46 st47 => ?_
  replace f10 := f10.st st47 (by decide)
  replace f5 := f5.st st47 (by decide)
  replace hs := hs.loc0 st47 (by decide)
  refine xd_take tab hk (k := 4) (is := [0, 1, 3, 4]) (ls' := #[true, true, false, true, true, false, false, false]) (lv := [.int .i64 p0.From, .int .i64 p0.To]) (ks := [2, 4, 7]) (e' := [(2, .pointer (some ⟨bx9, 0, none⟩)), (4, .int .i64 p0.From), (7, .int .i64 p0.To)]) (by kernel_rfl) rfl rfl (by kernel_rfl) (np_then np_body) ⟨f5.now, trivial⟩ (fun W_ hS => ⟨(load1 tab rfl ((Bx.cell hS.1 0).trans rfl)), (load1 tab rfl ((Bx.cell hS.1 1).trans rfl)), trivial⟩) fun a hk => ?_
  refine xd_op hk (i := 2) (by kernel_rfl) rfl rfl ?_
  obtain ⟨t51, hc52, H⟩ := bindS H
  refine op_call hk ent_32 (vs := [.int .i64 p0.From]) rfl (tidewrackref13_near_calls p0.From _ o7    _ hc52) ?_
  rintro _ w53 ⟨o54, rfl, st55⟩
  replace f10 := f10.st st55 (by decide)
  replace f5 := f5.st st55 (by decide)
  replace hs := hs.loc0 st55 (by decide)
  have hk := hk.put 5 (.int .i64 t51) rfl
  refine ⟨.inr ⟨f5.now, trivial⟩, ?_⟩
  refine xd_op hk (i := 5) (by kernel_rfl) rfl rfl ?_
  obtain ⟨t59, hc60, H⟩ := bindS H
  refine op_call hk ent_32 (vs := [.int .i64 p0.To]) rfl (tidewrackref13_near_calls p0.To _ o54    _ hc60) ?_
  rintro _ w61 ⟨o62, rfl, st63⟩
  replace f10 := f10.st st63 (by decide)
  replace f5 := f5.st st63 (by decide)
  replace hs := hs.loc0 st63 (by decide)
  have hk := hk.put 8 (.int .i64 t59) rfl
  refine ⟨.inr ⟨f5.now, trivial⟩, ?_⟩
  refine xd_take tab hk (k := 1) (is := [6]) (ls' := #[true, true, true, true, true, true, true, false]) (lv := []) (ks := [2, 9]) (e' := [(2, .pointer (some ⟨bx9, 0, none⟩)), (9, .agg #[.int .i64 t51, .int .i64 t59])]) (by kernel_rfl) rfl rfl (by kernel_rfl) (np_then np_body) ⟨f5.now, trivial⟩ (fun W_ hS => trivial) fun a hk => ?_
  refine xd_op hk (i := 7) (by kernel_rfl) rfl rfl ?_
  refine op_store tab hk (t := 30) (v := .agg #[.int .i64 t51, .int .i64 t59]) (b := bx9) (k := 0) (cs' := [.int .i64 t51, .int .i64 t59]) rfl rfl rfl rfl rfl rfl f10 rfl rfl fun w64 o65 st66 f10_ => ?_
  replace f5 := f5.st st66 (by decide)
  replace hs := hs.loc0 st66 (by decide)
  replace f10 := f10_
  refine ⟨.inl (by kernel_rfl), ?_⟩
  refine xd_done (by kernel_rfl) ?_
  refine then_n ?_
  refine wpIn_ret ?_
  obtain rfl := Option.some.inj H
  exact x_retG hk (rs := [.cell 2 30]) (vs := [.agg #[.int .i64 t51, .int .i64 t59]]) rfl ⟨⟨_, rfl, load_box tab rfl rfl f10.now (k := 0) rfl rfl⟩, trivial⟩ ⟨fun b_ => if b_ < w.heap.size then o b_ else (fun _ => 0) (o65 b_), rfl, hs.close0 o (fun _ => 0)⟩

/-! tidewrack/tidewracklaw13.SpansAll -/
set_option maxHeartbeats 4000000 in
theorem tidewracklaw13_SpansAll_calls (K : Nat) (Ap0 : Option Addr) (cp0 : Nat) (p0 : List T28) (p1 : T28) (w : World) (o : Nat → Nat) (Lp0 : Nat) (hp0 : Ft (RdC ET28 Ap0 p0) w o Lp0) (hcp0 : (p0).length ≤ cp0)  (r : Bool) (H : tidewracklaw13_SpansAll K p0 p1 = some r) :
    Calls Try.prog 6 #[.slice Ap0 (p0).length cp0, .agg #[.int .i64 p1.From, .int .i64 p1.To]] w (Ret fun v_ w' => ∃ o' : Nat → Nat, v_ = .bool r ∧ St [] w o w' o') := by
  refine x_enter (vs := [.slice Ap0 (p0).length cp0, .agg #[.int .i64 p1.From, .int .i64 p1.To]]) Try.func6 rfl rfl rfl fun a hk => ?_
  obtain ⟨o0, hs, h0⟩ := St.start w o
  have f900000 := h0 _ _ hp0
  clear h0
  rw [tidewracklaw13_SpansAll] at H
  refine x_seq ?_
  refine wpIn_region_lit ?_
  refine x_op hk rfl ?_
  refine op_box (o := o0) (t := 30) (v := .agg #[.int .i64 p1.From, .int .i64 p1.To]) (cs := [.int .i64 p1.From, .int .i64 p1.To]) hk rfl rfl 1 fun bx4 w1 o2 st3 f5 => ?_
  replace f900000 := f900000.st st3 (by decide)
  replace hs := hs.loc0 st3 (by decide)
  have hk := hk.put 3 (.pointer (some ⟨bx4, 0, none⟩)) rfl
  refine x_run tab hk (k := 1) (lv := []) (ks := [0, 3]) (e' := [(0, .slice Ap0 (p0).length cp0), (3, .pointer (some ⟨bx4, 0, none⟩))]) rfl trivial fun a hk => ?_
  refine wpListIn_nil ?_
  refine then_n ?_
  refine x_seq ?_
  refine x_seq ?_
  refine wpIn_region_lit ?_
  refine x_op hk rfl ?_
  obtain ⟨t9, hc10, H⟩ := bindS H
  refine op_call hk ent_8 (vs := []) rfl (tidewracklaw13_awake_calls K  _ o2    _ hc10) ?_
  rintro _ w11 ⟨o12, rfl, st13⟩
  replace f5 := f5.st st13 (by decide)
  replace f900000 := f900000.st st13 (by decide)
  replace hs := hs.loc0 st13 (by decide)
  have hk := hk.put 14 (.bool t9) rfl
  refine x_run tab hk (k := 1) (lv := []) (ks := [0, 3, 15]) (e' := [(0, .slice Ap0 (p0).length cp0), (3, .pointer (some ⟨bx4, 0, none⟩)), (15, .bool (!t9))]) rfl trivial fun a hk => ?_
  refine wpListIn_nil ?_
  refine then_n ?_
  cases b14 : (!t9)
  · rw [b14] at hk H
    replace H := bifF H
    refine x_if hk (b := false) rfl ?_
    refine (show Code.wpIn _ _ _ _ _ _ _ from ?_)
    refine wpIn_skip ?_
    refine then_n ?_
    refine x_seq ?_
    refine wpIn_region_lit ?_
    refine x_op hk rfl ?_
    refine op_alloc (o := o12) tab (t := 26) (cs := [.slice none 0 0]) rfl rfl 2 fun bx18 w15 o16 st17 f19 => ?_
    replace f5 := f5.st st17 (by decide)
    replace f900000 := f900000.st st17 (by decide)
    replace hs := hs.loc0 st17 (by decide)
    have hk := hk.put 5 (.pointer (some ⟨bx18, 0, none⟩)) rfl
    refine x_op hk rfl ?_
    refine op_alloc (o := o16) tab (t := 26) (cs := [.slice none 0 0]) rfl rfl 3 fun bx23 w20 o21 st22 f24 => ?_
    replace f19 := f19.st st22 (by decide)
    replace f5 := f5.st st22 (by decide)
    replace f900000 := f900000.st st22 (by decide)
    replace hs := hs.loc0 st22 (by decide)
    have hk := hk.put 6 (.pointer (some ⟨bx23, 0, none⟩)) rfl
    refine wpListIn_nil ?_
    refine then_n ?_
    refine x_mid (fun a_ w_ => ∃ o139 : Nat → Nat, ∃ A140 : Option Addr, ∃ c141 : Nat, ∃ l142 : List T28, Kn 84 a_ [(3, .pointer (some ⟨bx4, 0, none⟩)), (5, .pointer (some ⟨bx18, 0, none⟩)), (6, .pointer (some ⟨bx23, 0, none⟩))] ∧ St [] w (fun _ => 0) w_ o139 ∧ Ft (Own ET28 29 (.slice A140 (l142).length c141) l142) w_ o139 28 ∧ Ft (Bx bx18 26 [.slice A140 (l142).length c141]) w_ o139 29 ∧ Ft (Bx bx23 26 [.slice none 0 0]) w_ o139 30 ∧ Ft (Bx bx4 30 [.int .i64 p1.From, .int .i64 p1.To]) w_ o139 27 ∧ (l142).length ≤ c141 ∧ tidewracklaw13_SpansAll_j1 K p1 l142 = some r) ?_ ?_
    rotate_left
    · rintro a w145 ⟨o139, A140, c141, l142, hk, hs, f143, f19, f24, f5, hc144, H⟩
      rw [tidewracklaw13_SpansAll_j1] at H
      refine x_seq ?_
      refine xd_begin (o := o139) (fun W_ => (Bx bx4 30 [.int .i64 p1.From, .int .i64 p1.To]) W_ ∧ True) mixed rfl rfl fun w194 st195 => ?_
      replace f143 := f143.st st195 (by decide)
      replace f19 := f19.st st195 (by decide)
      replace f24 := f24.st st195 (by decide)
      replace f5 := f5.st st195 (by decide)
      replace hs := hs.loc0 st195 (by decide)
      refine xd_take tab hk (k := 4) (is := [0, 2]) (ls' := #[true, false, true, false, false, false]) (lv := [.agg #[.int .i64 p1.From, .int .i64 p1.To], .agg #[.int .i64 p1.From, .int .i64 p1.To]]) (ks := [3, 5, 6, 32, 34]) (e' := [(3, .pointer (some ⟨bx4, 0, none⟩)), (5, .pointer (some ⟨bx18, 0, none⟩)), (6, .pointer (some ⟨bx23, 0, none⟩)), (32, .agg #[.int .i64 p1.From, .int .i64 p1.To]), (34, .agg #[.int .i64 p1.From, .int .i64 p1.To])]) (by kernel_rfl) rfl rfl (by kernel_rfl) (np_then np_body) ⟨f5.now, trivial⟩ (fun W_ hS => ⟨(load_box tab rfl rfl hS.1 (k := 0) rfl rfl), (load_box tab rfl rfl hS.1 (k := 0) rfl rfl), trivial⟩) fun a hk => ?_
      refine xd_op hk (i := 1) (by kernel_rfl) rfl rfl ?_
      obtain ⟨t199, hc200, H⟩ := bindS H
      refine op_call hk ent_14 (vs := [.pointer (some ⟨bx18, 0, none⟩), .agg #[.int .i64 p1.From, .int .i64 p1.To]]) rfl (spans_Set_In_calls K bx18 A140 c141 (⟨l142⟩ : T25) p1 _ o139 29 f19 _ (f143.imp fun _ h_ => Own.rd h_) hc144 35  _ hc200) ?_
      rintro _ w201 ⟨o202, A204, c205, rfl, st203, f206, hc207⟩
      replace f143 := f143.st st203 (by decide)
      replace f19 := f19.st st203 (by decide)
      replace f24 := f24.st st203 (by decide)
      replace f5 := f5.st st203 (by decide)
      replace hs := hs.loc0 st203 (by decide)
      have hk := hk.put 33 (.slice A204 (t199).length c205) rfl
      refine ⟨.inr ⟨f5.now, trivial⟩, ?_⟩
      refine xd_op hk (i := 3) (by kernel_rfl) rfl rfl ?_
      obtain ⟨t211, hc212, H⟩ := bindS H
      refine op_call hk ent_15 (vs := [.pointer (some ⟨bx18, 0, none⟩), .agg #[.int .i64 p1.From, .int .i64 p1.To]]) rfl (spans_Set_Missing_calls K bx18 A140 c141 (⟨l142⟩ : T25) p1 _ o202 29 f19 _ (f143.imp fun _ h_ => Own.rd h_) hc144 36  _ hc212) ?_
      rintro _ w213 ⟨o214, A216, c217, rfl, st215, f218, hc219⟩
      replace f143 := f143.st st215 (by decide)
      replace f19 := f19.st st215 (by decide)
      replace f206 := f206.st st215 (by decide)
      replace f24 := f24.st st215 (by decide)
      replace f5 := f5.st st215 (by decide)
      replace hs := hs.loc0 st215 (by decide)
      have hk := hk.put 35 (.slice A216 (t211).length c217) rfl
      refine ⟨.inr ⟨f5.now, trivial⟩, ?_⟩
      refine xd_take tab hk (k := 0) (is := [4, 5]) (ls' := #[true, true, true, true, true, true]) (lv := []) (ks := [3, 6, 8, 9]) (e' := [(3, .pointer (some ⟨bx4, 0, none⟩)), (6, .pointer (some ⟨bx23, 0, none⟩)), (8, .slice A204 (t199).length c205), (9, .slice A216 (t211).length c217)]) (by kernel_rfl) rfl rfl (by kernel_rfl) (np_then np_body) ⟨f5.now, trivial⟩ (fun W_ hS => trivial) fun a hk => ?_
      refine xd_done (by kernel_rfl) ?_
      refine then_n ?_
      refine x_seq ?_
      refine wpIn_region_lit ?_
      refine x_run tab hk (k := 1) (lv := []) (ks := [3, 6, 8, 9, 10]) (e' := [(3, .pointer (some ⟨bx4, 0, none⟩)), (6, .pointer (some ⟨bx23, 0, none⟩)), (8, .slice A204 (t199).length c205), (9, .slice A216 (t211).length c217), (10, .int .i64 0)]) rfl trivial fun a hk => ?_
      refine wpListIn_nil ?_
      refine then_n ?_
      refine x_mid (fun a_ w_ => ∃ o291 : Nat → Nat, ∃ x292 : Int, Kn 84 a_ [(3, .pointer (some ⟨bx4, 0, none⟩)), (6, .pointer (some ⟨bx23, 0, none⟩)), (8, .slice A204 (t199).length c205), (9, .slice A216 (t211).length c217), (10, .int .i64 x292)] ∧ St [] w (fun _ => 0) w_ o291 ∧ Ft (Own ET28 29 (.slice A204 (t199).length c205) t199) w_ o291 53 ∧ Ft (Own ET28 29 (.slice A216 (t211).length c217) t211) w_ o291 54 ∧ Ft (Bx bx23 26 [.slice none 0 0]) w_ o291 52 ∧ Ft (Bx bx4 30 [.int .i64 p1.From, .int .i64 p1.To]) w_ o291 51 ∧ tidewracklaw13_SpansAll_j2 K p1 t199 t211 x292 = some r) ?_ ?_
      rotate_left
      · rintro a w293 ⟨o291, x292, hk, hs, f206, f218, f24, f5, H⟩
        rw [tidewracklaw13_SpansAll_j2] at H
        refine x_seq ?_
        refine wpIn_region_lit ?_
        refine x_run tab hk (k := 1) (lv := []) (ks := [3, 6, 9, 10, 54]) (e' := [(3, .pointer (some ⟨bx4, 0, none⟩)), (6, .pointer (some ⟨bx23, 0, none⟩)), (9, .slice A216 (t211).length c217), (10, .int .i64 x292), (54, .slice A204 (t199).length c205)]) rfl trivial fun a hk => ?_
        refine x_op hk rfl ?_
        obtain ⟨t297, hc298, H⟩ := bindS H
        refine op_call hk ent_9 (vs := [.pointer (some ⟨bx23, 0, none⟩), .slice A204 (t199).length c205]) rfl (spans_Set_Add_calls K bx23 none 0 (⟨([] : List T28)⟩ : T25) A204 c205 t199 _ o291 52 f24 55 (Ft.of_all (fun _ => Own.nil _ _ _) _ _ 55) (by simp) _ (f206.imp fun _ h_ => Own.rd h_) hc207 (by decide) (by decide)   _ hc298) ?_
        rintro _ w299 ⟨o300, A303, c304, rfl, st301, f302, f305, hc306⟩
        replace f206 := f206.st st301 (by decide)
        replace f218 := f218.st st301 (by decide)
        replace f5 := f5.st st301 (by decide)
        replace hs := hs.loc0 st301 (by decide)
        have hk := hk.put 55 (.tuple #[]) rfl
        refine wpListIn_nil ?_
        refine then_n ?_
        refine x_seq ?_
        refine wpIn_region_lit ?_
        refine x_run tab hk (k := 1) (lv := []) (ks := [3, 6, 10, 56]) (e' := [(3, .pointer (some ⟨bx4, 0, none⟩)), (6, .pointer (some ⟨bx23, 0, none⟩)), (10, .int .i64 x292), (56, .slice A216 (t211).length c217)]) rfl trivial fun a hk => ?_
        refine x_op hk rfl ?_
        obtain ⟨t310, hc311, H⟩ := bindS H
        refine op_call hk ent_9 (vs := [.pointer (some ⟨bx23, 0, none⟩), .slice A216 (t211).length c217]) rfl (spans_Set_Add_calls K bx23 A303 c304 t297 A216 c217 t211 _ o300 52 f302 55 f305 hc306 _ (f218.imp fun _ h_ => Own.rd h_) hc219 (by decide) (by decide)   _ hc311) ?_
        rintro _ w312 ⟨o313, A316, c317, rfl, st314, f315, f318, hc319⟩
        replace f218 := f218.st st314 (by decide)
        replace f5 := f5.st st314 (by decide)
        replace hs := hs.loc0 st314 (by decide)
        have hk := hk.put 57 (.tuple #[]) rfl
        refine wpListIn_nil ?_
        refine then_n ?_
        refine x_seq ?_
        refine wpIn_region_lit ?_
        refine x_run tab hk (k := 1) (lv := [.agg #[.int .i64 p1.From, .int .i64 p1.To]]) (ks := [6, 10, 58]) (e' := [(6, .pointer (some ⟨bx23, 0, none⟩)), (10, .int .i64 x292), (58, .agg #[.int .i64 p1.From, .int .i64 p1.To])]) rfl ⟨(load_box tab rfl rfl f5.now (k := 0) rfl rfl), trivial⟩ fun a hk => ?_
        refine x_op hk rfl ?_
        obtain ⟨t323, hc324, H⟩ := bindS H
        refine op_call hk ent_16 (vs := [.agg #[.int .i64 p1.From, .int .i64 p1.To]]) rfl (tidewrackref13_Fit_calls p1 _ o313    _ hc324) ?_
        rintro _ w325 ⟨o326, rfl, st327⟩
        replace f315 := f315.st st327 (by decide)
        replace f318 := f318.st st327 (by decide)
        replace hs := hs.loc0 st327 (by decide)
        have hk := hk.put 59 (.agg #[.int .i64 t323.From, .int .i64 t323.To]) rfl
        refine x_op hk rfl ?_
        refine op_alloc (o := o326) tab (t := 30) (cs := [.int .i64 0, .int .i64 0]) rfl rfl 56 fun bx331 w328 o329 st330 f332 => ?_
        replace f315 := f315.st st330 (by decide)
        replace f318 := f318.st st330 (by decide)
        replace hs := hs.loc0 st330 (by decide)
        have hk := hk.put 13 (.pointer (some ⟨bx331, 0, none⟩)) rfl
        refine x_op hk rfl ?_
        refine op_store tab hk (t := 30) (v := .agg #[.int .i64 t323.From, .int .i64 t323.To]) (b := bx331) (k := 0) (cs' := [.int .i64 t323.From, .int .i64 t323.To]) rfl rfl rfl rfl rfl rfl f332 rfl rfl fun w333 o334 st335 f332_ => ?_
        replace f315 := f315.st st335 (by decide)
        replace f318 := f318.st st335 (by decide)
        replace hs := hs.loc0 st335 (by decide)
        replace f332 := f332_
        refine wpListIn_nil ?_
        refine then_n ?_
        refine x_seq ?_
        refine x_seq ?_
        refine wpIn_region_lit ?_
        refine x_run tab hk (k := 5) (lv := [.int .i64 t323.To, .int .i64 t323.From]) (ks := [6, 10, 13, 64]) (e' := [(6, .pointer (some ⟨bx23, 0, none⟩)), (10, .int .i64 x292), (13, .pointer (some ⟨bx331, 0, none⟩)), (64, .bool (decide (t323.To ≤ t323.From)))]) rfl ⟨(load1 tab rfl ((Bx.cell f332.now 1).trans rfl)), (load1 tab rfl ((Bx.cell f332.now 0).trans rfl)), trivial⟩ fun a hk => ?_
        refine wpListIn_nil ?_
        refine then_n ?_
        cases b336 : (decide (t323.To ≤ t323.From))
        · rw [b336] at hk H
          replace H := bifF H
          refine x_if hk (b := false) rfl ?_
          refine (show Code.wpIn _ _ _ _ _ _ _ from ?_)
          refine wpIn_skip ?_
          refine then_n ?_
          refine x_seq ?_
          refine x_cut (fun a_ w_ => ∃ o548 : Nat → Nat, ∃ x549 : Bool, Kn 84 a_ [(4, .bool x549)] ∧ St [] w (fun _ => 0) w_ o548 ∧ tidewracklaw13_SpansAll_j3 x549 = some r) ?_ ?_
          rotate_left
          · rintro a w550 ⟨o548, x549, hk, hs, H⟩
            rw [tidewracklaw13_SpansAll_j3] at H
            refine then_n ?_
            refine wpIn_ret ?_
            obtain rfl := Option.some.inj H
            exact x_retG hk (rs := [.tmp 4]) (vs := [.bool x549]) rfl ⟨rfl, trivial⟩ ⟨fun b_ => if b_ < w.heap.size then o b_ else (fun _ => 0) (o548 b_), rfl, hs.close0 o (fun _ => 0)⟩
          cases b578 : (x292 == (IntKind.wrap .i64 (t323.To - t323.From)))
          · rw [b578] at H
            replace H := bifF H
            refine xd_begin (o := o334) (fun W_ => (Bx bx331 30 [.int .i64 t323.From, .int .i64 t323.To]) W_ ∧ True) mixed rfl rfl fun w579 st580 => ?_
            replace f315 := f315.st st580 (by decide)
            replace f318 := f318.st st580 (by decide)
            replace f332 := f332.st st580 (by decide)
            replace hs := hs.loc0 st580 (by decide)
            refine xd_abs fun G hG => ?_
            refine xd_of hG ?_
            refine xd_take tab hk (k := 6) (is := [0, 1, 2, 3, 4, 5, 6, 7]) (ls' := #[true, true, true, true, true, true, true, true, false, false, false, false, false, false]) (lv := [.int .i64 t323.To, .int .i64 t323.From]) (ks := [6, 13, 78]) (e' := [(6, .pointer (some ⟨bx23, 0, none⟩)), (13, .pointer (some ⟨bx331, 0, none⟩)), (78, .bool (x292 == (IntKind.wrap .i64 (t323.To - t323.From))))]) (by kernel_rfl) rfl rfl (by kernel_rfl) (np_then (np_then np_body)) ⟨f332.now, trivial⟩ (fun W_ hS => ⟨(load1 tab rfl ((Bx.cell hS.1 1).trans rfl)), (load1 tab rfl ((Bx.cell hS.1 0).trans rfl)), trivial⟩) fun a hk => ?_
            rw [b578] at hk
            refine xd_take tab hk (k := 0) (is := [8, 9, 10, 11, 12, 13]) (ls' := #[true, true, true, true, true, true, true, true, true, true, true, true, true, true]) (lv := []) (ks := [4]) (e' := [(4, .bool false)]) (by kernel_rfl) rfl rfl (by kernel_rfl) (np_then (np_then np_body)) ⟨f332.now, trivial⟩ (fun W_ hS => trivial) fun a hk => ?_
            refine xd_done (by kernel_rfl) ?_
            refine then_n ?_
            exact ⟨o334, false, (by exact Kn.pick (ks := [4]) hk rfl), hs, H⟩
          · rw [b578] at H
            replace H := bifT H
            obtain ⟨t584, hc585, H⟩ := bindS H
            obtain ⟨t602, hc603, H⟩ := bindS H
            refine xd_begin (o := o334) (fun W_ => (Bx bx331 30 [.int .i64 t323.From, .int .i64 t323.To]) W_ ∧ True) mixed rfl rfl fun w651 st652 => ?_
            replace f315 := f315.st st652 (by decide)
            replace f318 := f318.st st652 (by decide)
            replace f332 := f332.st st652 (by decide)
            replace hs := hs.loc0 st652 (by decide)
            refine xd_abs fun G hG => ?_
            have N678 : ∀ (a_ : Act) (w_ : World), (∃ o672 : Nat → Nat, ∃ A673 : Option Addr, ∃ c674 : Nat, Kn 84 a_ [(78, .bool true), (79, .slice A673 (t584).length c674), (80, .agg #[.int .i64 t323.From, .int .i64 t323.To])] ∧ St [] w (fun _ => 0) w_ o672 ∧ Ft (Bx bx331 30 [.int .i64 t323.From, .int .i64 t323.To]) w_ o672 86 ∧ Ft (Own ET28 29 (.slice A673 (t584).length c674) t584) w_ o672 87 ∧ (t584).length ≤ c674) → G 4 #[true, true, true, true, true, true, true, true, true, true, false, false, false, false] a_ w_ := by
              rintro a w677 ⟨o672, A673, c674, hk, hs, f332, f675, hc676⟩
              refine xd_of hG ?_
              refine xd_op hk (i := 10) (by kernel_rfl) rfl rfl ?_
              refine op_slice (o := o672) tab hk (vs := [.agg #[.int .i64 t323.From, .int .i64 t323.To]]) (cs := [.int .i64 t323.From, .int .i64 t323.To]) rfl rfl rfl rfl rfl rfl rfl rfl rfl 88 fun bx682 w679 o680 st681 f683 => ?_
              replace f332 := f332.st st681 (by decide)
              replace f675 := f675.st st681 (by decide)
              replace hs := hs.loc0 st681 (by decide)
              have f684 : Ft (Own ET28 30 (.slice (some ⟨bx682, 0, none⟩) (([t323] : List T28)).length 1) ([t323] : List T28)) w679 o680 88 := f683.imp fun _ h_ => Own.of_box h_ rfl (by simp)
              have hk := hk.put 81 (.slice (some ⟨bx682, 0, none⟩) (([t323] : List T28)).length 1) rfl
              refine ⟨.inr ⟨f332.now, trivial⟩, ?_⟩
              refine xd_op hk (i := 11) (by kernel_rfl) rfl rfl ?_
              refine op_call hk ent_17 (vs := [.slice A673 (t584).length c674, .slice (some ⟨bx682, 0, none⟩) (([t323] : List T28)).length 1]) rfl (tidewracklaw13_Same_calls K A673 c674 t584 (some ⟨bx682, 0, none⟩) 1 ([t323] : List T28) _ o680 _ (f675.imp fun _ h_ => Own.rd h_) hc676 _ (f684.imp fun _ h_ => Own.rd h_) (Nat.le_refl _)   _ hc603) ?_
              rintro _ w688 ⟨o689, rfl, st690⟩
              replace f332 := f332.st st690 (by decide)
              replace f675 := f675.st st690 (by decide)
              replace f684 := f684.st st690 (by decide)
              replace hs := hs.loc0 st690 (by decide)
              have hk := hk.put 82 (.bool t602) rfl
              refine ⟨.inr ⟨f332.now, trivial⟩, ?_⟩
              refine xd_take tab hk (k := 0) (is := [12, 13]) (ls' := #[true, true, true, true, true, true, true, true, true, true, true, true, true, true]) (lv := []) (ks := [4]) (e' := [(4, .bool t602)]) (by kernel_rfl) rfl rfl (by kernel_rfl) (np_then (np_then np_body)) ⟨f332.now, trivial⟩ (fun W_ hS => trivial) fun a hk => ?_
              refine xd_done (by kernel_rfl) ?_
              refine then_n ?_
              exact ⟨o689, t602, (by exact Kn.pick (ks := [4]) hk rfl), hs, H⟩
            have N712 : ∀ (a_ : Act) (w_ : World), (∃ o706 : Nat → Nat, ∃ A707 : Option Addr, ∃ c708 : Nat, Kn 84 a_ [(6, .pointer (some ⟨bx23, 0, none⟩)), (78, .bool true), (81, .slice A707 (([t323] : List T28)).length c708)] ∧ St [] w (fun _ => 0) w_ o706 ∧ Ft (Bx bx23 26 [.slice A316 (t310.l).length c317]) w_ o706 92 ∧ Ft (Own ET28 29 (.slice A316 (t310.l).length c317) t310.l) w_ o706 91 ∧ Ft (Bx bx331 30 [.int .i64 t323.From, .int .i64 t323.To]) w_ o706 90 ∧ Ft (Own ET28 30 (.slice A707 (([t323] : List T28)).length c708) ([t323] : List T28)) w_ o706 93 ∧ (([t323] : List T28)).length ≤ c708) → G 4 #[true, true, true, true, true, true, true, true, false, true, true, false, false, false] a_ w_ := by
              rintro a w711 ⟨o706, A707, c708, hk, hs, f315, f318, f332, f709, hc710⟩
              refine xd_of hG ?_
              refine xd_op hk (i := 8) (by kernel_rfl) rfl rfl ?_
              refine op_call hk ent_10 (vs := [.pointer (some ⟨bx23, 0, none⟩)]) rfl (spans_Set_Spans_calls bx23 A316 c317 t310 _ o706 92 f315 _ (f318.imp fun _ h_ => Own.rd h_) hc319 94  _ hc585) ?_
              rintro _ w716 ⟨o717, A719, c720, rfl, st718, f721, hc722⟩
              replace f315 := f315.st st718 (by decide)
              replace f318 := f318.st st718 (by decide)
              replace f332 := f332.st st718 (by decide)
              replace f709 := f709.st st718 (by decide)
              replace hs := hs.loc0 st718 (by decide)
              have hk := hk.put 79 (.slice A719 (t584).length c720) rfl
              refine ⟨.inr ⟨f332.now, trivial⟩, ?_⟩
              refine xd_op hk (i := 11) (by kernel_rfl) rfl rfl ?_
              refine op_call hk ent_17 (vs := [.slice A719 (t584).length c720, .slice A707 (([t323] : List T28)).length c708]) rfl (tidewracklaw13_Same_calls K A719 c720 t584 A707 c708 ([t323] : List T28) _ o717 _ (f721.imp fun _ h_ => Own.rd h_) hc722 _ (f709.imp fun _ h_ => Own.rd h_) hc710   _ hc603) ?_
              rintro _ w726 ⟨o727, rfl, st728⟩
              replace f315 := f315.st st728 (by decide)
              replace f318 := f318.st st728 (by decide)
              replace f332 := f332.st st728 (by decide)
              replace f709 := f709.st st728 (by decide)
              replace f721 := f721.st st728 (by decide)
              replace hs := hs.loc0 st728 (by decide)
              have hk := hk.put 82 (.bool t602) rfl
              refine ⟨.inr ⟨f332.now, trivial⟩, ?_⟩
              refine xd_take tab hk (k := 0) (is := [12, 13]) (ls' := #[true, true, true, true, true, true, true, true, true, true, true, true, true, true]) (lv := []) (ks := [4]) (e' := [(4, .bool t602)]) (by kernel_rfl) rfl rfl (by kernel_rfl) (np_then (np_then np_body)) ⟨f332.now, trivial⟩ (fun W_ hS => trivial) fun a hk => ?_
              refine xd_done (by kernel_rfl) ?_
              refine then_n ?_
              exact ⟨o727, t602, (by exact Kn.pick (ks := [4]) hk rfl), hs, H⟩
            refine xd_of hG ?_
            refine xd_take tab hk (k := 6) (is := [0, 1, 2, 3, 4, 5, 6, 7]) (ls' := #[true, true, true, true, true, true, true, true, false, false, false, false, false, false]) (lv := [.int .i64 t323.To, .int .i64 t323.From]) (ks := [6, 13, 78]) (e' := [(6, .pointer (some ⟨bx23, 0, none⟩)), (13, .pointer (some ⟨bx331, 0, none⟩)), (78, .bool (x292 == (IntKind.wrap .i64 (t323.To - t323.From))))]) (by kernel_rfl) rfl rfl (by kernel_rfl) (np_then (np_then np_body)) ⟨f332.now, trivial⟩ (fun W_ hS => ⟨(load1 tab rfl ((Bx.cell hS.1 1).trans rfl)), (load1 tab rfl ((Bx.cell hS.1 0).trans rfl)), trivial⟩) fun a hk => ?_
            rw [b578] at hk
            refine xd_take tab hk (k := 5) (is := [9]) (ls' := #[true, true, true, true, true, true, true, true, false, true, false, false, false, false]) (lv := [.agg #[.int .i64 t323.From, .int .i64 t323.To]]) (ks := [6, 78, 80]) (e' := [(6, .pointer (some ⟨bx23, 0, none⟩)), (78, .bool true), (80, .agg #[.int .i64 t323.From, .int .i64 t323.To])]) (by kernel_rfl) rfl rfl (by kernel_rfl) (np_then (np_then np_body)) ⟨f332.now, trivial⟩ (fun W_ hS => ⟨(load_box tab rfl rfl hS.1 (k := 0) rfl rfl), trivial⟩) fun a hk => ?_
            refine xd_each [8, 10] (by kernel_rfl) rfl ⟨?_, ?_, trivial⟩
            · refine xd_one hk rfl rfl ?_
              refine op_call hk ent_10 (vs := [.pointer (some ⟨bx23, 0, none⟩)]) rfl (spans_Set_Spans_calls bx23 A316 c317 t310 _ o334 52 f315 _ (f318.imp fun _ h_ => Own.rd h_) hc319 85  _ hc585) ?_
              rintro _ w656 ⟨o657, A659, c660, rfl, st658, f661, hc662⟩
              replace f315 := f315.st st658 (by decide)
              replace f318 := f318.st st658 (by decide)
              replace f332 := f332.st st658 (by decide)
              replace hs := hs.loc0 st658 (by decide)
              have hk := hk.put 79 (.slice A659 (t584).length c660) rfl
              refine ⟨.inr ⟨f332.now, trivial⟩, ?_⟩
              exact xd_to hG rfl (N678 _ _ ⟨(fun b_ => (fun l_ => if l_ = 56 then 86 else if l_ = 85 then 87 else l_) (o657 b_)), A659, c660, (by exact Kn.pick (ks := [78, 79, 80]) hk rfl), (hs.relab0 (fun l_ => if l_ = 56 then 86 else if l_ = 85 then 87 else l_) rfl), (f332.relab (fun l_ => if l_ = 56 then 86 else if l_ = 85 then 87 else l_) rfl), (f661.relab (fun l_ => if l_ = 56 then 86 else if l_ = 85 then 87 else l_) rfl), hc662⟩)
            · refine xd_one hk rfl rfl ?_
              refine op_slice (o := o334) tab hk (vs := [.agg #[.int .i64 t323.From, .int .i64 t323.To]]) (cs := [.int .i64 t323.From, .int .i64 t323.To]) rfl rfl rfl rfl rfl rfl rfl rfl rfl 89 fun bx694 w691 o692 st693 f695 => ?_
              replace f315 := f315.st st693 (by decide)
              replace f318 := f318.st st693 (by decide)
              replace f332 := f332.st st693 (by decide)
              replace hs := hs.loc0 st693 (by decide)
              have f696 : Ft (Own ET28 30 (.slice (some ⟨bx694, 0, none⟩) (([t323] : List T28)).length 1) ([t323] : List T28)) w691 o692 89 := f695.imp fun _ h_ => Own.of_box h_ rfl (by simp)
              have hk := hk.put 81 (.slice (some ⟨bx694, 0, none⟩) (([t323] : List T28)).length 1) rfl
              refine ⟨.inr ⟨f332.now, trivial⟩, ?_⟩
              exact xd_to hG rfl (N712 _ _ ⟨(fun b_ => (fun l_ => if l_ = 52 then 92 else if l_ = 55 then 91 else if l_ = 56 then 90 else if l_ = 89 then 93 else l_) (o692 b_)), (some ⟨bx694, 0, none⟩), 1, (by exact Kn.pick (ks := [6, 78, 81]) hk rfl), (hs.relab0 (fun l_ => if l_ = 52 then 92 else if l_ = 55 then 91 else if l_ = 56 then 90 else if l_ = 89 then 93 else l_) rfl), (f315.relab (fun l_ => if l_ = 52 then 92 else if l_ = 55 then 91 else if l_ = 56 then 90 else if l_ = 89 then 93 else l_) rfl), (f318.relab (fun l_ => if l_ = 52 then 92 else if l_ = 55 then 91 else if l_ = 56 then 90 else if l_ = 89 then 93 else l_) rfl), (f332.relab (fun l_ => if l_ = 52 then 92 else if l_ = 55 then 91 else if l_ = 56 then 90 else if l_ = 89 then 93 else l_) rfl), (f696.relab (fun l_ => if l_ = 52 then 92 else if l_ = 55 then 91 else if l_ = 56 then 90 else if l_ = 89 then 93 else l_) rfl), (Nat.le_refl _)⟩)
        · rw [b336] at hk H
          replace H := bifT H
          refine x_if hk (b := true) rfl ?_
          refine (show Code.wpIn _ _ _ _ _ _ _ from ?_)
          refine x_seq ?_
          refine wpIn_region_lit ?_
          refine x_run tab hk (k := 3) (lv := []) (ks := [6, 67]) (e' := [(6, .pointer (some ⟨bx23, 0, none⟩)), (67, .bool (x292 == (0 : Int)))]) rfl trivial fun a hk => ?_
          cases b729 : (x292 == (0 : Int))
          · rw [b729] at hk H
            replace H := bifF H
            refine x_run tab hk (k := 4) (lv := []) (ks := [4]) (e' := [(4, .bool false)]) rfl trivial fun a hk => ?_
            refine wpListIn_nil ?_
            refine then_n ?_
            refine wpIn_ret ?_
            refine then_r ?_
            obtain rfl := Option.some.inj H
            exact x_retG hk (rs := [.tmp 4]) (vs := [.bool false]) rfl ⟨rfl, trivial⟩ ⟨fun b_ => if b_ < w.heap.size then o b_ else (fun _ => 0) (o334 b_), rfl, hs.close0 o (fun _ => 0)⟩
          · rw [b729] at hk H
            replace H := bifT H
            refine x_op hk rfl ?_
            obtain ⟨t733, hc734, H⟩ := bindS H
            refine op_call hk ent_11 (vs := [.pointer (some ⟨bx23, 0, none⟩)]) rfl (spans_Set_Len_calls K bx23 A316 c317 t310 _ o334 52 f315 _ (f318.imp fun _ h_ => Own.rd h_) hc319   _ hc734) ?_
            rintro _ w735 ⟨o736, rfl, st737⟩
            replace f315 := f315.st st737 (by decide)
            replace f318 := f318.st st737 (by decide)
            replace hs := hs.loc0 st737 (by decide)
            have hk := hk.put 68 (.int .i64 t733) rfl
            refine x_run tab hk (k := 3) (lv := []) (ks := [4]) (e' := [(4, .bool (t733 == (0 : Int)))]) rfl trivial fun a hk => ?_
            refine wpListIn_nil ?_
            refine then_n ?_
            refine wpIn_ret ?_
            refine then_r ?_
            obtain rfl := Option.some.inj H
            exact x_retG hk (rs := [.tmp 4]) (vs := [.bool (t733 == (0 : Int))]) rfl ⟨rfl, trivial⟩ ⟨fun b_ => if b_ < w.heap.size then o b_ else (fun _ => 0) (o736 b_), rfl, hs.close0 o (fun _ => 0)⟩
      refine x_seq ?_
      refine wpIn_region_lit ?_
      refine x_op hk rfl ?_
      refine op_slice (o := o214) tab hk (vs := []) (cs := []) rfl rfl rfl rfl rfl rfl rfl rfl rfl 95 fun bx741 w738 o739 st740 f742 => ?_
      replace f206 := f206.st st740 (by decide)
      replace f218 := f218.st st740 (by decide)
      replace f24 := f24.st st740 (by decide)
      replace f5 := f5.st st740 (by decide)
      replace hs := hs.loc0 st740 (by decide)
      have f743 : Ft (Own ET28 29 (.slice (some ⟨bx741, 0, none⟩) (([] : List T28)).length 0) ([] : List T28)) w738 o739 95 := f742.imp fun _ h_ => Own.of_box h_ rfl (by simp)
      have hk := hk.put 36 (.slice (some ⟨bx741, 0, none⟩) (([] : List T28)).length 0) rfl
      refine x_run tab hk (k := 1) (lv := []) (ks := [3, 6, 8, 9, 10, 36, 37]) (e' := [(3, .pointer (some ⟨bx4, 0, none⟩)), (6, .pointer (some ⟨bx23, 0, none⟩)), (8, .slice A204 (t199).length c205), (9, .slice A216 (t211).length c217), (10, .int .i64 0), (36, .slice (some ⟨bx741, 0, none⟩) (([] : List T28)).length 0), (37, .slice A204 (t199).length c205)]) rfl trivial fun a hk => ?_
      refine x_op hk rfl ?_
      obtain ⟨q747, H⟩ := ifS H
      refine op_append (o := o739) (E := ET28) (xs := ([] : List T28)) (ys := t199) tab hk rfl rfl rfl rfl rfl rfl rfl f743 (Own.rd f206.now) q747 fun A748 c749 w744 o745 st746 f750 hc751 => ?_
      replace f206 := f206.st st746 (by decide)
      replace f218 := f218.st st746 (by decide)
      replace f24 := f24.st st746 (by decide)
      replace f5 := f5.st st746 (by decide)
      replace hs := hs.loc0 st746 (by decide)
      have hk := hk.put 38 (.slice A748 ((([] : List T28) ++ t199)).length c749) rfl
      refine x_run tab hk (k := 1) (lv := []) (ks := [3, 6, 8, 9, 10, 38, 39]) (e' := [(3, .pointer (some ⟨bx4, 0, none⟩)), (6, .pointer (some ⟨bx23, 0, none⟩)), (8, .slice A204 (t199).length c205), (9, .slice A216 (t211).length c217), (10, .int .i64 0), (38, .slice A748 ((([] : List T28) ++ t199)).length c749), (39, .slice A216 (t211).length c217)]) rfl trivial fun a hk => ?_
      refine x_op hk rfl ?_
      obtain ⟨q755, H⟩ := ifS H
      refine op_append (o := o745) (E := ET28) (xs := (([] : List T28) ++ t199)) (ys := t211) tab hk rfl rfl rfl rfl rfl rfl rfl f750 (Own.rd f218.now) q755 fun A756 c757 w752 o753 st754 f758 hc759 => ?_
      replace f206 := f206.st st754 (by decide)
      replace f218 := f218.st st754 (by decide)
      replace f24 := f24.st st754 (by decide)
      replace f5 := f5.st st754 (by decide)
      replace hs := hs.loc0 st754 (by decide)
      have hk := hk.put 40 (.slice A756 (((([] : List T28) ++ t199) ++ t211)).length c757) rfl
      refine x_run tab hk (k := 2) (lv := []) (ks := [3, 6, 8, 9, 10, 40, 41, 42]) (e' := [(3, .pointer (some ⟨bx4, 0, none⟩)), (6, .pointer (some ⟨bx23, 0, none⟩)), (8, .slice A204 (t199).length c205), (9, .slice A216 (t211).length c217), (10, .int .i64 0), (40, .slice A756 (((([] : List T28) ++ t199) ++ t211)).length c757), (41, .int .i64 ((((([] : List T28) ++ t199) ++ t211)).length : Int)), (42, .int .i64 0)]) rfl trivial fun a hk => ?_
      refine wpListIn_nil ?_
      refine then_n ?_
      refine wpIn_block ?_
      refine x_loop (fun j_ a_ w_ => ∃ o774 : Nat → Nat, ∃ x775 : Int, ∃ x776 : Int, Kn 84 a_ [(3, .pointer (some ⟨bx4, 0, none⟩)), (6, .pointer (some ⟨bx23, 0, none⟩)), (8, .slice A204 (t199).length c205), (9, .slice A216 (t211).length c217), (10, .int .i64 x775), (40, .slice A756 (((([] : List T28) ++ t199) ++ t211)).length c757), (41, .int .i64 ((((([] : List T28) ++ t199) ++ t211)).length : Int)), (42, .int .i64 x776)] ∧ St [] w (fun _ => 0) w_ o774 ∧ Ft (Own ET28 29 (.slice A204 (t199).length c205) t199) w_ o774 104 ∧ Ft (Own ET28 29 (.slice A216 (t211).length c217) t211) w_ o774 105 ∧ Ft (Bx bx23 26 [.slice none 0 0]) w_ o774 103 ∧ Ft (Bx bx4 30 [.int .i64 p1.From, .int .i64 p1.To]) w_ o774 102 ∧ Ft (Own ET28 29 (.slice A756 (((([] : List T28) ++ t199) ++ t211)).length c757) ((([] : List T28) ++ t199) ++ t211)) w_ o774 106 ∧ tidewracklaw13_SpansAll_l4 K p1 t199 t211 j_ x775 x776 = some r) (k := K) ⟨(fun b_ => (fun l_ => if l_ = 27 then 102 else if l_ = 30 then 103 else if l_ = 35 then 104 else if l_ = 36 then 105 else if l_ = 95 then 106 else l_) (o753 b_)), 0, 0, (by exact Kn.pick (ks := [3, 6, 8, 9, 10, 40, 41, 42]) hk rfl), (hs.relab0 (fun l_ => if l_ = 27 then 102 else if l_ = 30 then 103 else if l_ = 35 then 104 else if l_ = 36 then 105 else if l_ = 95 then 106 else l_) rfl), (f206.relab (fun l_ => if l_ = 27 then 102 else if l_ = 30 then 103 else if l_ = 35 then 104 else if l_ = 36 then 105 else if l_ = 95 then 106 else l_) rfl), (f218.relab (fun l_ => if l_ = 27 then 102 else if l_ = 30 then 103 else if l_ = 35 then 104 else if l_ = 36 then 105 else if l_ = 95 then 106 else l_) rfl), (f24.relab (fun l_ => if l_ = 27 then 102 else if l_ = 30 then 103 else if l_ = 35 then 104 else if l_ = 36 then 105 else if l_ = 95 then 106 else l_) rfl), (f5.relab (fun l_ => if l_ = 27 then 102 else if l_ = 30 then 103 else if l_ = 35 then 104 else if l_ = 36 then 105 else if l_ = 95 then 106 else l_) rfl), (f758.relab (fun l_ => if l_ = 27 then 102 else if l_ = 30 then 103 else if l_ = 35 then 104 else if l_ = 36 then 105 else if l_ = 95 then 106 else l_) rfl), H⟩ (by rintro _ _ ⟨_, _, _, _, _, _, _, _, _, _, H_⟩; exact absurd (show (none : Option Bool) = some r from H_) (by simp)) ?_
      rintro k789 a w788 ⟨o774, x775, x776, hk, hs, f206, f218, f24, f5, f758, H⟩
      rw [tidewracklaw13_SpansAll_l4] at H
      obtain ⟨lp790, hlp791⟩ : ∃ lp_, lp_ = tidewracklaw13_SpansAll_l4 K p1 t199 t211 k789 := ⟨_, rfl⟩
      rw [← hlp791] at H
      refine x_seq ?_
      refine wpIn_region_lit ?_
      refine x_run tab hk (k := 1) (lv := []) (ks := [3, 6, 8, 9, 10, 40, 41, 42, 43]) (e' := [(3, .pointer (some ⟨bx4, 0, none⟩)), (6, .pointer (some ⟨bx23, 0, none⟩)), (8, .slice A204 (t199).length c205), (9, .slice A216 (t211).length c217), (10, .int .i64 x775), (40, .slice A756 (((([] : List T28) ++ t199) ++ t211)).length c757), (41, .int .i64 ((((([] : List T28) ++ t199) ++ t211)).length : Int)), (42, .int .i64 x776), (43, .bool (decide (x776 < ((((([] : List T28) ++ t199) ++ t211)).length : Int))))]) rfl trivial fun a hk => ?_
      refine wpListIn_nil ?_
      refine then_n ?_
      refine x_seq ?_
      cases b792 : (decide (x776 < ((((([] : List T28) ++ t199) ++ t211)).length : Int)))
      · rw [b792] at hk H
        replace H := bifF H
        refine x_if hk (b := false) rfl ?_
        refine (show Code.wpIn _ _ _ _ _ _ _ from ?_)
        refine wpIn_exit ?_
        refine then_x ?_
        refine then_x ?_
        refine blk_x ?_
        refine then_n ?_
        exact ⟨(fun b_ => (fun l_ => if l_ = 102 then 51 else if l_ = 103 then 52 else if l_ = 104 then 53 else if l_ = 105 then 54 else l_) (o774 b_)), x775, (by exact Kn.pick (ks := [3, 6, 8, 9, 10]) hk rfl), (hs.relab0 (fun l_ => if l_ = 102 then 51 else if l_ = 103 then 52 else if l_ = 104 then 53 else if l_ = 105 then 54 else l_) rfl), (f206.relab (fun l_ => if l_ = 102 then 51 else if l_ = 103 then 52 else if l_ = 104 then 53 else if l_ = 105 then 54 else l_) rfl), (f218.relab (fun l_ => if l_ = 102 then 51 else if l_ = 103 then 52 else if l_ = 104 then 53 else if l_ = 105 then 54 else l_) rfl), (f24.relab (fun l_ => if l_ = 102 then 51 else if l_ = 103 then 52 else if l_ = 104 then 53 else if l_ = 105 then 54 else l_) rfl), (f5.relab (fun l_ => if l_ = 102 then 51 else if l_ = 103 then 52 else if l_ = 104 then 53 else if l_ = 105 then 54 else l_) rfl), H⟩
      · rw [b792] at hk H
        replace H := bifT H
        refine x_if hk (b := true) rfl ?_
        refine (show Code.wpIn _ _ _ _ _ _ _ from ?_)
        refine wpIn_skip ?_
        refine then_n ?_
        refine x_seq ?_
        refine wpIn_block ?_
        refine x_seq ?_
        refine wpIn_region_lit ?_
        obtain ⟨q793, H⟩ := ifS H
        obtain ⟨ad794, hAad794⟩ := RdC.addr (Own.rd f758.now) q793
        have hk_C := hk
        have f206_C := f206
        have f218_C := f218
        have f24_C := f24
        have f5_C := f5
        have f758_C := f758
        subst hAad794
        have hk := hk_C
        clear hk_C
        have f206 := f206_C
        clear f206_C
        have f218 := f218_C
        clear f218_C
        have f24 := f24_C
        clear f24_C
        have f5 := f5_C
        clear f5_C
        have f758 := f758_C
        clear f758_C
        refine x_run tab hk (k := 2) (lv := [.agg #[.int .i64 ((rdD zT28 ((([] : List T28) ++ t199) ++ t211) x776).From), .int .i64 ((rdD zT28 ((([] : List T28) ++ t199) ++ t211) x776).To)]]) (ks := [3, 6, 8, 9, 10, 40, 41, 42, 45]) (e' := [(3, .pointer (some ⟨bx4, 0, none⟩)), (6, .pointer (some ⟨bx23, 0, none⟩)), (8, .slice A204 (t199).length c205), (9, .slice A216 (t211).length c217), (10, .int .i64 x775), (40, .slice (some ad794) (((([] : List T28) ++ t199) ++ t211)).length c757), (41, .int .i64 ((((([] : List T28) ++ t199) ++ t211)).length : Int)), (42, .int .i64 x776), (45, .agg #[.int .i64 ((rdD zT28 ((([] : List T28) ++ t199) ++ t211) x776).From), .int .i64 ((rdD zT28 ((([] : List T28) ++ t199) ++ t211) x776).To)])]) rfl ⟨q793, (load_elem (E := ET28) (i := x776) (dx := zT28) tab rfl rfl (Own.rd f758.now) q793), trivial⟩ fun a hk => ?_
        refine x_op hk rfl ?_
        refine op_alloc (o := o774) tab (t := 29) (cs := [.int .i64 0, .int .i64 0]) rfl rfl 108 fun bx798 w795 o796 st797 f799 => ?_
        replace f206 := f206.st st797 (by decide)
        replace f218 := f218.st st797 (by decide)
        replace f24 := f24.st st797 (by decide)
        replace f5 := f5.st st797 (by decide)
        replace f758 := f758.st st797 (by decide)
        replace hs := hs.loc0 st797 (by decide)
        have hk := hk.put 12 (.pointer (some ⟨bx798, 0, none⟩)) rfl
        refine x_op hk rfl ?_
        refine op_store tab hk (t := 29) (v := .agg #[.int .i64 ((rdD zT28 ((([] : List T28) ++ t199) ++ t211) x776).From), .int .i64 ((rdD zT28 ((([] : List T28) ++ t199) ++ t211) x776).To)]) (b := bx798) (k := 0) (cs' := [.int .i64 ((rdD zT28 ((([] : List T28) ++ t199) ++ t211) x776).From), .int .i64 ((rdD zT28 ((([] : List T28) ++ t199) ++ t211) x776).To)]) rfl rfl rfl rfl rfl rfl f799 rfl rfl fun w800 o801 st802 f799_ => ?_
        replace f206 := f206.st st802 (by decide)
        replace f218 := f218.st st802 (by decide)
        replace f24 := f24.st st802 (by decide)
        replace f5 := f5.st st802 (by decide)
        replace f758 := f758.st st802 (by decide)
        replace hs := hs.loc0 st802 (by decide)
        replace f799 := f799_
        refine wpListIn_nil ?_
        refine then_n ?_
        refine wpIn_region_lit ?_
        refine x_run tab hk (k := 8) (lv := [.int .i64 ((rdD zT28 ((([] : List T28) ++ t199) ++ t211) x776).To), .int .i64 ((rdD zT28 ((([] : List T28) ++ t199) ++ t211) x776).From)]) (ks := [3, 6, 8, 9, 10, 40, 41, 42]) (e' := [(3, .pointer (some ⟨bx4, 0, none⟩)), (6, .pointer (some ⟨bx23, 0, none⟩)), (8, .slice A204 (t199).length c205), (9, .slice A216 (t211).length c217), (10, .int .i64 (IntKind.wrap .i64 (x775 + (IntKind.wrap .i64 (((rdD zT28 ((([] : List T28) ++ t199) ++ t211) x776).To) - ((rdD zT28 ((([] : List T28) ++ t199) ++ t211) x776).From)))))), (40, .slice (some ad794) (((([] : List T28) ++ t199) ++ t211)).length c757), (41, .int .i64 ((((([] : List T28) ++ t199) ++ t211)).length : Int)), (42, .int .i64 x776)]) rfl ⟨(load1 tab rfl ((Bx.cell f799.now 1).trans rfl)), (load1 tab rfl ((Bx.cell f799.now 0).trans rfl)), trivial⟩ fun a hk => ?_
        refine wpListIn_nil ?_
        refine blk_n ?_
        refine then_n ?_
        refine wpIn_region_lit ?_
        refine x_run tab hk (k := 2) (lv := []) (ks := [3, 6, 8, 9, 10, 40, 41, 42]) (e' := [(3, .pointer (some ⟨bx4, 0, none⟩)), (6, .pointer (some ⟨bx23, 0, none⟩)), (8, .slice A204 (t199).length c205), (9, .slice A216 (t211).length c217), (10, .int .i64 (IntKind.wrap .i64 (x775 + (IntKind.wrap .i64 (((rdD zT28 ((([] : List T28) ++ t199) ++ t211) x776).To) - ((rdD zT28 ((([] : List T28) ++ t199) ++ t211) x776).From)))))), (40, .slice (some ad794) (((([] : List T28) ++ t199) ++ t211)).length c757), (41, .int .i64 ((((([] : List T28) ++ t199) ++ t211)).length : Int)), (42, .int .i64 (IntKind.wrap .i64 (x776 + 1)))]) rfl trivial fun a hk => ?_
        refine wpListIn_nil ?_
        refine then_n ?_
        exact ⟨k789, Nat.le_refl _, o801, (IntKind.wrap .i64 (x775 + (IntKind.wrap .i64 (((rdD zT28 ((([] : List T28) ++ t199) ++ t211) x776).To) - ((rdD zT28 ((([] : List T28) ++ t199) ++ t211) x776).From))))), (IntKind.wrap .i64 (x776 + 1)), (by exact Kn.pick (ks := [3, 6, 8, 9, 10, 40, 41, 42]) hk rfl), hs, f206, f218, f24, f5, f758, (hlp791 ▸ H)⟩
    refine x_seq ?_
    refine wpIn_region_lit ?_
    refine x_run tab hk (k := 1) (lv := []) (ks := [0, 3, 5, 6, 7]) (e' := [(0, .slice Ap0 (p0).length cp0), (3, .pointer (some ⟨bx4, 0, none⟩)), (5, .pointer (some ⟨bx18, 0, none⟩)), (6, .pointer (some ⟨bx23, 0, none⟩)), (7, .int .i64 0)]) rfl trivial fun a hk => ?_
    refine wpListIn_nil ?_
    refine then_n ?_
    refine wpIn_block ?_
    refine x_loop (fun j_ a_ w_ => ∃ o836 : Nat → Nat, ∃ A837 : Option Addr, ∃ c838 : Nat, ∃ l839 : List T28, ∃ x842 : Int, Kn 84 a_ [(0, .slice Ap0 (p0).length cp0), (3, .pointer (some ⟨bx4, 0, none⟩)), (5, .pointer (some ⟨bx18, 0, none⟩)), (6, .pointer (some ⟨bx23, 0, none⟩)), (7, .int .i64 x842)] ∧ St [] w (fun _ => 0) w_ o836 ∧ Ft (Bx bx18 26 [.slice A837 (l839).length c838]) w_ o836 119 ∧ Ft (Bx bx23 26 [.slice none 0 0]) w_ o836 120 ∧ Ft (Bx bx4 30 [.int .i64 p1.From, .int .i64 p1.To]) w_ o836 117 ∧ Ft (Own ET28 29 (.slice A837 (l839).length c838) l839) w_ o836 118 ∧ Ft (RdC ET28 Ap0 p0) w_ o836 0 ∧ (l839).length ≤ c838 ∧ tidewracklaw13_SpansAll_l5 K p0 p1 j_ l839 x842 = some r) (k := K) ⟨(fun b_ => (fun l_ => if l_ = 1 then 117 else if l_ = 2 then 119 else if l_ = 3 then 120 else l_) (o21 b_)), none, 0, ([] : List T28), 0, (by exact Kn.pick (ks := [0, 3, 5, 6, 7]) hk rfl), (hs.relab0 (fun l_ => if l_ = 1 then 117 else if l_ = 2 then 119 else if l_ = 3 then 120 else l_) rfl), (f19.relab (fun l_ => if l_ = 1 then 117 else if l_ = 2 then 119 else if l_ = 3 then 120 else l_) rfl), (f24.relab (fun l_ => if l_ = 1 then 117 else if l_ = 2 then 119 else if l_ = 3 then 120 else l_) rfl), (f5.relab (fun l_ => if l_ = 1 then 117 else if l_ = 2 then 119 else if l_ = 3 then 120 else l_) rfl), (Ft.of_all (fun _ => Own.nil _ _ _) _ _ _), (f900000.relab (fun l_ => if l_ = 1 then 117 else if l_ = 2 then 119 else if l_ = 3 then 120 else l_) rfl), (by simp), H⟩ (by rintro _ _ ⟨_, _, _, _, _, _, _, _, _, _, _, _, _, H_⟩; exact absurd (show (none : Option Bool) = some r from H_) (by simp)) ?_
    rintro k874 a w873 ⟨o836, A837, c838, l839, x842, hk, hs, f19, f24, f5, f840, f900000, hc841, H⟩
    rw [tidewracklaw13_SpansAll_l5] at H
    obtain ⟨lp875, hlp876⟩ : ∃ lp_, lp_ = tidewracklaw13_SpansAll_l5 K p0 p1 k874 := ⟨_, rfl⟩
    rw [← hlp876] at H
    refine x_mid (fun a_ w_ => ∃ o882 : Nat → Nat, Kn 84 a_ [(0, .slice Ap0 (p0).length cp0), (3, .pointer (some ⟨bx4, 0, none⟩)), (5, .pointer (some ⟨bx18, 0, none⟩)), (6, .pointer (some ⟨bx23, 0, none⟩)), (7, .int .i64 x842)] ∧ St [] w (fun _ => 0) w_ o882 ∧ Ft (Bx bx18 26 [.slice A837 (l839).length c838]) w_ o882 128 ∧ Ft (Bx bx23 26 [.slice none 0 0]) w_ o882 129 ∧ Ft (Bx bx4 30 [.int .i64 p1.From, .int .i64 p1.To]) w_ o882 126 ∧ Ft (Own ET28 29 (.slice A837 (l839).length c838) l839) w_ o882 127 ∧ Ft (RdC ET28 Ap0 p0) w_ o882 0 ∧ tidewracklaw13_SpansAll_j6 K p0 l839 x842 lp875 = some r) ?_ ?_
    rotate_left
    · rintro a w883 ⟨o882, hk, hs, f19, f24, f5, f840, f900000, H⟩
      rw [tidewracklaw13_SpansAll_j6] at H
      refine x_seq ?_
      refine wpIn_block ?_
      refine wpIn_region_lit ?_
      obtain ⟨q884, H⟩ := ifS H
      obtain ⟨ad885, hAad885⟩ := RdC.addr f900000.now q884
      have hk_C := hk
      have f19_C := f19
      have f24_C := f24
      have f5_C := f5
      have f840_C := f840
      have f900000_C := f900000
      subst hAad885
      have hk := hk_C
      clear hk_C
      have f19 := f19_C
      clear f19_C
      have f24 := f24_C
      clear f24_C
      have f5 := f5_C
      clear f5_C
      have f840 := f840_C
      clear f840_C
      have f900000 := f900000_C
      clear f900000_C
      refine x_run tab hk (k := 4) (lv := [.agg #[.int .i64 ((rdD zT28 p0 x842).From), .int .i64 ((rdD zT28 p0 x842).To)]]) (ks := [0, 3, 5, 6, 7, 29]) (e' := [(0, .slice (some ad885) (p0).length cp0), (3, .pointer (some ⟨bx4, 0, none⟩)), (5, .pointer (some ⟨bx18, 0, none⟩)), (6, .pointer (some ⟨bx23, 0, none⟩)), (7, .int .i64 x842), (29, .agg #[.int .i64 ((rdD zT28 p0 x842).From), .int .i64 ((rdD zT28 p0 x842).To)])]) rfl ⟨q884, (load_elem (E := ET28) (i := x842) (dx := zT28) tab rfl rfl f900000.now q884), trivial⟩ fun a hk => ?_
      refine x_op hk rfl ?_
      refine op_slice (o := o882) tab hk (vs := [.agg #[.int .i64 ((rdD zT28 p0 x842).From), .int .i64 ((rdD zT28 p0 x842).To)]]) (cs := [.int .i64 ((rdD zT28 p0 x842).From), .int .i64 ((rdD zT28 p0 x842).To)]) rfl rfl rfl rfl rfl rfl rfl rfl rfl 130 fun bx889 w886 o887 st888 f890 => ?_
      replace f19 := f19.st st888 (by decide)
      replace f24 := f24.st st888 (by decide)
      replace f5 := f5.st st888 (by decide)
      replace f840 := f840.st st888 (by decide)
      replace f900000 := f900000.st st888 (by decide)
      replace hs := hs.loc0 st888 (by decide)
      have f891 : Ft (Own ET28 29 (.slice (some ⟨bx889, 0, none⟩) (([(rdD zT28 p0 x842)] : List T28)).length 1) ([(rdD zT28 p0 x842)] : List T28)) w886 o887 130 := f890.imp fun _ h_ => Own.of_box h_ rfl (by simp)
      have hk := hk.put 30 (.slice (some ⟨bx889, 0, none⟩) (([(rdD zT28 p0 x842)] : List T28)).length 1) rfl
      refine x_op hk rfl ?_
      obtain ⟨t895, hc896, H⟩ := bindS H
      refine op_call hk ent_9 (vs := [.pointer (some ⟨bx18, 0, none⟩), .slice (some ⟨bx889, 0, none⟩) (([(rdD zT28 p0 x842)] : List T28)).length 1]) rfl (spans_Set_Add_calls K bx18 A837 c838 (⟨l839⟩ : T25) (some ⟨bx889, 0, none⟩) 1 ([(rdD zT28 p0 x842)] : List T28) _ o887 128 f19 127 f840 hc841 _ (f891.imp fun _ h_ => Own.rd h_) (Nat.le_refl _) (by decide) (by decide)   _ hc896) ?_
      rintro _ w897 ⟨o898, A901, c902, rfl, st899, f900, f903, hc904⟩
      replace f24 := f24.st st899 (by decide)
      replace f5 := f5.st st899 (by decide)
      replace f891 := f891.st st899 (by decide)
      replace f900000 := f900000.st st899 (by decide)
      replace hs := hs.loc0 st899 (by decide)
      have hk := hk.put 31 (.tuple #[]) rfl
      refine wpListIn_nil ?_
      refine blk_n ?_
      refine then_n ?_
      refine wpIn_region_lit ?_
      refine x_run tab hk (k := 3) (lv := []) (ks := [0, 3, 5, 6, 7]) (e' := [(0, .slice (some ad885) (p0).length cp0), (3, .pointer (some ⟨bx4, 0, none⟩)), (5, .pointer (some ⟨bx18, 0, none⟩)), (6, .pointer (some ⟨bx23, 0, none⟩)), (7, .int .i64 (IntKind.wrap .i64 (x842 + 1)))]) rfl trivial fun a hk => ?_
      refine wpListIn_nil ?_
      refine then_n ?_
      exact ⟨k874, Nat.le_refl _, (fun b_ => (fun l_ => if l_ = 126 then 117 else if l_ = 127 then 118 else if l_ = 128 then 119 else if l_ = 129 then 120 else l_) (o898 b_)), A901, c902, t895.l, (IntKind.wrap .i64 (x842 + 1)), (by exact Kn.pick (ks := [0, 3, 5, 6, 7]) hk rfl), (hs.relab0 (fun l_ => if l_ = 126 then 117 else if l_ = 127 then 118 else if l_ = 128 then 119 else if l_ = 129 then 120 else l_) rfl), (f900.relab (fun l_ => if l_ = 126 then 117 else if l_ = 127 then 118 else if l_ = 128 then 119 else if l_ = 129 then 120 else l_) rfl), (f24.relab (fun l_ => if l_ = 126 then 117 else if l_ = 127 then 118 else if l_ = 128 then 119 else if l_ = 129 then 120 else l_) rfl), (f5.relab (fun l_ => if l_ = 126 then 117 else if l_ = 127 then 118 else if l_ = 128 then 119 else if l_ = 129 then 120 else l_) rfl), (f903.relab (fun l_ => if l_ = 126 then 117 else if l_ = 127 then 118 else if l_ = 128 then 119 else if l_ = 129 then 120 else l_) rfl), (f900000.relab (fun l_ => if l_ = 126 then 117 else if l_ = 127 then 118 else if l_ = 128 then 119 else if l_ = 129 then 120 else l_) rfl), hc904, (hlp876 ▸ H)⟩
    refine x_seq ?_
    refine wpIn_region_lit ?_
    refine x_run tab hk (k := 5) (lv := []) (ks := [0, 3, 5, 6, 7, 20]) (e' := [(0, .slice Ap0 (p0).length cp0), (3, .pointer (some ⟨bx4, 0, none⟩)), (5, .pointer (some ⟨bx18, 0, none⟩)), (6, .pointer (some ⟨bx23, 0, none⟩)), (7, .int .i64 x842), (20, .bool (decide (x842 < ((p0).length : Int))))]) rfl trivial fun a hk => ?_
    cases b905 : (decide (x842 < ((p0).length : Int)))
    · rw [b905] at hk H
      replace H := bifF H
      refine x_run tab hk (k := 3) (lv := []) (ks := [0, 3, 5, 6, 7, 23]) (e' := [(0, .slice Ap0 (p0).length cp0), (3, .pointer (some ⟨bx4, 0, none⟩)), (5, .pointer (some ⟨bx18, 0, none⟩)), (6, .pointer (some ⟨bx23, 0, none⟩)), (7, .int .i64 x842), (23, .bool false)]) rfl trivial fun a hk => ?_
      refine wpListIn_nil ?_
      refine then_n ?_
      refine x_if hk (b := false) rfl ?_
      refine (show Code.wpIn _ _ _ _ _ _ _ from ?_)
      refine wpIn_exit ?_
      refine then_x ?_
      refine then_x ?_
      refine blk_x ?_
      refine then_n ?_
      exact ⟨(fun b_ => (fun l_ => if l_ = 117 then 27 else if l_ = 118 then 28 else if l_ = 119 then 29 else if l_ = 120 then 30 else l_) (o836 b_)), A837, c838, l839, (by exact Kn.pick (ks := [3, 5, 6]) hk rfl), (hs.relab0 (fun l_ => if l_ = 117 then 27 else if l_ = 118 then 28 else if l_ = 119 then 29 else if l_ = 120 then 30 else l_) rfl), (f840.relab (fun l_ => if l_ = 117 then 27 else if l_ = 118 then 28 else if l_ = 119 then 29 else if l_ = 120 then 30 else l_) rfl), (f19.relab (fun l_ => if l_ = 117 then 27 else if l_ = 118 then 28 else if l_ = 119 then 29 else if l_ = 120 then 30 else l_) rfl), (f24.relab (fun l_ => if l_ = 117 then 27 else if l_ = 118 then 28 else if l_ = 119 then 29 else if l_ = 120 then 30 else l_) rfl), (f5.relab (fun l_ => if l_ = 117 then 27 else if l_ = 118 then 28 else if l_ = 119 then 29 else if l_ = 120 then 30 else l_) rfl), hc841, H⟩
    · rw [b905] at hk H
      replace H := bifT H
      refine x_run tab hk (k := 3) (lv := []) (ks := [0, 3, 5, 6, 7, 23]) (e' := [(0, .slice Ap0 (p0).length cp0), (3, .pointer (some ⟨bx4, 0, none⟩)), (5, .pointer (some ⟨bx18, 0, none⟩)), (6, .pointer (some ⟨bx23, 0, none⟩)), (7, .int .i64 x842), (23, .bool (decide (x842 < (20 : Int))))]) rfl trivial fun a hk => ?_
      refine wpListIn_nil ?_
      refine then_n ?_
      cases b906 : (decide (x842 < (20 : Int)))
      · rw [b906] at hk H
        replace H := bifF H
        refine x_if hk (b := false) rfl ?_
        refine (show Code.wpIn _ _ _ _ _ _ _ from ?_)
        refine wpIn_exit ?_
        refine then_x ?_
        refine then_x ?_
        refine blk_x ?_
        refine then_n ?_
        exact ⟨(fun b_ => (fun l_ => if l_ = 117 then 27 else if l_ = 118 then 28 else if l_ = 119 then 29 else if l_ = 120 then 30 else l_) (o836 b_)), A837, c838, l839, (by exact Kn.pick (ks := [3, 5, 6]) hk rfl), (hs.relab0 (fun l_ => if l_ = 117 then 27 else if l_ = 118 then 28 else if l_ = 119 then 29 else if l_ = 120 then 30 else l_) rfl), (f840.relab (fun l_ => if l_ = 117 then 27 else if l_ = 118 then 28 else if l_ = 119 then 29 else if l_ = 120 then 30 else l_) rfl), (f19.relab (fun l_ => if l_ = 117 then 27 else if l_ = 118 then 28 else if l_ = 119 then 29 else if l_ = 120 then 30 else l_) rfl), (f24.relab (fun l_ => if l_ = 117 then 27 else if l_ = 118 then 28 else if l_ = 119 then 29 else if l_ = 120 then 30 else l_) rfl), (f5.relab (fun l_ => if l_ = 117 then 27 else if l_ = 118 then 28 else if l_ = 119 then 29 else if l_ = 120 then 30 else l_) rfl), hc841, H⟩
      · rw [b906] at hk H
        replace H := bifT H
        refine x_if hk (b := true) rfl ?_
        refine (show Code.wpIn _ _ _ _ _ _ _ from ?_)
        refine wpIn_skip ?_
        refine then_n ?_
        exact ⟨(fun b_ => (fun l_ => if l_ = 117 then 126 else if l_ = 118 then 127 else if l_ = 119 then 128 else if l_ = 120 then 129 else l_) (o836 b_)), (by exact Kn.pick (ks := [0, 3, 5, 6, 7]) hk rfl), (hs.relab0 (fun l_ => if l_ = 117 then 126 else if l_ = 118 then 127 else if l_ = 119 then 128 else if l_ = 120 then 129 else l_) rfl), (f19.relab (fun l_ => if l_ = 117 then 126 else if l_ = 118 then 127 else if l_ = 119 then 128 else if l_ = 120 then 129 else l_) rfl), (f24.relab (fun l_ => if l_ = 117 then 126 else if l_ = 118 then 127 else if l_ = 119 then 128 else if l_ = 120 then 129 else l_) rfl), (f5.relab (fun l_ => if l_ = 117 then 126 else if l_ = 118 then 127 else if l_ = 119 then 128 else if l_ = 120 then 129 else l_) rfl), (f840.relab (fun l_ => if l_ = 117 then 126 else if l_ = 118 then 127 else if l_ = 119 then 128 else if l_ = 120 then 129 else l_) rfl), (f900000.relab (fun l_ => if l_ = 117 then 126 else if l_ = 118 then 127 else if l_ = 119 then 128 else if l_ = 120 then 129 else l_) rfl), H⟩
  · rw [b14] at hk H
    replace H := bifT H
    refine x_if hk (b := true) rfl ?_
    refine (show Code.wpIn _ _ _ _ _ _ _ from ?_)
    refine x_seq ?_
    refine wpIn_region_lit ?_
    refine x_run tab hk (k := 1) (lv := []) (ks := [4]) (e' := [(4, .bool false)]) rfl trivial fun a hk => ?_
    refine wpListIn_nil ?_
    refine then_n ?_
    refine wpIn_ret ?_
    refine then_r ?_
    obtain rfl := Option.some.inj H
    exact x_retG hk (rs := [.tmp 4]) (vs := [.bool false]) rfl ⟨rfl, trivial⟩ ⟨fun b_ => if b_ < w.heap.size then o b_ else (fun _ => 0) (o12 b_), rfl, hs.close0 o (fun _ => 0)⟩

/-! (*tidewrack/spans.Set).Clone -/
theorem spans_Set_Clone_calls (bp0 : Nat) (Ap0_0 : Option Addr) (cp0_0 : Nat) (p0 : T25) (w : World) (o : Nat → Nat) (Lp0 : Nat) (hp0 : Ft (Bx bp0 26 [.slice Ap0_0 (p0.l).length cp0_0]) w o Lp0) (Lp0_0 : Nat) (hp0_0 : Ft (RdC ET28 Ap0_0 p0.l) w o Lp0_0) (hcp0_0 : (p0.l).length ≤ cp0_0)  (R0 : Nat) (R1 : Nat) (r : T25) (H : spans_Set_Clone p0 = some r) :
    Calls Try.prog 18 #[.pointer (some ⟨bp0, 0, none⟩)] w (Ret fun v_ w' => ∃ o' : Nat → Nat, ∃ b0 : Nat, ∃ A0 : Option Addr, ∃ c0 : Nat, v_ = .pointer (some ⟨b0, 0, none⟩) ∧ St [] w o w' o' ∧ Ft (Bx b0 26 [.slice A0 (r.l).length c0]) w' o' R0 ∧ Ft (Own ET28 29 (.slice A0 (r.l).length c0) (r.l)) w' o' R1 ∧ (r.l).length ≤ c0) := by
  refine x_enter (vs := [.pointer (some ⟨bp0, 0, none⟩)]) Try.func18 rfl rfl rfl fun a hk => ?_
  obtain ⟨o0, hs, h0⟩ := St.start w o
  have f900000 := h0 _ _ hp0_0
  have f900019 := h0 _ _ hp0
  clear h0
  rw [spans_Set_Clone] at H
  refine x_seq ?_
  refine wpIn_region_lit ?_
  refine x_run tab hk (k := 1) (lv := []) (ks := [0]) (e' := [(0, .pointer (some ⟨bp0, 0, none⟩))]) rfl trivial fun a hk => ?_
  refine wpListIn_nil ?_
  refine then_n ?_
  refine x_seq ?_
  refine wpIn_region_lit ?_
  refine x_run tab hk (k := 4) (lv := [.slice Ap0_0 (p0.l).length cp0_0]) (ks := [6]) (e' := [(6, .slice Ap0_0 (p0.l).length cp0_0)]) rfl ⟨(load1 tab rfl ((Bx.cell f900019.now 0).trans rfl)), trivial⟩ fun a hk => ?_
  refine x_op hk rfl ?_
  obtain ⟨t4, hc5, H⟩ := bindS H
  refine op_call hk ent_27 (vs := [.slice Ap0_0 (p0.l).length cp0_0]) rfl (slices_Clone_calls Ap0_0 cp0_0 p0.l _ o0 _ f900000 hcp0_0 1  _ hc5) ?_
  rintro _ w6 ⟨o7, A9, c10, rfl, st8, f11, hc12⟩
  replace f900000 := f900000.st st8 (by decide)
  replace f900019 := f900019.st st8 (by decide)
  replace hs := hs.loc0 st8 (by decide)
  have hk := hk.put 7 (.slice A9 (t4).length c10) rfl
  refine x_run tab hk (k := 1) (lv := []) (ks := [8]) (e' := [(8, .agg #[.slice A9 (t4).length c10])]) rfl trivial fun a hk => ?_
  refine x_op hk rfl ?_
  refine op_box (o := o7) (t := 26) (v := .agg #[.slice A9 (t4).length c10]) (cs := [.slice A9 (t4).length c10]) hk rfl rfl 2 fun bx16 w13 o14 st15 f17 => ?_
  replace f11 := f11.st st15 (by decide)
  replace f900000 := f900000.st st15 (by decide)
  replace f900019 := f900019.st st15 (by decide)
  replace hs := hs.loc0 st15 (by decide)
  have hk := hk.put 9 (.pointer (some ⟨bx16, 0, none⟩)) rfl
  refine x_run tab hk (k := 1) (lv := []) (ks := [2]) (e' := [(2, .pointer (some ⟨bx16, 0, none⟩))]) rfl trivial fun a hk => ?_
  refine wpListIn_nil ?_
  refine then_n ?_
  refine wpIn_ret ?_
  obtain rfl := Option.some.inj H
  exact x_retG hk (rs := [.tmp 2]) (vs := [.pointer (some ⟨bx16, 0, none⟩)]) rfl ⟨rfl, trivial⟩ ⟨fun b_ => if b_ < w.heap.size then o b_ else (fun l_ => if l_ = 1 then R1 else if l_ = 2 then R0 else 0) (o14 b_), bx16, A9, c10, rfl, hs.close0 o (fun l_ => if l_ = 1 then R1 else if l_ = 2 then R0 else 0), hs.close_ft (o := o) (ρ := fun l_ => if l_ = 1 then R1 else if l_ = 2 then R0 else 0) f17 (by decide) rfl, hs.close_ft (o := o) (ρ := fun l_ => if l_ = 1 then R1 else if l_ = 2 then R0 else 0) f11 (by decide) rfl, hc12⟩

/-! tidewrack/tidewrackref13.one -/
theorem tidewrackref13_one_calls (p0 : T28) (w : World) (o : Nat → Nat)   (R0 : Nat) (r : List T28) (H : tidewrackref13_one p0 = some r) :
    Calls Try.prog 34 #[.agg #[.int .i64 p0.From, .int .i64 p0.To]] w (Ret fun v_ w' => ∃ o' : Nat → Nat, ∃ A0 : Option Addr, ∃ c0 : Nat, v_ = .slice A0 (r).length c0 ∧ St [] w o w' o' ∧ Ft (Own ET28 30 (.slice A0 (r).length c0) (r)) w' o' R0 ∧ (r).length ≤ c0) := by
  refine x_enter (vs := [.agg #[.int .i64 p0.From, .int .i64 p0.To]]) Try.func34 rfl rfl rfl fun a hk => ?_
  obtain ⟨o0, hs, h0⟩ := St.start w o
  clear h0
  rw [tidewrackref13_one] at H
  refine x_seq ?_
  refine wpIn_region_lit ?_
  refine x_op hk rfl ?_
  refine op_box (o := o0) (t := 30) (v := .agg #[.int .i64 p0.From, .int .i64 p0.To]) (cs := [.int .i64 p0.From, .int .i64 p0.To]) hk rfl rfl 1 fun bx4 w1 o2 st3 f5 => ?_
  replace hs := hs.loc0 st3 (by decide)
  have hk := hk.put 1 (.pointer (some ⟨bx4, 0, none⟩)) rfl
  refine x_run tab hk (k := 1) (lv := []) (ks := [1]) (e' := [(1, .pointer (some ⟨bx4, 0, none⟩))]) rfl trivial fun a hk => ?_
  refine wpListIn_nil ?_
  refine then_n ?_
  refine x_seq ?_
  refine wpIn_region_lit ?_
  refine x_run tab hk (k := 1) (lv := [.agg #[.int .i64 p0.From, .int .i64 p0.To]]) (ks := [1, 3]) (e' := [(1, .pointer (some ⟨bx4, 0, none⟩)), (3, .agg #[.int .i64 p0.From, .int .i64 p0.To])]) rfl ⟨(load_box tab rfl rfl f5.now (k := 0) rfl rfl), trivial⟩ fun a hk => ?_
  refine x_op hk rfl ?_
  obtain ⟨t9, hc10, H⟩ := bindS H
  refine op_call hk ent_16 (vs := [.agg #[.int .i64 p0.From, .int .i64 p0.To]]) rfl (tidewrackref13_Fit_calls p0 _ o2    _ hc10) ?_
  rintro _ w11 ⟨o12, rfl, st13⟩
  replace f5 := f5.st st13 (by decide)
  replace hs := hs.loc0 st13 (by decide)
  have hk := hk.put 4 (.agg #[.int .i64 t9.From, .int .i64 t9.To]) rfl
  refine x_op hk rfl ?_
  refine op_store tab hk (t := 30) (v := .agg #[.int .i64 t9.From, .int .i64 t9.To]) (b := bx4) (k := 0) (cs' := [.int .i64 t9.From, .int .i64 t9.To]) rfl rfl rfl rfl rfl rfl f5 rfl rfl fun w14 o15 st16 f5_ => ?_
  replace hs := hs.loc0 st16 (by decide)
  replace f5 := f5_
  refine wpListIn_nil ?_
  refine then_n ?_
  refine x_seq ?_
  refine x_seq ?_
  refine wpIn_region_lit ?_
  refine x_run tab hk (k := 5) (lv := [.int .i64 t9.To, .int .i64 t9.From]) (ks := [1, 9]) (e' := [(1, .pointer (some ⟨bx4, 0, none⟩)), (9, .bool (decide (t9.To ≤ t9.From)))]) rfl ⟨(load1 tab rfl ((Bx.cell f5.now 1).trans rfl)), (load1 tab rfl ((Bx.cell f5.now 0).trans rfl)), trivial⟩ fun a hk => ?_
  refine wpListIn_nil ?_
  refine then_n ?_
  cases b17 : (decide (t9.To ≤ t9.From))
  · rw [b17] at hk H
    replace H := bifF H
    refine x_if hk (b := false) rfl ?_
    refine (show Code.wpIn _ _ _ _ _ _ _ from ?_)
    refine wpIn_skip ?_
    refine then_n ?_
    refine x_seq ?_
    refine wpIn_region_lit ?_
    refine x_run tab hk (k := 1) (lv := [.agg #[.int .i64 t9.From, .int .i64 t9.To]]) (ks := [10]) (e' := [(10, .agg #[.int .i64 t9.From, .int .i64 t9.To])]) rfl ⟨(load_box tab rfl rfl f5.now (k := 0) rfl rfl), trivial⟩ fun a hk => ?_
    refine x_op hk rfl ?_
    refine op_slice (o := o15) tab hk (vs := [.agg #[.int .i64 t9.From, .int .i64 t9.To]]) (cs := [.int .i64 t9.From, .int .i64 t9.To]) rfl rfl rfl rfl rfl rfl rfl rfl rfl 2 fun bx21 w18 o19 st20 f22 => ?_
    replace hs := hs.loc0 st20 (by decide)
    have f23 : Ft (Own ET28 30 (.slice (some ⟨bx21, 0, none⟩) (([t9] : List T28)).length 1) ([t9] : List T28)) w18 o19 2 := f22.imp fun _ h_ => Own.of_box h_ rfl (by simp)
    have hk := hk.put 11 (.slice (some ⟨bx21, 0, none⟩) (([t9] : List T28)).length 1) rfl
    refine x_run tab hk (k := 1) (lv := []) (ks := [2]) (e' := [(2, .slice (some ⟨bx21, 0, none⟩) (([t9] : List T28)).length 1)]) rfl trivial fun a hk => ?_
    refine wpListIn_nil ?_
    refine then_n ?_
    refine wpIn_ret ?_
    obtain rfl := Option.some.inj H
    exact x_retG hk (rs := [.tmp 2]) (vs := [.slice (some ⟨bx21, 0, none⟩) (([t9] : List T28)).length 1]) rfl ⟨rfl, trivial⟩ ⟨fun b_ => if b_ < w.heap.size then o b_ else (fun _ => R0) (o19 b_), (some ⟨bx21, 0, none⟩), 1, rfl, hs.close0 o (fun _ => R0), hs.close_ft (o := o) (ρ := fun _ => R0) f23 (by decide) rfl, (Nat.le_refl _)⟩
  · rw [b17] at hk H
    replace H := bifT H
    refine x_if hk (b := true) rfl ?_
    refine (show Code.wpIn _ _ _ _ _ _ _ from ?_)
    refine x_seq ?_
    refine wpIn_region_lit ?_
    refine x_run tab hk (k := 1) (lv := []) (ks := [2]) (e' := [(2, .slice none 0 0)]) rfl trivial fun a hk => ?_
    refine wpListIn_nil ?_
    refine then_n ?_
    refine wpIn_ret ?_
    refine then_r ?_
    obtain rfl := Option.some.inj H
    exact x_retG hk (rs := [.tmp 2]) (vs := [.slice none 0 0]) rfl ⟨rfl, trivial⟩ ⟨fun b_ => if b_ < w.heap.size then o b_ else (fun _ => 0) (o15 b_), none, 0, rfl, hs.close0 o (fun _ => 0), (Ft.of_all (fun _ => Own.nil _ _ _) _ _ _), (by simp)⟩

/-! tidewrack/tidewrackref13.Has -/
theorem tidewrackref13_Has_calls (K : Nat) (Ap0 : Option Addr) (cp0 : Nat) (p0 : List T28) (p1 : Int) (w : World) (o : Nat → Nat) (Lp0 : Nat) (hp0 : Ft (RdC ET28 Ap0 p0) w o Lp0) (hcp0 : (p0).length ≤ cp0)  (r : Bool) (H : tidewrackref13_Has K p0 p1 = some r) :
    Calls Try.prog 21 #[.slice Ap0 (p0).length cp0, .int .i64 p1] w (Ret fun v_ w' => ∃ o' : Nat → Nat, v_ = .bool r ∧ St [] w o w' o') := by
  refine x_enter (vs := [.slice Ap0 (p0).length cp0, .int .i64 p1]) Try.func21 rfl rfl rfl fun a hk => ?_
  obtain ⟨o0, hs, h0⟩ := St.start w o
  have f900000 := h0 _ _ hp0
  clear h0
  rw [tidewrackref13_Has] at H
  refine x_seq ?_
  refine wpIn_region_lit ?_
  refine x_run tab hk (k := 1) (lv := []) (ks := [0, 1]) (e' := [(0, .slice Ap0 (p0).length cp0), (1, .int .i64 p1)]) rfl trivial fun a hk => ?_
  refine wpListIn_nil ?_
  refine then_n ?_
  refine x_mid (fun a_ w_ => ∃ o52 : Nat → Nat, Kn 24 a_ [] ∧ St [] w (fun _ => 0) w_ o52 ∧ tidewrackref13_Has_j1 = some r) ?_ ?_
  rotate_left
  · rintro a w53 ⟨o52, hk, hs, H⟩
    rw [tidewrackref13_Has_j1] at H
    refine x_seq ?_
    refine wpIn_region_lit ?_
    refine x_run tab hk (k := 1) (lv := []) (ks := [4]) (e' := [(4, .bool false)]) rfl trivial fun a hk => ?_
    refine wpListIn_nil ?_
    refine then_n ?_
    refine wpIn_ret ?_
    obtain rfl := Option.some.inj H
    exact x_retG hk (rs := [.tmp 4]) (vs := [.bool false]) rfl ⟨rfl, trivial⟩ ⟨fun b_ => if b_ < w.heap.size then o b_ else (fun _ => 0) (o52 b_), rfl, hs.close0 o (fun _ => 0)⟩
  refine x_seq ?_
  refine wpIn_region_lit ?_
  refine x_run tab hk (k := 3) (lv := []) (ks := [1, 7, 8, 9]) (e' := [(1, .int .i64 p1), (7, .slice Ap0 (p0).length cp0), (8, .int .i64 ((p0).length : Int)), (9, .int .i64 0)]) rfl trivial fun a hk => ?_
  refine wpListIn_nil ?_
  refine then_n ?_
  refine wpIn_block ?_
  refine x_loop (fun j_ a_ w_ => ∃ o70 : Nat → Nat, ∃ x71 : Int, Kn 24 a_ [(1, .int .i64 p1), (7, .slice Ap0 (p0).length cp0), (8, .int .i64 ((p0).length : Int)), (9, .int .i64 x71)] ∧ St [] w (fun _ => 0) w_ o70 ∧ Ft (RdC ET28 Ap0 p0) w_ o70 0 ∧ tidewrackref13_Has_l2 p0 p1 j_ x71 = some r) (k := K) ⟨o0, 0, (by exact Kn.pick (ks := [1, 7, 8, 9]) hk rfl), hs, f900000, H⟩ (by rintro _ _ ⟨_, _, _, _, _, H_⟩; exact absurd (show (none : Option Bool) = some r from H_) (by simp)) ?_
  rintro k86 a w85 ⟨o70, x71, hk, hs, f900000, H⟩
  rw [tidewrackref13_Has_l2] at H
  obtain ⟨lp87, hlp88⟩ : ∃ lp_, lp_ = tidewrackref13_Has_l2 p0 p1 k86 := ⟨_, rfl⟩
  rw [← hlp88] at H
  refine x_seq ?_
  refine wpIn_region_lit ?_
  refine x_run tab hk (k := 1) (lv := []) (ks := [1, 7, 8, 9, 10]) (e' := [(1, .int .i64 p1), (7, .slice Ap0 (p0).length cp0), (8, .int .i64 ((p0).length : Int)), (9, .int .i64 x71), (10, .bool (decide (x71 < ((p0).length : Int))))]) rfl trivial fun a hk => ?_
  refine wpListIn_nil ?_
  refine then_n ?_
  refine x_seq ?_
  cases b89 : (decide (x71 < ((p0).length : Int)))
  · rw [b89] at hk H
    replace H := bifF H
    refine x_if hk (b := false) rfl ?_
    refine (show Code.wpIn _ _ _ _ _ _ _ from ?_)
    refine wpIn_exit ?_
    refine then_x ?_
    refine then_x ?_
    refine blk_x ?_
    refine then_n ?_
    exact ⟨o70, (by exact Kn.pick (ks := []) hk rfl), hs, H⟩
  · rw [b89] at hk H
    replace H := bifT H
    refine x_if hk (b := true) rfl ?_
    refine (show Code.wpIn _ _ _ _ _ _ _ from ?_)
    refine wpIn_skip ?_
    refine then_n ?_
    refine x_seq ?_
    refine wpIn_block ?_
    refine x_seq ?_
    refine wpIn_region_lit ?_
    obtain ⟨q90, H⟩ := ifS H
    obtain ⟨ad91, hAad91⟩ := RdC.addr f900000.now q90
    have hk_C := hk
    have f900000_C := f900000
    subst hAad91
    have hk := hk_C
    clear hk_C
    have f900000 := f900000_C
    clear f900000_C
    refine x_run tab hk (k := 2) (lv := [.agg #[.int .i64 ((rdD zT28 p0 x71).From), .int .i64 ((rdD zT28 p0 x71).To)]]) (ks := [1, 7, 8, 9, 12]) (e' := [(1, .int .i64 p1), (7, .slice (some ad91) (p0).length cp0), (8, .int .i64 ((p0).length : Int)), (9, .int .i64 x71), (12, .agg #[.int .i64 ((rdD zT28 p0 x71).From), .int .i64 ((rdD zT28 p0 x71).To)])]) rfl ⟨q90, (load_elem (E := ET28) (i := x71) (dx := zT28) tab rfl rfl f900000.now q90), trivial⟩ fun a hk => ?_
    refine x_op hk rfl ?_
    refine op_alloc (o := o70) tab (t := 30) (cs := [.int .i64 0, .int .i64 0]) rfl rfl 6 fun bx95 w92 o93 st94 f96 => ?_
    replace f900000 := f900000.st st94 (by decide)
    replace hs := hs.loc0 st94 (by decide)
    have hk := hk.put 6 (.pointer (some ⟨bx95, 0, none⟩)) rfl
    refine x_op hk rfl ?_
    refine op_store tab hk (t := 30) (v := .agg #[.int .i64 ((rdD zT28 p0 x71).From), .int .i64 ((rdD zT28 p0 x71).To)]) (b := bx95) (k := 0) (cs' := [.int .i64 ((rdD zT28 p0 x71).From), .int .i64 ((rdD zT28 p0 x71).To)]) rfl rfl rfl rfl rfl rfl f96 rfl rfl fun w97 o98 st99 f96_ => ?_
    replace f900000 := f900000.st st99 (by decide)
    replace hs := hs.loc0 st99 (by decide)
    replace f96 := f96_
    refine wpListIn_nil ?_
    refine then_n ?_
    refine x_seq ?_
    refine wpIn_region_lit ?_
    refine x_run tab hk (k := 5) (lv := [.int .i64 ((rdD zT28 p0 x71).From)]) (ks := [1, 6, 7, 8, 9, 17]) (e' := [(1, .int .i64 p1), (6, .pointer (some ⟨bx95, 0, none⟩)), (7, .slice (some ad91) (p0).length cp0), (8, .int .i64 ((p0).length : Int)), (9, .int .i64 x71), (17, .bool (decide (p1 ≥ ((rdD zT28 p0 x71).From))))]) rfl ⟨(load1 tab rfl ((Bx.cell f96.now 0).trans rfl)), trivial⟩ fun a hk => ?_
    cases b100 : (decide (p1 ≥ ((rdD zT28 p0 x71).From)))
    · rw [b100] at hk H
      replace H := bifF H
      refine x_run tab hk (k := 5) (lv := []) (ks := [1, 7, 8, 9, 22]) (e' := [(1, .int .i64 p1), (7, .slice (some ad91) (p0).length cp0), (8, .int .i64 ((p0).length : Int)), (9, .int .i64 x71), (22, .bool false)]) rfl trivial fun a hk => ?_
      refine wpListIn_nil ?_
      refine then_n ?_
      refine x_if hk (b := false) rfl ?_
      refine (show Code.wpIn _ _ _ _ _ _ _ from ?_)
      refine wpIn_skip ?_
      refine blk_n ?_
      refine then_n ?_
      refine wpIn_region_lit ?_
      refine x_run tab hk (k := 2) (lv := []) (ks := [1, 7, 8, 9]) (e' := [(1, .int .i64 p1), (7, .slice (some ad91) (p0).length cp0), (8, .int .i64 ((p0).length : Int)), (9, .int .i64 (IntKind.wrap .i64 (x71 + 1)))]) rfl trivial fun a hk => ?_
      refine wpListIn_nil ?_
      refine then_n ?_
      exact ⟨k86, Nat.le_refl _, o98, (IntKind.wrap .i64 (x71 + 1)), (by exact Kn.pick (ks := [1, 7, 8, 9]) hk rfl), hs, f900000, (hlp88 ▸ H)⟩
    · rw [b100] at hk H
      replace H := bifT H
      refine x_run tab hk (k := 5) (lv := [.int .i64 ((rdD zT28 p0 x71).To)]) (ks := [1, 7, 8, 9, 22]) (e' := [(1, .int .i64 p1), (7, .slice (some ad91) (p0).length cp0), (8, .int .i64 ((p0).length : Int)), (9, .int .i64 x71), (22, .bool (decide (p1 < ((rdD zT28 p0 x71).To))))]) rfl ⟨(load1 tab rfl ((Bx.cell f96.now 1).trans rfl)), trivial⟩ fun a hk => ?_
      refine wpListIn_nil ?_
      refine then_n ?_
      cases b101 : (decide (p1 < ((rdD zT28 p0 x71).To)))
      · rw [b101] at hk H
        replace H := bifF H
        refine x_if hk (b := false) rfl ?_
        refine (show Code.wpIn _ _ _ _ _ _ _ from ?_)
        refine wpIn_skip ?_
        refine blk_n ?_
        refine then_n ?_
        refine wpIn_region_lit ?_
        refine x_run tab hk (k := 2) (lv := []) (ks := [1, 7, 8, 9]) (e' := [(1, .int .i64 p1), (7, .slice (some ad91) (p0).length cp0), (8, .int .i64 ((p0).length : Int)), (9, .int .i64 (IntKind.wrap .i64 (x71 + 1)))]) rfl trivial fun a hk => ?_
        refine wpListIn_nil ?_
        refine then_n ?_
        exact ⟨k86, Nat.le_refl _, o98, (IntKind.wrap .i64 (x71 + 1)), (by exact Kn.pick (ks := [1, 7, 8, 9]) hk rfl), hs, f900000, (hlp88 ▸ H)⟩
      · rw [b101] at hk H
        replace H := bifT H
        refine x_if hk (b := true) rfl ?_
        refine (show Code.wpIn _ _ _ _ _ _ _ from ?_)
        refine x_seq ?_
        refine wpIn_region_lit ?_
        refine x_run tab hk (k := 1) (lv := []) (ks := [4]) (e' := [(4, .bool true)]) rfl trivial fun a hk => ?_
        refine wpListIn_nil ?_
        refine then_n ?_
        refine wpIn_ret ?_
        refine blk_r ?_
        refine then_r ?_
        refine then_r ?_
        refine blk_r ?_
        refine then_r ?_
        obtain rfl := Option.some.inj H
        exact x_retG hk (rs := [.tmp 4]) (vs := [.bool true]) rfl ⟨rfl, trivial⟩ ⟨fun b_ => if b_ < w.heap.size then o b_ else (fun _ => 0) (o98 b_), rfl, hs.close0 o (fun _ => 0)⟩

/-! tidewrack/tidewrackref13.keep -/
theorem tidewrackref13_keep_calls (p0 : Int) (p1 : Bool) (p2 : Bool) (w : World) (o : Nat → Nat)   (r : Bool) (H : tidewrackref13_keep p0 p1 p2 = some r) :
    Calls Try.prog 38 #[.int .i64 p0, .bool p1, .bool p2] w (Ret fun v_ w' => ∃ o' : Nat → Nat, v_ = .bool r ∧ St [] w o w' o') := by
  refine x_enter (vs := [.int .i64 p0, .bool p1, .bool p2]) Try.func38 rfl rfl rfl fun a hk => ?_
  obtain ⟨o0, hs, h0⟩ := St.start w o
  clear h0
  rw [tidewrackref13_keep] at H
  refine x_seq ?_
  refine wpIn_region_lit ?_
  refine x_run tab hk (k := 1) (lv := []) (ks := [0, 1, 2]) (e' := [(0, .int .i64 p0), (1, .bool p1), (2, .bool p2)]) rfl trivial fun a hk => ?_
  refine wpListIn_nil ?_
  refine then_n ?_
  refine x_seq ?_
  refine x_seq ?_
  refine wpIn_region_lit ?_
  refine x_run tab hk (k := 1) (lv := []) (ks := [1, 2, 7]) (e' := [(1, .bool p1), (2, .bool p2), (7, .int .i64 p0)]) rfl trivial fun a hk => ?_
  refine wpListIn_nil ?_
  refine then_n ?_
  refine wpIn_block ?_
  refine x_seq ?_
  refine wpIn_region_lit ?_
  refine x_run tab hk (k := 2) (lv := []) (ks := [1, 2, 7, 8]) (e' := [(1, .bool p1), (2, .bool p2), (7, .int .i64 p0), (8, .bool (p0 == (0 : Int)))]) rfl trivial fun a hk => ?_
  refine wpListIn_nil ?_
  refine then_n ?_
  cases b1 : (p0 == (0 : Int))
  · rw [b1] at hk H
    replace H := bifF H
    refine x_if hk (b := false) rfl ?_
    refine (show Code.wpIn _ _ _ _ _ _ _ from ?_)
    refine x_seq ?_
    refine wpIn_region_lit ?_
    refine x_run tab hk (k := 2) (lv := []) (ks := [1, 2, 7, 14]) (e' := [(1, .bool p1), (2, .bool p2), (7, .int .i64 p0), (14, .bool (p0 == (1 : Int)))]) rfl trivial fun a hk => ?_
    refine wpListIn_nil ?_
    refine then_n ?_
    cases b2 : (p0 == (1 : Int))
    · rw [b2] at hk H
      replace H := bifF H
      refine x_if hk (b := false) rfl ?_
      refine (show Code.wpIn _ _ _ _ _ _ _ from ?_)
      refine x_seq ?_
      refine wpIn_region_lit ?_
      refine x_run tab hk (k := 2) (lv := []) (ks := [1, 2, 21]) (e' := [(1, .bool p1), (2, .bool p2), (21, .bool (p0 == (2 : Int)))]) rfl trivial fun a hk => ?_
      refine wpListIn_nil ?_
      refine then_n ?_
      cases b3 : (p0 == (2 : Int))
      · rw [b3] at hk H
        replace H := bifF H
        refine x_if hk (b := false) rfl ?_
        refine (show Code.wpIn _ _ _ _ _ _ _ from ?_)
        refine wpIn_skip ?_
        refine blk_n ?_
        refine then_n ?_
        refine x_seq ?_
        refine wpIn_region_lit ?_
        refine x_run tab hk (k := 3) (lv := []) (ks := [2, 29]) (e' := [(2, .bool p2), (29, .bool (!p1))]) rfl trivial fun a hk => ?_
        cases b4 : (!p1)
        · rw [b4] at hk H
          replace H := bifF H
          refine x_run tab hk (k := 3) (lv := []) (ks := [6]) (e' := [(6, .bool false)]) rfl trivial fun a hk => ?_
          refine wpListIn_nil ?_
          refine then_n ?_
          refine wpIn_ret ?_
          obtain rfl := Option.some.inj H
          exact x_retG hk (rs := [.tmp 6]) (vs := [.bool false]) rfl ⟨rfl, trivial⟩ ⟨fun b_ => if b_ < w.heap.size then o b_ else (fun _ => 0) (o0 b_), rfl, hs.close0 o (fun _ => 0)⟩
        · rw [b4] at hk H
          replace H := bifT H
          refine x_run tab hk (k := 3) (lv := []) (ks := [6]) (e' := [(6, .bool p2)]) rfl trivial fun a hk => ?_
          refine wpListIn_nil ?_
          refine then_n ?_
          refine wpIn_ret ?_
          obtain rfl := Option.some.inj H
          exact x_retG hk (rs := [.tmp 6]) (vs := [.bool p2]) rfl ⟨rfl, trivial⟩ ⟨fun b_ => if b_ < w.heap.size then o b_ else (fun _ => 0) (o0 b_), rfl, hs.close0 o (fun _ => 0)⟩
      · rw [b3] at hk H
        replace H := bifT H
        refine x_if hk (b := true) rfl ?_
        refine (show Code.wpIn _ _ _ _ _ _ _ from ?_)
        refine x_seq ?_
        refine wpIn_region_lit ?_
        refine x_run tab hk (k := 2) (lv := []) (ks := [2, 24]) (e' := [(2, .bool p2), (24, .bool p1)]) rfl trivial fun a hk => ?_
        cases b5 : p1
        · rw [b5] at hk H
          replace H := bifF H
          refine x_run tab hk (k := 3) (lv := []) (ks := [6]) (e' := [(6, .bool false)]) rfl trivial fun a hk => ?_
          refine wpListIn_nil ?_
          refine then_n ?_
          refine wpIn_ret ?_
          refine blk_r ?_
          refine then_r ?_
          obtain rfl := Option.some.inj H
          exact x_retG hk (rs := [.tmp 6]) (vs := [.bool false]) rfl ⟨rfl, trivial⟩ ⟨fun b_ => if b_ < w.heap.size then o b_ else (fun _ => 0) (o0 b_), rfl, hs.close0 o (fun _ => 0)⟩
        · rw [b5] at hk H
          replace H := bifT H
          refine x_run tab hk (k := 3) (lv := []) (ks := [6]) (e' := [(6, .bool p2)]) rfl trivial fun a hk => ?_
          refine wpListIn_nil ?_
          refine then_n ?_
          refine wpIn_ret ?_
          refine blk_r ?_
          refine then_r ?_
          obtain rfl := Option.some.inj H
          exact x_retG hk (rs := [.tmp 6]) (vs := [.bool p2]) rfl ⟨rfl, trivial⟩ ⟨fun b_ => if b_ < w.heap.size then o b_ else (fun _ => 0) (o0 b_), rfl, hs.close0 o (fun _ => 0)⟩
    · rw [b2] at hk H
      replace H := bifT H
      refine x_if hk (b := true) rfl ?_
      refine (show Code.wpIn _ _ _ _ _ _ _ from ?_)
      refine x_seq ?_
      refine wpIn_region_lit ?_
      refine x_run tab hk (k := 2) (lv := []) (ks := [2, 17]) (e' := [(2, .bool p2), (17, .bool p1)]) rfl trivial fun a hk => ?_
      cases b6 : p1
      · rw [b6] at hk H
        replace H := bifF H
        refine x_run tab hk (k := 4) (lv := []) (ks := [6]) (e' := [(6, .bool false)]) rfl trivial fun a hk => ?_
        refine wpListIn_nil ?_
        refine then_n ?_
        refine wpIn_ret ?_
        refine blk_r ?_
        refine then_r ?_
        obtain rfl := Option.some.inj H
        exact x_retG hk (rs := [.tmp 6]) (vs := [.bool false]) rfl ⟨rfl, trivial⟩ ⟨fun b_ => if b_ < w.heap.size then o b_ else (fun _ => 0) (o0 b_), rfl, hs.close0 o (fun _ => 0)⟩
      · rw [b6] at hk H
        replace H := bifT H
        refine x_run tab hk (k := 4) (lv := []) (ks := [6]) (e' := [(6, .bool (!p2))]) rfl trivial fun a hk => ?_
        refine wpListIn_nil ?_
        refine then_n ?_
        refine wpIn_ret ?_
        refine blk_r ?_
        refine then_r ?_
        obtain rfl := Option.some.inj H
        exact x_retG hk (rs := [.tmp 6]) (vs := [.bool (!p2)]) rfl ⟨rfl, trivial⟩ ⟨fun b_ => if b_ < w.heap.size then o b_ else (fun _ => 0) (o0 b_), rfl, hs.close0 o (fun _ => 0)⟩
  · rw [b1] at hk H
    replace H := bifT H
    refine x_if hk (b := true) rfl ?_
    refine (show Code.wpIn _ _ _ _ _ _ _ from ?_)
    refine x_seq ?_
    refine wpIn_region_lit ?_
    refine x_run tab hk (k := 2) (lv := []) (ks := [2, 11]) (e' := [(2, .bool p2), (11, .bool p1)]) rfl trivial fun a hk => ?_
    cases b7 : p1
    · rw [b7] at hk H
      replace H := bifF H
      refine x_run tab hk (k := 3) (lv := []) (ks := [6]) (e' := [(6, .bool p2)]) rfl trivial fun a hk => ?_
      refine wpListIn_nil ?_
      refine then_n ?_
      refine wpIn_ret ?_
      refine blk_r ?_
      refine then_r ?_
      obtain rfl := Option.some.inj H
      exact x_retG hk (rs := [.tmp 6]) (vs := [.bool p2]) rfl ⟨rfl, trivial⟩ ⟨fun b_ => if b_ < w.heap.size then o b_ else (fun _ => 0) (o0 b_), rfl, hs.close0 o (fun _ => 0)⟩
    · rw [b7] at hk H
      replace H := bifT H
      refine x_run tab hk (k := 3) (lv := []) (ks := [6]) (e' := [(6, .bool true)]) rfl trivial fun a hk => ?_
      refine wpListIn_nil ?_
      refine then_n ?_
      refine wpIn_ret ?_
      refine blk_r ?_
      refine then_r ?_
      obtain rfl := Option.some.inj H
      exact x_retG hk (rs := [.tmp 6]) (vs := [.bool true]) rfl ⟨rfl, trivial⟩ ⟨fun b_ => if b_ < w.heap.size then o b_ else (fun _ => 0) (o0 b_), rfl, hs.close0 o (fun _ => 0)⟩

/-! tidewrack/tidewrackref13.build -/
set_option maxHeartbeats 4000000 in
theorem tidewrackref13_build_calls (K : Nat) (Ap0 : Option Addr) (cp0 : Nat) (p0 : List T28) (Ap1 : Option Addr) (cp1 : Nat) (p1 : List T28) (p2 : Int) (w : World) (o : Nat → Nat) (Lp0 : Nat) (hp0 : Ft (RdC ET28 Ap0 p0) w o Lp0) (hcp0 : (p0).length ≤ cp0) (Lp1 : Nat) (hp1 : Ft (RdC ET28 Ap1 p1) w o Lp1) (hcp1 : (p1).length ≤ cp1)  (R0 : Nat) (r : List T28) (H : tidewrackref13_build K p0 p1 p2 = some r) :
    Calls Try.prog 33 #[.slice Ap0 (p0).length cp0, .slice Ap1 (p1).length cp1, .int .i64 p2] w (Ret fun v_ w' => ∃ o' : Nat → Nat, ∃ A0 : Option Addr, ∃ c0 : Nat, v_ = .slice A0 (r).length c0 ∧ St [] w o w' o' ∧ Ft (Own ET28 30 (.slice A0 (r).length c0) (r)) w' o' R0 ∧ (r).length ≤ c0) := by
  refine x_enter (vs := [.slice Ap0 (p0).length cp0, .slice Ap1 (p1).length cp1, .int .i64 p2]) Try.func33 rfl rfl rfl fun a hk => ?_
  obtain ⟨o0, hs, h0⟩ := St.start w o
  have f900000 := h0 _ _ hp0
  have f900020 := h0 _ _ hp1
  clear h0
  rw [tidewrackref13_build] at H
  refine x_seq ?_
  refine wpIn_region_lit ?_
  refine x_run tab hk (k := 1) (lv := []) (ks := [0, 1, 2]) (e' := [(0, .slice Ap0 (p0).length cp0), (1, .slice Ap1 (p1).length cp1), (2, .int .i64 p2)]) rfl trivial fun a hk => ?_
  refine wpListIn_nil ?_
  refine then_n ?_
  refine x_seq ?_
  refine wpIn_region_lit ?_
  refine x_op hk rfl ?_
  refine op_slice (o := o0) tab hk (vs := []) (cs := []) rfl rfl rfl rfl rfl rfl rfl rfl rfl 1 fun bx4 w1 o2 st3 f5 => ?_
  replace f900000 := f900000.st st3 (by decide)
  replace f900020 := f900020.st st3 (by decide)
  replace hs := hs.loc0 st3 (by decide)
  have f6 : Ft (Own (encInt .i64) 3 (.slice (some ⟨bx4, 0, none⟩) (([] : List Int)).length 0) ([] : List Int)) w1 o2 1 := f5.imp fun _ h_ => Own.of_box h_ rfl (by simp)
  have hk := hk.put 17 (.slice (some ⟨bx4, 0, none⟩) (([] : List Int)).length 0) rfl
  refine x_run tab hk (k := 1) (lv := []) (ks := [0, 1, 2, 7]) (e' := [(0, .slice Ap0 (p0).length cp0), (1, .slice Ap1 (p1).length cp1), (2, .int .i64 p2), (7, .slice (some ⟨bx4, 0, none⟩) (([] : List Int)).length 0)]) rfl trivial fun a hk => ?_
  refine wpListIn_nil ?_
  refine then_n ?_
  refine x_mid (fun a_ w_ => ∃ o7055 : Nat → Nat, ∃ A7056 : Option Addr, ∃ c7057 : Nat, ∃ l7058 : List Int, Kn 132 a_ [(0, .slice Ap0 (p0).length cp0), (1, .slice Ap1 (p1).length cp1), (2, .int .i64 p2), (7, .slice A7056 (l7058).length c7057)] ∧ St [] w (fun _ => 0) w_ o7055 ∧ Ft (Own (encInt .i64) 3 (.slice A7056 (l7058).length c7057) l7058) w_ o7055 871 ∧ Ft (RdC ET28 Ap0 p0) w_ o7055 0 ∧ Ft (RdC ET28 Ap1 p1) w_ o7055 0 ∧ (l7058).length ≤ c7057 ∧ tidewrackref13_build_j1 K p0 p1 p2 l7058 = some r) ?_ ?_
  rotate_left
  · rintro a w7061 ⟨o7055, A7056, c7057, l7058, hk, hs, f7059, f900000, f900020, hc7060, H⟩
    rw [tidewrackref13_build_j1] at H
    refine x_seq ?_
    refine wpIn_region_lit ?_
    refine x_op hk rfl ?_
    refine op_slice (o := o7055) tab hk (vs := []) (cs := []) rfl rfl rfl rfl rfl rfl rfl rfl rfl 872 fun bx7065 w7062 o7063 st7064 f7066 => ?_
    replace f7059 := f7059.st st7064 (by decide)
    replace f900000 := f900000.st st7064 (by decide)
    replace f900020 := f900020.st st7064 (by decide)
    replace hs := hs.loc0 st7064 (by decide)
    have f7067 : Ft (Own ET28 30 (.slice (some ⟨bx7065, 0, none⟩) (([] : List T28)).length 0) ([] : List T28)) w7062 o7063 872 := f7066.imp fun _ h_ => Own.of_box h_ rfl (by simp)
    have hk := hk.put 76 (.slice (some ⟨bx7065, 0, none⟩) (([] : List T28)).length 0) rfl
    refine x_run tab hk (k := 1) (lv := []) (ks := [0, 1, 2, 7, 13]) (e' := [(0, .slice Ap0 (p0).length cp0), (1, .slice Ap1 (p1).length cp1), (2, .int .i64 p2), (7, .slice A7056 (l7058).length c7057), (13, .slice (some ⟨bx7065, 0, none⟩) (([] : List T28)).length 0)]) rfl trivial fun a hk => ?_
    refine wpListIn_nil ?_
    refine then_n ?_
    refine x_mid (fun a_ w_ => ∃ o7287 : Nat → Nat, ∃ A7288 : Option Addr, ∃ c7289 : Nat, ∃ l7290 : List T28, Kn 132 a_ [(13, .slice A7288 (l7290).length c7289)] ∧ St [] w (fun _ => 0) w_ o7287 ∧ Ft (Own ET28 30 (.slice A7288 (l7290).length c7289) l7290) w_ o7287 886 ∧ (l7290).length ≤ c7289 ∧ tidewrackref13_build_j2 l7290 = some r) ?_ ?_
    rotate_left
    · rintro a w7293 ⟨o7287, A7288, c7289, l7290, hk, hs, f7291, hc7292, H⟩
      rw [tidewrackref13_build_j2] at H
      refine x_seq ?_
      refine wpIn_region_lit ?_
      refine x_run tab hk (k := 2) (lv := []) (ks := [6]) (e' := [(6, .slice A7288 (l7290).length c7289)]) rfl trivial fun a hk => ?_
      refine wpListIn_nil ?_
      refine then_n ?_
      refine wpIn_ret ?_
      obtain rfl := Option.some.inj H
      exact x_retG hk (rs := [.tmp 6]) (vs := [.slice A7288 (l7290).length c7289]) rfl ⟨rfl, trivial⟩ ⟨fun b_ => if b_ < w.heap.size then o b_ else (fun _ => R0) (o7287 b_), A7288, c7289, rfl, hs.close0 o (fun _ => R0), hs.close_ft (o := o) (ρ := fun _ => R0) f7291 (by decide) rfl, hc7292⟩
    refine x_seq ?_
    refine wpIn_region_lit ?_
    refine x_run tab hk (k := 1) (lv := []) (ks := [0, 1, 2, 7, 13, 14]) (e' := [(0, .slice Ap0 (p0).length cp0), (1, .slice Ap1 (p1).length cp1), (2, .int .i64 p2), (7, .slice A7056 (l7058).length c7057), (13, .slice (some ⟨bx7065, 0, none⟩) (([] : List T28)).length 0), (14, .int .i64 0)]) rfl trivial fun a hk => ?_
    refine wpListIn_nil ?_
    refine then_n ?_
    refine wpIn_block ?_
    refine x_loop (fun j_ a_ w_ => ∃ o7360 : Nat → Nat, ∃ A7361 : Option Addr, ∃ c7362 : Nat, ∃ l7363 : List T28, ∃ x7366 : Int, Kn 132 a_ [(0, .slice Ap0 (p0).length cp0), (1, .slice Ap1 (p1).length cp1), (2, .int .i64 p2), (7, .slice A7056 (l7058).length c7057), (13, .slice A7361 (l7363).length c7362), (14, .int .i64 x7366)] ∧ St [] w (fun _ => 0) w_ o7360 ∧ Ft (Own (encInt .i64) 3 (.slice A7056 (l7058).length c7057) l7058) w_ o7360 892 ∧ Ft (Own ET28 30 (.slice A7361 (l7363).length c7362) l7363) w_ o7360 893 ∧ Ft (RdC ET28 Ap0 p0) w_ o7360 0 ∧ Ft (RdC ET28 Ap1 p1) w_ o7360 0 ∧ (l7363).length ≤ c7362 ∧ tidewrackref13_build_l3 K p0 p1 p2 l7058 j_ l7363 x7366 = some r) (k := K) ⟨(fun b_ => (fun l_ => if l_ = 871 then 892 else if l_ = 872 then 893 else l_) (o7063 b_)), (some ⟨bx7065, 0, none⟩), 0, ([] : List T28), 0, (by exact Kn.pick (ks := [0, 1, 2, 7, 13, 14]) hk rfl), (hs.relab0 (fun l_ => if l_ = 871 then 892 else if l_ = 872 then 893 else l_) rfl), (f7059.relab (fun l_ => if l_ = 871 then 892 else if l_ = 872 then 893 else l_) rfl), (f7067.relab (fun l_ => if l_ = 871 then 892 else if l_ = 872 then 893 else l_) rfl), (f900000.relab (fun l_ => if l_ = 871 then 892 else if l_ = 872 then 893 else l_) rfl), (f900020.relab (fun l_ => if l_ = 871 then 892 else if l_ = 872 then 893 else l_) rfl), (Nat.le_refl _), H⟩ (by rintro _ _ ⟨_, _, _, _, _, _, _, _, _, _, _, _, H_⟩; exact absurd (show (none : Option (List T28)) = some r from H_) (by simp)) ?_
    rintro k7434 a w7433 ⟨o7360, A7361, c7362, l7363, x7366, hk, hs, f7059, f7364, f900000, f900020, hc7365, H⟩
    rw [tidewrackref13_build_l3] at H
    obtain ⟨lp7435, hlp7436⟩ : ∃ lp_, lp_ = tidewrackref13_build_l3 K p0 p1 p2 l7058 k7434 := ⟨_, rfl⟩
    rw [← hlp7436] at H
    refine x_seq ?_
    refine x_seq ?_
    refine wpIn_region_lit ?_
    refine x_run tab hk (k := 5) (lv := []) (ks := [0, 1, 2, 7, 13, 14, 81]) (e' := [(0, .slice Ap0 (p0).length cp0), (1, .slice Ap1 (p1).length cp1), (2, .int .i64 p2), (7, .slice A7056 (l7058).length c7057), (13, .slice A7361 (l7363).length c7362), (14, .int .i64 x7366), (81, .bool (decide ((IntKind.wrap .i64 (x7366 + 1)) < ((l7058).length : Int))))]) rfl trivial fun a hk => ?_
    refine wpListIn_nil ?_
    refine then_n ?_
    cases b7437 : (decide ((IntKind.wrap .i64 (x7366 + 1)) < ((l7058).length : Int)))
    · rw [b7437] at hk H
      replace H := bifF H
      refine x_if hk (b := false) rfl ?_
      refine (show Code.wpIn _ _ _ _ _ _ _ from ?_)
      refine wpIn_exit ?_
      refine then_x ?_
      refine then_x ?_
      refine blk_x ?_
      refine then_n ?_
      exact ⟨(fun b_ => (fun l_ => if l_ = 893 then 886 else l_) (o7360 b_)), A7361, c7362, l7363, (by exact Kn.pick (ks := [13]) hk rfl), (hs.relab0 (fun l_ => if l_ = 893 then 886 else l_) rfl), (f7364.relab (fun l_ => if l_ = 893 then 886 else l_) rfl), hc7365, H⟩
    · rw [b7437] at hk H
      replace H := bifT H
      refine x_if hk (b := true) rfl ?_
      refine (show Code.wpIn _ _ _ _ _ _ _ from ?_)
      refine wpIn_skip ?_
      refine then_n ?_
      refine x_seq ?_
      refine wpIn_block ?_
      refine x_seq ?_
      refine wpIn_region_lit ?_
      obtain ⟨q7438, H⟩ := ifS H
      obtain ⟨ad7439, hAad7439⟩ := RdC.addr (Own.rd f7059.now) q7438
      have hk_C := hk
      have f7059_C := f7059
      have f7364_C := f7364
      have f900000_C := f900000
      have f900020_C := f900020
      subst hAad7439
      have hk := hk_C
      clear hk_C
      have f7059 := f7059_C
      clear f7059_C
      have f7364 := f7364_C
      clear f7364_C
      have f900000 := f900000_C
      clear f900000_C
      have f900020 := f900020_C
      clear f900020_C
      refine x_run tab hk (k := 5) (lv := [.int .i64 (rdD 0 l7058 x7366)]) (ks := [0, 1, 2, 7, 13, 14, 15]) (e' := [(0, .slice Ap0 (p0).length cp0), (1, .slice Ap1 (p1).length cp1), (2, .int .i64 p2), (7, .slice (some ad7439) (l7058).length c7057), (13, .slice A7361 (l7363).length c7362), (14, .int .i64 x7366), (15, .int .i64 (rdD 0 l7058 x7366))]) rfl ⟨q7438, (load1 tab rfl (RdC.at0 (E := (encInt .i64)) (d := 0) (i := x7366) (Own.rd f7059.now) q7438 rfl)), trivial⟩ fun a hk => ?_
      refine wpListIn_nil ?_
      refine then_n ?_
      refine x_seq ?_
      refine x_seq ?_
      refine wpIn_region_lit ?_
      refine x_run tab hk (k := 3) (lv := []) (ks := [0, 1, 2, 7, 13, 14, 15, 88, 89, 90]) (e' := [(0, .slice Ap0 (p0).length cp0), (1, .slice Ap1 (p1).length cp1), (2, .int .i64 p2), (7, .slice (some ad7439) (l7058).length c7057), (13, .slice A7361 (l7363).length c7362), (14, .int .i64 x7366), (15, .int .i64 (rdD 0 l7058 x7366)), (88, .int .i64 p2), (89, .slice Ap0 (p0).length cp0), (90, .int .i64 (rdD 0 l7058 x7366))]) rfl trivial fun a hk => ?_
      refine x_op hk rfl ?_
      obtain ⟨t7443, hc7444, H⟩ := bindS H
      refine op_call hk ent_21 (vs := [.slice Ap0 (p0).length cp0, .int .i64 (rdD 0 l7058 x7366)]) rfl (tidewrackref13_Has_calls K Ap0 cp0 p0 (rdD 0 l7058 x7366) _ o7360 _ f900000 hcp0   _ hc7444) ?_
      rintro _ w7445 ⟨o7446, rfl, st7447⟩
      replace f7059 := f7059.st st7447 (by decide)
      replace f7364 := f7364.st st7447 (by decide)
      replace f900000 := f900000.st st7447 (by decide)
      replace f900020 := f900020.st st7447 (by decide)
      replace hs := hs.loc0 st7447 (by decide)
      have hk := hk.put 91 (.bool t7443) rfl
      refine x_run tab hk (k := 2) (lv := []) (ks := [0, 1, 2, 7, 13, 14, 15, 88, 91, 92, 93]) (e' := [(0, .slice Ap0 (p0).length cp0), (1, .slice Ap1 (p1).length cp1), (2, .int .i64 p2), (7, .slice (some ad7439) (l7058).length c7057), (13, .slice A7361 (l7363).length c7362), (14, .int .i64 x7366), (15, .int .i64 (rdD 0 l7058 x7366)), (88, .int .i64 p2), (91, .bool t7443), (92, .slice Ap1 (p1).length cp1), (93, .int .i64 (rdD 0 l7058 x7366))]) rfl trivial fun a hk => ?_
      refine x_op hk rfl ?_
      obtain ⟨t7451, hc7452, H⟩ := bindS H
      refine op_call hk ent_21 (vs := [.slice Ap1 (p1).length cp1, .int .i64 (rdD 0 l7058 x7366)]) rfl (tidewrackref13_Has_calls K Ap1 cp1 p1 (rdD 0 l7058 x7366) _ o7446 _ f900020 hcp1   _ hc7452) ?_
      rintro _ w7453 ⟨o7454, rfl, st7455⟩
      replace f7059 := f7059.st st7455 (by decide)
      replace f7364 := f7364.st st7455 (by decide)
      replace f900000 := f900000.st st7455 (by decide)
      replace f900020 := f900020.st st7455 (by decide)
      replace hs := hs.loc0 st7455 (by decide)
      have hk := hk.put 94 (.bool t7451) rfl
      refine x_op hk rfl ?_
      obtain ⟨t7459, hc7460, H⟩ := bindS H
      refine op_call hk ent_38 (vs := [.int .i64 p2, .bool t7443, .bool t7451]) rfl (tidewrackref13_keep_calls p2 t7443 t7451 _ o7454    _ hc7460) ?_
      rintro _ w7461 ⟨o7462, rfl, st7463⟩
      replace f7059 := f7059.st st7463 (by decide)
      replace f7364 := f7364.st st7463 (by decide)
      replace f900000 := f900000.st st7463 (by decide)
      replace f900020 := f900020.st st7463 (by decide)
      replace hs := hs.loc0 st7463 (by decide)
      have hk := hk.put 95 (.bool t7459) rfl
      refine x_run tab hk (k := 1) (lv := []) (ks := [0, 1, 2, 7, 13, 14, 15, 96]) (e' := [(0, .slice Ap0 (p0).length cp0), (1, .slice Ap1 (p1).length cp1), (2, .int .i64 p2), (7, .slice (some ad7439) (l7058).length c7057), (13, .slice A7361 (l7363).length c7362), (14, .int .i64 x7366), (15, .int .i64 (rdD 0 l7058 x7366)), (96, .bool (!t7459))]) rfl trivial fun a hk => ?_
      refine wpListIn_nil ?_
      refine then_n ?_
      cases b7464 : (!t7459)
      · rw [b7464] at hk H
        replace H := bifF H
        refine x_if hk (b := false) rfl ?_
        refine (show Code.wpIn _ _ _ _ _ _ _ from ?_)
        refine wpIn_skip ?_
        refine then_n ?_
        refine x_seq ?_
        refine wpIn_region_lit ?_
        refine x_run tab hk (k := 3) (lv := []) (ks := [0, 1, 2, 7, 13, 14, 15, 16]) (e' := [(0, .slice Ap0 (p0).length cp0), (1, .slice Ap1 (p1).length cp1), (2, .int .i64 p2), (7, .slice (some ad7439) (l7058).length c7057), (13, .slice A7361 (l7363).length c7362), (14, .int .i64 x7366), (15, .int .i64 (rdD 0 l7058 x7366)), (16, .int .i64 ((l7363).length : Int))]) rfl trivial fun a hk => ?_
        refine wpListIn_nil ?_
        refine then_n ?_
        refine x_mid (fun a_ w_ => ∃ o7474 : Nat → Nat, ∃ x7475 : Bool, Kn 132 a_ [(0, .slice Ap0 (p0).length cp0), (1, .slice Ap1 (p1).length cp1), (2, .int .i64 p2), (7, .slice (some ad7439) (l7058).length c7057), (13, .slice A7361 (l7363).length c7362), (14, .int .i64 x7366), (15, .int .i64 (rdD 0 l7058 x7366)), (16, .int .i64 ((l7363).length : Int)), (110, .bool x7475)] ∧ St [] w (fun _ => 0) w_ o7474 ∧ Ft (Own (encInt .i64) 3 (.slice (some ad7439) (l7058).length c7057) l7058) w_ o7474 897 ∧ Ft (Own ET28 30 (.slice A7361 (l7363).length c7362) l7363) w_ o7474 898 ∧ Ft (RdC ET28 Ap0 p0) w_ o7474 0 ∧ Ft (RdC ET28 Ap1 p1) w_ o7474 0 ∧ tidewrackref13_build_j4 l7058 l7363 x7366 lp7435 x7475 = some r) ?_ ?_
        rotate_left
        · rintro a w7476 ⟨o7474, x7475, hk, hs, f7059, f7364, f900000, f900020, H⟩
          rw [tidewrackref13_build_j4] at H
          cases b7477 : x7475
          · rw [b7477] at hk H
            replace H := bifF H
            refine x_if hk (b := false) rfl ?_
            refine (show Code.wpIn _ _ _ _ _ _ _ from ?_)
            refine wpIn_region_lit ?_
            obtain ⟨q7478, H⟩ := ifS H
            refine x_run tab hk (k := 8) (lv := [.int .i64 (rdD 0 l7058 (IntKind.wrap .i64 (x7366 + 1)))]) (ks := [0, 1, 2, 7, 14, 121, 128]) (e' := [(0, .slice Ap0 (p0).length cp0), (1, .slice Ap1 (p1).length cp1), (2, .int .i64 p2), (7, .slice (some ad7439) (l7058).length c7057), (14, .int .i64 x7366), (121, .slice A7361 (l7363).length c7362), (128, .agg #[.int .i64 (rdD 0 l7058 x7366), .int .i64 (rdD 0 l7058 (IntKind.wrap .i64 (x7366 + 1)))])]) rfl ⟨q7478, (load1 tab rfl (RdC.at0 (E := (encInt .i64)) (d := 0) (i := (IntKind.wrap .i64 (x7366 + 1))) (Own.rd f7059.now) q7478 rfl)), trivial⟩ fun a hk => ?_
            refine x_op hk rfl ?_
            refine op_slice (o := o7474) tab hk (vs := [.agg #[.int .i64 (rdD 0 l7058 x7366), .int .i64 (rdD 0 l7058 (IntKind.wrap .i64 (x7366 + 1)))]]) (cs := [.int .i64 (rdD 0 l7058 x7366), .int .i64 (rdD 0 l7058 (IntKind.wrap .i64 (x7366 + 1)))]) rfl rfl rfl rfl rfl rfl rfl rfl rfl 899 fun bx7482 w7479 o7480 st7481 f7483 => ?_
            replace f7059 := f7059.st st7481 (by decide)
            replace f7364 := f7364.st st7481 (by decide)
            replace f900000 := f900000.st st7481 (by decide)
            replace f900020 := f900020.st st7481 (by decide)
            replace hs := hs.loc0 st7481 (by decide)
            have f7484 : Ft (Own ET28 30 (.slice (some ⟨bx7482, 0, none⟩) (([(⟨(rdD 0 l7058 x7366), (rdD 0 l7058 (IntKind.wrap .i64 (x7366 + 1)))⟩ : T28)] : List T28)).length 1) ([(⟨(rdD 0 l7058 x7366), (rdD 0 l7058 (IntKind.wrap .i64 (x7366 + 1)))⟩ : T28)] : List T28)) w7479 o7480 899 := f7483.imp fun _ h_ => Own.of_box h_ rfl (by simp)
            have hk := hk.put 129 (.slice (some ⟨bx7482, 0, none⟩) (([(⟨(rdD 0 l7058 x7366), (rdD 0 l7058 (IntKind.wrap .i64 (x7366 + 1)))⟩ : T28)] : List T28)).length 1) rfl
            refine x_op hk rfl ?_
            obtain ⟨q7488, H⟩ := ifS H
            refine op_append (o := o7480) (E := ET28) (xs := l7363) (ys := ([(⟨(rdD 0 l7058 x7366), (rdD 0 l7058 (IntKind.wrap .i64 (x7366 + 1)))⟩ : T28)] : List T28)) tab hk rfl rfl rfl rfl rfl rfl rfl f7364 (Own.rd f7484.now) q7488 fun A7489 c7490 w7485 o7486 st7487 f7491 hc7492 => ?_
            replace f7059 := f7059.st st7487 (by decide)
            replace f7484 := f7484.st st7487 (by decide)
            replace f900000 := f900000.st st7487 (by decide)
            replace f900020 := f900020.st st7487 (by decide)
            replace hs := hs.loc0 st7487 (by decide)
            have hk := hk.put 130 (.slice A7489 ((l7363 ++ ([(⟨(rdD 0 l7058 x7366), (rdD 0 l7058 (IntKind.wrap .i64 (x7366 + 1)))⟩ : T28)] : List T28))).length c7490) rfl
            refine x_run tab hk (k := 1) (lv := []) (ks := [0, 1, 2, 7, 13, 14]) (e' := [(0, .slice Ap0 (p0).length cp0), (1, .slice Ap1 (p1).length cp1), (2, .int .i64 p2), (7, .slice (some ad7439) (l7058).length c7057), (13, .slice A7489 ((l7363 ++ ([(⟨(rdD 0 l7058 x7366), (rdD 0 l7058 (IntKind.wrap .i64 (x7366 + 1)))⟩ : T28)] : List T28))).length c7490), (14, .int .i64 x7366)]) rfl trivial fun a hk => ?_
            refine wpListIn_nil ?_
            refine blk_n ?_
            refine then_n ?_
            refine wpIn_region_lit ?_
            refine x_run tab hk (k := 3) (lv := []) (ks := [0, 1, 2, 7, 13, 14]) (e' := [(0, .slice Ap0 (p0).length cp0), (1, .slice Ap1 (p1).length cp1), (2, .int .i64 p2), (7, .slice (some ad7439) (l7058).length c7057), (13, .slice A7489 ((l7363 ++ ([(⟨(rdD 0 l7058 x7366), (rdD 0 l7058 (IntKind.wrap .i64 (x7366 + 1)))⟩ : T28)] : List T28))).length c7490), (14, .int .i64 (IntKind.wrap .i64 (x7366 + 1)))]) rfl trivial fun a hk => ?_
            refine wpListIn_nil ?_
            refine then_n ?_
            exact ⟨k7434, Nat.le_refl _, (fun b_ => (fun l_ => if l_ = 897 then 892 else if l_ = 898 then 893 else l_) (o7486 b_)), A7489, c7490, (l7363 ++ ([(⟨(rdD 0 l7058 x7366), (rdD 0 l7058 (IntKind.wrap .i64 (x7366 + 1)))⟩ : T28)] : List T28)), (IntKind.wrap .i64 (x7366 + 1)), (by exact Kn.pick (ks := [0, 1, 2, 7, 13, 14]) hk rfl), (hs.relab0 (fun l_ => if l_ = 897 then 892 else if l_ = 898 then 893 else l_) rfl), (f7059.relab (fun l_ => if l_ = 897 then 892 else if l_ = 898 then 893 else l_) rfl), (f7491.relab (fun l_ => if l_ = 897 then 892 else if l_ = 898 then 893 else l_) rfl), (f900000.relab (fun l_ => if l_ = 897 then 892 else if l_ = 898 then 893 else l_) rfl), (f900020.relab (fun l_ => if l_ = 897 then 892 else if l_ = 898 then 893 else l_) rfl), hc7492, (hlp7436 ▸ H)⟩
          · rw [b7477] at hk H
            replace H := bifT H
            refine x_if hk (b := true) rfl ?_
            refine (show Code.wpIn _ _ _ _ _ _ _ from ?_)
            refine wpIn_region_lit ?_
            obtain ⟨q7493, H⟩ := ifS H
            obtain ⟨q7494, H⟩ := ifS H
            obtain ⟨ad7495, hAad7495⟩ := RdC.addr (Own.rd f7364.now) q7494
            have hk_C := hk
            have f7059_C := f7059
            have f7364_C := f7364
            have f900000_C := f900000
            have f900020_C := f900020
            subst hAad7495
            have hk := hk_C
            clear hk_C
            have f7059 := f7059_C
            clear f7059_C
            have f7364 := f7364_C
            clear f7364_C
            have f900000 := f900000_C
            clear f900000_C
            have f900020 := f900020_C
            clear f900020_C
            refine x_run tab hk (k := 10) (lv := [.int .i64 (rdD 0 l7058 (IntKind.wrap .i64 (x7366 + 1)))]) (ks := [0, 1, 2, 7, 13, 14, 118, 120]) (e' := [(0, .slice Ap0 (p0).length cp0), (1, .slice Ap1 (p1).length cp1), (2, .int .i64 p2), (7, .slice (some ad7439) (l7058).length c7057), (13, .slice (some ad7495) (l7363).length c7362), (14, .int .i64 x7366), (118, .int .i64 (rdD 0 l7058 (IntKind.wrap .i64 (x7366 + 1)))), (120, .pointer (some ((ad7495.add (Int.toNat (IntKind.wrap .i64 (((l7363).length : Int) - 1)) * 2)).add 1)))]) rfl ⟨q7493, (load1 tab rfl (RdC.at0 (E := (encInt .i64)) (d := 0) (i := (IntKind.wrap .i64 (x7366 + 1))) (Own.rd f7059.now) q7493 rfl)), q7494, trivial⟩ fun a hk => ?_
            refine x_op hk rfl ?_
            refine op_storeO tab hk (E := ET28) (i := (IntKind.wrap .i64 (((l7363).length : Int) - 1))) (j := 1) (dx := zT28) (y' := (⟨(rdD zT28 l7363 (IntKind.wrap .i64 (((l7363).length : Int) - 1))).From, (rdD 0 l7058 (IntKind.wrap .i64 (x7366 + 1)))⟩ : T28)) rfl rfl rfl f7364 rfl q7494 rfl rfl rfl rfl fun w7496 o7497 st7498 f7364_ => ?_
            replace f7059 := f7059.st st7498 (by decide)
            replace f900000 := f900000.st st7498 (by decide)
            replace f900020 := f900020.st st7498 (by decide)
            replace hs := hs.loc0 st7498 (by decide)
            replace f7364 := f7364_
            have hl7499 : (List.set l7363 (Int.toNat (IntKind.wrap .i64 (((l7363).length : Int) - 1))) (⟨(rdD zT28 l7363 (IntKind.wrap .i64 (((l7363).length : Int) - 1))).From, (rdD 0 l7058 (IntKind.wrap .i64 (x7366 + 1)))⟩ : T28)).length = (l7363).length := List.length_set
            replace hk := Kn.re hk [0, 1, 2, 7, 13, 14, 118] (e2 := [(0, .slice Ap0 (p0).length cp0), (1, .slice Ap1 (p1).length cp1), (2, .int .i64 p2), (7, .slice (some ad7439) (l7058).length c7057), (13, .slice (some ad7495) ((List.set l7363 (Int.toNat (IntKind.wrap .i64 (((l7363).length : Int) - 1))) (⟨(rdD zT28 l7363 (IntKind.wrap .i64 (((l7363).length : Int) - 1))).From, (rdD 0 l7058 (IntKind.wrap .i64 (x7366 + 1)))⟩ : T28))).length c7362), (14, .int .i64 x7366), (118, .int .i64 (rdD 0 l7058 (IntKind.wrap .i64 (x7366 + 1))))]) rfl (by rw [hl7499])
            refine wpListIn_nil ?_
            refine blk_n ?_
            refine then_n ?_
            refine wpIn_region_lit ?_
            refine x_run tab hk (k := 3) (lv := []) (ks := [0, 1, 2, 7, 13, 14]) (e' := [(0, .slice Ap0 (p0).length cp0), (1, .slice Ap1 (p1).length cp1), (2, .int .i64 p2), (7, .slice (some ad7439) (l7058).length c7057), (13, .slice (some ad7495) ((List.set l7363 (Int.toNat (IntKind.wrap .i64 (((l7363).length : Int) - 1))) (⟨(rdD zT28 l7363 (IntKind.wrap .i64 (((l7363).length : Int) - 1))).From, (rdD 0 l7058 (IntKind.wrap .i64 (x7366 + 1)))⟩ : T28))).length c7362), (14, .int .i64 (IntKind.wrap .i64 (x7366 + 1)))]) rfl trivial fun a hk => ?_
            refine wpListIn_nil ?_
            refine then_n ?_
            exact ⟨k7434, Nat.le_refl _, (fun b_ => (fun l_ => if l_ = 897 then 892 else if l_ = 898 then 893 else l_) (o7497 b_)), (some ad7495), c7362, (List.set l7363 (Int.toNat (IntKind.wrap .i64 (((l7363).length : Int) - 1))) (⟨(rdD zT28 l7363 (IntKind.wrap .i64 (((l7363).length : Int) - 1))).From, (rdD 0 l7058 (IntKind.wrap .i64 (x7366 + 1)))⟩ : T28)), (IntKind.wrap .i64 (x7366 + 1)), (by exact Kn.pick (ks := [0, 1, 2, 7, 13, 14]) hk rfl), (hs.relab0 (fun l_ => if l_ = 897 then 892 else if l_ = 898 then 893 else l_) rfl), (f7059.relab (fun l_ => if l_ = 897 then 892 else if l_ = 898 then 893 else l_) rfl), (f7364.relab (fun l_ => if l_ = 897 then 892 else if l_ = 898 then 893 else l_) rfl), (f900000.relab (fun l_ => if l_ = 897 then 892 else if l_ = 898 then 893 else l_) rfl), (f900020.relab (fun l_ => if l_ = 897 then 892 else if l_ = 898 then 893 else l_) rfl), (by rw [List.length_set]; exact hc7365), (hlp7436 ▸ H)⟩
        refine wpIn_region_lit ?_
        refine x_run tab hk (k := 3) (lv := []) (ks := [0, 1, 2, 7, 13, 14, 15, 16, 101]) (e' := [(0, .slice Ap0 (p0).length cp0), (1, .slice Ap1 (p1).length cp1), (2, .int .i64 p2), (7, .slice (some ad7439) (l7058).length c7057), (13, .slice A7361 (l7363).length c7362), (14, .int .i64 x7366), (15, .int .i64 (rdD 0 l7058 x7366)), (16, .int .i64 ((l7363).length : Int)), (101, .bool (decide (((l7363).length : Int) > (0 : Int))))]) rfl trivial fun a hk => ?_
        cases b7500 : (decide (((l7363).length : Int) > (0 : Int)))
        · rw [b7500] at hk H
          replace H := bifF H
          refine x_run tab hk (k := 9) (lv := []) (ks := [0, 1, 2, 7, 13, 14, 15, 16, 110]) (e' := [(0, .slice Ap0 (p0).length cp0), (1, .slice Ap1 (p1).length cp1), (2, .int .i64 p2), (7, .slice (some ad7439) (l7058).length c7057), (13, .slice A7361 (l7363).length c7362), (14, .int .i64 x7366), (15, .int .i64 (rdD 0 l7058 x7366)), (16, .int .i64 ((l7363).length : Int)), (110, .bool false)]) rfl trivial fun a hk => ?_
          refine wpListIn_nil ?_
          refine then_n ?_
          exact ⟨(fun b_ => (fun l_ => if l_ = 892 then 897 else if l_ = 893 then 898 else l_) (o7462 b_)), false, (by exact Kn.pick (ks := [0, 1, 2, 7, 13, 14, 15, 16, 110]) hk rfl), (hs.relab0 (fun l_ => if l_ = 892 then 897 else if l_ = 893 then 898 else l_) rfl), (f7059.relab (fun l_ => if l_ = 892 then 897 else if l_ = 893 then 898 else l_) rfl), (f7364.relab (fun l_ => if l_ = 892 then 897 else if l_ = 893 then 898 else l_) rfl), (f900000.relab (fun l_ => if l_ = 892 then 897 else if l_ = 893 then 898 else l_) rfl), (f900020.relab (fun l_ => if l_ = 892 then 897 else if l_ = 893 then 898 else l_) rfl), H⟩
        · rw [b7500] at hk H
          replace H := bifT H
          obtain ⟨q7501, H⟩ := ifS H
          obtain ⟨ad7502, hAad7502⟩ := RdC.addr (Own.rd f7364.now) q7501
          have hk_C := hk
          have f7059_C := f7059
          have f7364_C := f7364
          have f900000_C := f900000
          have f900020_C := f900020
          subst hAad7502
          have hk := hk_C
          clear hk_C
          have f7059 := f7059_C
          clear f7059_C
          have f7364 := f7364_C
          clear f7364_C
          have f900000 := f900000_C
          clear f900000_C
          have f900020 := f900020_C
          clear f900020_C
          refine x_run tab hk (k := 9) (lv := [.int .i64 ((rdD zT28 l7363 (IntKind.wrap .i64 (((l7363).length : Int) - 1))).To)]) (ks := [0, 1, 2, 7, 13, 14, 15, 16, 110]) (e' := [(0, .slice Ap0 (p0).length cp0), (1, .slice Ap1 (p1).length cp1), (2, .int .i64 p2), (7, .slice (some ad7439) (l7058).length c7057), (13, .slice (some ad7502) (l7363).length c7362), (14, .int .i64 x7366), (15, .int .i64 (rdD 0 l7058 x7366)), (16, .int .i64 ((l7363).length : Int)), (110, .bool (((rdD zT28 l7363 (IntKind.wrap .i64 (((l7363).length : Int) - 1))).To) == (rdD 0 l7058 x7366)))]) rfl ⟨q7501, (load1 tab rfl (RdC.at (E := ET28) (d := zT28) (i := (IntKind.wrap .i64 (((l7363).length : Int) - 1))) (j := 1) (Own.rd f7364.now) q7501 rfl)), trivial⟩ fun a hk => ?_
          refine wpListIn_nil ?_
          refine then_n ?_
          exact ⟨(fun b_ => (fun l_ => if l_ = 892 then 897 else if l_ = 893 then 898 else l_) (o7462 b_)), (((rdD zT28 l7363 (IntKind.wrap .i64 (((l7363).length : Int) - 1))).To) == (rdD 0 l7058 x7366)), (by exact Kn.pick (ks := [0, 1, 2, 7, 13, 14, 15, 16, 110]) hk rfl), (hs.relab0 (fun l_ => if l_ = 892 then 897 else if l_ = 893 then 898 else l_) rfl), (f7059.relab (fun l_ => if l_ = 892 then 897 else if l_ = 893 then 898 else l_) rfl), (f7364.relab (fun l_ => if l_ = 892 then 897 else if l_ = 893 then 898 else l_) rfl), (f900000.relab (fun l_ => if l_ = 892 then 897 else if l_ = 893 then 898 else l_) rfl), (f900020.relab (fun l_ => if l_ = 892 then 897 else if l_ = 893 then 898 else l_) rfl), H⟩
      · rw [b7464] at hk H
        replace H := bifT H
        refine x_if hk (b := true) rfl ?_
        refine (show Code.wpIn _ _ _ _ _ _ _ from ?_)
        refine wpIn_exit ?_
        refine then_x ?_
        refine blk_x ?_
        refine then_n ?_
        refine wpIn_region_lit ?_
        refine x_run tab hk (k := 3) (lv := []) (ks := [0, 1, 2, 7, 13, 14]) (e' := [(0, .slice Ap0 (p0).length cp0), (1, .slice Ap1 (p1).length cp1), (2, .int .i64 p2), (7, .slice (some ad7439) (l7058).length c7057), (13, .slice A7361 (l7363).length c7362), (14, .int .i64 (IntKind.wrap .i64 (x7366 + 1)))]) rfl trivial fun a hk => ?_
        refine wpListIn_nil ?_
        refine then_n ?_
        exact ⟨k7434, Nat.le_refl _, o7462, A7361, c7362, l7363, (IntKind.wrap .i64 (x7366 + 1)), (by exact Kn.pick (ks := [0, 1, 2, 7, 13, 14]) hk rfl), hs, f7059, f7364, f900000, f900020, hc7365, (hlp7436 ▸ H)⟩
  refine x_seq ?_
  refine wpIn_region_lit ?_
  refine x_op hk rfl ?_
  refine op_slice (o := o2) tab hk (vs := []) (cs := []) rfl rfl rfl rfl rfl rfl rfl rfl rfl 900 fun bx7506 w7503 o7504 st7505 f7507 => ?_
  replace f6 := f6.st st7505 (by decide)
  replace f900000 := f900000.st st7505 (by decide)
  replace f900020 := f900020.st st7505 (by decide)
  replace hs := hs.loc0 st7505 (by decide)
  have f7508 : Ft (Own ET28 30 (.slice (some ⟨bx7506, 0, none⟩) (([] : List T28)).length 0) ([] : List T28)) w7503 o7504 900 := f7507.imp fun _ h_ => Own.of_box h_ rfl (by simp)
  have hk := hk.put 18 (.slice (some ⟨bx7506, 0, none⟩) (([] : List T28)).length 0) rfl
  refine x_run tab hk (k := 1) (lv := []) (ks := [0, 1, 2, 7, 18, 19]) (e' := [(0, .slice Ap0 (p0).length cp0), (1, .slice Ap1 (p1).length cp1), (2, .int .i64 p2), (7, .slice (some ⟨bx4, 0, none⟩) (([] : List Int)).length 0), (18, .slice (some ⟨bx7506, 0, none⟩) (([] : List T28)).length 0), (19, .slice Ap0 (p0).length cp0)]) rfl trivial fun a hk => ?_
  refine x_op hk rfl ?_
  obtain ⟨q7512, H⟩ := ifS H
  refine op_append (o := o7504) (E := ET28) (xs := ([] : List T28)) (ys := p0) tab hk rfl rfl rfl rfl rfl rfl rfl f7508 f900000.now q7512 fun A7513 c7514 w7509 o7510 st7511 f7515 hc7516 => ?_
  replace f6 := f6.st st7511 (by decide)
  replace f900000 := f900000.st st7511 (by decide)
  replace f900020 := f900020.st st7511 (by decide)
  replace hs := hs.loc0 st7511 (by decide)
  have hk := hk.put 20 (.slice A7513 ((([] : List T28) ++ p0)).length c7514) rfl
  refine x_run tab hk (k := 1) (lv := []) (ks := [0, 1, 2, 7, 20, 21]) (e' := [(0, .slice Ap0 (p0).length cp0), (1, .slice Ap1 (p1).length cp1), (2, .int .i64 p2), (7, .slice (some ⟨bx4, 0, none⟩) (([] : List Int)).length 0), (20, .slice A7513 ((([] : List T28) ++ p0)).length c7514), (21, .slice Ap1 (p1).length cp1)]) rfl trivial fun a hk => ?_
  refine x_op hk rfl ?_
  obtain ⟨q7520, H⟩ := ifS H
  refine op_append (o := o7510) (E := ET28) (xs := (([] : List T28) ++ p0)) (ys := p1) tab hk rfl rfl rfl rfl rfl rfl rfl f7515 f900020.now q7520 fun A7521 c7522 w7517 o7518 st7519 f7523 hc7524 => ?_
  replace f6 := f6.st st7519 (by decide)
  replace f900000 := f900000.st st7519 (by decide)
  replace f900020 := f900020.st st7519 (by decide)
  replace hs := hs.loc0 st7519 (by decide)
  have hk := hk.put 22 (.slice A7521 (((([] : List T28) ++ p0) ++ p1)).length c7522) rfl
  refine x_run tab hk (k := 2) (lv := []) (ks := [0, 1, 2, 7, 22, 23, 24]) (e' := [(0, .slice Ap0 (p0).length cp0), (1, .slice Ap1 (p1).length cp1), (2, .int .i64 p2), (7, .slice (some ⟨bx4, 0, none⟩) (([] : List Int)).length 0), (22, .slice A7521 (((([] : List T28) ++ p0) ++ p1)).length c7522), (23, .int .i64 ((((([] : List T28) ++ p0) ++ p1)).length : Int)), (24, .int .i64 0)]) rfl trivial fun a hk => ?_
  refine wpListIn_nil ?_
  refine then_n ?_
  refine wpIn_block ?_
  refine x_loop (fun j_ a_ w_ => ∃ o9818 : Nat → Nat, ∃ A9819 : Option Addr, ∃ c9820 : Nat, ∃ l9821 : List Int, ∃ A9824 : Option Addr, ∃ c9825 : Nat, ∃ x9828 : Int, Kn 132 a_ [(0, .slice Ap0 (p0).length cp0), (1, .slice Ap1 (p1).length cp1), (2, .int .i64 p2), (7, .slice A9819 (l9821).length c9820), (22, .slice A9824 (((([] : List T28) ++ p0) ++ p1)).length c9825), (23, .int .i64 ((((([] : List T28) ++ p0) ++ p1)).length : Int)), (24, .int .i64 x9828)] ∧ St [] w (fun _ => 0) w_ o9818 ∧ Ft (RdC ET28 Ap0 p0) w_ o9818 0 ∧ Ft (RdC ET28 Ap1 p1) w_ o9818 0 ∧ Ft (Own (encInt .i64) 3 (.slice A9819 (l9821).length c9820) l9821) w_ o9818 1191 ∧ Ft (Own ET28 30 (.slice A9824 (((([] : List T28) ++ p0) ++ p1)).length c9825) ((([] : List T28) ++ p0) ++ p1)) w_ o9818 1192 ∧ (l9821).length ≤ c9820 ∧ (((([] : List T28) ++ p0) ++ p1)).length ≤ c9825 ∧ tidewrackref13_build_l5 K p0 p1 p2 j_ l9821 x9828 = some r) (k := K) ⟨(fun b_ => (fun l_ => if l_ = 1 then 1191 else if l_ = 900 then 1192 else l_) (o7518 b_)), (some ⟨bx4, 0, none⟩), 0, ([] : List Int), A7521, c7522, 0, (by exact Kn.pick (ks := [0, 1, 2, 7, 22, 23, 24]) hk rfl), (hs.relab0 (fun l_ => if l_ = 1 then 1191 else if l_ = 900 then 1192 else l_) rfl), (f900000.relab (fun l_ => if l_ = 1 then 1191 else if l_ = 900 then 1192 else l_) rfl), (f900020.relab (fun l_ => if l_ = 1 then 1191 else if l_ = 900 then 1192 else l_) rfl), (f6.relab (fun l_ => if l_ = 1 then 1191 else if l_ = 900 then 1192 else l_) rfl), (f7523.relab (fun l_ => if l_ = 1 then 1191 else if l_ = 900 then 1192 else l_) rfl), (Nat.le_refl _), hc7524, H⟩ (by rintro _ _ ⟨_, _, _, _, _, _, _, _, _, _, _, _, _, _, _, H_⟩; exact absurd (show (none : Option (List T28)) = some r from H_) (by simp)) ?_
  rintro k12184 a w12183 ⟨o9818, A9819, c9820, l9821, A9824, c9825, x9828, hk, hs, f900000, f900020, f9822, f9826, hc9823, hc9827, H⟩
  rw [tidewrackref13_build_l5] at H
  obtain ⟨lp12185, hlp12186⟩ : ∃ lp_, lp_ = tidewrackref13_build_l5 K p0 p1 p2 k12184 := ⟨_, rfl⟩
  rw [← hlp12186] at H
  refine x_seq ?_
  refine wpIn_region_lit ?_
  refine x_run tab hk (k := 1) (lv := []) (ks := [0, 1, 2, 7, 22, 23, 24, 25]) (e' := [(0, .slice Ap0 (p0).length cp0), (1, .slice Ap1 (p1).length cp1), (2, .int .i64 p2), (7, .slice A9819 (l9821).length c9820), (22, .slice A9824 (((([] : List T28) ++ p0) ++ p1)).length c9825), (23, .int .i64 ((((([] : List T28) ++ p0) ++ p1)).length : Int)), (24, .int .i64 x9828), (25, .bool (decide (x9828 < ((((([] : List T28) ++ p0) ++ p1)).length : Int))))]) rfl trivial fun a hk => ?_
  refine wpListIn_nil ?_
  refine then_n ?_
  refine x_seq ?_
  cases b12187 : (decide (x9828 < ((((([] : List T28) ++ p0) ++ p1)).length : Int)))
  · rw [b12187] at hk H
    replace H := bifF H
    refine x_if hk (b := false) rfl ?_
    refine (show Code.wpIn _ _ _ _ _ _ _ from ?_)
    refine wpIn_exit ?_
    refine then_x ?_
    refine then_x ?_
    refine blk_x ?_
    refine then_n ?_
    exact ⟨(fun b_ => (fun l_ => if l_ = 1191 then 871 else l_) (o9818 b_)), A9819, c9820, l9821, (by exact Kn.pick (ks := [0, 1, 2, 7]) hk rfl), (hs.relab0 (fun l_ => if l_ = 1191 then 871 else l_) rfl), (f9822.relab (fun l_ => if l_ = 1191 then 871 else l_) rfl), (f900000.relab (fun l_ => if l_ = 1191 then 871 else l_) rfl), (f900020.relab (fun l_ => if l_ = 1191 then 871 else l_) rfl), hc9823, H⟩
  · rw [b12187] at hk H
    replace H := bifT H
    refine x_if hk (b := true) rfl ?_
    refine (show Code.wpIn _ _ _ _ _ _ _ from ?_)
    refine wpIn_skip ?_
    refine then_n ?_
    refine x_mid (fun a_ w_ => ∃ o13366 : Nat → Nat, ∃ A13367 : Option Addr, ∃ c13368 : Nat, ∃ l13369 : List Int, ∃ A13372 : Option Addr, ∃ c13373 : Nat, Kn 132 a_ [(0, .slice Ap0 (p0).length cp0), (1, .slice Ap1 (p1).length cp1), (2, .int .i64 p2), (7, .slice A13367 (l13369).length c13368), (22, .slice A13372 (((([] : List T28) ++ p0) ++ p1)).length c13373), (23, .int .i64 ((((([] : List T28) ++ p0) ++ p1)).length : Int)), (24, .int .i64 x9828)] ∧ St [] w (fun _ => 0) w_ o13366 ∧ Ft (Own (encInt .i64) 3 (.slice A13367 (l13369).length c13368) l13369) w_ o13366 1624 ∧ Ft (Own ET28 30 (.slice A13372 (((([] : List T28) ++ p0) ++ p1)).length c13373) ((([] : List T28) ++ p0) ++ p1)) w_ o13366 1625 ∧ Ft (RdC ET28 Ap0 p0) w_ o13366 0 ∧ Ft (RdC ET28 Ap1 p1) w_ o13366 0 ∧ (l13369).length ≤ c13368 ∧ (((([] : List T28) ++ p0) ++ p1)).length ≤ c13373 ∧ tidewrackref13_build_j6 x9828 lp12185 l13369 = some r) ?_ ?_
    rotate_left
    · rintro a w13376 ⟨o13366, A13367, c13368, l13369, A13372, c13373, hk, hs, f13370, f13374, f900000, f900020, hc13371, hc13375, H⟩
      rw [tidewrackref13_build_j6] at H
      refine wpIn_region_lit ?_
      refine x_run tab hk (k := 2) (lv := []) (ks := [0, 1, 2, 7, 22, 23, 24]) (e' := [(0, .slice Ap0 (p0).length cp0), (1, .slice Ap1 (p1).length cp1), (2, .int .i64 p2), (7, .slice A13367 (l13369).length c13368), (22, .slice A13372 (((([] : List T28) ++ p0) ++ p1)).length c13373), (23, .int .i64 ((((([] : List T28) ++ p0) ++ p1)).length : Int)), (24, .int .i64 (IntKind.wrap .i64 (x9828 + 1)))]) rfl trivial fun a hk => ?_
      refine wpListIn_nil ?_
      refine then_n ?_
      exact ⟨k12184, Nat.le_refl _, (fun b_ => (fun l_ => if l_ = 1624 then 1191 else if l_ = 1625 then 1192 else l_) (o13366 b_)), A13367, c13368, l13369, A13372, c13373, (IntKind.wrap .i64 (x9828 + 1)), (by exact Kn.pick (ks := [0, 1, 2, 7, 22, 23, 24]) hk rfl), (hs.relab0 (fun l_ => if l_ = 1624 then 1191 else if l_ = 1625 then 1192 else l_) rfl), (f900000.relab (fun l_ => if l_ = 1624 then 1191 else if l_ = 1625 then 1192 else l_) rfl), (f900020.relab (fun l_ => if l_ = 1624 then 1191 else if l_ = 1625 then 1192 else l_) rfl), (f13370.relab (fun l_ => if l_ = 1624 then 1191 else if l_ = 1625 then 1192 else l_) rfl), (f13374.relab (fun l_ => if l_ = 1624 then 1191 else if l_ = 1625 then 1192 else l_) rfl), hc13371, hc13375, (hlp12186 ▸ H)⟩
    refine wpIn_block ?_
    refine x_seq ?_
    refine wpIn_region_lit ?_
    obtain ⟨q13377, H⟩ := ifS H
    obtain ⟨ad13378, hAad13378⟩ := RdC.addr (Own.rd f9826.now) q13377
    have hk_C := hk
    have f900000_C := f900000
    have f900020_C := f900020
    have f9822_C := f9822
    have f9826_C := f9826
    subst hAad13378
    have hk := hk_C
    clear hk_C
    have f900000 := f900000_C
    clear f900000_C
    have f900020 := f900020_C
    clear f900020_C
    have f9822 := f9822_C
    clear f9822_C
    have f9826 := f9826_C
    clear f9826_C
    refine x_run tab hk (k := 2) (lv := [.agg #[.int .i64 ((rdD zT28 ((([] : List T28) ++ p0) ++ p1) x9828).From), .int .i64 ((rdD zT28 ((([] : List T28) ++ p0) ++ p1) x9828).To)]]) (ks := [0, 1, 2, 7, 22, 23, 24, 27]) (e' := [(0, .slice Ap0 (p0).length cp0), (1, .slice Ap1 (p1).length cp1), (2, .int .i64 p2), (7, .slice A9819 (l9821).length c9820), (22, .slice (some ad13378) (((([] : List T28) ++ p0) ++ p1)).length c9825), (23, .int .i64 ((((([] : List T28) ++ p0) ++ p1)).length : Int)), (24, .int .i64 x9828), (27, .agg #[.int .i64 ((rdD zT28 ((([] : List T28) ++ p0) ++ p1) x9828).From), .int .i64 ((rdD zT28 ((([] : List T28) ++ p0) ++ p1) x9828).To)])]) rfl ⟨q13377, (load_elem (E := ET28) (i := x9828) (dx := zT28) tab rfl rfl (Own.rd f9826.now) q13377), trivial⟩ fun a hk => ?_
    refine x_op hk rfl ?_
    refine op_alloc (o := o9818) tab (t := 30) (cs := [.int .i64 0, .int .i64 0]) rfl rfl 1626 fun bx13382 w13379 o13380 st13381 f13383 => ?_
    replace f900000 := f900000.st st13381 (by decide)
    replace f900020 := f900020.st st13381 (by decide)
    replace f9822 := f9822.st st13381 (by decide)
    replace f9826 := f9826.st st13381 (by decide)
    replace hs := hs.loc0 st13381 (by decide)
    have hk := hk.put 9 (.pointer (some ⟨bx13382, 0, none⟩)) rfl
    refine x_op hk rfl ?_
    refine op_store tab hk (t := 30) (v := .agg #[.int .i64 ((rdD zT28 ((([] : List T28) ++ p0) ++ p1) x9828).From), .int .i64 ((rdD zT28 ((([] : List T28) ++ p0) ++ p1) x9828).To)]) (b := bx13382) (k := 0) (cs' := [.int .i64 ((rdD zT28 ((([] : List T28) ++ p0) ++ p1) x9828).From), .int .i64 ((rdD zT28 ((([] : List T28) ++ p0) ++ p1) x9828).To)]) rfl rfl rfl rfl rfl rfl f13383 rfl rfl fun w13384 o13385 st13386 f13383_ => ?_
    replace f900000 := f900000.st st13386 (by decide)
    replace f900020 := f900020.st st13386 (by decide)
    replace f9822 := f9822.st st13386 (by decide)
    replace f9826 := f9826.st st13386 (by decide)
    replace hs := hs.loc0 st13386 (by decide)
    replace f13383 := f13383_
    refine wpListIn_nil ?_
    refine then_n ?_
    refine x_seq ?_
    refine wpIn_region_lit ?_
    refine x_run tab hk (k := 4) (lv := [.int .i64 ((rdD zT28 ((([] : List T28) ++ p0) ++ p1) x9828).From), .int .i64 ((rdD zT28 ((([] : List T28) ++ p0) ++ p1) x9828).To)]) (ks := [0, 1, 2, 7, 22, 23, 24, 29, 31]) (e' := [(0, .slice Ap0 (p0).length cp0), (1, .slice Ap1 (p1).length cp1), (2, .int .i64 p2), (7, .slice A9819 (l9821).length c9820), (22, .slice (some ad13378) (((([] : List T28) ++ p0) ++ p1)).length c9825), (23, .int .i64 ((((([] : List T28) ++ p0) ++ p1)).length : Int)), (24, .int .i64 x9828), (29, .int .i64 ((rdD zT28 ((([] : List T28) ++ p0) ++ p1) x9828).From)), (31, .int .i64 ((rdD zT28 ((([] : List T28) ++ p0) ++ p1) x9828).To))]) rfl ⟨(load1 tab rfl ((Bx.cell f13383.now 0).trans rfl)), (load1 tab rfl ((Bx.cell f13383.now 1).trans rfl)), trivial⟩ fun a hk => ?_
    refine x_op hk rfl ?_
    refine op_slice (o := o13385) tab hk (vs := [.int .i64 ((rdD zT28 ((([] : List T28) ++ p0) ++ p1) x9828).From), .int .i64 ((rdD zT28 ((([] : List T28) ++ p0) ++ p1) x9828).To)]) (cs := [.int .i64 ((rdD zT28 ((([] : List T28) ++ p0) ++ p1) x9828).From), .int .i64 ((rdD zT28 ((([] : List T28) ++ p0) ++ p1) x9828).To)]) rfl rfl rfl rfl rfl rfl rfl rfl rfl 1627 fun bx13390 w13387 o13388 st13389 f13391 => ?_
    replace f900000 := f900000.st st13389 (by decide)
    replace f900020 := f900020.st st13389 (by decide)
    replace f9822 := f9822.st st13389 (by decide)
    replace f9826 := f9826.st st13389 (by decide)
    replace hs := hs.loc0 st13389 (by decide)
    have f13392 : Ft (Own (encInt .i64) 3 (.slice (some ⟨bx13390, 0, none⟩) (([(rdD zT28 ((([] : List T28) ++ p0) ++ p1) x9828).From, (rdD zT28 ((([] : List T28) ++ p0) ++ p1) x9828).To] : List Int)).length 2) ([(rdD zT28 ((([] : List T28) ++ p0) ++ p1) x9828).From, (rdD zT28 ((([] : List T28) ++ p0) ++ p1) x9828).To] : List Int)) w13387 o13388 1627 := f13391.imp fun _ h_ => Own.of_box h_ rfl (by simp)
    have hk := hk.put 32 (.slice (some ⟨bx13390, 0, none⟩) (([(rdD zT28 ((([] : List T28) ++ p0) ++ p1) x9828).From, (rdD zT28 ((([] : List T28) ++ p0) ++ p1) x9828).To] : List Int)).length 2) rfl
    refine x_run tab hk (k := 2) (lv := []) (ks := [0, 1, 2, 7, 22, 23, 24, 32, 33, 34]) (e' := [(0, .slice Ap0 (p0).length cp0), (1, .slice Ap1 (p1).length cp1), (2, .int .i64 p2), (7, .slice A9819 (l9821).length c9820), (22, .slice (some ad13378) (((([] : List T28) ++ p0) ++ p1)).length c9825), (23, .int .i64 ((((([] : List T28) ++ p0) ++ p1)).length : Int)), (24, .int .i64 x9828), (32, .slice (some ⟨bx13390, 0, none⟩) (([(rdD zT28 ((([] : List T28) ++ p0) ++ p1) x9828).From, (rdD zT28 ((([] : List T28) ++ p0) ++ p1) x9828).To] : List Int)).length 2), (33, .int .i64 ((([(rdD zT28 ((([] : List T28) ++ p0) ++ p1) x9828).From, (rdD zT28 ((([] : List T28) ++ p0) ++ p1) x9828).To] : List Int)).length : Int)), (34, .int .i64 0)]) rfl trivial fun a hk => ?_
    refine wpListIn_nil ?_
    refine then_n ?_
    refine wpIn_block ?_
    refine x_loop (fun j_ a_ w_ => ∃ o13774 : Nat → Nat, ∃ A13775 : Option Addr, ∃ c13776 : Nat, ∃ l13777 : List Int, ∃ x13780 : Int, Kn 132 a_ [(0, .slice Ap0 (p0).length cp0), (1, .slice Ap1 (p1).length cp1), (2, .int .i64 p2), (7, .slice A13775 (l13777).length c13776), (22, .slice (some ad13378) (((([] : List T28) ++ p0) ++ p1)).length c9825), (23, .int .i64 ((((([] : List T28) ++ p0) ++ p1)).length : Int)), (24, .int .i64 x9828), (32, .slice (some ⟨bx13390, 0, none⟩) (([(rdD zT28 ((([] : List T28) ++ p0) ++ p1) x9828).From, (rdD zT28 ((([] : List T28) ++ p0) ++ p1) x9828).To] : List Int)).length 2), (33, .int .i64 ((([(rdD zT28 ((([] : List T28) ++ p0) ++ p1) x9828).From, (rdD zT28 ((([] : List T28) ++ p0) ++ p1) x9828).To] : List Int)).length : Int)), (34, .int .i64 x13780)] ∧ St [] w (fun _ => 0) w_ o13774 ∧ Ft (Own (encInt .i64) 3 (.slice (some ⟨bx13390, 0, none⟩) (([(rdD zT28 ((([] : List T28) ++ p0) ++ p1) x9828).From, (rdD zT28 ((([] : List T28) ++ p0) ++ p1) x9828).To] : List Int)).length 2) ([(rdD zT28 ((([] : List T28) ++ p0) ++ p1) x9828).From, (rdD zT28 ((([] : List T28) ++ p0) ++ p1) x9828).To] : List Int)) w_ o13774 1678 ∧ Ft (Own (encInt .i64) 3 (.slice A13775 (l13777).length c13776) l13777) w_ o13774 1676 ∧ Ft (RdC ET28 Ap0 p0) w_ o13774 0 ∧ Ft (RdC ET28 Ap1 p1) w_ o13774 0 ∧ Ft (Own ET28 30 (.slice (some ad13378) (((([] : List T28) ++ p0) ++ p1)).length c9825) ((([] : List T28) ++ p0) ++ p1)) w_ o13774 1677 ∧ (l13777).length ≤ c13776 ∧ tidewrackref13_build_l7 K p0 p1 x9828 lp12185 j_ l13777 x13780 = some r) (k := K) ⟨(fun b_ => (fun l_ => if l_ = 1191 then 1676 else if l_ = 1192 then 1677 else if l_ = 1627 then 1678 else l_) (o13388 b_)), A9819, c9820, l9821, 0, (by exact Kn.pick (ks := [0, 1, 2, 7, 22, 23, 24, 32, 33, 34]) hk rfl), (hs.relab0 (fun l_ => if l_ = 1191 then 1676 else if l_ = 1192 then 1677 else if l_ = 1627 then 1678 else l_) rfl), (f13392.relab (fun l_ => if l_ = 1191 then 1676 else if l_ = 1192 then 1677 else if l_ = 1627 then 1678 else l_) rfl), (f9822.relab (fun l_ => if l_ = 1191 then 1676 else if l_ = 1192 then 1677 else if l_ = 1627 then 1678 else l_) rfl), (f900000.relab (fun l_ => if l_ = 1191 then 1676 else if l_ = 1192 then 1677 else if l_ = 1627 then 1678 else l_) rfl), (f900020.relab (fun l_ => if l_ = 1191 then 1676 else if l_ = 1192 then 1677 else if l_ = 1627 then 1678 else l_) rfl), (f9826.relab (fun l_ => if l_ = 1191 then 1676 else if l_ = 1192 then 1677 else if l_ = 1627 then 1678 else l_) rfl), hc9823, H⟩ (by rintro _ _ ⟨_, _, _, _, _, _, _, _, _, _, _, _, _, H_⟩; exact absurd (show (none : Option (List T28)) = some r from H_) (by simp)) ?_
    rintro k14160 a w14159 ⟨o13774, A13775, c13776, l13777, x13780, hk, hs, f13392, f13778, f900000, f900020, f9826, hc13779, H⟩
    rw [tidewrackref13_build_l7] at H
    obtain ⟨lp14161, hlp14162⟩ : ∃ lp_, lp_ = tidewrackref13_build_l7 K p0 p1 x9828 lp12185 k14160 := ⟨_, rfl⟩
    rw [← hlp14162] at H
    refine x_seq ?_
    refine wpIn_region_lit ?_
    refine x_run tab hk (k := 1) (lv := []) (ks := [0, 1, 2, 7, 22, 23, 24, 32, 33, 34, 35]) (e' := [(0, .slice Ap0 (p0).length cp0), (1, .slice Ap1 (p1).length cp1), (2, .int .i64 p2), (7, .slice A13775 (l13777).length c13776), (22, .slice (some ad13378) (((([] : List T28) ++ p0) ++ p1)).length c9825), (23, .int .i64 ((((([] : List T28) ++ p0) ++ p1)).length : Int)), (24, .int .i64 x9828), (32, .slice (some ⟨bx13390, 0, none⟩) (([(rdD zT28 ((([] : List T28) ++ p0) ++ p1) x9828).From, (rdD zT28 ((([] : List T28) ++ p0) ++ p1) x9828).To] : List Int)).length 2), (33, .int .i64 ((([(rdD zT28 ((([] : List T28) ++ p0) ++ p1) x9828).From, (rdD zT28 ((([] : List T28) ++ p0) ++ p1) x9828).To] : List Int)).length : Int)), (34, .int .i64 x13780), (35, .bool (decide (x13780 < ((([(rdD zT28 ((([] : List T28) ++ p0) ++ p1) x9828).From, (rdD zT28 ((([] : List T28) ++ p0) ++ p1) x9828).To] : List Int)).length : Int))))]) rfl trivial fun a hk => ?_
    refine wpListIn_nil ?_
    refine then_n ?_
    refine x_seq ?_
    cases b14163 : (decide (x13780 < ((([(rdD zT28 ((([] : List T28) ++ p0) ++ p1) x9828).From, (rdD zT28 ((([] : List T28) ++ p0) ++ p1) x9828).To] : List Int)).length : Int)))
    · rw [b14163] at hk H
      replace H := bifF H
      refine x_if hk (b := false) rfl ?_
      refine (show Code.wpIn _ _ _ _ _ _ _ from ?_)
      refine wpIn_exit ?_
      refine then_x ?_
      refine then_x ?_
      refine blk_x ?_
      refine blk_n ?_
      refine then_n ?_
      exact ⟨(fun b_ => (fun l_ => if l_ = 1676 then 1624 else if l_ = 1677 then 1625 else l_) (o13774 b_)), A13775, c13776, l13777, (some ad13378), c9825, (by exact Kn.pick (ks := [0, 1, 2, 7, 22, 23, 24]) hk rfl), (hs.relab0 (fun l_ => if l_ = 1676 then 1624 else if l_ = 1677 then 1625 else l_) rfl), (f13778.relab (fun l_ => if l_ = 1676 then 1624 else if l_ = 1677 then 1625 else l_) rfl), (f9826.relab (fun l_ => if l_ = 1676 then 1624 else if l_ = 1677 then 1625 else l_) rfl), (f900000.relab (fun l_ => if l_ = 1676 then 1624 else if l_ = 1677 then 1625 else l_) rfl), (f900020.relab (fun l_ => if l_ = 1676 then 1624 else if l_ = 1677 then 1625 else l_) rfl), hc13779, hc9827, H⟩
    · rw [b14163] at hk H
      replace H := bifT H
      refine x_if hk (b := true) rfl ?_
      refine (show Code.wpIn _ _ _ _ _ _ _ from ?_)
      refine wpIn_skip ?_
      refine then_n ?_
      refine x_mid (fun a_ w_ => ∃ o14354 : Nat → Nat, ∃ A14355 : Option Addr, ∃ c14356 : Nat, ∃ l14357 : List Int, Kn 132 a_ [(0, .slice Ap0 (p0).length cp0), (1, .slice Ap1 (p1).length cp1), (2, .int .i64 p2), (7, .slice A14355 (l14357).length c14356), (22, .slice (some ad13378) (((([] : List T28) ++ p0) ++ p1)).length c9825), (23, .int .i64 ((((([] : List T28) ++ p0) ++ p1)).length : Int)), (24, .int .i64 x9828), (32, .slice (some ⟨bx13390, 0, none⟩) (([(rdD zT28 ((([] : List T28) ++ p0) ++ p1) x9828).From, (rdD zT28 ((([] : List T28) ++ p0) ++ p1) x9828).To] : List Int)).length 2), (33, .int .i64 ((([(rdD zT28 ((([] : List T28) ++ p0) ++ p1) x9828).From, (rdD zT28 ((([] : List T28) ++ p0) ++ p1) x9828).To] : List Int)).length : Int)), (34, .int .i64 x13780)] ∧ St [] w (fun _ => 0) w_ o14354 ∧ Ft (Own (encInt .i64) 3 (.slice (some ⟨bx13390, 0, none⟩) (([(rdD zT28 ((([] : List T28) ++ p0) ++ p1) x9828).From, (rdD zT28 ((([] : List T28) ++ p0) ++ p1) x9828).To] : List Int)).length 2) ([(rdD zT28 ((([] : List T28) ++ p0) ++ p1) x9828).From, (rdD zT28 ((([] : List T28) ++ p0) ++ p1) x9828).To] : List Int)) w_ o14354 1747 ∧ Ft (Own (encInt .i64) 3 (.slice A14355 (l14357).length c14356) l14357) w_ o14354 1745 ∧ Ft (RdC ET28 Ap0 p0) w_ o14354 0 ∧ Ft (RdC ET28 Ap1 p1) w_ o14354 0 ∧ Ft (Own ET28 30 (.slice (some ad13378) (((([] : List T28) ++ p0) ++ p1)).length c9825) ((([] : List T28) ++ p0) ++ p1)) w_ o14354 1746 ∧ (l14357).length ≤ c14356 ∧ tidewrackref13_build_j8 x13780 lp14161 l14357 = some r) ?_ ?_
      rotate_left
      · rintro a w14360 ⟨o14354, A14355, c14356, l14357, hk, hs, f13392, f14358, f900000, f900020, f9826, hc14359, H⟩
        rw [tidewrackref13_build_j8] at H
        refine wpIn_region_lit ?_
        refine x_run tab hk (k := 2) (lv := []) (ks := [0, 1, 2, 7, 22, 23, 24, 32, 33, 34]) (e' := [(0, .slice Ap0 (p0).length cp0), (1, .slice Ap1 (p1).length cp1), (2, .int .i64 p2), (7, .slice A14355 (l14357).length c14356), (22, .slice (some ad13378) (((([] : List T28) ++ p0) ++ p1)).length c9825), (23, .int .i64 ((((([] : List T28) ++ p0) ++ p1)).length : Int)), (24, .int .i64 x9828), (32, .slice (some ⟨bx13390, 0, none⟩) (([(rdD zT28 ((([] : List T28) ++ p0) ++ p1) x9828).From, (rdD zT28 ((([] : List T28) ++ p0) ++ p1) x9828).To] : List Int)).length 2), (33, .int .i64 ((([(rdD zT28 ((([] : List T28) ++ p0) ++ p1) x9828).From, (rdD zT28 ((([] : List T28) ++ p0) ++ p1) x9828).To] : List Int)).length : Int)), (34, .int .i64 (IntKind.wrap .i64 (x13780 + 1)))]) rfl trivial fun a hk => ?_
        refine wpListIn_nil ?_
        refine then_n ?_
        exact ⟨k14160, Nat.le_refl _, (fun b_ => (fun l_ => if l_ = 1745 then 1676 else if l_ = 1746 then 1677 else if l_ = 1747 then 1678 else l_) (o14354 b_)), A14355, c14356, l14357, (IntKind.wrap .i64 (x13780 + 1)), (by exact Kn.pick (ks := [0, 1, 2, 7, 22, 23, 24, 32, 33, 34]) hk rfl), (hs.relab0 (fun l_ => if l_ = 1745 then 1676 else if l_ = 1746 then 1677 else if l_ = 1747 then 1678 else l_) rfl), (f13392.relab (fun l_ => if l_ = 1745 then 1676 else if l_ = 1746 then 1677 else if l_ = 1747 then 1678 else l_) rfl), (f14358.relab (fun l_ => if l_ = 1745 then 1676 else if l_ = 1746 then 1677 else if l_ = 1747 then 1678 else l_) rfl), (f900000.relab (fun l_ => if l_ = 1745 then 1676 else if l_ = 1746 then 1677 else if l_ = 1747 then 1678 else l_) rfl), (f900020.relab (fun l_ => if l_ = 1745 then 1676 else if l_ = 1746 then 1677 else if l_ = 1747 then 1678 else l_) rfl), (f9826.relab (fun l_ => if l_ = 1745 then 1676 else if l_ = 1746 then 1677 else if l_ = 1747 then 1678 else l_) rfl), hc14359, (hlp14162 ▸ H)⟩
      refine wpIn_block ?_
      refine x_seq ?_
      refine wpIn_region_lit ?_
      obtain ⟨q14361, H⟩ := ifS H
      refine x_run tab hk (k := 3) (lv := [.int .i64 (rdD 0 ([(rdD zT28 ((([] : List T28) ++ p0) ++ p1) x9828).From, (rdD zT28 ((([] : List T28) ++ p0) ++ p1) x9828).To] : List Int) x13780)]) (ks := [0, 1, 2, 7, 11, 22, 23, 24, 32, 33, 34]) (e' := [(0, .slice Ap0 (p0).length cp0), (1, .slice Ap1 (p1).length cp1), (2, .int .i64 p2), (7, .slice A13775 (l13777).length c13776), (11, .int .i64 (rdD 0 ([(rdD zT28 ((([] : List T28) ++ p0) ++ p1) x9828).From, (rdD zT28 ((([] : List T28) ++ p0) ++ p1) x9828).To] : List Int) x13780)), (22, .slice (some ad13378) (((([] : List T28) ++ p0) ++ p1)).length c9825), (23, .int .i64 ((((([] : List T28) ++ p0) ++ p1)).length : Int)), (24, .int .i64 x9828), (32, .slice (some ⟨bx13390, 0, none⟩) (([(rdD zT28 ((([] : List T28) ++ p0) ++ p1) x9828).From, (rdD zT28 ((([] : List T28) ++ p0) ++ p1) x9828).To] : List Int)).length 2), (33, .int .i64 ((([(rdD zT28 ((([] : List T28) ++ p0) ++ p1) x9828).From, (rdD zT28 ((([] : List T28) ++ p0) ++ p1) x9828).To] : List Int)).length : Int)), (34, .int .i64 x13780)]) rfl ⟨q14361, (load1 tab rfl (RdC.at0 (E := (encInt .i64)) (d := 0) (i := x13780) (Own.rd f13392.now) q14361 rfl)), trivial⟩ fun a hk => ?_
      refine wpListIn_nil ?_
      refine then_n ?_
      refine x_seq ?_
      refine wpIn_region_lit ?_
      refine x_run tab hk (k := 1) (lv := []) (ks := [0, 1, 2, 7, 11, 12, 22, 23, 24, 32, 33, 34]) (e' := [(0, .slice Ap0 (p0).length cp0), (1, .slice Ap1 (p1).length cp1), (2, .int .i64 p2), (7, .slice A13775 (l13777).length c13776), (11, .int .i64 (rdD 0 ([(rdD zT28 ((([] : List T28) ++ p0) ++ p1) x9828).From, (rdD zT28 ((([] : List T28) ++ p0) ++ p1) x9828).To] : List Int) x13780)), (12, .int .i64 0), (22, .slice (some ad13378) (((([] : List T28) ++ p0) ++ p1)).length c9825), (23, .int .i64 ((((([] : List T28) ++ p0) ++ p1)).length : Int)), (24, .int .i64 x9828), (32, .slice (some ⟨bx13390, 0, none⟩) (([(rdD zT28 ((([] : List T28) ++ p0) ++ p1) x9828).From, (rdD zT28 ((([] : List T28) ++ p0) ++ p1) x9828).To] : List Int)).length 2), (33, .int .i64 ((([(rdD zT28 ((([] : List T28) ++ p0) ++ p1) x9828).From, (rdD zT28 ((([] : List T28) ++ p0) ++ p1) x9828).To] : List Int)).length : Int)), (34, .int .i64 x13780)]) rfl trivial fun a hk => ?_
      refine wpListIn_nil ?_
      refine then_n ?_
      refine x_mid (fun a_ w_ => ∃ o14389 : Nat → Nat, ∃ x14390 : Int, Kn 132 a_ [(0, .slice Ap0 (p0).length cp0), (1, .slice Ap1 (p1).length cp1), (2, .int .i64 p2), (7, .slice A13775 (l13777).length c13776), (11, .int .i64 (rdD 0 ([(rdD zT28 ((([] : List T28) ++ p0) ++ p1) x9828).From, (rdD zT28 ((([] : List T28) ++ p0) ++ p1) x9828).To] : List Int) x13780)), (12, .int .i64 x14390), (22, .slice (some ad13378) (((([] : List T28) ++ p0) ++ p1)).length c9825), (23, .int .i64 ((((([] : List T28) ++ p0) ++ p1)).length : Int)), (24, .int .i64 x9828), (32, .slice (some ⟨bx13390, 0, none⟩) (([(rdD zT28 ((([] : List T28) ++ p0) ++ p1) x9828).From, (rdD zT28 ((([] : List T28) ++ p0) ++ p1) x9828).To] : List Int)).length 2), (33, .int .i64 ((([(rdD zT28 ((([] : List T28) ++ p0) ++ p1) x9828).From, (rdD zT28 ((([] : List T28) ++ p0) ++ p1) x9828).To] : List Int)).length : Int)), (34, .int .i64 x13780)] ∧ St [] w (fun _ => 0) w_ o14389 ∧ Ft (Own (encInt .i64) 3 (.slice (some ⟨bx13390, 0, none⟩) (([(rdD zT28 ((([] : List T28) ++ p0) ++ p1) x9828).From, (rdD zT28 ((([] : List T28) ++ p0) ++ p1) x9828).To] : List Int)).length 2) ([(rdD zT28 ((([] : List T28) ++ p0) ++ p1) x9828).From, (rdD zT28 ((([] : List T28) ++ p0) ++ p1) x9828).To] : List Int)) w_ o14389 1756 ∧ Ft (Own (encInt .i64) 3 (.slice A13775 (l13777).length c13776) l13777) w_ o14389 1754 ∧ Ft (RdC ET28 Ap0 p0) w_ o14389 0 ∧ Ft (RdC ET28 Ap1 p1) w_ o14389 0 ∧ Ft (Own ET28 30 (.slice (some ad13378) (((([] : List T28) ++ p0) ++ p1)).length c9825) ((([] : List T28) ++ p0) ++ p1)) w_ o14389 1755 ∧ tidewrackref13_build_j9 p0 p1 x9828 l13777 x13780 lp14161 x14390 = some r) ?_ ?_
      rotate_left
      · rintro a w14391 ⟨o14389, x14390, hk, hs, f13392, f13778, f900000, f900020, f9826, H⟩
        rw [tidewrackref13_build_j9] at H
        refine x_mid (fun a_ w_ => ∃ o14405 : Nat → Nat, ∃ A14406 : Option Addr, ∃ c14407 : Nat, ∃ x14410 : Bool, Kn 132 a_ [(0, .slice Ap0 (p0).length cp0), (1, .slice Ap1 (p1).length cp1), (2, .int .i64 p2), (7, .slice A14406 (l13777).length c14407), (11, .int .i64 (rdD 0 ([(rdD zT28 ((([] : List T28) ++ p0) ++ p1) x9828).From, (rdD zT28 ((([] : List T28) ++ p0) ++ p1) x9828).To] : List Int) x13780)), (12, .int .i64 x14390), (22, .slice (some ad13378) (((([] : List T28) ++ p0) ++ p1)).length c9825), (23, .int .i64 ((((([] : List T28) ++ p0) ++ p1)).length : Int)), (24, .int .i64 x9828), (32, .slice (some ⟨bx13390, 0, none⟩) (([(rdD zT28 ((([] : List T28) ++ p0) ++ p1) x9828).From, (rdD zT28 ((([] : List T28) ++ p0) ++ p1) x9828).To] : List Int)).length 2), (33, .int .i64 ((([(rdD zT28 ((([] : List T28) ++ p0) ++ p1) x9828).From, (rdD zT28 ((([] : List T28) ++ p0) ++ p1) x9828).To] : List Int)).length : Int)), (34, .int .i64 x13780), (63, .bool x14410)] ∧ St [] w (fun _ => 0) w_ o14405 ∧ Ft (Own (encInt .i64) 3 (.slice (some ⟨bx13390, 0, none⟩) (([(rdD zT28 ((([] : List T28) ++ p0) ++ p1) x9828).From, (rdD zT28 ((([] : List T28) ++ p0) ++ p1) x9828).To] : List Int)).length 2) ([(rdD zT28 ((([] : List T28) ++ p0) ++ p1) x9828).From, (rdD zT28 ((([] : List T28) ++ p0) ++ p1) x9828).To] : List Int)) w_ o14405 1759 ∧ Ft (Own (encInt .i64) 3 (.slice A14406 (l13777).length c14407) l13777) w_ o14405 1757 ∧ Ft (RdC ET28 Ap0 p0) w_ o14405 0 ∧ Ft (RdC ET28 Ap1 p1) w_ o14405 0 ∧ Ft (Own ET28 30 (.slice (some ad13378) (((([] : List T28) ++ p0) ++ p1)).length c9825) ((([] : List T28) ++ p0) ++ p1)) w_ o14405 1758 ∧ (l13777).length ≤ c14407 ∧ tidewrackref13_build_j10 p0 p1 x9828 l13777 x13780 lp14161 x14390 x14410 = some r) ?_ ?_
        rotate_left
        · rintro a w14411 ⟨o14405, A14406, c14407, x14410, hk, hs, f13392, f14408, f900000, f900020, f9826, hc14409, H⟩
          rw [tidewrackref13_build_j10] at H
          cases b14412 : x14410
          · rw [b14412] at hk H
            replace H := bifF H
            refine x_if hk (b := false) rfl ?_
            refine (show Code.wpIn _ _ _ _ _ _ _ from ?_)
            refine wpIn_skip ?_
            refine blk_n ?_
            refine then_n ?_
            exact ⟨(fun b_ => (fun l_ => if l_ = 1757 then 1745 else if l_ = 1758 then 1746 else if l_ = 1759 then 1747 else l_) (o14405 b_)), A14406, c14407, l13777, (by exact Kn.pick (ks := [0, 1, 2, 7, 22, 23, 24, 32, 33, 34]) hk rfl), (hs.relab0 (fun l_ => if l_ = 1757 then 1745 else if l_ = 1758 then 1746 else if l_ = 1759 then 1747 else l_) rfl), (f13392.relab (fun l_ => if l_ = 1757 then 1745 else if l_ = 1758 then 1746 else if l_ = 1759 then 1747 else l_) rfl), (f14408.relab (fun l_ => if l_ = 1757 then 1745 else if l_ = 1758 then 1746 else if l_ = 1759 then 1747 else l_) rfl), (f900000.relab (fun l_ => if l_ = 1757 then 1745 else if l_ = 1758 then 1746 else if l_ = 1759 then 1747 else l_) rfl), (f900020.relab (fun l_ => if l_ = 1757 then 1745 else if l_ = 1758 then 1746 else if l_ = 1759 then 1747 else l_) rfl), (f9826.relab (fun l_ => if l_ = 1757 then 1745 else if l_ = 1758 then 1746 else if l_ = 1759 then 1747 else l_) rfl), hc14409, H⟩
          · rw [b14412] at hk H
            replace H := bifT H
            refine x_if hk (b := true) rfl ?_
            refine (show Code.wpIn _ _ _ _ _ _ _ from ?_)
            refine xd_begin (o := o14405) (fun W_ => True) mixed rfl rfl fun w14481 st14482 => ?_
            replace f13392 := f13392.st st14482 (by decide)
            replace f14408 := f14408.st st14482 (by decide)
            replace f900000 := f900000.st st14482 (by decide)
            replace f900020 := f900020.st st14482 (by decide)
            replace f9826 := f9826.st st14482 (by decide)
            replace hs := hs.loc0 st14482 (by decide)
            obtain ⟨q14483, H⟩ := ifS H
            obtain ⟨q14484, H⟩ := ifS H
            obtain ⟨A14485, c14486, ak14488, f14487, hc14489⟩ := ask_take (P := Try.prog) tab (t := 62) rfl rfl f14408 hc14409 (k := .i64) x14390 q14483 q14484
            obtain ⟨A14490, c14491, ak14493, f14492, hc14494⟩ := ask_cut (P := Try.prog) tab (t := 62) rfl rfl (f14408.imp fun _ h_ => Own.rd h_) hc14409 (some (.int .i64 x14390)) none rfl ⟨q14483, (by have := q14484; omega), trivial⟩ (by have := q14483; have := q14484; omega) (Nat.le_refl _)
            refine xd_take tab hk (k := 4) (is := [0, 1, 2, 3, 5, 6, 7]) (ls' := #[true, true, true, true, false, true, true, true, false, false, false]) (lv := [.slice A14485 ((List.take (Int.toNat x14390) l13777)).length c14486, .slice A14490 ((List.drop (Int.toNat x14390) (List.take (l13777).length l13777))).length c14491]) (ks := [0, 1, 2, 7, 22, 23, 24, 32, 33, 34, 66, 67, 71]) (e' := [(0, .slice Ap0 (p0).length cp0), (1, .slice Ap1 (p1).length cp1), (2, .int .i64 p2), (7, .slice A14406 (l13777).length c14407), (22, .slice (some ad13378) (((([] : List T28) ++ p0) ++ p1)).length c9825), (23, .int .i64 ((((([] : List T28) ++ p0) ++ p1)).length : Int)), (24, .int .i64 x9828), (32, .slice (some ⟨bx13390, 0, none⟩) (([(rdD zT28 ((([] : List T28) ++ p0) ++ p1) x9828).From, (rdD zT28 ((([] : List T28) ++ p0) ++ p1) x9828).To] : List Int)).length 2), (33, .int .i64 ((([(rdD zT28 ((([] : List T28) ++ p0) ++ p1) x9828).From, (rdD zT28 ((([] : List T28) ++ p0) ++ p1) x9828).To] : List Int)).length : Int)), (34, .int .i64 x13780), (66, .slice A14485 ((List.take (Int.toNat x14390) l13777)).length c14486), (67, .int .i64 (rdD 0 ([(rdD zT28 ((([] : List T28) ++ p0) ++ p1) x9828).From, (rdD zT28 ((([] : List T28) ++ p0) ++ p1) x9828).To] : List Int) x13780)), (71, .slice A14490 ((List.drop (Int.toNat x14390) (List.take (l13777).length l13777))).length c14491)]) (by kernel_rfl) rfl rfl (by kernel_rfl) (np_blk (np_then (np_then (np_blk (np_blk (np_then (np_then (np_blk (np_then np_body))))))))) trivial (fun W_ hS => ⟨(ak14488 rfl rfl _), (ak14493 rfl rfl rfl _), trivial⟩) fun a hk => ?_
            refine xd_op hk (i := 4) (by kernel_rfl) rfl rfl ?_
            refine op_slice (o := o14405) tab hk (vs := [.int .i64 (rdD 0 ([(rdD zT28 ((([] : List T28) ++ p0) ++ p1) x9828).From, (rdD zT28 ((([] : List T28) ++ p0) ++ p1) x9828).To] : List Int) x13780)]) (cs := [.int .i64 (rdD 0 ([(rdD zT28 ((([] : List T28) ++ p0) ++ p1) x9828).From, (rdD zT28 ((([] : List T28) ++ p0) ++ p1) x9828).To] : List Int) x13780)]) rfl rfl rfl rfl rfl rfl rfl rfl rfl 1762 fun bx14498 w14495 o14496 st14497 f14499 => ?_
            replace f13392 := f13392.st st14497 (by decide)
            replace f14408 := f14408.st st14497 (by decide)
            replace f14487 := f14487.st st14497 (by decide)
            replace f14492 := f14492.st st14497 (by decide)
            replace f900000 := f900000.st st14497 (by decide)
            replace f900020 := f900020.st st14497 (by decide)
            replace f9826 := f9826.st st14497 (by decide)
            replace hs := hs.loc0 st14497 (by decide)
            have f14500 : Ft (Own (encInt .i64) 3 (.slice (some ⟨bx14498, 0, none⟩) (([(rdD 0 ([(rdD zT28 ((([] : List T28) ++ p0) ++ p1) x9828).From, (rdD zT28 ((([] : List T28) ++ p0) ++ p1) x9828).To] : List Int) x13780)] : List Int)).length 1) ([(rdD 0 ([(rdD zT28 ((([] : List T28) ++ p0) ++ p1) x9828).From, (rdD zT28 ((([] : List T28) ++ p0) ++ p1) x9828).To] : List Int) x13780)] : List Int)) w14495 o14496 1762 := f14499.imp fun _ h_ => Own.of_box h_ rfl (by simp)
            have hk := hk.put 68 (.slice (some ⟨bx14498, 0, none⟩) (([(rdD 0 ([(rdD zT28 ((([] : List T28) ++ p0) ++ p1) x9828).From, (rdD zT28 ((([] : List T28) ++ p0) ++ p1) x9828).To] : List Int) x13780)] : List Int)).length 1) rfl
            refine ⟨.inr trivial, ?_⟩
            refine xd_op hk (i := 8) (by kernel_rfl) rfl rfl ?_
            obtain ⟨q14504, H⟩ := ifS H
            refine op_append (o := o14496) (E := (encInt .i64)) (xs := ([(rdD 0 ([(rdD zT28 ((([] : List T28) ++ p0) ++ p1) x9828).From, (rdD zT28 ((([] : List T28) ++ p0) ++ p1) x9828).To] : List Int) x13780)] : List Int)) (ys := (List.drop (Int.toNat x14390) (List.take (l13777).length l13777))) tab hk rfl rfl rfl rfl rfl rfl rfl f14500 f14492.now q14504 fun A14505 c14506 w14501 o14502 st14503 f14507 hc14508 => ?_
            replace f13392 := f13392.st st14503 (by decide)
            replace f14408 := f14408.st st14503 (by decide)
            replace f14487 := f14487.st st14503 (by decide)
            replace f14492 := f14492.st st14503 (by decide)
            replace f900000 := f900000.st st14503 (by decide)
            replace f900020 := f900020.st st14503 (by decide)
            replace f9826 := f9826.st st14503 (by decide)
            replace hs := hs.loc0 st14503 (by decide)
            have hk := hk.put 72 (.slice A14505 ((([(rdD 0 ([(rdD zT28 ((([] : List T28) ++ p0) ++ p1) x9828).From, (rdD zT28 ((([] : List T28) ++ p0) ++ p1) x9828).To] : List Int) x13780)] : List Int) ++ (List.drop (Int.toNat x14390) (List.take (l13777).length l13777)))).length c14506) rfl
            refine ⟨.inr trivial, ?_⟩
            refine xd_op hk (i := 9) (by kernel_rfl) rfl rfl ?_
            obtain ⟨q14512, H⟩ := ifS H
            refine op_append (o := o14502) (E := (encInt .i64)) (xs := (List.take (Int.toNat x14390) l13777)) (ys := (([(rdD 0 ([(rdD zT28 ((([] : List T28) ++ p0) ++ p1) x9828).From, (rdD zT28 ((([] : List T28) ++ p0) ++ p1) x9828).To] : List Int) x13780)] : List Int) ++ (List.drop (Int.toNat x14390) (List.take (l13777).length l13777)))) tab hk rfl rfl rfl rfl rfl rfl rfl f14487 (Own.rd f14507.now) q14512 fun A14513 c14514 w14509 o14510 st14511 f14515 hc14516 => ?_
            replace f13392 := f13392.st st14511 (by decide)
            replace f14507 := f14507.st st14511 (by decide)
            replace f900000 := f900000.st st14511 (by decide)
            replace f900020 := f900020.st st14511 (by decide)
            replace f9826 := f9826.st st14511 (by decide)
            replace hs := hs.loc0 st14511 (by decide)
            have hk := hk.put 73 (.slice A14513 (((List.take (Int.toNat x14390) l13777) ++ (([(rdD 0 ([(rdD zT28 ((([] : List T28) ++ p0) ++ p1) x9828).From, (rdD zT28 ((([] : List T28) ++ p0) ++ p1) x9828).To] : List Int) x13780)] : List Int) ++ (List.drop (Int.toNat x14390) (List.take (l13777).length l13777))))).length c14514) rfl
            refine ⟨.inr trivial, ?_⟩
            refine xd_take tab hk (k := 0) (is := [10]) (ls' := #[true, true, true, true, true, true, true, true, true, true, true]) (lv := []) (ks := [0, 1, 2, 7, 22, 23, 24, 32, 33, 34]) (e' := [(0, .slice Ap0 (p0).length cp0), (1, .slice Ap1 (p1).length cp1), (2, .int .i64 p2), (7, .slice A14513 (((List.take (Int.toNat x14390) l13777) ++ (([(rdD 0 ([(rdD zT28 ((([] : List T28) ++ p0) ++ p1) x9828).From, (rdD zT28 ((([] : List T28) ++ p0) ++ p1) x9828).To] : List Int) x13780)] : List Int) ++ (List.drop (Int.toNat x14390) (List.take (l13777).length l13777))))).length c14514), (22, .slice (some ad13378) (((([] : List T28) ++ p0) ++ p1)).length c9825), (23, .int .i64 ((((([] : List T28) ++ p0) ++ p1)).length : Int)), (24, .int .i64 x9828), (32, .slice (some ⟨bx13390, 0, none⟩) (([(rdD zT28 ((([] : List T28) ++ p0) ++ p1) x9828).From, (rdD zT28 ((([] : List T28) ++ p0) ++ p1) x9828).To] : List Int)).length 2), (33, .int .i64 ((([(rdD zT28 ((([] : List T28) ++ p0) ++ p1) x9828).From, (rdD zT28 ((([] : List T28) ++ p0) ++ p1) x9828).To] : List Int)).length : Int)), (34, .int .i64 x13780)]) (by kernel_rfl) rfl rfl (by kernel_rfl) (np_blk (np_then (np_then (np_blk (np_blk (np_then (np_then (np_blk (np_then np_body))))))))) trivial (fun W_ hS => trivial) fun a hk => ?_
            refine xd_done (by kernel_rfl) ?_
            refine blk_n ?_
            refine then_n ?_
            exact ⟨(fun b_ => (fun l_ => if l_ = 1757 then 1745 else if l_ = 1758 then 1746 else if l_ = 1759 then 1747 else l_) (o14510 b_)), A14513, c14514, ((List.take (Int.toNat x14390) l13777) ++ (([(rdD 0 ([(rdD zT28 ((([] : List T28) ++ p0) ++ p1) x9828).From, (rdD zT28 ((([] : List T28) ++ p0) ++ p1) x9828).To] : List Int) x13780)] : List Int) ++ (List.drop (Int.toNat x14390) (List.take (l13777).length l13777)))), (by exact Kn.pick (ks := [0, 1, 2, 7, 22, 23, 24, 32, 33, 34]) hk rfl), (hs.relab0 (fun l_ => if l_ = 1757 then 1745 else if l_ = 1758 then 1746 else if l_ = 1759 then 1747 else l_) rfl), (f13392.relab (fun l_ => if l_ = 1757 then 1745 else if l_ = 1758 then 1746 else if l_ = 1759 then 1747 else l_) rfl), (f14515.relab (fun l_ => if l_ = 1757 then 1745 else if l_ = 1758 then 1746 else if l_ = 1759 then 1747 else l_) rfl), (f900000.relab (fun l_ => if l_ = 1757 then 1745 else if l_ = 1758 then 1746 else if l_ = 1759 then 1747 else l_) rfl), (f900020.relab (fun l_ => if l_ = 1757 then 1745 else if l_ = 1758 then 1746 else if l_ = 1759 then 1747 else l_) rfl), (f9826.relab (fun l_ => if l_ = 1757 then 1745 else if l_ = 1758 then 1746 else if l_ = 1759 then 1747 else l_) rfl), hc14516, H⟩
        refine wpIn_region_lit ?_
        refine x_run tab hk (k := 5) (lv := []) (ks := [0, 1, 2, 7, 11, 12, 22, 23, 24, 32, 33, 34, 56]) (e' := [(0, .slice Ap0 (p0).length cp0), (1, .slice Ap1 (p1).length cp1), (2, .int .i64 p2), (7, .slice A13775 (l13777).length c13776), (11, .int .i64 (rdD 0 ([(rdD zT28 ((([] : List T28) ++ p0) ++ p1) x9828).From, (rdD zT28 ((([] : List T28) ++ p0) ++ p1) x9828).To] : List Int) x13780)), (12, .int .i64 x14390), (22, .slice (some ad13378) (((([] : List T28) ++ p0) ++ p1)).length c9825), (23, .int .i64 ((((([] : List T28) ++ p0) ++ p1)).length : Int)), (24, .int .i64 x9828), (32, .slice (some ⟨bx13390, 0, none⟩) (([(rdD zT28 ((([] : List T28) ++ p0) ++ p1) x9828).From, (rdD zT28 ((([] : List T28) ++ p0) ++ p1) x9828).To] : List Int)).length 2), (33, .int .i64 ((([(rdD zT28 ((([] : List T28) ++ p0) ++ p1) x9828).From, (rdD zT28 ((([] : List T28) ++ p0) ++ p1) x9828).To] : List Int)).length : Int)), (34, .int .i64 x13780), (56, .bool (x14390 == ((l13777).length : Int)))]) rfl trivial fun a hk => ?_
        cases b14517 : (x14390 == ((l13777).length : Int))
        · rw [b14517] at hk H
          replace H := bifF H
          obtain ⟨q14518, H⟩ := ifS H
          obtain ⟨ad14519, hAad14519⟩ := RdC.addr (Own.rd f13778.now) q14518
          have hk_C := hk
          have f13392_C := f13392
          have f13778_C := f13778
          have f900000_C := f900000
          have f900020_C := f900020
          have f9826_C := f9826
          subst hAad14519
          have hk := hk_C
          clear hk_C
          have f13392 := f13392_C
          clear f13392_C
          have f13778 := f13778_C
          clear f13778_C
          have f900000 := f900000_C
          clear f900000_C
          have f900020 := f900020_C
          clear f900020_C
          have f9826 := f9826_C
          clear f9826_C
          refine x_run tab hk (k := 7) (lv := [.int .i64 (rdD 0 l13777 x14390)]) (ks := [0, 1, 2, 7, 11, 12, 22, 23, 24, 32, 33, 34, 63]) (e' := [(0, .slice Ap0 (p0).length cp0), (1, .slice Ap1 (p1).length cp1), (2, .int .i64 p2), (7, .slice (some ad14519) (l13777).length c13776), (11, .int .i64 (rdD 0 ([(rdD zT28 ((([] : List T28) ++ p0) ++ p1) x9828).From, (rdD zT28 ((([] : List T28) ++ p0) ++ p1) x9828).To] : List Int) x13780)), (12, .int .i64 x14390), (22, .slice (some ad13378) (((([] : List T28) ++ p0) ++ p1)).length c9825), (23, .int .i64 ((((([] : List T28) ++ p0) ++ p1)).length : Int)), (24, .int .i64 x9828), (32, .slice (some ⟨bx13390, 0, none⟩) (([(rdD zT28 ((([] : List T28) ++ p0) ++ p1) x9828).From, (rdD zT28 ((([] : List T28) ++ p0) ++ p1) x9828).To] : List Int)).length 2), (33, .int .i64 ((([(rdD zT28 ((([] : List T28) ++ p0) ++ p1) x9828).From, (rdD zT28 ((([] : List T28) ++ p0) ++ p1) x9828).To] : List Int)).length : Int)), (34, .int .i64 x13780), (63, .bool ((rdD 0 l13777 x14390) != (rdD 0 ([(rdD zT28 ((([] : List T28) ++ p0) ++ p1) x9828).From, (rdD zT28 ((([] : List T28) ++ p0) ++ p1) x9828).To] : List Int) x13780)))]) rfl ⟨q14518, (load1 tab rfl (RdC.at0 (E := (encInt .i64)) (d := 0) (i := x14390) (Own.rd f13778.now) q14518 rfl)), trivial⟩ fun a hk => ?_
          refine wpListIn_nil ?_
          refine then_n ?_
          exact ⟨(fun b_ => (fun l_ => if l_ = 1754 then 1757 else if l_ = 1755 then 1758 else if l_ = 1756 then 1759 else l_) (o14389 b_)), (some ad14519), c13776, ((rdD 0 l13777 x14390) != (rdD 0 ([(rdD zT28 ((([] : List T28) ++ p0) ++ p1) x9828).From, (rdD zT28 ((([] : List T28) ++ p0) ++ p1) x9828).To] : List Int) x13780)), (by exact Kn.pick (ks := [0, 1, 2, 7, 11, 12, 22, 23, 24, 32, 33, 34, 63]) hk rfl), (hs.relab0 (fun l_ => if l_ = 1754 then 1757 else if l_ = 1755 then 1758 else if l_ = 1756 then 1759 else l_) rfl), (f13392.relab (fun l_ => if l_ = 1754 then 1757 else if l_ = 1755 then 1758 else if l_ = 1756 then 1759 else l_) rfl), (f13778.relab (fun l_ => if l_ = 1754 then 1757 else if l_ = 1755 then 1758 else if l_ = 1756 then 1759 else l_) rfl), (f900000.relab (fun l_ => if l_ = 1754 then 1757 else if l_ = 1755 then 1758 else if l_ = 1756 then 1759 else l_) rfl), (f900020.relab (fun l_ => if l_ = 1754 then 1757 else if l_ = 1755 then 1758 else if l_ = 1756 then 1759 else l_) rfl), (f9826.relab (fun l_ => if l_ = 1754 then 1757 else if l_ = 1755 then 1758 else if l_ = 1756 then 1759 else l_) rfl), hc13779, H⟩
        · rw [b14517] at hk H
          replace H := bifT H
          refine x_run tab hk (k := 7) (lv := []) (ks := [0, 1, 2, 7, 11, 12, 22, 23, 24, 32, 33, 34, 63]) (e' := [(0, .slice Ap0 (p0).length cp0), (1, .slice Ap1 (p1).length cp1), (2, .int .i64 p2), (7, .slice A13775 (l13777).length c13776), (11, .int .i64 (rdD 0 ([(rdD zT28 ((([] : List T28) ++ p0) ++ p1) x9828).From, (rdD zT28 ((([] : List T28) ++ p0) ++ p1) x9828).To] : List Int) x13780)), (12, .int .i64 x14390), (22, .slice (some ad13378) (((([] : List T28) ++ p0) ++ p1)).length c9825), (23, .int .i64 ((((([] : List T28) ++ p0) ++ p1)).length : Int)), (24, .int .i64 x9828), (32, .slice (some ⟨bx13390, 0, none⟩) (([(rdD zT28 ((([] : List T28) ++ p0) ++ p1) x9828).From, (rdD zT28 ((([] : List T28) ++ p0) ++ p1) x9828).To] : List Int)).length 2), (33, .int .i64 ((([(rdD zT28 ((([] : List T28) ++ p0) ++ p1) x9828).From, (rdD zT28 ((([] : List T28) ++ p0) ++ p1) x9828).To] : List Int)).length : Int)), (34, .int .i64 x13780), (63, .bool true)]) rfl trivial fun a hk => ?_
          refine wpListIn_nil ?_
          refine then_n ?_
          exact ⟨(fun b_ => (fun l_ => if l_ = 1754 then 1757 else if l_ = 1755 then 1758 else if l_ = 1756 then 1759 else l_) (o14389 b_)), A13775, c13776, true, (by exact Kn.pick (ks := [0, 1, 2, 7, 11, 12, 22, 23, 24, 32, 33, 34, 63]) hk rfl), (hs.relab0 (fun l_ => if l_ = 1754 then 1757 else if l_ = 1755 then 1758 else if l_ = 1756 then 1759 else l_) rfl), (f13392.relab (fun l_ => if l_ = 1754 then 1757 else if l_ = 1755 then 1758 else if l_ = 1756 then 1759 else l_) rfl), (f13778.relab (fun l_ => if l_ = 1754 then 1757 else if l_ = 1755 then 1758 else if l_ = 1756 then 1759 else l_) rfl), (f900000.relab (fun l_ => if l_ = 1754 then 1757 else if l_ = 1755 then 1758 else if l_ = 1756 then 1759 else l_) rfl), (f900020.relab (fun l_ => if l_ = 1754 then 1757 else if l_ = 1755 then 1758 else if l_ = 1756 then 1759 else l_) rfl), (f9826.relab (fun l_ => if l_ = 1754 then 1757 else if l_ = 1755 then 1758 else if l_ = 1756 then 1759 else l_) rfl), hc13779, H⟩
      refine wpIn_block ?_
      refine x_loop (fun j_ a_ w_ => ∃ o14527 : Nat → Nat, ∃ x14528 : Int, Kn 132 a_ [(0, .slice Ap0 (p0).length cp0), (1, .slice Ap1 (p1).length cp1), (2, .int .i64 p2), (7, .slice A13775 (l13777).length c13776), (11, .int .i64 (rdD 0 ([(rdD zT28 ((([] : List T28) ++ p0) ++ p1) x9828).From, (rdD zT28 ((([] : List T28) ++ p0) ++ p1) x9828).To] : List Int) x13780)), (12, .int .i64 x14528), (22, .slice (some ad13378) (((([] : List T28) ++ p0) ++ p1)).length c9825), (23, .int .i64 ((((([] : List T28) ++ p0) ++ p1)).length : Int)), (24, .int .i64 x9828), (32, .slice (some ⟨bx13390, 0, none⟩) (([(rdD zT28 ((([] : List T28) ++ p0) ++ p1) x9828).From, (rdD zT28 ((([] : List T28) ++ p0) ++ p1) x9828).To] : List Int)).length 2), (33, .int .i64 ((([(rdD zT28 ((([] : List T28) ++ p0) ++ p1) x9828).From, (rdD zT28 ((([] : List T28) ++ p0) ++ p1) x9828).To] : List Int)).length : Int)), (34, .int .i64 x13780)] ∧ St [] w (fun _ => 0) w_ o14527 ∧ Ft (Own (encInt .i64) 3 (.slice (some ⟨bx13390, 0, none⟩) (([(rdD zT28 ((([] : List T28) ++ p0) ++ p1) x9828).From, (rdD zT28 ((([] : List T28) ++ p0) ++ p1) x9828).To] : List Int)).length 2) ([(rdD zT28 ((([] : List T28) ++ p0) ++ p1) x9828).From, (rdD zT28 ((([] : List T28) ++ p0) ++ p1) x9828).To] : List Int)) w_ o14527 1768 ∧ Ft (Own (encInt .i64) 3 (.slice A13775 (l13777).length c13776) l13777) w_ o14527 1766 ∧ Ft (RdC ET28 Ap0 p0) w_ o14527 0 ∧ Ft (RdC ET28 Ap1 p1) w_ o14527 0 ∧ Ft (Own ET28 30 (.slice (some ad13378) (((([] : List T28) ++ p0) ++ p1)).length c9825) ((([] : List T28) ++ p0) ++ p1)) w_ o14527 1767 ∧ tidewrackref13_build_l11 p0 p1 x9828 l13777 x13780 lp14161 j_ x14528 = some r) (k := K) ⟨(fun b_ => (fun l_ => if l_ = 1676 then 1766 else if l_ = 1677 then 1767 else if l_ = 1678 then 1768 else l_) (o13774 b_)), 0, (by exact Kn.pick (ks := [0, 1, 2, 7, 11, 12, 22, 23, 24, 32, 33, 34]) hk rfl), (hs.relab0 (fun l_ => if l_ = 1676 then 1766 else if l_ = 1677 then 1767 else if l_ = 1678 then 1768 else l_) rfl), (f13392.relab (fun l_ => if l_ = 1676 then 1766 else if l_ = 1677 then 1767 else if l_ = 1678 then 1768 else l_) rfl), (f13778.relab (fun l_ => if l_ = 1676 then 1766 else if l_ = 1677 then 1767 else if l_ = 1678 then 1768 else l_) rfl), (f900000.relab (fun l_ => if l_ = 1676 then 1766 else if l_ = 1677 then 1767 else if l_ = 1678 then 1768 else l_) rfl), (f900020.relab (fun l_ => if l_ = 1676 then 1766 else if l_ = 1677 then 1767 else if l_ = 1678 then 1768 else l_) rfl), (f9826.relab (fun l_ => if l_ = 1676 then 1766 else if l_ = 1677 then 1767 else if l_ = 1678 then 1768 else l_) rfl), H⟩ (by rintro _ _ ⟨_, _, _, _, _, _, _, _, _, H_⟩; exact absurd (show (none : Option (List T28)) = some r from H_) (by simp)) ?_
      rintro k14534 a w14533 ⟨o14527, x14528, hk, hs, f13392, f13778, f900000, f900020, f9826, H⟩
      rw [tidewrackref13_build_l11] at H
      obtain ⟨lp14535, hlp14536⟩ : ∃ lp_, lp_ = tidewrackref13_build_l11 p0 p1 x9828 l13777 x13780 lp14161 k14534 := ⟨_, rfl⟩
      rw [← hlp14536] at H
      refine x_seq ?_
      refine x_seq ?_
      refine wpIn_region_lit ?_
      refine x_run tab hk (k := 5) (lv := []) (ks := [0, 1, 2, 7, 11, 12, 22, 23, 24, 32, 33, 34, 42]) (e' := [(0, .slice Ap0 (p0).length cp0), (1, .slice Ap1 (p1).length cp1), (2, .int .i64 p2), (7, .slice A13775 (l13777).length c13776), (11, .int .i64 (rdD 0 ([(rdD zT28 ((([] : List T28) ++ p0) ++ p1) x9828).From, (rdD zT28 ((([] : List T28) ++ p0) ++ p1) x9828).To] : List Int) x13780)), (12, .int .i64 x14528), (22, .slice (some ad13378) (((([] : List T28) ++ p0) ++ p1)).length c9825), (23, .int .i64 ((((([] : List T28) ++ p0) ++ p1)).length : Int)), (24, .int .i64 x9828), (32, .slice (some ⟨bx13390, 0, none⟩) (([(rdD zT28 ((([] : List T28) ++ p0) ++ p1) x9828).From, (rdD zT28 ((([] : List T28) ++ p0) ++ p1) x9828).To] : List Int)).length 2), (33, .int .i64 ((([(rdD zT28 ((([] : List T28) ++ p0) ++ p1) x9828).From, (rdD zT28 ((([] : List T28) ++ p0) ++ p1) x9828).To] : List Int)).length : Int)), (34, .int .i64 x13780), (42, .bool (decide (x14528 < ((l13777).length : Int))))]) rfl trivial fun a hk => ?_
      cases b14537 : (decide (x14528 < ((l13777).length : Int)))
      · rw [b14537] at hk H
        replace H := bifF H
        refine x_run tab hk (k := 7) (lv := []) (ks := [0, 1, 2, 7, 11, 12, 22, 23, 24, 32, 33, 34, 49]) (e' := [(0, .slice Ap0 (p0).length cp0), (1, .slice Ap1 (p1).length cp1), (2, .int .i64 p2), (7, .slice A13775 (l13777).length c13776), (11, .int .i64 (rdD 0 ([(rdD zT28 ((([] : List T28) ++ p0) ++ p1) x9828).From, (rdD zT28 ((([] : List T28) ++ p0) ++ p1) x9828).To] : List Int) x13780)), (12, .int .i64 x14528), (22, .slice (some ad13378) (((([] : List T28) ++ p0) ++ p1)).length c9825), (23, .int .i64 ((((([] : List T28) ++ p0) ++ p1)).length : Int)), (24, .int .i64 x9828), (32, .slice (some ⟨bx13390, 0, none⟩) (([(rdD zT28 ((([] : List T28) ++ p0) ++ p1) x9828).From, (rdD zT28 ((([] : List T28) ++ p0) ++ p1) x9828).To] : List Int)).length 2), (33, .int .i64 ((([(rdD zT28 ((([] : List T28) ++ p0) ++ p1) x9828).From, (rdD zT28 ((([] : List T28) ++ p0) ++ p1) x9828).To] : List Int)).length : Int)), (34, .int .i64 x13780), (49, .bool false)]) rfl trivial fun a hk => ?_
        refine wpListIn_nil ?_
        refine then_n ?_
        refine x_if hk (b := false) rfl ?_
        refine (show Code.wpIn _ _ _ _ _ _ _ from ?_)
        refine wpIn_exit ?_
        refine then_x ?_
        refine then_x ?_
        refine blk_x ?_
        refine then_n ?_
        exact ⟨(fun b_ => (fun l_ => if l_ = 1766 then 1754 else if l_ = 1767 then 1755 else if l_ = 1768 then 1756 else l_) (o14527 b_)), x14528, (by exact Kn.pick (ks := [0, 1, 2, 7, 11, 12, 22, 23, 24, 32, 33, 34]) hk rfl), (hs.relab0 (fun l_ => if l_ = 1766 then 1754 else if l_ = 1767 then 1755 else if l_ = 1768 then 1756 else l_) rfl), (f13392.relab (fun l_ => if l_ = 1766 then 1754 else if l_ = 1767 then 1755 else if l_ = 1768 then 1756 else l_) rfl), (f13778.relab (fun l_ => if l_ = 1766 then 1754 else if l_ = 1767 then 1755 else if l_ = 1768 then 1756 else l_) rfl), (f900000.relab (fun l_ => if l_ = 1766 then 1754 else if l_ = 1767 then 1755 else if l_ = 1768 then 1756 else l_) rfl), (f900020.relab (fun l_ => if l_ = 1766 then 1754 else if l_ = 1767 then 1755 else if l_ = 1768 then 1756 else l_) rfl), (f9826.relab (fun l_ => if l_ = 1766 then 1754 else if l_ = 1767 then 1755 else if l_ = 1768 then 1756 else l_) rfl), H⟩
      · rw [b14537] at hk H
        replace H := bifT H
        obtain ⟨q14538, H⟩ := ifS H
        obtain ⟨ad14539, hAad14539⟩ := RdC.addr (Own.rd f13778.now) q14538
        have hk_C := hk
        have f13392_C := f13392
        have f13778_C := f13778
        have f900000_C := f900000
        have f900020_C := f900020
        have f9826_C := f9826
        subst hAad14539
        have hk := hk_C
        clear hk_C
        have f13392 := f13392_C
        clear f13392_C
        have f13778 := f13778_C
        clear f13778_C
        have f900000 := f900000_C
        clear f900000_C
        have f900020 := f900020_C
        clear f900020_C
        have f9826 := f9826_C
        clear f9826_C
        refine x_run tab hk (k := 7) (lv := [.int .i64 (rdD 0 l13777 x14528)]) (ks := [0, 1, 2, 7, 11, 12, 22, 23, 24, 32, 33, 34, 49]) (e' := [(0, .slice Ap0 (p0).length cp0), (1, .slice Ap1 (p1).length cp1), (2, .int .i64 p2), (7, .slice (some ad14539) (l13777).length c13776), (11, .int .i64 (rdD 0 ([(rdD zT28 ((([] : List T28) ++ p0) ++ p1) x9828).From, (rdD zT28 ((([] : List T28) ++ p0) ++ p1) x9828).To] : List Int) x13780)), (12, .int .i64 x14528), (22, .slice (some ad13378) (((([] : List T28) ++ p0) ++ p1)).length c9825), (23, .int .i64 ((((([] : List T28) ++ p0) ++ p1)).length : Int)), (24, .int .i64 x9828), (32, .slice (some ⟨bx13390, 0, none⟩) (([(rdD zT28 ((([] : List T28) ++ p0) ++ p1) x9828).From, (rdD zT28 ((([] : List T28) ++ p0) ++ p1) x9828).To] : List Int)).length 2), (33, .int .i64 ((([(rdD zT28 ((([] : List T28) ++ p0) ++ p1) x9828).From, (rdD zT28 ((([] : List T28) ++ p0) ++ p1) x9828).To] : List Int)).length : Int)), (34, .int .i64 x13780), (49, .bool (decide ((rdD 0 l13777 x14528) < (rdD 0 ([(rdD zT28 ((([] : List T28) ++ p0) ++ p1) x9828).From, (rdD zT28 ((([] : List T28) ++ p0) ++ p1) x9828).To] : List Int) x13780))))]) rfl ⟨q14538, (load1 tab rfl (RdC.at0 (E := (encInt .i64)) (d := 0) (i := x14528) (Own.rd f13778.now) q14538 rfl)), trivial⟩ fun a hk => ?_
        refine wpListIn_nil ?_
        refine then_n ?_
        cases b14540 : (decide ((rdD 0 l13777 x14528) < (rdD 0 ([(rdD zT28 ((([] : List T28) ++ p0) ++ p1) x9828).From, (rdD zT28 ((([] : List T28) ++ p0) ++ p1) x9828).To] : List Int) x13780)))
        · rw [b14540] at hk H
          replace H := bifF H
          refine x_if hk (b := false) rfl ?_
          refine (show Code.wpIn _ _ _ _ _ _ _ from ?_)
          refine wpIn_exit ?_
          refine then_x ?_
          refine then_x ?_
          refine blk_x ?_
          refine then_n ?_
          exact ⟨(fun b_ => (fun l_ => if l_ = 1766 then 1754 else if l_ = 1767 then 1755 else if l_ = 1768 then 1756 else l_) (o14527 b_)), x14528, (by exact Kn.pick (ks := [0, 1, 2, 7, 11, 12, 22, 23, 24, 32, 33, 34]) hk rfl), (hs.relab0 (fun l_ => if l_ = 1766 then 1754 else if l_ = 1767 then 1755 else if l_ = 1768 then 1756 else l_) rfl), (f13392.relab (fun l_ => if l_ = 1766 then 1754 else if l_ = 1767 then 1755 else if l_ = 1768 then 1756 else l_) rfl), (f13778.relab (fun l_ => if l_ = 1766 then 1754 else if l_ = 1767 then 1755 else if l_ = 1768 then 1756 else l_) rfl), (f900000.relab (fun l_ => if l_ = 1766 then 1754 else if l_ = 1767 then 1755 else if l_ = 1768 then 1756 else l_) rfl), (f900020.relab (fun l_ => if l_ = 1766 then 1754 else if l_ = 1767 then 1755 else if l_ = 1768 then 1756 else l_) rfl), (f9826.relab (fun l_ => if l_ = 1766 then 1754 else if l_ = 1767 then 1755 else if l_ = 1768 then 1756 else l_) rfl), H⟩
        · rw [b14540] at hk H
          replace H := bifT H
          refine x_if hk (b := true) rfl ?_
          refine (show Code.wpIn _ _ _ _ _ _ _ from ?_)
          refine wpIn_skip ?_
          refine then_n ?_
          refine wpIn_block ?_
          refine wpIn_region_lit ?_
          refine x_run tab hk (k := 3) (lv := []) (ks := [0, 1, 2, 7, 11, 12, 22, 23, 24, 32, 33, 34]) (e' := [(0, .slice Ap0 (p0).length cp0), (1, .slice Ap1 (p1).length cp1), (2, .int .i64 p2), (7, .slice (some ad14539) (l13777).length c13776), (11, .int .i64 (rdD 0 ([(rdD zT28 ((([] : List T28) ++ p0) ++ p1) x9828).From, (rdD zT28 ((([] : List T28) ++ p0) ++ p1) x9828).To] : List Int) x13780)), (12, .int .i64 (IntKind.wrap .i64 (x14528 + 1))), (22, .slice (some ad13378) (((([] : List T28) ++ p0) ++ p1)).length c9825), (23, .int .i64 ((((([] : List T28) ++ p0) ++ p1)).length : Int)), (24, .int .i64 x9828), (32, .slice (some ⟨bx13390, 0, none⟩) (([(rdD zT28 ((([] : List T28) ++ p0) ++ p1) x9828).From, (rdD zT28 ((([] : List T28) ++ p0) ++ p1) x9828).To] : List Int)).length 2), (33, .int .i64 ((([(rdD zT28 ((([] : List T28) ++ p0) ++ p1) x9828).From, (rdD zT28 ((([] : List T28) ++ p0) ++ p1) x9828).To] : List Int)).length : Int)), (34, .int .i64 x13780)]) rfl trivial fun a hk => ?_
          refine wpListIn_nil ?_
          refine blk_n ?_
          refine then_n ?_
          exact ⟨k14534, Nat.le_refl _, o14527, (IntKind.wrap .i64 (x14528 + 1)), (by exact Kn.pick (ks := [0, 1, 2, 7, 11, 12, 22, 23, 24, 32, 33, 34]) hk rfl), hs, f13392, f13778, f900000, f900020, f9826, (hlp14536 ▸ H)⟩

end Go.Proofs.Ytjbdijgenhhgaaa
