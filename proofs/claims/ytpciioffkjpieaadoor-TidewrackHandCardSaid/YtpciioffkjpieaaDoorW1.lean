/- Walks, printed by an own program: the machine's calls compute the plain functions. -/
import Derived.Test.YtpciioffkjpieaaDoorW0
set_option linter.unusedVariables false
set_option linter.unusedSimpArgs false
namespace Go.Proofs.YtpciioffkjpieaaDoor
open Go Go.Proofs.XC
/-! tidewrack/cache.New -/
theorem cache_New_calls (p0 : Int) (w : World) (o : Nat → Nat) (LF : Nat)  (hd0 : ([LF] : List Nat).Nodup) (R0 : Nat) (R1 : Nat) (r : T118) (H : cache_New p0 = some r) :
    Calls Tryd.prog 18 #[.int .i64 p0] w (Ret fun v_ w' => ∃ o' : Nat → Nat, ∃ b0 : Nat, ∃ A0 : Option Addr, ∃ c0 : Nat, v_ = .pointer (some ⟨b0, 0, none⟩) ∧ St [] w o w' o' ∧ Ft (Bx b0 119 [.int .i64 r.most, .int .i64 r.now, mv A0]) w' o' R0 ∧ MpN dT129 true A0 r.l w' o' R1 LF ∧ (r.l).length ≤ c0) := by
  refine x_enter (vs := [.int .i64 p0]) Tryd.func18 rfl rfl rfl fun a hk => ?_
  obtain ⟨oi, hs0, h0, h1, hob, hoz, hoa⟩ := St.startM2 w o (m := 1) hd0 rfl
  have hs := hs0 []
  clear h0 h1 hs0
  rw [cache_New] at H
  refine x_seq ?_
  refine wpIn_region_lit ?_
  refine x_run tab hk (k := 1) (lv := []) (ks := [0]) (e' := [(0, .int .i64 p0)]) rfl trivial fun a hk => ?_
  refine wpListIn_nil ?_
  refine then_n ?_
  refine x_seq ?_
  refine wpIn_region_lit ?_
  refine x_run tab hk (k := 3) (lv := []) (ks := [5]) (e' := [(5, .int .i64 (mxI 1 (mnI p0 65536)))]) rfl trivial fun a hk => ?_
  refine x_op hk rfl ?_
  refine op_mmakeN (o := oi) rfl dT129 true 1 2 fun bx4 w1 o2 st3 f5 => ?_
  replace hs := hs.locQ st3 hob rfl
  have hk := hk.put 6 (mv (some ⟨bx4, 0, none⟩)) rfl
  refine x_run tab hk (k := 1) (lv := []) (ks := [7]) (e' := [(7, .agg #[.int .i64 (mxI 1 (mnI p0 65536)), .int .i64 0, mv (some ⟨bx4, 0, none⟩)])]) rfl trivial fun a hk => ?_
  refine x_op hk rfl ?_
  refine op_box (o := o2) (t := 119) (v := .agg #[.int .i64 (mxI 1 (mnI p0 65536)), .int .i64 0, mv (some ⟨bx4, 0, none⟩)]) (cs := [.int .i64 (mxI 1 (mnI p0 65536)), .int .i64 0, mv (some ⟨bx4, 0, none⟩)]) hk rfl rfl 3 fun bx9 w6 o7 st8 f10 => ?_
  replace f5 := f5.st st8 (by decide)
  replace hs := hs.locQ st8 hob rfl
  have hk := hk.put 8 (.pointer (some ⟨bx9, 0, none⟩)) rfl
  refine x_run tab hk (k := 1) (lv := []) (ks := [2]) (e' := [(2, .pointer (some ⟨bx9, 0, none⟩))]) rfl trivial fun a hk => ?_
  refine wpListIn_nil ?_
  refine then_n ?_
  refine wpIn_ret ?_
  obtain rfl := Option.some.inj H
  exact x_retG hk (rs := [.tmp 2]) (vs := [.pointer (some ⟨bx9, 0, none⟩)]) rfl ⟨rfl, trivial⟩ ⟨cl w oi o [] (fun l_ => if l_ = 1 then LF else if l_ = 2 then R1 else if l_ = 3 then R0 else 0) o7, bx9, (some ⟨bx4, 0, none⟩), 0, rfl, hs.closeF (Lm := []) (Sh := []) hoa rfl (fun l_ => if l_ = 1 then LF else if l_ = 2 then R1 else if l_ = 3 then R0 else 0), hs.closeM_ft (o := o) (ρ := fun l_ => if l_ = 1 then LF else if l_ = 2 then R1 else if l_ = 3 then R0 else 0) f10 (lab_none hob rfl) rfl, f5.conv (fun _ h_ => hs.closeM_ft (o := o) (ρ := fun l_ => if l_ = 1 then LF else if l_ = 2 then R1 else if l_ = 3 then R0 else 0) h_ (lab_none hob rfl) rfl) (fun _ h_ => hs.closeM_ft (o := o) (ρ := fun l_ => if l_ = 1 then LF else if l_ = 2 then R1 else if l_ = 3 then R0 else 0) h_ (lab_at hoa (i := 0) rfl) rfl), (Nat.le_refl _)⟩

/-! tidewrack/flow.runes -/
theorem flow_runes_calls (K : Nat) (Ap0 : Option Addr) (cp0 : Nat) (p0 : List T36) (w : World) (o : Nat → Nat) (Lp0 : Nat) (hp0 : Ft (RdC ET36 Ap0 p0) w o Lp0) (hcp0 : (p0).length ≤ cp0)  (R0 : Nat) (r : List Int) (H : flow_runes K p0 = some r) :
    Calls Tryd.prog 84 #[.slice Ap0 (p0).length cp0] w (Ret fun v_ w' => ∃ o' : Nat → Nat, ∃ A0 : Option Addr, ∃ c0 : Nat, v_ = .slice A0 (r).length c0 ∧ St [] w o w' o' ∧ Ft (Own (encInt .i32) 21 (.slice A0 (r).length c0) r) w' o' R0 ∧ (r).length ≤ c0) := by
  refine x_enter (vs := [.slice Ap0 (p0).length cp0]) Tryd.func84 rfl rfl rfl fun a hk => ?_
  obtain ⟨o0, hs, h0⟩ := St.start w o
  have f900000 := h0 _ _ hp0
  clear h0
  rw [flow_runes] at H
  refine x_seq ?_
  refine wpIn_region_lit ?_
  refine x_run tab hk (k := 1) (lv := []) (ks := [0]) (e' := [(0, .slice Ap0 (p0).length cp0)]) rfl trivial fun a hk => ?_
  refine wpListIn_nil ?_
  refine then_n ?_
  refine x_seq ?_
  refine wpIn_region_lit ?_
  refine x_run tab hk (k := 1) (lv := []) (ks := [0, 3]) (e' := [(0, .slice Ap0 (p0).length cp0), (3, .slice none 0 0)]) rfl trivial fun a hk => ?_
  refine wpListIn_nil ?_
  refine then_n ?_
  refine x_mid (fun a_ w_ => ∃ o100 : Nat → Nat, ∃ A101 : Option Addr, ∃ c102 : Nat, ∃ l103 : List Int, Kn 19 a_ [(3, .slice A101 (l103).length c102)] ∧ St [] w (fun _ => 0) w_ o100 ∧ Ft (Own (encInt .i32) 21 (.slice A101 (l103).length c102) l103) w_ o100 10 ∧ (l103).length ≤ c102 ∧ flow_runes_j1 l103 = some r) ?_ ?_
  rotate_left
  · rintro a w106 ⟨o100, A101, c102, l103, hk, hs, f104, hc105, H⟩
    rw [flow_runes_j1] at H
    refine x_seq ?_
    refine wpIn_region_lit ?_
    refine x_run tab hk (k := 2) (lv := []) (ks := [2]) (e' := [(2, .slice A101 (l103).length c102)]) rfl trivial fun a hk => ?_
    refine wpListIn_nil ?_
    refine then_n ?_
    refine wpIn_ret ?_
    obtain rfl := Option.some.inj H
    exact x_retG hk (rs := [.tmp 2]) (vs := [.slice A101 (l103).length c102]) rfl ⟨rfl, trivial⟩ ⟨fun b_ => if b_ < w.heap.size then o b_ else (fun _ => R0) (o100 b_), A101, c102, rfl, hs.close0 o (fun _ => R0), hs.close_ft (o := o) (ρ := fun _ => R0) f104 (by decide) rfl, hc105⟩
  refine x_seq ?_
  refine wpIn_region_lit ?_
  refine x_run tab hk (k := 3) (lv := []) (ks := [3, 6, 7, 8]) (e' := [(3, .slice none 0 0), (6, .slice Ap0 (p0).length cp0), (7, .int .i64 ((p0).length : Int)), (8, .int .i64 0)]) rfl trivial fun a hk => ?_
  refine wpListIn_nil ?_
  refine then_n ?_
  refine wpIn_block ?_
  refine x_loop (fun j_ a_ w_ => ∃ o135 : Nat → Nat, ∃ A136 : Option Addr, ∃ c137 : Nat, ∃ l138 : List Int, ∃ x141 : Int, Kn 19 a_ [(3, .slice A136 (l138).length c137), (6, .slice Ap0 (p0).length cp0), (7, .int .i64 ((p0).length : Int)), (8, .int .i64 x141)] ∧ St [] w (fun _ => 0) w_ o135 ∧ Ft (Own (encInt .i32) 21 (.slice A136 (l138).length c137) l138) w_ o135 14 ∧ Ft (RdC ET36 Ap0 p0) w_ o135 0 ∧ (l138).length ≤ c137 ∧ flow_runes_l2 p0 j_ l138 x141 = some r) (k := K) ⟨o0, none, 0, ([] : List Int), 0, (by exact Kn.pick (ks := [3, 6, 7, 8]) hk rfl), hs, (Ft.of_all (fun _ => Own.nil _ _ _) _ _ _), f900000, (by simp), H⟩ (by rintro _ _ ⟨_, _, _, _, _, _, _, _, _, _, H_⟩; exact absurd (show (none : Option (List Int)) = some r from H_) (by simp)) ?_
  rintro k168 a w167 ⟨o135, A136, c137, l138, x141, hk, hs, f139, f900000, hc140, H⟩
  rw [flow_runes_l2] at H
  obtain ⟨lp169, hlp170⟩ : ∃ lp_, lp_ = flow_runes_l2 p0 k168 := ⟨_, rfl⟩
  rw [← hlp170] at H
  refine x_seq ?_
  refine wpIn_region_lit ?_
  refine x_run tab hk (k := 1) (lv := []) (ks := [3, 6, 7, 8, 9]) (e' := [(3, .slice A136 (l138).length c137), (6, .slice Ap0 (p0).length cp0), (7, .int .i64 ((p0).length : Int)), (8, .int .i64 x141), (9, .bool (decide (x141 < ((p0).length : Int))))]) rfl trivial fun a hk => ?_
  refine wpListIn_nil ?_
  refine then_n ?_
  refine x_seq ?_
  cases b171 : (decide (x141 < ((p0).length : Int)))
  · rw [b171] at hk H
    replace H := bifF H
    refine x_if hk (b := false) rfl ?_
    refine (show Code.wpIn _ _ _ _ _ _ _ from ?_)
    refine wpIn_exit ?_
    refine then_x ?_
    refine then_x ?_
    refine blk_x ?_
    refine then_n ?_
    exact ⟨(fun b_ => (fun l_ => if l_ = 14 then 10 else l_) (o135 b_)), A136, c137, l138, (by exact Kn.pick (ks := [3]) hk rfl), (hs.relab0 (fun l_ => if l_ = 14 then 10 else l_) rfl), (f139.relab (fun l_ => if l_ = 14 then 10 else l_) rfl), hc140, H⟩
  · rw [b171] at hk H
    replace H := bifT H
    refine x_if hk (b := true) rfl ?_
    refine (show Code.wpIn _ _ _ _ _ _ _ from ?_)
    refine wpIn_skip ?_
    refine then_n ?_
    refine x_seq ?_
    refine wpIn_block ?_
    refine x_seq ?_
    refine wpIn_region_lit ?_
    obtain ⟨q172, H⟩ := ifS H
    obtain ⟨ad173, hAad173⟩ := RdC.addr f900000.now q172
    have hk_C := hk
    have f139_C := f139
    have f900000_C := f900000
    subst hAad173
    have hk := hk_C
    clear hk_C
    have f139 := f139_C
    clear f139_C
    have f900000 := f900000_C
    clear f900000_C
    refine x_run tab hk (k := 2) (lv := [.agg #[.int .i32 ((rdD zT36 p0 x141).Rune), .int .i64 ((rdD zT36 p0 x141).Style)]]) (ks := [3, 6, 7, 8, 11]) (e' := [(3, .slice A136 (l138).length c137), (6, .slice (some ad173) (p0).length cp0), (7, .int .i64 ((p0).length : Int)), (8, .int .i64 x141), (11, .agg #[.int .i32 ((rdD zT36 p0 x141).Rune), .int .i64 ((rdD zT36 p0 x141).Style)])]) rfl ⟨q172, (load_elem (E := ET36) (i := x141) (dx := zT36) tab rfl rfl f900000.now q172), trivial⟩ fun a hk => ?_
    refine x_op hk rfl ?_
    refine op_alloc (o := o135) tab (t := 37) (cs := [.int .i32 0, .int .i64 0]) rfl rfl 17 fun bx177 w174 o175 st176 f178 => ?_
    replace f139 := f139.st st176 (by decide)
    replace f900000 := f900000.st st176 (by decide)
    replace hs := hs.loc0 st176 (by decide)
    have hk := hk.put 5 (.pointer (some ⟨bx177, 0, none⟩)) rfl
    refine x_op hk rfl ?_
    refine op_store tab hk (t := 37) (v := .agg #[.int .i32 ((rdD zT36 p0 x141).Rune), .int .i64 ((rdD zT36 p0 x141).Style)]) (b := bx177) (k := 0) (cs' := [.int .i32 ((rdD zT36 p0 x141).Rune), .int .i64 ((rdD zT36 p0 x141).Style)]) rfl rfl rfl rfl rfl rfl f178 rfl rfl fun w179 o180 st181 f178_ => ?_
    replace f139 := f139.st st181 (by decide)
    replace f900000 := f900000.st st181 (by decide)
    replace hs := hs.loc0 st181 (by decide)
    replace f178 := f178_
    refine wpListIn_nil ?_
    refine then_n ?_
    refine wpIn_region_lit ?_
    refine x_run tab hk (k := 3) (lv := [.int .i32 ((rdD zT36 p0 x141).Rune)]) (ks := [6, 7, 8, 12, 14]) (e' := [(6, .slice (some ad173) (p0).length cp0), (7, .int .i64 ((p0).length : Int)), (8, .int .i64 x141), (12, .slice A136 (l138).length c137), (14, .int .i32 ((rdD zT36 p0 x141).Rune))]) rfl ⟨(load1 tab rfl ((Bx.cell f178.now 0).trans rfl)), trivial⟩ fun a hk => ?_
    refine x_op hk rfl ?_
    refine op_slice (o := o180) tab hk (vs := [.int .i32 ((rdD zT36 p0 x141).Rune)]) (cs := [.int .i32 ((rdD zT36 p0 x141).Rune)]) rfl rfl rfl rfl rfl rfl rfl rfl rfl 18 fun bx185 w182 o183 st184 f186 => ?_
    replace f139 := f139.st st184 (by decide)
    replace f900000 := f900000.st st184 (by decide)
    replace hs := hs.loc0 st184 (by decide)
    have f187 : Ft (Own (encInt .i32) 21 (.slice (some ⟨bx185, 0, none⟩) (([(rdD zT36 p0 x141).Rune] : List Int)).length 1) ([(rdD zT36 p0 x141).Rune] : List Int)) w182 o183 18 := f186.imp fun _ h_ => Own.of_box h_ rfl (by simp)
    have hk := hk.put 15 (.slice (some ⟨bx185, 0, none⟩) (([(rdD zT36 p0 x141).Rune] : List Int)).length 1) rfl
    refine x_op hk rfl ?_
    obtain ⟨q191, H⟩ := ifS H
    refine op_append (o := o183) (E := (encInt .i32)) (xs := l138) (ys := ([(rdD zT36 p0 x141).Rune] : List Int)) tab hk rfl rfl rfl rfl rfl rfl rfl f139 (Own.rd f187.now) q191 fun A192 c193 w188 o189 st190 f194 hc195 => ?_
    replace f187 := f187.st st190 (by decide)
    replace f900000 := f900000.st st190 (by decide)
    replace hs := hs.loc0 st190 (by decide)
    have hk := hk.put 16 (.slice A192 ((l138 ++ ([(rdD zT36 p0 x141).Rune] : List Int))).length c193) rfl
    refine x_run tab hk (k := 1) (lv := []) (ks := [3, 6, 7, 8]) (e' := [(3, .slice A192 ((l138 ++ ([(rdD zT36 p0 x141).Rune] : List Int))).length c193), (6, .slice (some ad173) (p0).length cp0), (7, .int .i64 ((p0).length : Int)), (8, .int .i64 x141)]) rfl trivial fun a hk => ?_
    refine wpListIn_nil ?_
    refine blk_n ?_
    refine then_n ?_
    refine wpIn_region_lit ?_
    refine x_run tab hk (k := 2) (lv := []) (ks := [3, 6, 7, 8]) (e' := [(3, .slice A192 ((l138 ++ ([(rdD zT36 p0 x141).Rune] : List Int))).length c193), (6, .slice (some ad173) (p0).length cp0), (7, .int .i64 ((p0).length : Int)), (8, .int .i64 (IntKind.wrap .i64 (x141 + 1)))]) rfl trivial fun a hk => ?_
    refine wpListIn_nil ?_
    refine then_n ?_
    exact ⟨k168, Nat.le_refl _, o189, A192, c193, (l138 ++ ([(rdD zT36 p0 x141).Rune] : List Int)), (IntKind.wrap .i64 (x141 + 1)), (by exact Kn.pick (ks := [3, 6, 7, 8]) hk rfl), hs, f194, f900000, hc195, (hlp170 ▸ H)⟩

/-! tidewrack/wide.in -/
theorem wide_in_calls (K : Nat) (Ap0 : Option Addr) (cp0 : Nat) (p0 : List T97) (p1 : Int) (w : World) (o : Nat → Nat) (Lp0 : Nat) (hp0 : Ft (RdC ET97 Ap0 p0) w o Lp0) (hcp0 : (p0).length ≤ cp0)  (r : Bool) (H : wide_in K p0 p1 = some r) :
    Calls Tryd.prog 36 #[.slice Ap0 (p0).length cp0, .int .i32 p1] w (Ret fun v_ w' => ∃ o' : Nat → Nat, v_ = .bool r ∧ St [] w o w' o') := by
  refine x_enter (vs := [.slice Ap0 (p0).length cp0, .int .i32 p1]) Tryd.func36 rfl rfl rfl fun a hk => ?_
  obtain ⟨o0, hs, h0⟩ := St.start w o
  have f900000 := h0 _ _ hp0
  clear h0
  rw [wide_in] at H
  refine x_seq ?_
  refine wpIn_region_lit ?_
  refine x_run tab hk (k := 1) (lv := []) (ks := [0, 1]) (e' := [(0, .slice Ap0 (p0).length cp0), (1, .int .i32 p1)]) rfl trivial fun a hk => ?_
  refine wpListIn_nil ?_
  refine then_n ?_
  refine x_seq ?_
  refine wpIn_region_lit ?_
  refine x_run tab hk (k := 4) (lv := []) (ks := [0, 1, 5, 6]) (e' := [(0, .slice Ap0 (p0).length cp0), (1, .int .i32 p1), (5, .int .i64 0), (6, .int .i64 ((p0).length : Int))]) rfl trivial fun a hk => ?_
  refine wpListIn_nil ?_
  refine then_n ?_
  refine x_mid (fun a_ w_ => ∃ o29 : Nat → Nat, ∃ x30 : Int, Kn 40 a_ [(0, .slice Ap0 (p0).length cp0), (1, .int .i32 p1), (5, .int .i64 x30)] ∧ St [] w (fun _ => 0) w_ o29 ∧ Ft (RdC ET97 Ap0 p0) w_ o29 0 ∧ wide_in_j1 p0 p1 x30 = some r) ?_ ?_
  rotate_left
  · rintro a w31 ⟨o29, x30, hk, hs, f900000, H⟩
    rw [wide_in_j1] at H
    refine x_seq ?_
    refine wpIn_region_lit ?_
    refine x_run tab hk (k := 5) (lv := []) (ks := [0, 1, 5, 31]) (e' := [(0, .slice Ap0 (p0).length cp0), (1, .int .i32 p1), (5, .int .i64 x30), (31, .bool (decide (x30 < ((p0).length : Int))))]) rfl trivial fun a hk => ?_
    cases b32 : (decide (x30 < ((p0).length : Int)))
    · rw [b32] at hk H
      replace H := bifF H
      refine x_run tab hk (k := 9) (lv := []) (ks := [4]) (e' := [(4, .bool false)]) rfl trivial fun a hk => ?_
      refine wpListIn_nil ?_
      refine then_n ?_
      refine wpIn_ret ?_
      obtain rfl := Option.some.inj H
      exact x_retG hk (rs := [.tmp 4]) (vs := [.bool false]) rfl ⟨rfl, trivial⟩ ⟨fun b_ => if b_ < w.heap.size then o b_ else (fun _ => 0) (o29 b_), rfl, hs.close0 o (fun _ => 0)⟩
    · rw [b32] at hk H
      replace H := bifT H
      obtain ⟨q33, H⟩ := ifS H
      obtain ⟨ad34, hAad34⟩ := RdC.addr f900000.now q33
      have hk_C := hk
      have f900000_C := f900000
      subst hAad34
      have hk := hk_C
      clear hk_C
      have f900000 := f900000_C
      clear f900000_C
      refine x_run tab hk (k := 9) (lv := [.int .i32 ((rdD zT97 p0 x30).from_)]) (ks := [4]) (e' := [(4, .bool (decide (((rdD zT97 p0 x30).from_) ≤ p1)))]) rfl ⟨q33, (load1 tab rfl (RdC.at (E := ET97) (d := zT97) (i := x30) (j := 0) f900000.now q33 rfl)), trivial⟩ fun a hk => ?_
      refine wpListIn_nil ?_
      refine then_n ?_
      refine wpIn_ret ?_
      obtain rfl := Option.some.inj H
      exact x_retG hk (rs := [.tmp 4]) (vs := [.bool (decide (((rdD zT97 p0 x30).from_) ≤ p1))]) rfl ⟨rfl, trivial⟩ ⟨fun b_ => if b_ < w.heap.size then o b_ else (fun _ => 0) (o29 b_), rfl, hs.close0 o (fun _ => 0)⟩
  refine wpIn_block ?_
  refine x_loop (fun j_ a_ w_ => ∃ o42 : Nat → Nat, ∃ x43 : Int, ∃ x44 : Int, Kn 40 a_ [(0, .slice Ap0 (p0).length cp0), (1, .int .i32 p1), (5, .int .i64 x43), (6, .int .i64 x44)] ∧ St [] w (fun _ => 0) w_ o42 ∧ Ft (RdC ET97 Ap0 p0) w_ o42 0 ∧ wide_in_l2 p0 p1 j_ x43 x44 = some r) (k := K) ⟨o0, 0, ((p0).length : Int), (by exact Kn.pick (ks := [0, 1, 5, 6]) hk rfl), hs, f900000, H⟩ (by rintro _ _ ⟨_, _, _, _, _, _, H_⟩; exact absurd (show (none : Option Bool) = some r from H_) (by simp)) ?_
  rintro k50 a w49 ⟨o42, x43, x44, hk, hs, f900000, H⟩
  rw [wide_in_l2] at H
  obtain ⟨lp51, hlp52⟩ : ∃ lp_, lp_ = wide_in_l2 p0 p1 k50 := ⟨_, rfl⟩
  rw [← hlp52] at H
  refine x_seq ?_
  refine x_seq ?_
  refine wpIn_region_lit ?_
  refine x_run tab hk (k := 3) (lv := []) (ks := [0, 1, 5, 6, 12]) (e' := [(0, .slice Ap0 (p0).length cp0), (1, .int .i32 p1), (5, .int .i64 x43), (6, .int .i64 x44), (12, .bool (decide (x43 < x44)))]) rfl trivial fun a hk => ?_
  refine wpListIn_nil ?_
  refine then_n ?_
  cases b53 : (decide (x43 < x44))
  · rw [b53] at hk H
    replace H := bifF H
    refine x_if hk (b := false) rfl ?_
    refine (show Code.wpIn _ _ _ _ _ _ _ from ?_)
    refine wpIn_exit ?_
    refine then_x ?_
    refine then_x ?_
    refine blk_x ?_
    refine then_n ?_
    exact ⟨o42, x43, (by exact Kn.pick (ks := [0, 1, 5]) hk rfl), hs, f900000, H⟩
  · rw [b53] at hk H
    replace H := bifT H
    refine x_if hk (b := true) rfl ?_
    refine (show Code.wpIn _ _ _ _ _ _ _ from ?_)
    refine wpIn_skip ?_
    refine then_n ?_
    refine wpIn_block ?_
    refine x_seq ?_
    refine wpIn_region_lit ?_
    refine x_run tab hk (k := 5) (lv := []) (ks := [0, 1, 5, 6, 7]) (e' := [(0, .slice Ap0 (p0).length cp0), (1, .int .i32 p1), (5, .int .i64 x43), (6, .int .i64 x44), (7, .int .i64 (IntKind.wrap .i64 (Int.tdiv (IntKind.wrap .i64 (x43 + x44)) 2)))]) rfl ⟨(show (2 : Int) ≠ 0 from by decide), trivial⟩ fun a hk => ?_
    refine wpListIn_nil ?_
    refine then_n ?_
    refine x_seq ?_
    refine wpIn_region_lit ?_
    obtain ⟨q54, H⟩ := ifS H
    obtain ⟨ad55, hAad55⟩ := RdC.addr f900000.now q54
    have hk_C := hk
    have f900000_C := f900000
    subst hAad55
    have hk := hk_C
    clear hk_C
    have f900000 := f900000_C
    clear f900000_C
    refine x_run tab hk (k := 7) (lv := [.int .i32 ((rdD zT97 p0 (IntKind.wrap .i64 (Int.tdiv (IntKind.wrap .i64 (x43 + x44)) 2))).to)]) (ks := [0, 1, 5, 6, 7, 23]) (e' := [(0, .slice (some ad55) (p0).length cp0), (1, .int .i32 p1), (5, .int .i64 x43), (6, .int .i64 x44), (7, .int .i64 (IntKind.wrap .i64 (Int.tdiv (IntKind.wrap .i64 (x43 + x44)) 2))), (23, .bool (decide (((rdD zT97 p0 (IntKind.wrap .i64 (Int.tdiv (IntKind.wrap .i64 (x43 + x44)) 2))).to) < p1)))]) rfl ⟨q54, (load1 tab rfl (RdC.at (E := ET97) (d := zT97) (i := (IntKind.wrap .i64 (Int.tdiv (IntKind.wrap .i64 (x43 + x44)) 2))) (j := 1) f900000.now q54 rfl)), trivial⟩ fun a hk => ?_
    refine wpListIn_nil ?_
    refine then_n ?_
    cases b56 : (decide (((rdD zT97 p0 (IntKind.wrap .i64 (Int.tdiv (IntKind.wrap .i64 (x43 + x44)) 2))).to) < p1))
    · rw [b56] at hk H
      replace H := bifF H
      refine x_if hk (b := false) rfl ?_
      refine (show Code.wpIn _ _ _ _ _ _ _ from ?_)
      refine wpIn_region_lit ?_
      refine x_run tab hk (k := 2) (lv := []) (ks := [0, 1, 5, 6]) (e' := [(0, .slice (some ad55) (p0).length cp0), (1, .int .i32 p1), (5, .int .i64 x43), (6, .int .i64 (IntKind.wrap .i64 (Int.tdiv (IntKind.wrap .i64 (x43 + x44)) 2)))]) rfl trivial fun a hk => ?_
      refine wpListIn_nil ?_
      refine blk_n ?_
      refine then_n ?_
      exact ⟨k50, Nat.le_refl _, o42, x43, (IntKind.wrap .i64 (Int.tdiv (IntKind.wrap .i64 (x43 + x44)) 2)), (by exact Kn.pick (ks := [0, 1, 5, 6]) hk rfl), hs, f900000, (hlp52 ▸ H)⟩
    · rw [b56] at hk H
      replace H := bifT H
      refine x_if hk (b := true) rfl ?_
      refine (show Code.wpIn _ _ _ _ _ _ _ from ?_)
      refine wpIn_region_lit ?_
      refine x_run tab hk (k := 3) (lv := []) (ks := [0, 1, 5, 6]) (e' := [(0, .slice (some ad55) (p0).length cp0), (1, .int .i32 p1), (5, .int .i64 (IntKind.wrap .i64 ((IntKind.wrap .i64 (Int.tdiv (IntKind.wrap .i64 (x43 + x44)) 2)) + 1))), (6, .int .i64 x44)]) rfl trivial fun a hk => ?_
      refine wpListIn_nil ?_
      refine blk_n ?_
      refine then_n ?_
      exact ⟨k50, Nat.le_refl _, o42, (IntKind.wrap .i64 ((IntKind.wrap .i64 (Int.tdiv (IntKind.wrap .i64 (x43 + x44)) 2)) + 1)), x44, (by exact Kn.pick (ks := [0, 1, 5, 6]) hk rfl), hs, f900000, (hlp52 ▸ H)⟩

/-! tidewrack/wide.Of -/
theorem wide_Of_calls (K : Nat) (p0 : Int) (w : World) (o : Nat → Nat) (Lg0 : Nat) (hg0 : Ft (RdC ET97 (some ⟨0, 0, none⟩) glob0) w o Lg0) (Lg1 : Nat) (hg1 : Ft (RdC ET97 (some ⟨1, 0, none⟩) glob1) w o Lg1)   (r : Int) (H : wide_Of K p0 = some r) :
    Calls Tryd.prog 8 #[.int .i32 p0] w (Ret fun v_ w' => ∃ o' : Nat → Nat, v_ = .int .i64 r ∧ St [] w o w' o') := by
  refine x_enter (vs := [.int .i32 p0]) Tryd.func8 rfl rfl rfl fun a hk => ?_
  obtain ⟨o0, hs, h0⟩ := St.start w o
  have fg0 := h0 _ _ hg0
  have fg1 := h0 _ _ hg1
  clear h0
  rw [wide_Of] at H
  refine x_seq ?_
  refine wpIn_region_lit ?_
  refine x_run tab hk (k := 1) (lv := []) (ks := [0]) (e' := [(0, .int .i32 p0)]) rfl trivial fun a hk => ?_
  refine wpListIn_nil ?_
  refine then_n ?_
  refine x_seq ?_
  refine wpIn_block ?_
  refine x_seq ?_
  refine wpIn_region_lit ?_
  refine x_run tab hk (k := 2) (lv := [.slice (some ⟨0, 0, none⟩) (glob0).length 13]) (ks := [0, 4, 5]) (e' := [(0, .int .i32 p0), (4, .slice (some ⟨0, 0, none⟩) (glob0).length 13), (5, .int .i32 p0)]) rfl ⟨(ask_whole tab rfl rfl rfl), trivial⟩ fun a hk => ?_
  refine x_op hk rfl ?_
  obtain ⟨t4, hc5, H⟩ := bindS H
  refine op_call hk ent_36 (vs := [.slice (some ⟨0, 0, none⟩) (glob0).length 13, .int .i32 p0]) rfl (wide_in_calls K (some ⟨0, 0, none⟩) 13 glob0 p0 _ o0 _ fg0 (by decide)   _ hc5) ?_
  rintro _ w6 ⟨o7, rfl, st8⟩
  replace fg0 := fg0.st st8 (by decide)
  replace fg1 := fg1.st st8 (by decide)
  replace hs := hs.loc0 st8 (by decide)
  have hk := hk.put 6 (.bool t4) rfl
  refine x_run tab hk (k := 1) (lv := []) (ks := [0, 3]) (e' := [(0, .int .i32 p0), (3, .bool t4)]) rfl trivial fun a hk => ?_
  refine wpListIn_nil ?_
  refine then_n ?_
  cases b9 : t4
  · rw [b9] at hk H
    replace H := bifF H
    refine x_if hk (b := false) rfl ?_
    refine (show Code.wpIn _ _ _ _ _ _ _ from ?_)
    refine x_seq ?_
    refine wpIn_region_lit ?_
    refine x_run tab hk (k := 2) (lv := [.slice (some ⟨1, 0, none⟩) (glob1).length 14]) (ks := [8, 9]) (e' := [(8, .slice (some ⟨1, 0, none⟩) (glob1).length 14), (9, .int .i32 p0)]) rfl ⟨(ask_whole tab rfl rfl rfl), trivial⟩ fun a hk => ?_
    refine x_op hk rfl ?_
    obtain ⟨t13, hc14, H⟩ := bindS H
    refine op_call hk ent_36 (vs := [.slice (some ⟨1, 0, none⟩) (glob1).length 14, .int .i32 p0]) rfl (wide_in_calls K (some ⟨1, 0, none⟩) 14 glob1 p0 _ o7 _ fg1 (by decide)   _ hc14) ?_
    rintro _ w15 ⟨o16, rfl, st17⟩
    replace fg0 := fg0.st st17 (by decide)
    replace fg1 := fg1.st st17 (by decide)
    replace hs := hs.loc0 st17 (by decide)
    have hk := hk.put 10 (.bool t13) rfl
    refine x_run tab hk (k := 1) (lv := []) (ks := [7]) (e' := [(7, .bool t13)]) rfl trivial fun a hk => ?_
    refine wpListIn_nil ?_
    refine then_n ?_
    cases b18 : t13
    · rw [b18] at hk H
      replace H := bifF H
      refine x_if hk (b := false) rfl ?_
      refine (show Code.wpIn _ _ _ _ _ _ _ from ?_)
      refine wpIn_skip ?_
      refine blk_n ?_
      refine then_n ?_
      refine x_seq ?_
      refine wpIn_region_lit ?_
      refine x_run tab hk (k := 1) (lv := []) (ks := [2]) (e' := [(2, .int .i64 1)]) rfl trivial fun a hk => ?_
      refine wpListIn_nil ?_
      refine then_n ?_
      refine wpIn_ret ?_
      obtain rfl := Option.some.inj H
      exact x_retG hk (rs := [.tmp 2]) (vs := [.int .i64 1]) rfl ⟨rfl, trivial⟩ ⟨fun b_ => if b_ < w.heap.size then o b_ else (fun _ => 0) (o16 b_), rfl, hs.close0 o (fun _ => 0)⟩
    · rw [b18] at hk H
      replace H := bifT H
      refine x_if hk (b := true) rfl ?_
      refine (show Code.wpIn _ _ _ _ _ _ _ from ?_)
      refine x_seq ?_
      refine wpIn_region_lit ?_
      refine x_run tab hk (k := 1) (lv := []) (ks := [2]) (e' := [(2, .int .i64 2)]) rfl trivial fun a hk => ?_
      refine wpListIn_nil ?_
      refine then_n ?_
      refine wpIn_ret ?_
      refine blk_r ?_
      refine then_r ?_
      obtain rfl := Option.some.inj H
      exact x_retG hk (rs := [.tmp 2]) (vs := [.int .i64 2]) rfl ⟨rfl, trivial⟩ ⟨fun b_ => if b_ < w.heap.size then o b_ else (fun _ => 0) (o16 b_), rfl, hs.close0 o (fun _ => 0)⟩
  · rw [b9] at hk H
    replace H := bifT H
    refine x_if hk (b := true) rfl ?_
    refine (show Code.wpIn _ _ _ _ _ _ _ from ?_)
    refine x_seq ?_
    refine wpIn_region_lit ?_
    refine x_run tab hk (k := 1) (lv := []) (ks := [2]) (e' := [(2, .int .i64 0)]) rfl trivial fun a hk => ?_
    refine wpListIn_nil ?_
    refine then_n ?_
    refine wpIn_ret ?_
    refine blk_r ?_
    refine then_r ?_
    obtain rfl := Option.some.inj H
    exact x_retG hk (rs := [.tmp 2]) (vs := [.int .i64 0]) rfl ⟨rfl, trivial⟩ ⟨fun b_ => if b_ < w.heap.size then o b_ else (fun _ => 0) (o7 b_), rfl, hs.close0 o (fun _ => 0)⟩

/-! tidewrack/wide.columns$1 -/
theorem wide_columns_1_iter (K : Nat) (bp1 : Nat) (Ap1_0 : Option Addr) (cp1_0 : Nat) (p1 : List Int) (w : World) (o : Nat → Nat) (Lg0 : Nat) (hg0 : Ft (RdC ET97 (some ⟨0, 0, none⟩) glob0) w o Lg0) (Lg1 : Nat) (hg1 : Ft (RdC ET97 (some ⟨1, 0, none⟩) glob1) w o Lg1) (Lp1 : Nat) (hp1 : Ft (Bx bp1 23 [.slice Ap1_0 (p1).length cp1_0]) w o Lp1) (Lp1_0 : Nat) (hp1_0 : Ft (RdC (encInt .i32) Ap1_0 p1) w o Lp1_0) (hcp1_0 : (p1).length ≤ cp1_0) (hd0 : ([] : List Nat).Nodup) (hd1 : Lg0 ∉ ([] : List Nat)) (hd2 : Lg1 ∉ ([] : List Nat)) (hd3 : Lp1_0 ∉ ([] : List Nat)) (hd4 : Lp1 ∉ ([] : List Nat)) (r : List (Int × Int)) (H : wide_columns_1 K p1 = some r) :
    IterC Tryd.prog 73 [] [.pointer (some ⟨bp1, 0, none⟩)] (fun (x_ : Int × Int) vs_ _ => vs_ = [.int .i64 x_.1, .int .i64 x_.2]) none r w o [] [Lg0, Lg1, Lp1, Lp1_0] := by
  refine iter_start hd0 (fun _ h_ => by cases h_) fun l_ JJ XX Res w1 oi h1 h2 h3 hJ hX hRl hY hE0 hE1 hs => ?_
  refine x_enter (vs := [.func (.yield l_) #[] #[], .pointer (some ⟨bp1, 0, none⟩)]) Tryd.func73 rfl rfl rfl fun a hk => ?_
  have fg0 := h3 2 hg0 (by simp) hd1 (by simp) rfl
  have fg1 := h3 2 hg1 (by simp) hd2 (by simp) rfl
  have f900020 := h3 2 hp1_0 (by simp) hd3 (by simp) rfl
  have f900039 := h3 2 hp1 (by simp) hd4 (by simp) rfl
  clear h1 h2 h3
  rw [wide_columns_1] at H
  refine x_seq ?_
  refine wpIn_region_lit ?_
  refine x_run tab hk (k := 1) (lv := []) (ks := [0, 1, 3]) (e' := [(0, .func (.yield l_) #[] #[]), (1, .pointer (some ⟨bp1, 0, none⟩)), (3, .int .i64 0)]) rfl trivial fun a hk => ?_
  refine wpListIn_nil ?_
  refine then_n ?_
  refine x_seq ?_
  refine wpIn_region_lit ?_
  refine x_run tab hk (k := 3) (lv := [.slice Ap1_0 (p1).length cp1_0]) (ks := [0, 3, 6, 7, 8]) (e' := [(0, .func (.yield l_) #[] #[]), (3, .int .i64 0), (6, .slice Ap1_0 (p1).length cp1_0), (7, .int .i64 ((p1).length : Int)), (8, .int .i64 0)]) rfl ⟨(load1 tab rfl ((Bx.cell f900039.now 0).trans rfl)), trivial⟩ fun a hk => ?_
  refine wpListIn_nil ?_
  refine then_n ?_
  refine wpIn_block ?_
  refine x_loop (fun j_ a_ w_ => ∃ o22 : Nat → Nat, ∃ r23 : List (Int × Int), ∃ x24 : Int, ∃ x25 : Int, Kn 23 a_ [(0, .func (.yield l_) #[] #[]), (3, .int .i64 x24), (6, .slice Ap1_0 (p1).length cp1_0), (7, .int .i64 ((p1).length : Int)), (8, .int .i64 x25)] ∧ JJ r23 w_ o22 ∧ Ft (RdC (encInt .i32) Ap1_0 p1) w_ o22 2 ∧ Ft (Bx bp1 23 [.slice Ap1_0 (p1).length cp1_0]) w_ o22 2 ∧ Ft (RdC ET97 (some ⟨0, 0, none⟩) glob0) w_ o22 2 ∧ Ft (RdC ET97 (some ⟨1, 0, none⟩) glob1) w_ o22 2 ∧ wide_columns_1_l1 K p1 j_ x24 x25 = some r23) (k := K) ⟨oi, r, 0, 0, (by exact Kn.pick (ks := [0, 3, 6, 7, 8]) hk rfl), hs, f900020, f900039, fg0, fg1, H⟩ (by rintro _ _ ⟨_, _, _, _, _, _, _, _, _, _, H_⟩; exact absurd (show (none : Option (List (Int × Int))) = some _ from H_) (by simp)) ?_
  rintro k44 a w43 ⟨o22, r23, x24, x25, hk, hs, f900020, f900039, fg0, fg1, H⟩
  rw [wide_columns_1_l1] at H
  obtain ⟨lp45, hlp46⟩ : ∃ lp_, lp_ = wide_columns_1_l1 K p1 k44 := ⟨_, rfl⟩
  rw [← hlp46] at H
  refine x_seq ?_
  refine wpIn_region_lit ?_
  refine x_run tab hk (k := 1) (lv := []) (ks := [0, 3, 6, 7, 8, 9]) (e' := [(0, .func (.yield l_) #[] #[]), (3, .int .i64 x24), (6, .slice Ap1_0 (p1).length cp1_0), (7, .int .i64 ((p1).length : Int)), (8, .int .i64 x25), (9, .bool (decide (x25 < ((p1).length : Int))))]) rfl trivial fun a hk => ?_
  refine wpListIn_nil ?_
  refine then_n ?_
  refine x_seq ?_
  cases b47 : (decide (x25 < ((p1).length : Int)))
  · rw [b47] at hk H
    replace H := bifF H
    refine x_if hk (b := false) rfl ?_
    refine (show Code.wpIn _ _ _ _ _ _ _ from ?_)
    refine wpIn_exit ?_
    refine then_x ?_
    refine then_x ?_
    refine blk_x ?_
    obtain rfl := Option.some.inj H
    exact x_endG hk (rs := []) (vs := []) rfl trivial (hE0 hs)
  · rw [b47] at hk H
    replace H := bifT H
    refine x_if hk (b := true) rfl ?_
    refine (show Code.wpIn _ _ _ _ _ _ _ from ?_)
    refine wpIn_skip ?_
    refine then_n ?_
    refine x_seq ?_
    refine wpIn_block ?_
    refine x_seq ?_
    refine wpIn_region_lit ?_
    obtain ⟨q48, H⟩ := ifS H
    obtain ⟨ad49, hAad49⟩ := RdC.addr f900020.now q48
    have hk_C := hk
    have f900020_C := f900020
    have f900039_C := f900039
    have fg0_C := fg0
    have fg1_C := fg1
    subst hAad49
    have hk := hk_C
    clear hk_C
    have f900020 := f900020_C
    clear f900020_C
    have f900039 := f900039_C
    clear f900039_C
    have fg0 := fg0_C
    clear fg0_C
    have fg1 := fg1_C
    clear fg1_C
    refine x_run tab hk (k := 5) (lv := [.int .i32 (rdD 0 p1 x25)]) (ks := [0, 3, 4, 5, 6, 7, 8]) (e' := [(0, .func (.yield l_) #[] #[]), (3, .int .i64 x24), (4, .int .i64 x25), (5, .int .i32 (rdD 0 p1 x25)), (6, .slice (some ad49) (p1).length cp1_0), (7, .int .i64 ((p1).length : Int)), (8, .int .i64 x25)]) rfl ⟨q48, (load1 tab rfl (RdC.at0 (E := (encInt .i32)) (d := 0) (i := x25) f900020.now q48 rfl)), trivial⟩ fun a hk => ?_
    refine wpListIn_nil ?_
    refine then_n ?_
    refine x_seq ?_
    refine wpIn_region_lit ?_
    refine x_run tab hk (k := 2) (lv := []) (ks := [0, 4, 6, 7, 8, 13, 14]) (e' := [(0, .func (.yield l_) #[] #[]), (4, .int .i64 x25), (6, .slice (some ad49) (p1).length cp1_0), (7, .int .i64 ((p1).length : Int)), (8, .int .i64 x25), (13, .int .i64 x24), (14, .int .i32 (rdD 0 p1 x25))]) rfl trivial fun a hk => ?_
    refine x_op hk rfl ?_
    obtain ⟨t53, hc54, H⟩ := bindS H
    refine op_call hk ent_8 (vs := [.int .i32 (rdD 0 p1 x25)]) rfl (wide_Of_calls K (rdD 0 p1 x25) _ o22 2 fg0 2 fg1   _ hc54) ?_
    rintro _ w55 ⟨o56, rfl, st57⟩
    replace f900020 := f900020.st st57 (by decide)
    replace f900039 := f900039.st st57 (by decide)
    replace fg0 := fg0.st st57 (by decide)
    replace fg1 := fg1.st st57 (by decide)
    replace hs := hJ hs st57 rfl
    have hk := hk.put 15 (.int .i64 t53) rfl
    refine x_run tab hk (k := 2) (lv := []) (ks := [0, 3, 4, 6, 7, 8]) (e' := [(0, .func (.yield l_) #[] #[]), (3, .int .i64 (IntKind.wrap .i64 (x24 + t53))), (4, .int .i64 x25), (6, .slice (some ad49) (p1).length cp1_0), (7, .int .i64 ((p1).length : Int)), (8, .int .i64 x25)]) rfl trivial fun a hk => ?_
    refine wpListIn_nil ?_
    refine then_n ?_
    refine x_seq ?_
    refine wpIn_region_lit ?_
    refine x_run tab hk (k := 3) (lv := []) (ks := [0, 3, 6, 7, 8, 17, 18, 19]) (e' := [(0, .func (.yield l_) #[] #[]), (3, .int .i64 (IntKind.wrap .i64 (x24 + t53))), (6, .slice (some ad49) (p1).length cp1_0), (7, .int .i64 ((p1).length : Int)), (8, .int .i64 x25), (17, .func (.yield l_) #[] #[]), (18, .int .i64 x25), (19, .int .i64 (IntKind.wrap .i64 (x24 + t53)))]) rfl trivial fun a hk => ?_
    refine x_op hk rfl ?_
    obtain ⟨r58, hr59, H⟩ := consS H
    rw [hr59] at hs
    refine op_yield hk rfl (vs := [.int .i64 x25, .int .i64 (IntKind.wrap .i64 (x24 + t53))]) rfl (hY hs (fun _ => rfl)) ?_
    rintro b60 w61 ⟨o62, st63, ht_, hf_⟩
    replace f900020 := f900020.st st63 (by decide)
    replace f900039 := f900039.st st63 (by decide)
    replace fg0 := fg0.st st63 (by decide)
    replace fg1 := fg1.st st63 (by decide)
    cases b60
    · have hs := hf_ rfl
      have hk := hk.put 20 (.bool false) rfl
      refine x_run tab hk (k := 1) (lv := []) (ks := [0, 3, 6, 7, 8, 21]) (e' := [(0, .func (.yield l_) #[] #[]), (3, .int .i64 (IntKind.wrap .i64 (x24 + t53))), (6, .slice (some ad49) (p1).length cp1_0), (7, .int .i64 ((p1).length : Int)), (8, .int .i64 x25), (21, .bool true)]) rfl trivial fun a hk => ?_
      refine wpListIn_nil ?_
      refine then_n ?_
      refine x_if hk (b := true) rfl ?_
      refine (show Code.wpIn _ _ _ _ _ _ _ from ?_)
      refine wpIn_ret ?_
      refine blk_r ?_
      refine then_r ?_
      refine then_r ?_
      refine blk_r ?_
      exact x_retG hk (rs := []) (vs := []) rfl trivial (hE1 hs)
    · have hs := ht_ rfl
      have hk := hk.put 20 (.bool true) rfl
      refine x_run tab hk (k := 1) (lv := []) (ks := [0, 3, 6, 7, 8, 21]) (e' := [(0, .func (.yield l_) #[] #[]), (3, .int .i64 (IntKind.wrap .i64 (x24 + t53))), (6, .slice (some ad49) (p1).length cp1_0), (7, .int .i64 ((p1).length : Int)), (8, .int .i64 x25), (21, .bool false)]) rfl trivial fun a hk => ?_
      refine wpListIn_nil ?_
      refine then_n ?_
      refine x_if hk (b := false) rfl ?_
      refine (show Code.wpIn _ _ _ _ _ _ _ from ?_)
      refine wpIn_skip ?_
      refine blk_n ?_
      refine then_n ?_
      refine wpIn_region_lit ?_
      refine x_run tab hk (k := 2) (lv := []) (ks := [0, 3, 6, 7, 8]) (e' := [(0, .func (.yield l_) #[] #[]), (3, .int .i64 (IntKind.wrap .i64 (x24 + t53))), (6, .slice (some ad49) (p1).length cp1_0), (7, .int .i64 ((p1).length : Int)), (8, .int .i64 (IntKind.wrap .i64 (x25 + 1)))]) rfl trivial fun a hk => ?_
      refine wpListIn_nil ?_
      refine then_n ?_
      exact ⟨k44, Nat.le_refl _, o62, r58, (IntKind.wrap .i64 (x24 + t53)), (IntKind.wrap .i64 (x25 + 1)), (by exact Kn.pick (ks := [0, 3, 6, 7, 8]) hk rfl), hs, f900020, f900039, fg0, fg1, (hlp46 ▸ H)⟩

/-! tidewrack/wide.columns -/
theorem wide_columns_calls (Ap0 : Option Addr) (cp0 : Nat) (p0 : List Int) (w : World) (o : Nat → Nat) (Lg0 : Nat) (hg0 : Ft (RdC ET97 (some ⟨0, 0, none⟩) glob0) w o Lg0) (Lg1 : Nat) (hg1 : Ft (RdC ET97 (some ⟨1, 0, none⟩) glob1) w o Lg1) (Lp0 : Nat) (hp0 : Ft (RdC (encInt .i32) Ap0 p0) w o Lp0) (hcp0 : (p0).length ≤ cp0)  (R0 : Nat) (r : Unit) (H : wide_columns p0 = some r) :
    Calls Tryd.prog 39 #[.slice Ap0 (p0).length cp0] w (Ret fun v_ w' => ∃ o' : Nat → Nat, ∃ b0 : Nat, v_ = .func (.func 73) #[] #[.pointer (some ⟨b0, 0, none⟩)] ∧ St [] w o w' o' ∧ Ft (Bx b0 23 [.slice Ap0 (p0).length cp0]) w' o' R0) := by
  refine x_enter (vs := [.slice Ap0 (p0).length cp0]) Tryd.func39 rfl rfl rfl fun a hk => ?_
  obtain ⟨o0, hs, h0⟩ := St.start w o
  have fg0 := h0 _ _ hg0
  have fg1 := h0 _ _ hg1
  have f900000 := h0 _ _ hp0
  clear h0
  rw [wide_columns] at H
  refine x_seq ?_
  refine wpIn_region_lit ?_
  refine x_op hk rfl ?_
  refine op_box (o := o0) (t := 23) (v := .slice Ap0 (p0).length cp0) (cs := [.slice Ap0 (p0).length cp0]) hk rfl rfl 1 fun bx4 w1 o2 st3 f5 => ?_
  replace f900000 := f900000.st st3 (by decide)
  replace fg0 := fg0.st st3 (by decide)
  replace fg1 := fg1.st st3 (by decide)
  replace hs := hs.loc0 st3 (by decide)
  have hk := hk.put 1 (.pointer (some ⟨bx4, 0, none⟩)) rfl
  refine x_run tab hk (k := 1) (lv := []) (ks := [1]) (e' := [(1, .pointer (some ⟨bx4, 0, none⟩))]) rfl trivial fun a hk => ?_
  refine wpListIn_nil ?_
  refine then_n ?_
  refine x_seq ?_
  refine wpIn_region_lit ?_
  refine x_run tab hk (k := 2) (lv := []) (ks := [2]) (e' := [(2, .func (.func 73) #[] #[.pointer (some ⟨bx4, 0, none⟩)])]) rfl trivial fun a hk => ?_
  refine wpListIn_nil ?_
  refine then_n ?_
  refine wpIn_ret ?_
  obtain rfl := Option.some.inj H
  exact x_retG hk (rs := [.tmp 2]) (vs := [.func (.func 73) #[] #[.pointer (some ⟨bx4, 0, none⟩)]]) rfl ⟨rfl, trivial⟩ ⟨fun b_ => if b_ < w.heap.size then o b_ else (fun _ => R0) (o2 b_), bx4, rfl, hs.close0 o (fun _ => R0), hs.close_ft (o := o) (ρ := fun _ => R0) f5 (by decide) rfl⟩

/-! tidewrack/wide.Fit -/
theorem wide_Fit_calls (K : Nat) (p0 : Int) (Ap1 : Option Addr) (cp1 : Nat) (p1 : List Int) (w : World) (o : Nat → Nat) (Lg0 : Nat) (hg0 : Ft (RdC ET97 (some ⟨0, 0, none⟩) glob0) w o Lg0) (Lg1 : Nat) (hg1 : Ft (RdC ET97 (some ⟨1, 0, none⟩) glob1) w o Lg1) (Lp1 : Nat) (hp1 : Ft (RdC (encInt .i32) Ap1 p1) w o Lp1) (hcp1 : (p1).length ≤ cp1)  (r : Int) (H : wide_Fit K p0 p1 = some r) :
    Calls Tryd.prog 11 #[.int .i64 p0, .slice Ap1 (p1).length cp1] w (Ret fun v_ w' => ∃ o' : Nat → Nat, v_ = .int .i64 r ∧ St [] w o w' o') := by
  refine x_enterQ (vs := [.int .i64 p0, .slice Ap1 (p1).length cp1]) Tryd.func11 rfl rfl rfl fun a hk => ?_
  obtain ⟨o0, hs, h0⟩ := St.start w o
  have fg0 := h0 _ _ hg0
  have fg1 := h0 _ _ hg1
  have f900020 := h0 _ _ hp1
  have fxm : Ft (MK []) w o0 1 := Ft.of_all (fun _ => MK.nil _) _ _ _
  clear h0
  rw [wide_Fit] at H
  refine x_seq ?_
  refine wpIn_region_lit ?_
  refine x_op hk rfl ?_
  refine op_box (o := o0) (t := 3) (v := .int .i64 p0) (cs := [.int .i64 p0]) hk rfl rfl 2 fun bx4 w1 o2 st3 f5 => ?_
  replace f900020 := f900020.st st3 (by decide)
  replace fg0 := fg0.st st3 (by decide)
  replace fg1 := fg1.st st3 (by decide)
  replace fxm := fxm.st st3 (by decide)
  replace hs := hs.loc0 st3 (by decide)
  have hk := hk.put 2 (.pointer (some ⟨bx4, 0, none⟩)) rfl
  refine x_run tab hk (k := 1) (lv := []) (ks := [1, 2]) (e' := [(1, .slice Ap1 (p1).length cp1), (2, .pointer (some ⟨bx4, 0, none⟩))]) rfl trivial fun a hk => ?_
  refine wpListIn_nil ?_
  refine then_n ?_
  refine x_seq ?_
  refine wpIn_region_lit ?_
  refine x_op hk rfl ?_
  refine op_alloc (o := o2) tab (t := 3) (cs := [.int .i64 0]) rfl rfl 3 fun bx9 w6 o7 st8 f10 => ?_
  replace f5 := f5.st st8 (by decide)
  replace f900020 := f900020.st st8 (by decide)
  replace fg0 := fg0.st st8 (by decide)
  replace fg1 := fg1.st st8 (by decide)
  replace fxm := fxm.st st8 (by decide)
  replace hs := hs.loc0 st8 (by decide)
  have hk := hk.put 5 (.pointer (some ⟨bx9, 0, none⟩)) rfl
  refine x_op hk rfl ?_
  refine op_store tab hk (t := 3) (v := .int .i64 0) (b := bx9) (k := 0) (cs' := [.int .i64 0]) rfl rfl rfl rfl rfl rfl f10 rfl rfl fun w11 o12 st13 f10_ => ?_
  replace f5 := f5.st st13 (by decide)
  replace f900020 := f900020.st st13 (by decide)
  replace fg0 := fg0.st st13 (by decide)
  replace fg1 := fg1.st st13 (by decide)
  replace fxm := fxm.st st13 (by decide)
  replace hs := hs.loc0 st13 (by decide)
  replace f10 := f10_
  refine wpListIn_nil ?_
  refine then_n ?_
  refine x_mid (fun a_ w_ => ∃ o81 : Nat → Nat, ∃ ds82 : List Deferred, ∃ x83 : Int, KnD 18 ds82 a_ [(5, .pointer (some ⟨bx9, 0, none⟩))] ∧ St [] w (fun _ => 0) w_ o81 ∧ Ft (Bx bx9 3 [.int .i64 x83]) w_ o81 9 ∧ Ft (RdC ET97 (some ⟨0, 0, none⟩) glob0) w_ o81 0 ∧ Ft (RdC ET97 (some ⟨1, 0, none⟩) glob1) w_ o81 0 ∧ Ft (MK ds82) w_ o81 1 ∧ wide_Fit_j1 x83 = some r) ?_ ?_
  rotate_left
  · rintro a w84 ⟨o81, ds82, x83, hk, hs, f10, fg0, fg1, fxm, H⟩
    rw [wide_Fit_j1] at H
    refine x_seq ?_
    refine wpIn_region_lit ?_
    refine x_run tab hk (k := 2) (lv := [.int .i64 x83]) (ks := [4]) (e' := [(4, .int .i64 x83)]) rfl ⟨(load1 tab rfl ((Bx.cell f10.now 0).trans rfl)), trivial⟩ fun a hk => ?_
    refine wpListIn_nil ?_
    refine then_n ?_
    refine wpIn_ret ?_
    refine x_retQ hk fxm fun w85 a st86 hk => ?_
    replace fg0 := fg0.st st86 (by decide)
    replace fg1 := fg1.st st86 (by decide)
    replace hs := hs.loc0 st86 (by decide)
    obtain rfl := Option.some.inj H
    exact x_retG hk (rs := [.tmp 4]) (vs := [.int .i64 x83]) rfl ⟨rfl, trivial⟩ ⟨fun b_ => if b_ < w.heap.size then o b_ else (fun _ => 0) (o81 b_), rfl, hs.close0 o (fun _ => 0)⟩
  refine x_seq ?_
  refine wpIn_region_lit ?_
  refine x_run tab hk (k := 1) (lv := []) (ks := [2, 5, 8]) (e' := [(2, .pointer (some ⟨bx4, 0, none⟩)), (5, .pointer (some ⟨bx9, 0, none⟩)), (8, .slice Ap1 (p1).length cp1)]) rfl trivial fun a hk => ?_
  refine x_op hk rfl ?_
  obtain ⟨t90, hc91, H⟩ := bindS H
  refine op_call hk ent_39 (vs := [.slice Ap1 (p1).length cp1]) rfl (wide_columns_calls Ap1 cp1 p1 _ o12 0 fg0 0 fg1 _ f900020 hcp1 10  _ hc91) ?_
  rintro _ w92 ⟨o93, bx95, rfl, st94, f96⟩
  replace f10 := f10.st st94 (by decide)
  replace f5 := f5.st st94 (by decide)
  replace f900020 := f900020.st st94 (by decide)
  replace fg0 := fg0.st st94 (by decide)
  replace fg1 := fg1.st st94 (by decide)
  replace fxm := fxm.st st94 (by decide)
  replace hs := hs.loc0 st94 (by decide)
  have hk := hk.put 9 (.func (.func 73) #[] #[.pointer (some ⟨bx95, 0, none⟩)]) rfl
  refine wpListIn_nil ?_
  refine then_n ?_
  refine wpIn_block ?_
  obtain ⟨ys97, hy98, H⟩ := bindS H
  refine x_range 1 11 12 [3] hk rfl ent_73 (wide_columns_1_iter K bx95 Ap1 cp1 p1 _ _ 0 fg0 0 fg1 10 f96 0 f900020 hcp1 (by decide) (by decide) (by decide) (by decide) (by decide) _ hy98) fxm (fun _ _ _ h_ => by subst h_; rfl) rfl rfl (fun rr_ w_ o119 => ∃ x120 : Int, St [] w (fun _ => 0) w_ o119 ∧ Ft (Bx bx9 3 [.int .i64 x120]) w_ o119 3 ∧ Ft (Bx bx4 3 [.int .i64 p0]) w_ o119 2 ∧ Ft (RdC ET97 (some ⟨0, 0, none⟩) glob0) w_ o119 0 ∧ Ft (RdC ET97 (some ⟨1, 0, none⟩) glob1) w_ o119 0 ∧ wide_Fit_r2 p0 rr_ x120 = some r) (fun c_ w_ o127 => (c_ = .exit 0 ∧ ∃ x137 : Int, St [] w (fun _ => 0) w_ o127 ∧ Ft (Bx bx9 3 [.int .i64 x137]) w_ o127 3 ∧ Ft (RdC ET97 (some ⟨0, 0, none⟩) glob0) w_ o127 0 ∧ Ft (RdC ET97 (some ⟨1, 0, none⟩) glob1) w_ o127 0 ∧ wide_Fit_x3 x137 = some r) ∨ (False)) ?_ ?_ ⟨0, hs, f10, f5, fg0, fg1, H⟩ ?_ ?_ ?_
  · rintro rr_ w_ _ _ _ ⟨x120, hs, f10, f5, fg0, fg1, H⟩ st_
    exact ⟨x120, hs.loc0 st_ (by decide), f10.st st_ (by decide), f5.st st_ (by decide), fg0.st st_ (by decide), fg1.st st_ (by decide), H⟩
  · rintro c_ w_ _ _ _ (⟨hc_, x137, hs, f10, fg0, fg1, H⟩ | hc_) st_
    · exact (Or.inl ⟨hc_, ⟨x137, hs.loc0 st_ (by decide), f10.st st_ (by decide), fg0.st st_ (by decide), fg1.st st_ (by decide), H⟩⟩)
    · exact hc_.elim
  · rintro R0_ R1_ lr_ x99 vs_ rest100 w101 o102 ⟨x120, hsO, f10, f5, fg0, fg1, H⟩ hE fxr a hk
    obtain rfl : vs_ = [.int .i64 x99.1, .int .i64 x99.2] := hE w101
    obtain ⟨o103, hs0, hfl, hbB, hoi⟩ := St.startB w101 o102 13
    have hs := hs0 [11, 3]
    replace f10 := hfl f10 rfl
    replace f5 := hfl f5 rfl
    replace fg0 := hfl fg0 rfl
    replace fg1 := hfl fg1 rfl
    replace fxr := hfl fxr rfl
    replace hk : Kn 18 a [(2, .pointer (some ⟨bx4, 0, none⟩)), (5, .pointer (some ⟨bx9, 0, none⟩)), (10, .int .i64 x99.1), (11, .int .i64 x99.2)] := Kn.pick (ks := [2, 5, 10, 11]) hk rfl
    rw [wide_Fit_r2] at H
    obtain ⟨lp104, hlp105⟩ : ∃ lp_, lp_ = wide_Fit_r2 p0 rest100 := ⟨_, rfl⟩
    rw [← hlp105] at H
    refine x_seq ?_
    refine wpIn_region_lit ?_
    refine x_run tab hk (k := 1) (lv := []) (ks := [2, 5, 6, 11]) (e' := [(2, .pointer (some ⟨bx4, 0, none⟩)), (5, .pointer (some ⟨bx9, 0, none⟩)), (6, .int .i64 x99.1), (11, .int .i64 x99.2)]) rfl trivial fun a hk => ?_
    refine wpListIn_nil ?_
    refine then_n ?_
    refine wpIn_region_lit ?_
    refine x_run tab hk (k := 1) (lv := []) (ks := [2, 5, 6, 7]) (e' := [(2, .pointer (some ⟨bx4, 0, none⟩)), (5, .pointer (some ⟨bx9, 0, none⟩)), (6, .int .i64 x99.1), (7, .int .i64 x99.2)]) rfl trivial fun a hk => ?_
    refine wpListIn_nil ?_
    refine then_n ?_
    refine ⟨_, fxr, fun w138 st139 fxr => ?_⟩
    replace f10 := f10.st st139 (by decide)
    replace f5 := f5.st st139 (by decide)
    replace fg0 := fg0.st st139 (by decide)
    replace fg1 := fg1.st st139 (by decide)
    replace hs := hs.locB st139 rfl hbB
    refine wpIn_block ?_
    refine x_seq ?_
    refine x_seq ?_
    refine wpIn_region_lit ?_
    refine x_run tab hk (k := 3) (lv := [.int .i64 p0]) (ks := [2, 5, 6, 14]) (e' := [(2, .pointer (some ⟨bx4, 0, none⟩)), (5, .pointer (some ⟨bx9, 0, none⟩)), (6, .int .i64 x99.1), (14, .bool (decide (x99.2 > p0)))]) rfl ⟨(load1 tab rfl ((Bx.cell f5.now 0).trans rfl)), trivial⟩ fun a hk => ?_
    refine wpListIn_nil ?_
    refine then_n ?_
    cases b140 : (decide (x99.2 > p0))
    · rw [b140] at hk H
      replace H := bifF H
      refine x_if hk (b := false) rfl ?_
      refine (show Code.wpIn _ _ _ _ _ _ _ from ?_)
      refine wpIn_skip ?_
      refine then_n ?_
      refine wpIn_region_lit ?_
      refine x_run tab hk (k := 2) (lv := []) (ks := [2, 5, 16]) (e' := [(2, .pointer (some ⟨bx4, 0, none⟩)), (5, .pointer (some ⟨bx9, 0, none⟩)), (16, .int .i64 (IntKind.wrap .i64 (x99.1 + 1)))]) rfl trivial fun a hk => ?_
      refine x_op hk rfl ?_
      refine op_store tab hk (t := 3) (v := .int .i64 (IntKind.wrap .i64 (x99.1 + 1))) (b := bx9) (k := 0) (cs' := [.int .i64 (IntKind.wrap .i64 (x99.1 + 1))]) rfl rfl rfl rfl rfl rfl f10 rfl rfl fun w141 o142 st143 f10_ => ?_
      replace f5 := f5.st st143 (by decide)
      replace fg0 := fg0.st st143 (by decide)
      replace fg1 := fg1.st st143 (by decide)
      replace fxr := fxr.st st143 (by decide)
      replace hs := hs.locB st143 rfl hbB
      replace f10 := f10_
      refine wpListIn_nil ?_
      refine blk_n ?_
      have hq144 := hs.closeB hoi hbB rfl (fun l_ => if l_ = 2 then 2 else if l_ = 3 then 3 else if l_ = 11 then 11 else 0)
      exact ⟨_, hq144, (show Ft R1_ _ _ 11 from (hs.closeM_ft (o := o102) (ρ := (fun l_ => if l_ = 2 then 2 else if l_ = 3 then 3 else if l_ = 11 then 11 else 0)) fxr (lab_atB hoi rfl) rfl)), ⟨(IntKind.wrap .i64 (x99.1 + 1)), (hsO.loc0 hq144 (by decide)), (hs.closeM_ft (o := o102) (ρ := (fun l_ => if l_ = 2 then 2 else if l_ = 3 then 3 else if l_ = 11 then 11 else 0)) f10 (lab_atB hoi rfl) rfl), (hs.closeM_ft (o := o102) (ρ := (fun l_ => if l_ = 2 then 2 else if l_ = 3 then 3 else if l_ = 11 then 11 else 0)) f5 (lab_atB hoi rfl) rfl), (hs.closeM_ft (o := o102) (ρ := (fun l_ => if l_ = 2 then 2 else if l_ = 3 then 3 else if l_ = 11 then 11 else 0)) fg0 (lab_atB hoi rfl) rfl), (hs.closeM_ft (o := o102) (ρ := (fun l_ => if l_ = 2 then 2 else if l_ = 3 then 3 else if l_ = 11 then 11 else 0)) fg1 (lab_atB hoi rfl) rfl), (hlp105 ▸ H)⟩⟩
    · rw [b140] at hk H
      replace H := bifT H
      refine x_if hk (b := true) rfl ?_
      refine (show Code.wpIn _ _ _ _ _ _ _ from ?_)
      refine wpIn_exit ?_
      refine then_x ?_
      refine blk_y rfl ?_
      have hq145 := hs.closeB hoi hbB rfl (fun l_ => if l_ = 3 then 3 else if l_ = 11 then 11 else 0)
      exact ⟨_, hq145, (show Ft R1_ _ _ 11 from (hs.closeM_ft (o := o102) (ρ := (fun l_ => if l_ = 3 then 3 else if l_ = 11 then 11 else 0)) fxr (lab_atB hoi rfl) rfl)), Or.inl ⟨rfl, ⟨x120, (hsO.loc0 hq145 (by decide)), (hs.closeM_ft (o := o102) (ρ := (fun l_ => if l_ = 3 then 3 else if l_ = 11 then 11 else 0)) f10 (lab_atB hoi rfl) rfl), (hs.closeM_ft (o := o102) (ρ := (fun l_ => if l_ = 3 then 3 else if l_ = 11 then 11 else 0)) fg0 (lab_atB hoi rfl) rfl), (hs.closeM_ft (o := o102) (ρ := (fun l_ => if l_ = 3 then 3 else if l_ = 11 then 11 else 0)) fg1 (lab_atB hoi rfl) rfl), H⟩⟩⟩
  · rintro ds129 w128 o119 a hk fxm ⟨x120, hs, f10, f5, fg0, fg1, H⟩
    rw [wide_Fit_r2] at H
    refine blk_n ?_
    refine then_n ?_
    exact ⟨(fun b_ => (fun l_ => if l_ = 3 then 9 else l_) (o119 b_)), ds129, x120, (by exact Kn.pick (ks := [5]) hk rfl), (hs.relab0 (fun l_ => if l_ = 3 then 9 else l_) rfl), (f10.relab (fun l_ => if l_ = 3 then 9 else l_) rfl), (fg0.relab (fun l_ => if l_ = 3 then 9 else l_) rfl), (fg1.relab (fun l_ => if l_ = 3 then 9 else l_) rfl), (fxm.relab (fun l_ => if l_ = 3 then 9 else l_) rfl), H⟩
  · rintro c_ ds129 w128 o127 a hk fxm (⟨rfl, x137, hs, f10, fg0, fg1, H⟩ | hc_)
    · rw [wide_Fit_x3] at H
      refine wpIn_exit ?_
      refine blk_x ?_
      refine then_n ?_
      exact ⟨(fun b_ => (fun l_ => if l_ = 3 then 9 else l_) (o127 b_)), ds129, x137, (by exact Kn.pick (ks := [5]) hk rfl), (hs.relab0 (fun l_ => if l_ = 3 then 9 else l_) rfl), (f10.relab (fun l_ => if l_ = 3 then 9 else l_) rfl), (fg0.relab (fun l_ => if l_ = 3 then 9 else l_) rfl), (fg1.relab (fun l_ => if l_ = 3 then 9 else l_) rfl), (fxm.relab (fun l_ => if l_ = 3 then 9 else l_) rfl), H⟩
    · exact hc_.elim

/-! tidewrack/flow.rows$1 -/
theorem flow_rows_1_iter (K : Nat) (bp1 : Nat) (p1 : Int) (bp2 : Nat) (Ap2_0 : Option Addr) (cp2_0 : Nat) (p2 : List T36) (w : World) (o : Nat → Nat) (Lg0 : Nat) (hg0 : Ft (RdC ET97 (some ⟨0, 0, none⟩) glob0) w o Lg0) (Lg1 : Nat) (hg1 : Ft (RdC ET97 (some ⟨1, 0, none⟩) glob1) w o Lg1) (Lp1 : Nat) (hp1 : Ft (Bx bp1 3 [.int .i64 p1]) w o Lp1) (Lp2 : Nat) (hp2 : Ft (Bx bp2 34 [.slice Ap2_0 (p2).length cp2_0]) w o Lp2) (Lp2_0 : Nat) (hp2_0 : Ft (RdC ET36 Ap2_0 p2) w o Lp2_0) (hcp2_0 : (p2).length ≤ cp2_0) (hd0 : ([Lp2] : List Nat).Nodup) (hd1 : Lg0 ∉ ([Lp2] : List Nat)) (hn1 : Lg0 ≠ Lp2_0) (hd2 : Lg1 ∉ ([Lp2] : List Nat)) (hn2 : Lg1 ≠ Lp2_0) (hd3 : Lp1 ∉ ([Lp2] : List Nat)) (hn3 : Lp1 ≠ Lp2_0) (hd4 : Lp2_0 ∉ ([Lp2] : List Nat)) (r : List (List T36)) (H : flow_rows_1 K p1 p2 = some r) :
    IterC Tryd.prog 83 [] [.pointer (some ⟨bp1, 0, none⟩), .pointer (some ⟨bp2, 0, none⟩)] (fun (x_ : List T36) vs_ w_ => ∃ A_ c_, vs_ = [.slice A_ (x_).length c_] ∧ (x_).length ≤ c_ ∧ RdC ET36 A_ x_ w_) (some Lp2_0) r w o [Lp2] [Lg0, Lg1, Lp1, Lp2_0] := by
  refine iter_start hd0 (fun _ h_ => by cases h_; simp) fun l_ JJ XX Res w1 oi h1 h2 h3 hJ hX hRl hY hE0 hE1 hs => ?_
  refine x_enter (vs := [.func (.yield l_) #[] #[], .pointer (some ⟨bp1, 0, none⟩), .pointer (some ⟨bp2, 0, none⟩)]) Tryd.func83 rfl rfl rfl fun a hk => ?_
  have f900059 := h1 0 1 hp2 rfl rfl
  have fg0 := h3 3 hg0 (by simp) hd1 (fun e_ => hn1 (Option.some.inj e_).symm) rfl
  have fg1 := h3 3 hg1 (by simp) hd2 (fun e_ => hn2 (Option.some.inj e_).symm) rfl
  have f900039 := h3 3 hp1 (by simp) hd3 (fun e_ => hn3 (Option.some.inj e_).symm) rfl
  have f900040 := h2 2 hp2_0 rfl hd4 rfl
  clear h1 h2 h3
  rw [flow_rows_1] at H
  refine wpIn_block ?_
  refine x_loop (fun j_ a_ w_ => ∃ o95 : Nat → Nat, ∃ r96 : List (List T36), ∃ A97 : Option Addr, ∃ c98 : Nat, ∃ l99 : List T36, Kn 26 a_ [(0, .func (.yield l_) #[] #[]), (1, .pointer (some ⟨bp1, 0, none⟩)), (2, .pointer (some ⟨bp2, 0, none⟩))] ∧ JJ r96 w_ o95 ∧ Ft (RdC ET36 A97 l99) w_ o95 2 ∧ Ft (Bx bp1 3 [.int .i64 p1]) w_ o95 3 ∧ Ft (Bx bp2 34 [.slice A97 (l99).length c98]) w_ o95 1 ∧ Ft (RdC ET97 (some ⟨0, 0, none⟩) glob0) w_ o95 3 ∧ Ft (RdC ET97 (some ⟨1, 0, none⟩) glob1) w_ o95 3 ∧ (l99).length ≤ c98 ∧ flow_rows_1_l1 K p1 j_ l99 = some r96) (k := K) ⟨oi, r, Ap2_0, cp2_0, p2, (by exact Kn.pick (ks := [0, 1, 2]) hk rfl), hs, f900040, f900039, f900059, fg0, fg1, hcp2_0, H⟩ (by rintro _ _ ⟨_, _, _, _, _, _, _, _, _, _, _, _, _, H_⟩; exact absurd (show (none : Option (List (List T36))) = some _ from H_) (by simp)) ?_
  rintro k193 a w192 ⟨o95, r96, A97, c98, l99, hk, hs, f100, f900039, f900059, fg0, fg1, hc101, H⟩
  rw [flow_rows_1_l1] at H
  obtain ⟨lp194, hlp195⟩ : ∃ lp_, lp_ = flow_rows_1_l1 K p1 k193 := ⟨_, rfl⟩
  rw [← hlp195] at H
  refine wpIn_block ?_
  refine x_seq ?_
  refine xd_begin (o := o95) (fun W_ => (Bx bp1 3 [.int .i64 p1]) W_ ∧ (Bx bp2 34 [.slice A97 (l99).length c98]) W_ ∧ True) mixed rfl rfl fun w236 st237 => ?_
  replace f100 := f100.st st237 (by decide)
  replace f900039 := f900039.st st237 (by decide)
  replace f900059 := f900059.st st237 (by decide)
  replace fg0 := fg0.st st237 (by decide)
  replace fg1 := fg1.st st237 (by decide)
  replace hs := hJ hs st237 rfl
  refine xd_take tab hk (k := 4) (is := [0, 1]) (ls' := #[true, true, false, false, false, false]) (lv := [.int .i64 p1, .slice A97 (l99).length c98]) (ks := [0, 1, 2, 5, 6]) (e' := [(0, .func (.yield l_) #[] #[]), (1, .pointer (some ⟨bp1, 0, none⟩)), (2, .pointer (some ⟨bp2, 0, none⟩)), (5, .int .i64 p1), (6, .slice A97 (l99).length c98)]) (by kernel_rfl) rfl rfl (by kernel_rfl) (np_then (np_blk (np_then (np_blk np_body)))) ⟨f900039.now, f900059.now, trivial⟩ (fun W_ hS => ⟨(load1 tab rfl ((Bx.cell hS.1 0).trans rfl)), (load1 tab rfl ((Bx.cell hS.2.1 0).trans rfl)), trivial⟩) fun a hk => ?_
  refine xd_op hk (i := 2) (by kernel_rfl) rfl rfl ?_
  obtain ⟨t241, hc242, H⟩ := bindS H
  refine op_call hk ent_84 (vs := [.slice A97 (l99).length c98]) rfl (flow_runes_calls K A97 c98 l99 _ o95 _ f100 hc101 12  _ hc242) ?_
  rintro _ w243 ⟨o244, A246, c247, rfl, st245, f248, hc249⟩
  replace f100 := f100.st st245 (by decide)
  replace f900039 := f900039.st st245 (by decide)
  replace f900059 := f900059.st st245 (by decide)
  replace fg0 := fg0.st st245 (by decide)
  replace fg1 := fg1.st st245 (by decide)
  replace hs := hJ hs st245 rfl
  have hk := hk.put 7 (.slice A246 (t241).length c247) rfl
  refine ⟨.inr ⟨f900039.now, f900059.now, trivial⟩, ?_⟩
  refine xd_op hk (i := 3) (by kernel_rfl) rfl rfl ?_
  obtain ⟨t253, hc254, H⟩ := bindS H
  refine op_call hk ent_11 (vs := [.int .i64 p1, .slice A246 (t241).length c247]) rfl (wide_Fit_calls K p1 A246 c247 t241 _ o244 3 fg0 3 fg1 _ (f248.imp fun _ h_ => Own.rd h_) hc249   _ hc254) ?_
  rintro _ w255 ⟨o256, rfl, st257⟩
  replace f100 := f100.st st257 (by decide)
  replace f248 := f248.st st257 (by decide)
  replace f900039 := f900039.st st257 (by decide)
  replace f900059 := f900059.st st257 (by decide)
  replace fg0 := fg0.st st257 (by decide)
  replace fg1 := fg1.st st257 (by decide)
  replace hs := hJ hs st257 rfl
  have hk := hk.put 8 (.int .i64 t253) rfl
  refine ⟨.inr ⟨f900039.now, f900059.now, trivial⟩, ?_⟩
  refine xd_take tab hk (k := 0) (is := [4, 5]) (ls' := #[true, true, true, true, true, true]) (lv := []) (ks := [0, 1, 2, 4]) (e' := [(0, .func (.yield l_) #[] #[]), (1, .pointer (some ⟨bp1, 0, none⟩)), (2, .pointer (some ⟨bp2, 0, none⟩)), (4, .int .i64 (mxI 1 t253))]) (by kernel_rfl) rfl rfl (by kernel_rfl) (np_then (np_blk (np_then (np_blk np_body)))) ⟨f900039.now, f900059.now, trivial⟩ (fun W_ hS => trivial) fun a hk => ?_
  refine xd_done (by kernel_rfl) ?_
  refine then_n ?_
  refine x_seq ?_
  refine x_seq ?_
  refine wpIn_region_lit ?_
  refine x_run tab hk (k := 4) (lv := [.slice A97 (l99).length c98]) (ks := [0, 1, 2, 4, 13]) (e' := [(0, .func (.yield l_) #[] #[]), (1, .pointer (some ⟨bp1, 0, none⟩)), (2, .pointer (some ⟨bp2, 0, none⟩)), (4, .int .i64 (mxI 1 t253)), (13, .bool (decide ((mxI 1 t253) ≥ ((l99).length : Int))))]) rfl ⟨(load1 tab rfl ((Bx.cell f900059.now 0).trans rfl)), trivial⟩ fun a hk => ?_
  refine wpListIn_nil ?_
  refine then_n ?_
  cases b258 : (decide ((mxI 1 t253) ≥ ((l99).length : Int)))
  · rw [b258] at hk H
    replace H := bifF H
    refine x_if hk (b := false) rfl ?_
    refine (show Code.wpIn _ _ _ _ _ _ _ from ?_)
    refine wpIn_skip ?_
    refine then_n ?_
    refine x_seq ?_
    refine x_seq ?_
    refine wpIn_region_lit ?_
    obtain ⟨q259, H⟩ := ifS H
    obtain ⟨q260, H⟩ := ifS H
    obtain ⟨A261, c262, ak264, f263, hc265⟩ := ask_cut (P := Tryd.prog) tab (t := 34) rfl rfl f100 hc101 none (some (.int .i64 (mxI 1 t253))) rfl ⟨q259, (by have := q260; have := hc101; omega), trivial⟩ (by have := q259; have := q260; omega) (by have := q259; have := q260; omega)
    refine x_run tab hk (k := 4) (lv := [.slice A97 (l99).length c98, .slice A261 ((List.drop 0 (List.take (Int.toNat (mxI 1 t253)) l99))).length c262]) (ks := [0, 1, 2, 4, 17, 20]) (e' := [(0, .func (.yield l_) #[] #[]), (1, .pointer (some ⟨bp1, 0, none⟩)), (2, .pointer (some ⟨bp2, 0, none⟩)), (4, .int .i64 (mxI 1 t253)), (17, .func (.yield l_) #[] #[]), (20, .slice A261 ((List.drop 0 (List.take (Int.toNat (mxI 1 t253)) l99))).length c262)]) rfl ⟨(load1 tab rfl ((Bx.cell f900059.now 0).trans rfl)), (ak264 rfl rfl rfl _), trivial⟩ fun a hk => ?_
    refine x_op hk rfl ?_
    obtain ⟨r266, hr267, H⟩ := consS H
    rw [hr267] at hs
    refine op_yield hk rfl (vs := [.slice A261 ((List.drop 0 (List.take (Int.toNat (mxI 1 t253)) l99))).length c262]) rfl (hY hs (f263.imp fun _ h_ => ⟨_, _, rfl, hc265, h_⟩)) ?_
    rintro b268 w269 ⟨o270, st271, ht_, hf_⟩
    replace f100 := f100.st st271 (by decide)
    replace f263 := f263.st st271 (by decide)
    replace f900039 := f900039.st st271 (by decide)
    replace f900059 := f900059.st st271 (by decide)
    replace fg0 := fg0.st st271 (by decide)
    replace fg1 := fg1.st st271 (by decide)
    cases b268
    · have hs := hf_ rfl
      have hk := hk.put 21 (.bool false) rfl
      refine x_run tab hk (k := 1) (lv := []) (ks := [0, 1, 2, 4, 22]) (e' := [(0, .func (.yield l_) #[] #[]), (1, .pointer (some ⟨bp1, 0, none⟩)), (2, .pointer (some ⟨bp2, 0, none⟩)), (4, .int .i64 (mxI 1 t253)), (22, .bool true)]) rfl trivial fun a hk => ?_
      refine wpListIn_nil ?_
      refine then_n ?_
      refine x_if hk (b := true) rfl ?_
      refine (show Code.wpIn _ _ _ _ _ _ _ from ?_)
      refine wpIn_ret ?_
      refine then_r ?_
      refine blk_r ?_
      refine then_r ?_
      refine blk_r ?_
      exact x_retG hk (rs := []) (vs := []) rfl trivial (hE1 hs)
    · have hs := ht_ rfl
      have hk := hk.put 21 (.bool true) rfl
      refine x_run tab hk (k := 1) (lv := []) (ks := [0, 1, 2, 4, 22]) (e' := [(0, .func (.yield l_) #[] #[]), (1, .pointer (some ⟨bp1, 0, none⟩)), (2, .pointer (some ⟨bp2, 0, none⟩)), (4, .int .i64 (mxI 1 t253)), (22, .bool false)]) rfl trivial fun a hk => ?_
      refine wpListIn_nil ?_
      refine then_n ?_
      refine x_if hk (b := false) rfl ?_
      refine (show Code.wpIn _ _ _ _ _ _ _ from ?_)
      refine wpIn_skip ?_
      refine then_n ?_
      refine wpIn_region_lit ?_
      obtain ⟨A272, c273, ak275, f274, hc276⟩ := ask_cut (P := Tryd.prog) tab (t := 34) rfl rfl f100 hc101 (some (.int .i64 (mxI 1 t253))) none rfl ⟨q259, (by have := q260; omega), trivial⟩ (by have := q259; have := q260; omega) (Nat.le_refl _)
      refine x_run tab hk (k := 3) (lv := [.slice A97 (l99).length c98, .slice A272 ((List.drop (Int.toNat (mxI 1 t253)) (List.take (l99).length l99))).length c273]) (ks := [0, 1, 2, 25]) (e' := [(0, .func (.yield l_) #[] #[]), (1, .pointer (some ⟨bp1, 0, none⟩)), (2, .pointer (some ⟨bp2, 0, none⟩)), (25, .slice A272 ((List.drop (Int.toNat (mxI 1 t253)) (List.take (l99).length l99))).length c273)]) rfl ⟨(load1 tab rfl ((Bx.cell f900059.now 0).trans rfl)), (ak275 rfl rfl rfl _), trivial⟩ fun a hk => ?_
      refine x_op hk rfl ?_
      refine op_store tab hk (t := 34) (v := .slice A272 ((List.drop (Int.toNat (mxI 1 t253)) (List.take (l99).length l99))).length c273) (b := bp2) (k := 0) (cs' := [.slice A272 ((List.drop (Int.toNat (mxI 1 t253)) (List.take (l99).length l99))).length c273]) rfl rfl rfl rfl rfl rfl f900059 rfl rfl fun w277 o278 st279 f900059_ => ?_
      replace f100 := f100.st st279 (by decide)
      replace f274 := f274.st st279 (by decide)
      replace f900039 := f900039.st st279 (by decide)
      replace fg0 := fg0.st st279 (by decide)
      replace fg1 := fg1.st st279 (by decide)
      replace hs := hJ hs st279 rfl
      replace f900059 := f900059_
      refine wpListIn_nil ?_
      refine blk_n ?_
      refine then_n ?_
      exact ⟨k193, Nat.le_refl _, o278, r266, A272, c273, (List.drop (Int.toNat (mxI 1 t253)) (List.take (l99).length l99)), (by exact Kn.pick (ks := [0, 1, 2]) hk rfl), hs, f274, f900039, f900059, fg0, fg1, hc276, (hlp195 ▸ H)⟩
  · rw [b258] at hk H
    replace H := bifT H
    refine x_if hk (b := true) rfl ?_
    refine (show Code.wpIn _ _ _ _ _ _ _ from ?_)
    refine x_seq ?_
    refine wpIn_region_lit ?_
    refine x_run tab hk (k := 2) (lv := [.slice A97 (l99).length c98]) (ks := [14, 15]) (e' := [(14, .func (.yield l_) #[] #[]), (15, .slice A97 (l99).length c98)]) rfl ⟨(load1 tab rfl ((Bx.cell f900059.now 0).trans rfl)), trivial⟩ fun a hk => ?_
    refine x_op hk rfl ?_
    obtain ⟨r280, hr281, H⟩ := consS H
    rw [hr281] at hs
    refine op_yield hk rfl (vs := [.slice A97 (l99).length c98]) rfl (hY hs (f100.imp fun _ h_ => ⟨_, _, rfl, hc101, h_⟩)) ?_
    rintro b282 w283 ⟨o284, st285, ht_, hf_⟩
    replace f100 := f100.st st285 (by decide)
    replace f900039 := f900039.st st285 (by decide)
    replace f900059 := f900059.st st285 (by decide)
    replace fg0 := fg0.st st285 (by decide)
    replace fg1 := fg1.st st285 (by decide)
    cases b282
    · have hs := hf_ rfl
      have hk := hk.put 16 (.bool false) rfl
      refine wpListIn_nil ?_
      refine then_n ?_
      refine wpIn_ret ?_
      refine then_r ?_
      refine blk_r ?_
      refine then_r ?_
      refine blk_r ?_
      exact x_retG hk (rs := []) (vs := []) rfl trivial (hE1 hs)
    · have hs := ht_ rfl
      have hk := hk.put 16 (.bool true) rfl
      refine wpListIn_nil ?_
      refine then_n ?_
      refine wpIn_ret ?_
      refine then_r ?_
      refine blk_r ?_
      refine then_r ?_
      refine blk_r ?_
      obtain rfl := Option.some.inj H
      exact x_retG hk (rs := []) (vs := []) rfl trivial (hE0 hs)

/-! tidewrack/flow.rows -/
theorem flow_rows_calls (Ap0 : Option Addr) (cp0 : Nat) (p0 : List T36) (p1 : Int) (w : World) (o : Nat → Nat) (Lg0 : Nat) (hg0 : Ft (RdC ET97 (some ⟨0, 0, none⟩) glob0) w o Lg0) (Lg1 : Nat) (hg1 : Ft (RdC ET97 (some ⟨1, 0, none⟩) glob1) w o Lg1) (Lp0 : Nat) (hp0 : Ft (RdC ET36 Ap0 p0) w o Lp0) (hcp0 : (p0).length ≤ cp0)  (R0 : Nat) (R1 : Nat) (r : Int) (H : flow_rows p0 p1 = some r) :
    Calls Tryd.prog 46 #[.slice Ap0 (p0).length cp0, .int .i64 p1] w (Ret fun v_ w' => ∃ o' : Nat → Nat, ∃ b0 : Nat, ∃ b1 : Nat, v_ = .func (.func 83) #[] #[.pointer (some ⟨b0, 0, none⟩), .pointer (some ⟨b1, 0, none⟩)] ∧ St [] w o w' o' ∧ Ft (Bx b0 3 [.int .i64 r]) w' o' R0 ∧ Ft (Bx b1 34 [.slice Ap0 (p0).length cp0]) w' o' R1) := by
  refine x_enter (vs := [.slice Ap0 (p0).length cp0, .int .i64 p1]) Tryd.func46 rfl rfl rfl fun a hk => ?_
  obtain ⟨o0, hs, h0⟩ := St.start w o
  have fg0 := h0 _ _ hg0
  have fg1 := h0 _ _ hg1
  have f900000 := h0 _ _ hp0
  clear h0
  rw [flow_rows] at H
  refine x_seq ?_
  refine wpIn_region_lit ?_
  refine x_op hk rfl ?_
  refine op_box (o := o0) (t := 34) (v := .slice Ap0 (p0).length cp0) (cs := [.slice Ap0 (p0).length cp0]) hk rfl rfl 1 fun bx4 w1 o2 st3 f5 => ?_
  replace f900000 := f900000.st st3 (by decide)
  replace fg0 := fg0.st st3 (by decide)
  replace fg1 := fg1.st st3 (by decide)
  replace hs := hs.loc0 st3 (by decide)
  have hk := hk.put 2 (.pointer (some ⟨bx4, 0, none⟩)) rfl
  refine x_op hk rfl ?_
  refine op_box (o := o2) (t := 3) (v := .int .i64 p1) (cs := [.int .i64 p1]) hk rfl rfl 2 fun bx9 w6 o7 st8 f10 => ?_
  replace f5 := f5.st st8 (by decide)
  replace f900000 := f900000.st st8 (by decide)
  replace fg0 := fg0.st st8 (by decide)
  replace fg1 := fg1.st st8 (by decide)
  replace hs := hs.loc0 st8 (by decide)
  have hk := hk.put 3 (.pointer (some ⟨bx9, 0, none⟩)) rfl
  refine x_run tab hk (k := 1) (lv := []) (ks := [2, 3]) (e' := [(2, .pointer (some ⟨bx4, 0, none⟩)), (3, .pointer (some ⟨bx9, 0, none⟩))]) rfl trivial fun a hk => ?_
  refine wpListIn_nil ?_
  refine then_n ?_
  refine x_seq ?_
  refine wpIn_region_lit ?_
  refine x_run tab hk (k := 3) (lv := [.int .i64 p1]) (ks := [2, 3, 7]) (e' := [(2, .pointer (some ⟨bx4, 0, none⟩)), (3, .pointer (some ⟨bx9, 0, none⟩)), (7, .int .i64 (mxI 2 (mnI p1 1000)))]) rfl ⟨(load1 tab rfl ((Bx.cell f10.now 0).trans rfl)), trivial⟩ fun a hk => ?_
  refine x_op hk rfl ?_
  refine op_store tab hk (t := 3) (v := .int .i64 (mxI 2 (mnI p1 1000))) (b := bx9) (k := 0) (cs' := [.int .i64 (mxI 2 (mnI p1 1000))]) rfl rfl rfl rfl rfl rfl f10 rfl rfl fun w11 o12 st13 f10_ => ?_
  replace f5 := f5.st st13 (by decide)
  replace f900000 := f900000.st st13 (by decide)
  replace fg0 := fg0.st st13 (by decide)
  replace fg1 := fg1.st st13 (by decide)
  replace hs := hs.loc0 st13 (by decide)
  replace f10 := f10_
  refine wpListIn_nil ?_
  refine then_n ?_
  refine x_seq ?_
  refine wpIn_region_lit ?_
  refine x_run tab hk (k := 2) (lv := []) (ks := [4]) (e' := [(4, .func (.func 83) #[] #[.pointer (some ⟨bx9, 0, none⟩), .pointer (some ⟨bx4, 0, none⟩)])]) rfl trivial fun a hk => ?_
  refine wpListIn_nil ?_
  refine then_n ?_
  refine wpIn_ret ?_
  obtain rfl := Option.some.inj H
  exact x_retG hk (rs := [.tmp 4]) (vs := [.func (.func 83) #[] #[.pointer (some ⟨bx9, 0, none⟩), .pointer (some ⟨bx4, 0, none⟩)]]) rfl ⟨rfl, trivial⟩ ⟨fun b_ => if b_ < w.heap.size then o b_ else (fun l_ => if l_ = 1 then R1 else if l_ = 2 then R0 else 0) (o12 b_), bx9, bx4, rfl, hs.close0 o (fun l_ => if l_ = 1 then R1 else if l_ = 2 then R0 else 0), hs.close_ft (o := o) (ρ := fun l_ => if l_ = 1 then R1 else if l_ = 2 then R0 else 0) f10 (by decide) rfl, hs.close_ft (o := o) (ρ := fun l_ => if l_ = 1 then R1 else if l_ = 2 then R0 else 0) f5 (by decide) rfl⟩

/-! slices.Clone[[]tidewrack/row.Glyph,tidewrack/row.Glyph] -/
theorem slices_Clone_calls (Ap0 : Option Addr) (cp0 : Nat) (p0 : List T36) (w : World) (o : Nat → Nat) (Lp0 : Nat) (hp0 : Ft (RdC ET36 Ap0 p0) w o Lp0) (hcp0 : (p0).length ≤ cp0)  (R0 : Nat) (r : List T36) (H : slices_Clone p0 = some r) :
    Calls Tryd.prog 47 #[.slice Ap0 (p0).length cp0] w (Ret fun v_ w' => ∃ o' : Nat → Nat, ∃ A0 : Option Addr, ∃ c0 : Nat, v_ = .slice A0 (r).length c0 ∧ St [] w o w' o' ∧ Ft (Own ET36 37 (.slice A0 (r).length c0) r) w' o' R0 ∧ (r).length ≤ c0) := by
  refine x_enter (vs := [.slice Ap0 (p0).length cp0]) Tryd.func47 rfl rfl rfl fun a hk => ?_
  obtain ⟨o0, hs, h0⟩ := St.start w o
  have f900000 := h0 _ _ hp0
  clear h0
  rw [slices_Clone] at H
  refine x_seq ?_
  refine wpIn_region_lit ?_
  refine x_run tab hk (k := 1) (lv := []) (ks := [0]) (e' := [(0, .slice Ap0 (p0).length cp0)]) rfl trivial fun a hk => ?_
  refine wpListIn_nil ?_
  refine then_n ?_
  refine x_seq ?_
  refine x_seq ?_
  refine wpIn_region_lit ?_
  refine x_run tab hk (k := 1) (lv := []) (ks := [0, 3]) (e' := [(0, .slice Ap0 (p0).length cp0), (3, .slice Ap0 (p0).length cp0)]) rfl trivial fun a hk => ?_
  rcases none_or Ap0 with hAad1 | ⟨ad1, hAad1⟩
  · have hk_C := hk
    have f900000_C := f900000
    subst hAad1
    have hk := hk_C
    clear hk_C
    have f900000 := f900000_C
    clear f900000_C
    have hz2 : p0 = [] := RdC.none f900000.now
    replace H : (some ([] : List T36)) = some r := by (try rw [hz2] at H); simpa using H
    refine x_run tab hk (k := 1) (lv := []) (ks := [0, 4]) (e' := [(0, .slice none (p0).length cp0), (4, .bool true)]) rfl trivial fun a hk => ?_
    refine wpListIn_nil ?_
    refine then_n ?_
    refine x_if hk (b := true) rfl ?_
    refine (show Code.wpIn _ _ _ _ _ _ _ from ?_)
    refine x_seq ?_
    refine wpIn_region_lit ?_
    refine x_run tab hk (k := 1) (lv := []) (ks := [2]) (e' := [(2, .slice none 0 0)]) rfl trivial fun a hk => ?_
    refine wpListIn_nil ?_
    refine then_n ?_
    refine wpIn_ret ?_
    refine then_r ?_
    obtain rfl := Option.some.inj H
    exact x_retG hk (rs := [.tmp 2]) (vs := [.slice none 0 0]) rfl ⟨rfl, trivial⟩ ⟨fun b_ => if b_ < w.heap.size then o b_ else (fun _ => 0) (o0 b_), none, 0, rfl, hs.close0 o (fun _ => 0), (Ft.of_all (fun _ => Own.nil _ _ _) _ _ _), (by simp)⟩
  · have hk_C := hk
    have f900000_C := f900000
    subst hAad1
    have hk := hk_C
    clear hk_C
    have f900000 := f900000_C
    clear f900000_C
    refine x_run tab hk (k := 1) (lv := []) (ks := [0, 4]) (e' := [(0, .slice (some ad1) (p0).length cp0), (4, .bool false)]) rfl trivial fun a hk => ?_
    refine wpListIn_nil ?_
    refine then_n ?_
    refine x_if hk (b := false) rfl ?_
    refine (show Code.wpIn _ _ _ _ _ _ _ from ?_)
    refine wpIn_skip ?_
    refine then_n ?_
    refine x_seq ?_
    refine wpIn_region_lit ?_
    refine x_op hk rfl ?_
    refine op_slice (o := o0) tab hk (vs := []) (cs := []) rfl rfl rfl rfl rfl rfl rfl rfl rfl 1 fun bx6 w3 o4 st5 f7 => ?_
    replace f900000 := f900000.st st5 (by decide)
    replace hs := hs.loc0 st5 (by decide)
    have f8 : Ft (Own ET36 37 (.slice (some ⟨bx6, 0, none⟩) (([] : List T36)).length 0) ([] : List T36)) w3 o4 1 := f7.imp fun _ h_ => Own.of_box h_ rfl (by simp)
    have hk := hk.put 5 (.slice (some ⟨bx6, 0, none⟩) (([] : List T36)).length 0) rfl
    refine x_run tab hk (k := 1) (lv := []) (ks := [5, 6]) (e' := [(5, .slice (some ⟨bx6, 0, none⟩) (([] : List T36)).length 0), (6, .slice (some ad1) (p0).length cp0)]) rfl trivial fun a hk => ?_
    refine x_op hk rfl ?_
    obtain ⟨q12, H⟩ := ifS H
    refine op_append (o := o4) (E := ET36) (xs := ([] : List T36)) (ys := p0) tab hk rfl rfl rfl rfl rfl rfl rfl f8 f900000.now q12 fun A13 c14 w9 o10 st11 f15 hc16 => ?_
    replace f900000 := f900000.st st11 (by decide)
    replace hs := hs.loc0 st11 (by decide)
    have hk := hk.put 7 (.slice A13 ((([] : List T36) ++ p0)).length c14) rfl
    refine x_run tab hk (k := 1) (lv := []) (ks := [2]) (e' := [(2, .slice A13 ((([] : List T36) ++ p0)).length c14)]) rfl trivial fun a hk => ?_
    refine wpListIn_nil ?_
    refine then_n ?_
    refine wpIn_ret ?_
    obtain rfl := Option.some.inj H
    exact x_retG hk (rs := [.tmp 2]) (vs := [.slice A13 ((([] : List T36) ++ p0)).length c14]) rfl ⟨rfl, trivial⟩ ⟨fun b_ => if b_ < w.heap.size then o b_ else (fun _ => R0) (o10 b_), A13, c14, rfl, hs.close0 o (fun _ => R0), hs.close_ft (o := o) (ρ := fun _ => R0) f15 (by decide) rfl, hc16⟩

/-! tidewrack/flow.Cut -/
theorem flow_Cut_calls (K : Nat) (Ap0 : Option Addr) (cp0 : Nat) (p0 : List T36) (p1 : Int) (w : World) (o : Nat → Nat) (LF : Nat) (Lg0 : Nat) (hg0 : Ft (RdC ET97 (some ⟨0, 0, none⟩) glob0) w o Lg0) (Lg1 : Nat) (hg1 : Ft (RdC ET97 (some ⟨1, 0, none⟩) glob1) w o Lg1) (Lp0 : Nat) (hp0 : Ft (RdC ET36 Ap0 p0) w o Lp0) (hcp0 : (p0).length ≤ cp0) (hd0 : ([LF, Lp0] : List Nat).Nodup) (hd1 : Lg0 ∉ [LF, Lp0]) (hd2 : Lg1 ∉ [LF, Lp0]) (R0 : Nat) (r : List (List T36)) (H : flow_Cut K p0 p1 = some r) :
    Calls Tryd.prog 19 #[.slice Ap0 (p0).length cp0, .int .i64 p1] w (Ret fun v_ w' => ∃ o' : Nat → Nat, ∃ A0 : Option Addr, ∃ c0 : Nat, v_ = .slice A0 (r).length c0 ∧ St [] w o w' o' ∧ NOwn (dRows ET36) 34 A0 c0 r w' o' R0 LF ∧ (r).length ≤ c0) := by
  refine x_enterQ (vs := [.slice Ap0 (p0).length cp0, .int .i64 p1]) Tryd.func19 rfl rfl rfl fun a hk => ?_
  obtain ⟨oi, hs0, h0, h1, hob, hoz, hoa⟩ := St.startM2 w o (m := 2) hd0 rfl
  have hs := hs0 []
  have fg0 := h0 _ _ hd1 hg0
  have fg1 := h0 _ _ hd2 hg1
  have f900000 := h1 1 2 hp0 rfl rfl
  have fxm : Ft (MK []) w oi 3 := Ft.of_all (fun _ => MK.nil _) _ _ _
  clear h0 h1 hs0
  rw [flow_Cut] at H
  refine x_seq ?_
  refine wpIn_region_lit ?_
  refine x_run tab hk (k := 1) (lv := []) (ks := [0, 1]) (e' := [(0, .slice Ap0 (p0).length cp0), (1, .int .i64 p1)]) rfl trivial fun a hk => ?_
  refine wpListIn_nil ?_
  refine then_n ?_
  refine x_seq ?_
  refine wpIn_region_lit ?_
  refine x_op hk rfl ?_
  refine op_alloc (o := oi) tab (t := 53) (cs := [.slice none 0 0]) rfl rfl 4 fun bx4 w1 o2 st3 f5 => ?_
  replace f900000 := f900000.st st3 (by decide)
  replace fg0 := fg0.st st3 (by decide)
  replace fg1 := fg1.st st3 (by decide)
  replace fxm := fxm.st st3 (by decide)
  replace hs := hs.locQ st3 hob rfl
  have hk := hk.put 5 (.pointer (some ⟨bx4, 0, none⟩)) rfl
  refine wpListIn_nil ?_
  refine then_n ?_
  refine x_mid (fun a_ w_ => ∃ o413 : Nat → Nat, ∃ ds414 : List Deferred, ∃ A415 : Option Addr, ∃ c416 : Nat, ∃ l417 : List (List T36), KnD 17 ds414 a_ [(5, .pointer (some ⟨bx4, 0, none⟩))] ∧ St [] w oi w_ o413 ∧ NOwn (dRows ET36) 34 A415 c416 l417 w_ o413 40 1 ∧ Ft (Bx bx4 53 [.slice A415 (l417).length c416]) w_ o413 41 ∧ Ft (RdC ET97 (some ⟨0, 0, none⟩) glob0) w_ o413 0 ∧ Ft (RdC ET97 (some ⟨1, 0, none⟩) glob1) w_ o413 0 ∧ Ft (MK ds414) w_ o413 3 ∧ (l417).length ≤ c416 ∧ flow_Cut_j1 l417 = some r) ?_ ?_
  rotate_left
  · rintro a w420 ⟨o413, ds414, A415, c416, l417, hk, hs, f418, f5, fg0, fg1, fxm, hc419, H⟩
    rw [flow_Cut_j1] at H
    refine x_seq ?_
    refine wpIn_region_lit ?_
    refine x_run tab hk (k := 2) (lv := [.slice A415 (l417).length c416]) (ks := [4]) (e' := [(4, .slice A415 (l417).length c416)]) rfl ⟨(load1 tab rfl ((Bx.cell f5.now 0).trans rfl)), trivial⟩ fun a hk => ?_
    refine wpListIn_nil ?_
    refine then_n ?_
    refine wpIn_ret ?_
    refine x_retQ hk fxm fun w421 a st422 hk => ?_
    replace f418 := f418.st st422 (by decide)
    replace fg0 := fg0.st st422 (by decide)
    replace fg1 := fg1.st st422 (by decide)
    replace hs := hs.locQ st422 hob rfl
    obtain rfl := Option.some.inj H
    exact x_retG hk (rs := [.tmp 4]) (vs := [.slice A415 (l417).length c416]) rfl ⟨rfl, trivial⟩ ⟨cl w oi o [] (fun l_ => if l_ = 1 then LF else if l_ = 40 then R0 else 0) o413, A415, c416, rfl, hs.closeF (Lm := []) (Sh := [Lp0]) hoa rfl (fun l_ => if l_ = 1 then LF else if l_ = 40 then R0 else 0), f418.conv (fun _ h_ => hs.closeM_ft (o := o) (ρ := fun l_ => if l_ = 1 then LF else if l_ = 40 then R0 else 0) h_ (lab_none hob rfl) rfl) (fun _ h_ => hs.closeM_ft (o := o) (ρ := fun l_ => if l_ = 1 then LF else if l_ = 40 then R0 else 0) h_ (lab_at hoa (i := 0) rfl) rfl), hc419⟩
  refine x_seq ?_
  refine wpIn_region_lit ?_
  refine x_run tab hk (k := 2) (lv := []) (ks := [5, 7, 8]) (e' := [(5, .pointer (some ⟨bx4, 0, none⟩)), (7, .slice Ap0 (p0).length cp0), (8, .int .i64 p1)]) rfl trivial fun a hk => ?_
  refine x_op hk rfl ?_
  obtain ⟨t426, hc427, H⟩ := bindS H
  refine op_call hk ent_46 (vs := [.slice Ap0 (p0).length cp0, .int .i64 p1]) rfl (flow_rows_calls Ap0 cp0 p0 p1 _ o2 0 fg0 0 fg1 _ f900000 hcp0 42 43  _ hc427) ?_
  rintro _ w428 ⟨o429, bx431, bx433, rfl, st430, f432, f434⟩
  replace f5 := f5.st st430 (by decide)
  replace f900000 := f900000.st st430 (by decide)
  replace fg0 := fg0.st st430 (by decide)
  replace fg1 := fg1.st st430 (by decide)
  replace fxm := fxm.st st430 (by decide)
  replace hs := hs.locQ st430 hob rfl
  have hk := hk.put 9 (.func (.func 83) #[] #[.pointer (some ⟨bx431, 0, none⟩), .pointer (some ⟨bx433, 0, none⟩)]) rfl
  refine wpListIn_nil ?_
  refine then_n ?_
  refine wpIn_block ?_
  obtain ⟨ys435, hy436, H⟩ := bindS H
  refine x_range 3 44 45 [4, 59] hk rfl ent_83 (flow_rows_1_iter K bx431 t426 bx433 Ap0 cp0 p0 _ _ 0 fg0 0 fg1 42 f432 43 f434 2 f900000 hcp0 (by decide) (by decide) (by decide) (by decide) (by decide) (by decide) (by decide) (by decide) _ hy436) fxm (by rintro _ _ _ ⟨_, _, rfl, _⟩; rfl) rfl rfl (fun rr_ w_ o570 => ∃ A571 : Option Addr, ∃ c572 : Nat, ∃ l573 : List (List T36), St [] w oi w_ o570 ∧ Ft (Bx bx4 53 [.slice A571 (l573).length c572]) w_ o570 4 ∧ NOwn (dRows ET36) 34 A571 c572 l573 w_ o570 59 1 ∧ Ft (RdC ET97 (some ⟨0, 0, none⟩) glob0) w_ o570 0 ∧ Ft (RdC ET97 (some ⟨1, 0, none⟩) glob1) w_ o570 0 ∧ (l573).length ≤ c572 ∧ flow_Cut_r2 rr_ l573 = some r) (fun c_ w_ o695 => False) ?_ ?_ ⟨none, 0, ([] : List (List T36)), hs, f5, (NOwn.nil _ _ _ _ _ _), fg0, fg1, (by simp), H⟩ ?_ ?_ ?_
  · rintro rr_ w_ _ _ _ ⟨A571, c572, l573, hs, f5, f574, fg0, fg1, hc575, H⟩ st_
    exact ⟨A571, c572, l573, hs.locQ st_ hob rfl, f5.st st_ (by decide), f574.st st_ (by decide), fg0.st st_ (by decide), fg1.st st_ (by decide), hc575, H⟩
  · exact fun _ _ _ _ _ h_ _ => h_.elim
  · rintro R0_ R1_ lr_ x437 vs_ rest438 w439 o440 ⟨A571, c572, l573, hsO, f5, f574, fg0, fg1, hc575, H⟩ hE fxr a hk
    obtain ⟨A444, c445, rfl, hc447, f446⟩ := evc_row hE
    obtain ⟨o441, hs0, hfl, hbB, hoi⟩ := St.startB w439 o440 59
    have hs := hs0 [44, 4, 59]
    replace f446 := hfl f446 rfl
    replace f5 := hfl f5 rfl
    replace f574 := f574.conv (fun _ h_ => hfl h_ rfl) (fun _ h_ => hfl h_ rfl)
    replace fg0 := hfl fg0 rfl
    replace fg1 := hfl fg1 rfl
    replace fxr := hfl fxr rfl
    replace hk : Kn 17 a [(5, .pointer (some ⟨bx4, 0, none⟩)), (10, .slice A444 (x437).length c445)] := Kn.pick (ks := [5, 10]) hk rfl
    rw [flow_Cut_r2] at H
    obtain ⟨lp442, hlp443⟩ : ∃ lp_, lp_ = flow_Cut_r2 rest438 := ⟨_, rfl⟩
    rw [← hlp443] at H
    refine wpIn_region_lit ?_
    refine x_run tab hk (k := 1) (lv := []) (ks := [5, 6]) (e' := [(5, .pointer (some ⟨bx4, 0, none⟩)), (6, .slice A444 (x437).length c445)]) rfl trivial fun a hk => ?_
    refine wpListIn_nil ?_
    refine then_n ?_
    refine ⟨_, fxr, fun w698 st699 fxr => ?_⟩
    replace f446 := f446.st st699 (by decide)
    replace f5 := f5.st st699 (by decide)
    replace f574 := f574.st st699 (by decide)
    replace fg0 := fg0.st st699 (by decide)
    replace fg1 := fg1.st st699 (by decide)
    replace hs := hs.locB st699 rfl hbB
    refine wpIn_block ?_
    obtain ⟨t731, hc732, H⟩ := bindS H
    obtain ⟨q751, H⟩ := ifS H
    refine xd_begin (o := o441) (fun W_ => (Bx bx4 53 [.slice A571 (l573).length c572]) W_ ∧ True) mixed rfl rfl fun w787 st788 => ?_
    replace f446 := f446.st st788 (by decide)
    replace f5 := f5.st st788 (by decide)
    replace f574 := f574.st st788 (by decide)
    replace fg0 := fg0.st st788 (by decide)
    replace fg1 := fg1.st st788 (by decide)
    replace fxr := fxr.st st788 (by decide)
    replace hs := hs.locB st788 rfl hbB
    refine xd_take tab hk (k := 4) (is := [0, 1]) (ls' := #[true, true, false, false, false, false]) (lv := [.slice A571 (l573).length c572]) (ks := [5, 11, 12]) (e' := [(5, .pointer (some ⟨bx4, 0, none⟩)), (11, .slice A571 (l573).length c572), (12, .slice A444 (x437).length c445)]) (by kernel_rfl) rfl rfl (by kernel_rfl) (np_blk np_RQ) ⟨f5.now, trivial⟩ (fun W_ hS => ⟨(load1 tab rfl ((Bx.cell hS.1 0).trans rfl)), trivial⟩) fun a hk => ?_
    refine xd_op hk (i := 2) (by kernel_rfl) rfl rfl ?_
    refine op_call hk ent_47 (vs := [.slice A444 (x437).length c445]) rfl (slices_Clone_calls A444 c445 x437 _ o441 _ f446 hc447 75  _ hc732) ?_
    rintro _ w792 ⟨o793, A795, c796, rfl, st794, f797, hc798⟩
    replace f446 := f446.st st794 (by decide)
    replace f5 := f5.st st794 (by decide)
    replace f574 := f574.st st794 (by decide)
    replace fg0 := fg0.st st794 (by decide)
    replace fg1 := fg1.st st794 (by decide)
    replace fxr := fxr.st st794 (by decide)
    replace hs := hs.locB st794 rfl hbB
    have hk := hk.put 13 (.slice A795 (t731).length c796) rfl
    refine ⟨.inr ⟨f5.now, trivial⟩, ?_⟩
    refine xd_op hk (i := 3) (by kernel_rfl) rfl rfl ?_
    obtain ⟨o802, hR803⟩ := relab_ex o793 (fun l_ => if l_ = 75 then 1 else l_)
    replace hs : St [44, 4, 59] w439 o441 w792 o802 := by rw [hR803]; exact (hs.relabM hbB (fun l_ => if l_ = 75 then 1 else l_) (by intro l_ hl_; (try dsimp only); (repeat' split) <;> omega))
    replace f446 : Ft (RdC ET36 A444 x437) w792 o802 2 := by rw [hR803]; exact f446.relab (fun l_ => if l_ = 75 then 1 else l_) rfl
    replace f5 : Ft (Bx bx4 53 [.slice A571 (l573).length c572]) w792 o802 4 := by rw [hR803]; exact f5.relab (fun l_ => if l_ = 75 then 1 else l_) rfl
    replace f574 : NOwn (dRows ET36) 34 A571 c572 l573 w792 o802 59 1 := by rw [hR803]; exact f574.relab (fun l_ => if l_ = 75 then 1 else l_) rfl
    replace f797 : Ft (Own ET36 37 (.slice A795 (t731).length c796) t731) w792 o802 1 := by rw [hR803]; exact f797.relab (fun l_ => if l_ = 75 then 1 else l_) rfl
    replace fg0 : Ft (RdC ET97 (some ⟨0, 0, none⟩) glob0) w792 o802 0 := by rw [hR803]; exact fg0.relab (fun l_ => if l_ = 75 then 1 else l_) rfl
    replace fg1 : Ft (RdC ET97 (some ⟨1, 0, none⟩) glob1) w792 o802 0 := by rw [hR803]; exact fg1.relab (fun l_ => if l_ = 75 then 1 else l_) rfl
    replace fxr : Ft (R1_) w792 o802 44 := by rw [hR803]; exact fxr.relab (fun l_ => if l_ = 75 then 1 else l_) rfl
    refine op_slice (o := o802) tab hk (vs := [.slice A795 (t731).length c796]) (cs := [.slice A795 (t731).length c796]) rfl rfl rfl rfl rfl rfl rfl rfl rfl 76 fun bx804 w799 o800 st801 f805 => ?_
    replace f446 := f446.st st801 (by decide)
    replace f5 := f5.st st801 (by decide)
    replace f574 := f574.st st801 (by decide)
    replace f797 := f797.st st801 (by decide)
    replace fg0 := fg0.st st801 (by decide)
    replace fg1 := fg1.st st801 (by decide)
    replace fxr := fxr.st st801 (by decide)
    replace hs := hs.locB st801 rfl hbB
    have f806 : NOwn (dRows ET36) 34 (some ⟨bx804, 0, none⟩) 1 ([t731] : List (List T36)) w799 o800 76 1 := NOwn.lit f805 [⟨A795, c796, t731⟩] rfl (Inn.consF (f797.imp fun _ h_ => Own.rd h_) hc798 (Inn.nilF _ _ _ _)) rfl (Nat.le_of_ble_eq_true rfl)
    have hk := hk.put 14 (.slice (some ⟨bx804, 0, none⟩) (([t731] : List (List T36))).length 1) rfl
    refine ⟨.inr ⟨f5.now, trivial⟩, ?_⟩
    refine xd_op hk (i := 4) (by kernel_rfl) rfl rfl ?_
    refine op_appendN (o := o800) (D := (dRows ET36)) (xs := l573) (ys := ([t731] : List (List T36))) tab hk rfl rfl rfl rfl rfl rfl rfl f574 f806.rd (by decide) q751 fun A810 c811 w807 o808 st809 f812 hc813 => ?_
    replace f446 := f446.st st809 (by decide)
    replace f5 := f5.st st809 (by decide)
    replace f797 := f797.st st809 (by decide)
    replace f806 := f806.st st809 (by decide)
    replace fg0 := fg0.st st809 (by decide)
    replace fg1 := fg1.st st809 (by decide)
    replace fxr := fxr.st st809 (by decide)
    replace hs := hs.locB st809 rfl hbB
    have hk := hk.put 15 (.slice A810 ((l573 ++ ([t731] : List (List T36)))).length c811) rfl
    refine ⟨.inr ⟨f5.now, trivial⟩, ?_⟩
    refine xd_op hk (i := 5) (by kernel_rfl) rfl rfl ?_
    refine op_store tab hk (t := 53) (v := .slice A810 ((l573 ++ ([t731] : List (List T36)))).length c811) (b := bx4) (k := 0) (cs' := [.slice A810 ((l573 ++ ([t731] : List (List T36)))).length c811]) rfl rfl rfl rfl rfl rfl f5 rfl rfl fun w814 o815 st816 f5_ => ?_
    replace f446 := f446.st st816 (by decide)
    replace f797 := f797.st st816 (by decide)
    replace f806 := f806.st st816 (by decide)
    replace f812 := f812.st st816 (by decide)
    replace fg0 := fg0.st st816 (by decide)
    replace fg1 := fg1.st st816 (by decide)
    replace fxr := fxr.st st816 (by decide)
    replace hs := hs.locB st816 rfl hbB
    replace f5 := f5_
    refine ⟨.inl (by kernel_rfl), ?_⟩
    refine xd_done (by kernel_rfl) ?_
    refine blk_n ?_
    have hq817 := hs.closeB hoi hbB rfl (fun l_ => if l_ = 1 then 1 else if l_ = 4 then 4 else if l_ = 44 then 44 else if l_ = 59 then 59 else 0)
    exact ⟨_, hq817, (show Ft R1_ _ _ 44 from (hs.closeM_ft (o := o440) (ρ := (fun l_ => if l_ = 1 then 1 else if l_ = 4 then 4 else if l_ = 44 then 44 else if l_ = 59 then 59 else 0)) fxr (lab_atB hoi rfl) rfl)), ⟨A810, c811, (l573 ++ ([t731] : List (List T36))), (hsO.locQ hq817 hob rfl), (hs.closeM_ft (o := o440) (ρ := (fun l_ => if l_ = 1 then 1 else if l_ = 4 then 4 else if l_ = 44 then 44 else if l_ = 59 then 59 else 0)) f5 (lab_atB hoi rfl) rfl), (f812.conv (fun _ h_ => (hs.closeM_ft (o := o440) (ρ := (fun l_ => if l_ = 1 then 1 else if l_ = 4 then 4 else if l_ = 44 then 44 else if l_ = 59 then 59 else 0)) h_ (lab_atB hoi rfl) rfl)) (fun _ h_ => (hs.closeM_ft (o := o440) (ρ := (fun l_ => if l_ = 1 then 1 else if l_ = 4 then 4 else if l_ = 44 then 44 else if l_ = 59 then 59 else 0)) h_ (lab_atB hoi rfl) rfl))), (hs.closeM_ft (o := o440) (ρ := (fun l_ => if l_ = 1 then 1 else if l_ = 4 then 4 else if l_ = 44 then 44 else if l_ = 59 then 59 else 0)) fg0 (lab_atB hoi rfl) rfl), (hs.closeM_ft (o := o440) (ρ := (fun l_ => if l_ = 1 then 1 else if l_ = 4 then 4 else if l_ = 44 then 44 else if l_ = 59 then 59 else 0)) fg1 (lab_atB hoi rfl) rfl), hc813, (hlp443 ▸ H)⟩⟩
  · rintro ds697 w696 o570 a hk fxm ⟨A571, c572, l573, hs, f5, f574, fg0, fg1, hc575, H⟩
    rw [flow_Cut_r2] at H
    refine blk_n ?_
    refine then_n ?_
    exact ⟨(fun b_ => (fun l_ => if l_ = 4 then 41 else if l_ = 59 then 40 else l_) (o570 b_)), ds697, A571, c572, l573, (by exact Kn.pick (ks := [5]) hk rfl), (hs.relabM hob (fun l_ => if l_ = 4 then 41 else if l_ = 59 then 40 else l_) (by decide)), (f574.relab (fun l_ => if l_ = 4 then 41 else if l_ = 59 then 40 else l_) rfl), (f5.relab (fun l_ => if l_ = 4 then 41 else if l_ = 59 then 40 else l_) rfl), (fg0.relab (fun l_ => if l_ = 4 then 41 else if l_ = 59 then 40 else l_) rfl), (fg1.relab (fun l_ => if l_ = 4 then 41 else if l_ = 59 then 40 else l_) rfl), (fxm.relab (fun l_ => if l_ = 4 then 41 else if l_ = 59 then 40 else l_) rfl), hc575, H⟩
  · exact fun _ _ _ _ _ _ _ h_ => h_.elim

/-! (*tidewrack/cache.Cache).touch -/
theorem cache_Cache_touch_calls (bp0 : Nat) (Ap0_0 : Option Addr) (cp0_0 : Nat) (p0 : T118) (p1 : Int) (Ap2 : Option Addr) (cp2 : Nat) (p2 : List T36) (w : World) (o : Nat → Nat) (LF : Nat) (Lp0 : Nat) (hp0 : Ft (Bx bp0 119 [.int .i64 p0.most, .int .i64 p0.now, mv Ap0_0]) w o Lp0) (Lp0_0 : Nat) (hp0_0 : MpN dT129 true Ap0_0 p0.l w o Lp0_0 LF) (hcp0_0 : (p0.l).length ≤ cp0_0) (hp2 : Ft (RdC ET36 Ap2 p2) w o LF) (hcp2 : (p2).length ≤ cp2) (hd0 : ([LF, Lp0, Lp0_0] : List Nat).Nodup) (r : T118) (H : cache_Cache_touch p0 p1 p2 = some r) :
    Calls Tryd.prog 48 #[.pointer (some ⟨bp0, 0, none⟩), .int .i64 p1, .slice Ap2 (p2).length cp2] w (Ret fun v_ w' => ∃ o' : Nat → Nat, ∃ A0 : Option Addr, ∃ c0 : Nat, v_ = .tuple #[] ∧ St [Lp0, Lp0_0] w o w' o' ∧ Ft (Bx bp0 119 [.int .i64 r.most, .int .i64 r.now, mv A0]) w' o' Lp0 ∧ MpN dT129 true A0 r.l w' o' Lp0_0 LF ∧ (r.l).length ≤ c0) := by
  refine x_enter (vs := [.pointer (some ⟨bp0, 0, none⟩), .int .i64 p1, .slice Ap2 (p2).length cp2]) Tryd.func48 rfl rfl rfl fun a hk => ?_
  obtain ⟨oi, hs0, h0, h1, hob, hoz, hoa⟩ := St.startM2 w o (m := 3) hd0 rfl
  have hs := hs0 [2, 3]
  have f900000 := hp0_0.conv (fun _ h_ => h1 2 3 h_ rfl rfl) (fun _ h_ => h1 0 1 h_ rfl rfl)
  have f900019 := h1 1 2 hp0 rfl rfl
  have f900040 := h1 0 1 hp2 rfl rfl
  clear h0 h1 hs0
  rw [cache_Cache_touch] at H
  refine x_seq ?_
  refine wpIn_region_lit ?_
  refine x_run tab hk (k := 7) (lv := [.int .i64 p0.now]) (ks := [0, 1, 2, 10, 12]) (e' := [(0, .pointer (some ⟨bp0, 0, none⟩)), (1, .int .i64 p1), (2, .slice Ap2 (p2).length cp2), (10, .int .i64 (IntKind.wrap .i64 (p0.now + 1))), (12, .pointer (some ((⟨bp0, 0, none⟩ : Addr).add 1)))]) rfl ⟨(load1 tab rfl ((Bx.cell f900019.now 1).trans rfl)), trivial⟩ fun a hk => ?_
  refine x_op hk rfl ?_
  refine op_store tab hk (t := 3) (v := .int .i64 (IntKind.wrap .i64 (p0.now + 1))) (b := bp0) (k := 1) (cs' := [.int .i64 p0.most, .int .i64 (IntKind.wrap .i64 (p0.now + 1)), mv Ap0_0]) rfl rfl rfl rfl rfl rfl f900019 rfl rfl fun w1 o2 st3 f900019_ => ?_
  replace f900000 := f900000.st st3 (by decide)
  replace f900040 := f900040.st st3 (by decide)
  replace hs := hs.locQ st3 hob rfl
  replace f900019 := f900019_
  refine wpListIn_nil ?_
  refine then_n ?_
  obtain ⟨q7, H⟩ := ifS H
  refine xd_begin (o := o2) (fun W_ => (Bx bp0 119 [.int .i64 p0.most, .int .i64 (IntKind.wrap .i64 (p0.now + 1)), mv Ap0_0]) W_ ∧ True) mixed rfl rfl fun w11 st12 => ?_
  replace f900000 := f900000.st st12 (by decide)
  replace f900019 := f900019.st st12 (by decide)
  replace f900040 := f900040.st st12 (by decide)
  replace hs := hs.locQ st12 hob rfl
  refine xd_take tab hk (k := 1) (is := [0, 1, 2, 3, 4, 5, 6, 7, 8, 9, 10]) (ls' := #[true, true, true, true, true, true, true, true, true, true, true, false]) (lv := [mv Ap0_0, .int .i64 (IntKind.wrap .i64 (p0.now + 1))]) (ks := [16, 17, 23]) (e' := [(16, mv Ap0_0), (17, .int .i64 p1), (23, .agg #[.slice Ap2 (p2).length cp2, .int .i64 (IntKind.wrap .i64 (p0.now + 1))])]) (by kernel_rfl) rfl rfl (by kernel_rfl) np_body ⟨f900019.now, trivial⟩ (fun W_ hS => ⟨(load1 tab rfl ((Bx.cell hS.1 2).trans rfl)), (load1 tab rfl ((Bx.cell hS.1 1).trans rfl)), trivial⟩) fun a hk => ?_
  refine xd_op hk (i := 11) (by kernel_rfl) rfl rfl ?_
  refine op_mputN tab hk (D := dT129) (ag := true) (k := p1) rfl rfl rfl rfl (v := (⟨p2, (IntKind.wrap .i64 (p0.now + 1))⟩ : T129)) (r := (⟨(⟨p2, (IntKind.wrap .i64 (p0.now + 1))⟩ : T129), Ap2, cp2⟩ : NT129)) (f900040.imp fun _ h_ => ⟨h_, hcp2⟩) rfl rfl f900000 (by decide) q7 fun w13 st15 f900000_ => ?_
  replace f900019 := f900019.st st15 (by decide)
  replace f900040 := f900040.st st15 (by decide)
  replace hs := hs.locQ st15 hob rfl
  replace f900000 := f900000_
  refine ⟨.inl (by kernel_rfl), ?_⟩
  refine xd_done (by kernel_rfl) ?_
  obtain rfl := Option.some.inj H
  exact x_endG hk (rs := []) (vs := []) rfl trivial ⟨cl w oi o [2, 3] (fun l_ => if l_ = 1 then LF else if l_ = 2 then Lp0 else if l_ = 3 then Lp0_0 else 0) o2, Ap0_0, ((M.put p0.l p1 (⟨p2, (IntKind.wrap .i64 (p0.now + 1))⟩ : T129))).length, rfl, hs.closeF (Lm := [Lp0, Lp0_0]) (Sh := []) hoa rfl (fun l_ => if l_ = 1 then LF else if l_ = 2 then Lp0 else if l_ = 3 then Lp0_0 else 0), hs.closeM_ft (o := o) (ρ := fun l_ => if l_ = 1 then LF else if l_ = 2 then Lp0 else if l_ = 3 then Lp0_0 else 0) f900019 (lab_at hoa (i := 1) rfl) rfl, f900000.conv (fun _ h_ => hs.closeM_ft (o := o) (ρ := fun l_ => if l_ = 1 then LF else if l_ = 2 then Lp0 else if l_ = 3 then Lp0_0 else 0) h_ (lab_at hoa (i := 2) rfl) rfl) (fun _ h_ => hs.closeM_ft (o := o) (ρ := fun l_ => if l_ = 1 then LF else if l_ = 2 then Lp0 else if l_ = 3 then Lp0_0 else 0) h_ (lab_at hoa (i := 0) rfl) rfl), (Nat.le_refl _)⟩

/-! maps.Keys[map[int]tidewrack/cache.entry,int,tidewrack/cache.entry] -/
theorem maps_Keys'_calls (Ap0 : Option Addr) (cp0 : Nat) (p0 : M T129) (w : World) (o : Nat → Nat) (LF : Nat) (Lp0 : Nat) (hp0 : MpN dT129 true Ap0 p0 w o Lp0 LF) (hcp0 : (p0).length ≤ cp0) (hd0 : ([LF] : List Nat).Nodup) (hd1 : Lp0 ∉ [LF]) (R0 : Nat) (r : Unit) (H : maps_Keys' p0 = some r) :
    Calls Tryd.prog 51 #[mv Ap0] w (Ret fun v_ w' => ∃ o' : Nat → Nat, ∃ b0 : Nat, v_ = .func (.func 86) #[] #[.pointer (some ⟨b0, 0, none⟩)] ∧ St [] w o w' o' ∧ Ft (Bx b0 117 [mv Ap0]) w' o' R0) := by
  refine x_enter (vs := [mv Ap0]) Tryd.func51 rfl rfl rfl fun a hk => ?_
  obtain ⟨oi, hs0, h0, h1, hob, hoz, hoa⟩ := St.startM2 w o (m := 1) hd0 rfl
  have hs := hs0 []
  have f900000 := hp0.conv (fun P_ => h0 P_ _ hd1) (fun _ h_ => h1 0 1 h_ rfl rfl)
  clear h0 h1 hs0
  rw [maps_Keys'] at H
  refine x_seq ?_
  refine wpIn_region_lit ?_
  refine x_op hk rfl ?_
  refine op_box (o := oi) (t := 117) (v := mv Ap0) (cs := [mv Ap0]) hk rfl rfl 2 fun bx4 w1 o2 st3 f5 => ?_
  replace f900000 := f900000.st st3 (by decide)
  replace hs := hs.locQ st3 hob rfl
  have hk := hk.put 1 (.pointer (some ⟨bx4, 0, none⟩)) rfl
  refine x_run tab hk (k := 1) (lv := []) (ks := [1]) (e' := [(1, .pointer (some ⟨bx4, 0, none⟩))]) rfl trivial fun a hk => ?_
  refine wpListIn_nil ?_
  refine then_n ?_
  refine x_seq ?_
  refine wpIn_region_lit ?_
  refine x_run tab hk (k := 2) (lv := []) (ks := [2]) (e' := [(2, .func (.func 86) #[] #[.pointer (some ⟨bx4, 0, none⟩)])]) rfl trivial fun a hk => ?_
  refine wpListIn_nil ?_
  refine then_n ?_
  refine wpIn_ret ?_
  obtain rfl := Option.some.inj H
  exact x_retG hk (rs := [.tmp 2]) (vs := [.func (.func 86) #[] #[.pointer (some ⟨bx4, 0, none⟩)]]) rfl ⟨rfl, trivial⟩ ⟨cl w oi o [] (fun l_ => if l_ = 1 then LF else if l_ = 2 then R0 else 0) o2, bx4, rfl, hs.closeF (Lm := []) (Sh := []) hoa rfl (fun l_ => if l_ = 1 then LF else if l_ = 2 then R0 else 0), hs.closeM_ft (o := o) (ρ := fun l_ => if l_ = 1 then LF else if l_ = 2 then R0 else 0) f5 (lab_none hob rfl) rfl⟩

/-! cmp.isNaN[int] -/
theorem cmp_isNaN_calls (p0 : Int) (w : World) (o : Nat → Nat)   (r : Bool) (H : cmp_isNaN p0 = some r) :
    Calls Tryd.prog 87 #[.int .i64 p0] w (Ret fun v_ w' => ∃ o' : Nat → Nat, v_ = .bool r ∧ St [] w o w' o') := by
  refine x_enter (vs := [.int .i64 p0]) Tryd.func87 rfl rfl rfl fun a hk => ?_
  obtain ⟨o0, hs, h0⟩ := St.start w o
  clear h0
  rw [cmp_isNaN] at H
  refine x_seq ?_
  refine wpIn_region_lit ?_
  refine x_run tab hk (k := 1) (lv := []) (ks := [0]) (e' := [(0, .int .i64 p0)]) rfl trivial fun a hk => ?_
  refine wpListIn_nil ?_
  refine then_n ?_
  refine x_seq ?_
  refine wpIn_region_lit ?_
  refine x_run tab hk (k := 4) (lv := []) (ks := [2]) (e' := [(2, .bool (p0 != p0))]) rfl trivial fun a hk => ?_
  refine wpListIn_nil ?_
  refine then_n ?_
  refine wpIn_ret ?_
  obtain rfl := Option.some.inj H
  exact x_retG hk (rs := [.tmp 2]) (vs := [.bool (p0 != p0)]) rfl ⟨rfl, trivial⟩ ⟨fun b_ => if b_ < w.heap.size then o b_ else (fun _ => 0) (o0 b_), rfl, hs.close0 o (fun _ => 0)⟩

/-! cmp.Compare[int] -/
theorem cmp_Compare_calls (p0 : Int) (p1 : Int) (w : World) (o : Nat → Nat)   (r : Int) (H : cmp_Compare p0 p1 = some r) :
    Calls Tryd.prog 53 #[.int .i64 p0, .int .i64 p1] w (Ret fun v_ w' => ∃ o' : Nat → Nat, v_ = .int .i64 r ∧ St [] w o w' o') := by
  refine x_enter (vs := [.int .i64 p0, .int .i64 p1]) Tryd.func53 rfl rfl rfl fun a hk => ?_
  obtain ⟨o0, hs, h0⟩ := St.start w o
  clear h0
  rw [cmp_Compare] at H
  refine x_seq ?_
  refine wpIn_region_lit ?_
  refine x_run tab hk (k := 1) (lv := []) (ks := [0, 1]) (e' := [(0, .int .i64 p0), (1, .int .i64 p1)]) rfl trivial fun a hk => ?_
  refine wpListIn_nil ?_
  refine then_n ?_
  refine x_seq ?_
  refine wpIn_region_lit ?_
  refine x_run tab hk (k := 1) (lv := []) (ks := [0, 1, 7]) (e' := [(0, .int .i64 p0), (1, .int .i64 p1), (7, .int .i64 p0)]) rfl trivial fun a hk => ?_
  refine x_op hk rfl ?_
  obtain ⟨t4, hc5, H⟩ := bindS H
  refine op_call hk ent_87 (vs := [.int .i64 p0]) rfl (cmp_isNaN_calls p0 _ o0    _ hc5) ?_
  rintro _ w6 ⟨o7, rfl, st8⟩
  replace hs := hs.loc0 st8 (by decide)
  have hk := hk.put 8 (.bool t4) rfl
  refine x_run tab hk (k := 1) (lv := []) (ks := [0, 1, 5]) (e' := [(0, .int .i64 p0), (1, .int .i64 p1), (5, .bool t4)]) rfl trivial fun a hk => ?_
  refine wpListIn_nil ?_
  refine then_n ?_
  refine x_seq ?_
  refine wpIn_region_lit ?_
  refine x_run tab hk (k := 1) (lv := []) (ks := [0, 1, 5, 9]) (e' := [(0, .int .i64 p0), (1, .int .i64 p1), (5, .bool t4), (9, .int .i64 p1)]) rfl trivial fun a hk => ?_
  refine x_op hk rfl ?_
  obtain ⟨t12, hc13, H⟩ := bindS H
  refine op_call hk ent_87 (vs := [.int .i64 p1]) rfl (cmp_isNaN_calls p1 _ o7    _ hc13) ?_
  rintro _ w14 ⟨o15, rfl, st16⟩
  replace hs := hs.loc0 st16 (by decide)
  have hk := hk.put 10 (.bool t12) rfl
  refine x_run tab hk (k := 1) (lv := []) (ks := [0, 1, 5, 6]) (e' := [(0, .int .i64 p0), (1, .int .i64 p1), (5, .bool t4), (6, .bool t12)]) rfl trivial fun a hk => ?_
  refine wpListIn_nil ?_
  refine then_n ?_
  refine x_seq ?_
  refine x_seq ?_
  refine wpIn_region_lit ?_
  refine x_run tab hk (k := 1) (lv := []) (ks := [0, 1, 6, 11]) (e' := [(0, .int .i64 p0), (1, .int .i64 p1), (6, .bool t12), (11, .bool t4)]) rfl trivial fun a hk => ?_
  refine wpListIn_nil ?_
  refine then_n ?_
  cases b17 : t4
  · rw [b17] at hk H
    replace H := bifF H
    refine x_if hk (b := false) rfl ?_
    refine (show Code.wpIn _ _ _ _ _ _ _ from ?_)
    refine wpIn_skip ?_
    refine then_n ?_
    refine x_seq ?_
    refine x_seq ?_
    refine wpIn_region_lit ?_
    refine x_run tab hk (k := 1) (lv := []) (ks := [0, 1, 13]) (e' := [(0, .int .i64 p0), (1, .int .i64 p1), (13, .bool t12)]) rfl trivial fun a hk => ?_
    refine wpListIn_nil ?_
    refine then_n ?_
    cases b18 : t12
    · rw [b18] at hk H
      replace H := bifF H
      refine x_if hk (b := false) rfl ?_
      refine (show Code.wpIn _ _ _ _ _ _ _ from ?_)
      refine wpIn_skip ?_
      refine then_n ?_
      refine x_seq ?_
      refine x_seq ?_
      refine wpIn_region_lit ?_
      refine x_run tab hk (k := 3) (lv := []) (ks := [0, 1, 16]) (e' := [(0, .int .i64 p0), (1, .int .i64 p1), (16, .bool (decide (p0 < p1)))]) rfl trivial fun a hk => ?_
      refine wpListIn_nil ?_
      refine then_n ?_
      cases b19 : (decide (p0 < p1))
      · rw [b19] at hk H
        replace H := bifF H
        refine x_if hk (b := false) rfl ?_
        refine (show Code.wpIn _ _ _ _ _ _ _ from ?_)
        refine wpIn_skip ?_
        refine then_n ?_
        refine x_seq ?_
        refine x_seq ?_
        refine wpIn_region_lit ?_
        refine x_run tab hk (k := 3) (lv := []) (ks := [19]) (e' := [(19, .bool (decide (p0 > p1)))]) rfl trivial fun a hk => ?_
        refine wpListIn_nil ?_
        refine then_n ?_
        cases b20 : (decide (p0 > p1))
        · rw [b20] at hk H
          replace H := bifF H
          refine x_if hk (b := false) rfl ?_
          refine (show Code.wpIn _ _ _ _ _ _ _ from ?_)
          refine wpIn_skip ?_
          refine then_n ?_
          refine x_seq ?_
          refine wpIn_region_lit ?_
          refine x_run tab hk (k := 1) (lv := []) (ks := [4]) (e' := [(4, .int .i64 0)]) rfl trivial fun a hk => ?_
          refine wpListIn_nil ?_
          refine then_n ?_
          refine wpIn_ret ?_
          obtain rfl := Option.some.inj H
          exact x_retG hk (rs := [.tmp 4]) (vs := [.int .i64 0]) rfl ⟨rfl, trivial⟩ ⟨fun b_ => if b_ < w.heap.size then o b_ else (fun _ => 0) (o15 b_), rfl, hs.close0 o (fun _ => 0)⟩
        · rw [b20] at hk H
          replace H := bifT H
          refine x_if hk (b := true) rfl ?_
          refine (show Code.wpIn _ _ _ _ _ _ _ from ?_)
          refine x_seq ?_
          refine wpIn_region_lit ?_
          refine x_run tab hk (k := 1) (lv := []) (ks := [4]) (e' := [(4, .int .i64 1)]) rfl trivial fun a hk => ?_
          refine wpListIn_nil ?_
          refine then_n ?_
          refine wpIn_ret ?_
          refine then_r ?_
          obtain rfl := Option.some.inj H
          exact x_retG hk (rs := [.tmp 4]) (vs := [.int .i64 1]) rfl ⟨rfl, trivial⟩ ⟨fun b_ => if b_ < w.heap.size then o b_ else (fun _ => 0) (o15 b_), rfl, hs.close0 o (fun _ => 0)⟩
      · rw [b19] at hk H
        replace H := bifT H
        refine x_if hk (b := true) rfl ?_
        refine (show Code.wpIn _ _ _ _ _ _ _ from ?_)
        refine x_seq ?_
        refine wpIn_region_lit ?_
        refine x_run tab hk (k := 1) (lv := []) (ks := [4]) (e' := [(4, .int .i64 (-1))]) rfl trivial fun a hk => ?_
        refine wpListIn_nil ?_
        refine then_n ?_
        refine wpIn_ret ?_
        refine then_r ?_
        obtain rfl := Option.some.inj H
        exact x_retG hk (rs := [.tmp 4]) (vs := [.int .i64 (-1)]) rfl ⟨rfl, trivial⟩ ⟨fun b_ => if b_ < w.heap.size then o b_ else (fun _ => 0) (o15 b_), rfl, hs.close0 o (fun _ => 0)⟩
    · rw [b18] at hk H
      replace H := bifT H
      refine x_if hk (b := true) rfl ?_
      refine (show Code.wpIn _ _ _ _ _ _ _ from ?_)
      refine x_seq ?_
      refine wpIn_region_lit ?_
      refine x_run tab hk (k := 1) (lv := []) (ks := [4]) (e' := [(4, .int .i64 1)]) rfl trivial fun a hk => ?_
      refine wpListIn_nil ?_
      refine then_n ?_
      refine wpIn_ret ?_
      refine then_r ?_
      obtain rfl := Option.some.inj H
      exact x_retG hk (rs := [.tmp 4]) (vs := [.int .i64 1]) rfl ⟨rfl, trivial⟩ ⟨fun b_ => if b_ < w.heap.size then o b_ else (fun _ => 0) (o15 b_), rfl, hs.close0 o (fun _ => 0)⟩
  · rw [b17] at hk H
    replace H := bifT H
    refine x_if hk (b := true) rfl ?_
    refine (show Code.wpIn _ _ _ _ _ _ _ from ?_)
    refine x_seq ?_
    refine x_seq ?_
    refine wpIn_region_lit ?_
    refine x_run tab hk (k := 1) (lv := []) (ks := [12]) (e' := [(12, .bool t12)]) rfl trivial fun a hk => ?_
    refine wpListIn_nil ?_
    refine then_n ?_
    cases b21 : t12
    · rw [b21] at hk H
      replace H := bifF H
      refine x_if hk (b := false) rfl ?_
      refine (show Code.wpIn _ _ _ _ _ _ _ from ?_)
      refine wpIn_skip ?_
      refine then_n ?_
      refine x_seq ?_
      refine wpIn_region_lit ?_
      refine x_run tab hk (k := 1) (lv := []) (ks := [4]) (e' := [(4, .int .i64 (-1))]) rfl trivial fun a hk => ?_
      refine wpListIn_nil ?_
      refine then_n ?_
      refine wpIn_ret ?_
      refine then_r ?_
      obtain rfl := Option.some.inj H
      exact x_retG hk (rs := [.tmp 4]) (vs := [.int .i64 (-1)]) rfl ⟨rfl, trivial⟩ ⟨fun b_ => if b_ < w.heap.size then o b_ else (fun _ => 0) (o15 b_), rfl, hs.close0 o (fun _ => 0)⟩
    · rw [b21] at hk H
      replace H := bifT H
      refine x_if hk (b := true) rfl ?_
      refine (show Code.wpIn _ _ _ _ _ _ _ from ?_)
      refine x_seq ?_
      refine wpIn_region_lit ?_
      refine x_run tab hk (k := 1) (lv := []) (ks := [4]) (e' := [(4, .int .i64 0)]) rfl trivial fun a hk => ?_
      refine wpListIn_nil ?_
      refine then_n ?_
      refine wpIn_ret ?_
      refine then_r ?_
      refine then_r ?_
      obtain rfl := Option.some.inj H
      exact x_retG hk (rs := [.tmp 4]) (vs := [.int .i64 0]) rfl ⟨rfl, trivial⟩ ⟨fun b_ => if b_ < w.heap.size then o b_ else (fun _ => 0) (o15 b_), rfl, hs.close0 o (fun _ => 0)⟩

/-! (*tidewrack/cache.Cache).Put$1 -/
theorem cache_Cache_Put_1_calls (p0 : Int) (p1 : Int) (bp2 : Nat) (bq2 : Nat) (Aq2_0 : Option Addr) (cq2_0 : Nat) (p2 : T118) (w : World) (o : Nat → Nat) (LF : Nat) (Lp2 : Nat) (hp2 : Ft (Bx bp2 57 [.pointer (some ⟨bq2, 0, none⟩)]) w o Lp2) (Lq2 : Nat) (hq2 : Ft (Bx bq2 119 [.int .i64 p2.most, .int .i64 p2.now, mv Aq2_0]) w o Lq2) (Lq2_0 : Nat) (hq2_0 : MpN dT129 true Aq2_0 p2.l w o Lq2_0 LF) (hcq2_0 : (p2.l).length ≤ cq2_0) (hd0 : ([LF] : List Nat).Nodup) (hd1 : Lp2 ∉ [LF]) (hd2 : Lq2 ∉ [LF]) (hd3 : Lq2_0 ∉ [LF]) (r : Int) (H : cache_Cache_Put_1 p0 p1 p2 = some r) :
    Calls Tryd.prog 52 #[.int .i64 p0, .int .i64 p1, .pointer (some ⟨bp2, 0, none⟩)] w (Ret fun v_ w' => ∃ o' : Nat → Nat, v_ = .int .i64 r ∧ St [] w o w' o') := by
  refine x_enter (vs := [.int .i64 p0, .int .i64 p1, .pointer (some ⟨bp2, 0, none⟩)]) Tryd.func52 rfl rfl rfl fun a hk => ?_
  obtain ⟨oi, hs0, h0, h1, hob, hoz, hoa⟩ := St.startM2 w o (m := 1) hd0 rfl
  have hs := hs0 []
  have f9500040 := h0 _ _ hd1 hp2
  have f9600040 := h0 _ _ hd2 hq2
  have f9700800 := hq2_0.conv (fun P_ => h0 P_ _ hd3) (fun _ h_ => h1 0 1 h_ rfl rfl)
  clear h0 h1 hs0
  rw [cache_Cache_Put_1] at H
  refine x_seq ?_
  refine wpIn_region_lit ?_
  refine x_run tab hk (k := 1) (lv := []) (ks := [0, 1, 2]) (e' := [(0, .int .i64 p0), (1, .int .i64 p1), (2, .pointer (some ⟨bp2, 0, none⟩))]) rfl trivial fun a hk => ?_
  refine wpListIn_nil ?_
  refine then_n ?_
  refine x_seq ?_
  obtain ⟨A19, c20, f21, f22, hc23⟩ := lkT129 f9700800 (P := Tryd.prog) tab (mt := 117) rfl rfl rfl rfl p0
  obtain ⟨A24, c25, f26, f27, hc28⟩ := lkT129 f9700800 (P := Tryd.prog) tab (mt := 117) rfl rfl rfl rfl p1
  obtain ⟨t32, hc33, H⟩ := bindS H
  refine xd_begin (o := oi) (fun W_ => (LookIs Tryd.prog 117 (mv Aq2_0) p0 (.agg #[.slice A19 ((M.get zT129 p2.l p0).l).length c20, .int .i64 ((M.get zT129 p2.l p0).at_)]) (M.has p2.l p0)) W_ ∧ (LookIs Tryd.prog 117 (mv Aq2_0) p1 (.agg #[.slice A24 ((M.get zT129 p2.l p1).l).length c25, .int .i64 ((M.get zT129 p2.l p1).at_)]) (M.has p2.l p1)) W_ ∧ (Bx bp2 57 [.pointer (some ⟨bq2, 0, none⟩)]) W_ ∧ (Bx bq2 119 [.int .i64 p2.most, .int .i64 p2.now, mv Aq2_0]) W_ ∧ True) mixed rfl rfl fun w43 st44 => ?_
  replace f21 := f21.st st44 (by decide)
  replace f22 := f22.st st44 (by decide)
  replace f26 := f26.st st44 (by decide)
  replace f27 := f27.st st44 (by decide)
  replace f9500040 := f9500040.st st44 (by decide)
  replace f9600040 := f9600040.st st44 (by decide)
  replace f9700800 := f9700800.st st44 (by decide)
  replace hs := hs.locQ st44 hob rfl
  refine xd_take tab hk (k := 2) (is := [0, 1, 2, 3, 4, 5, 6, 7, 8, 9, 10, 11, 12, 13]) (ls' := #[true, true, true, true, true, true, true, true, true, true, true, true, true, true, false, false]) (lv := [.pointer (some ⟨bq2, 0, none⟩), mv Aq2_0, .agg #[.slice A19 ((M.get zT129 p2.l p0).l).length c20, .int .i64 ((M.get zT129 p2.l p0).at_)], .pointer (some ⟨bq2, 0, none⟩), mv Aq2_0, .agg #[.slice A24 ((M.get zT129 p2.l p1).l).length c25, .int .i64 ((M.get zT129 p2.l p1).at_)]]) (ks := [12, 19]) (e' := [(12, .int .i64 ((M.get zT129 p2.l p0).at_)), (19, .int .i64 ((M.get zT129 p2.l p1).at_))]) (by kernel_rfl) rfl rfl (by kernel_rfl) (np_then np_body) ⟨f21.now, f26.now, f9500040.now, f9600040.now, trivial⟩ (fun W_ hS => ⟨(load1 tab rfl ((Bx.cell hS.2.2.1 0).trans rfl)), (load1 tab rfl ((Bx.cell hS.2.2.2.1 2).trans rfl)), (ask_look3 hS.1 rfl rfl), (load1 tab rfl ((Bx.cell hS.2.2.1 0).trans rfl)), (load1 tab rfl ((Bx.cell hS.2.2.2.1 2).trans rfl)), (ask_look3 hS.2.1 rfl rfl), trivial⟩) fun a hk => ?_
  refine xd_op hk (i := 14) (by kernel_rfl) rfl rfl ?_
  refine op_call hk ent_53 (vs := [.int .i64 ((M.get zT129 p2.l p0).at_), .int .i64 ((M.get zT129 p2.l p1).at_)]) rfl (cmp_Compare_calls ((M.get zT129 p2.l p0).at_) ((M.get zT129 p2.l p1).at_) _ oi    _ hc33) ?_
  rintro _ w48 ⟨o49, rfl, st50⟩
  replace f21 := f21.st st50 (by decide)
  replace f22 := f22.st st50 (by decide)
  replace f26 := f26.st st50 (by decide)
  replace f27 := f27.st st50 (by decide)
  replace f9500040 := f9500040.st st50 (by decide)
  replace f9600040 := f9600040.st st50 (by decide)
  replace f9700800 := f9700800.st st50 (by decide)
  replace hs := hs.locQ st50 hob rfl
  have hk := hk.put 20 (.int .i64 t32) rfl
  refine ⟨.inr ⟨f21.now, f26.now, f9500040.now, f9600040.now, trivial⟩, ?_⟩
  refine xd_take tab hk (k := 0) (is := [15]) (ls' := #[true, true, true, true, true, true, true, true, true, true, true, true, true, true, true, true]) (lv := []) (ks := [5]) (e' := [(5, .int .i64 t32)]) (by kernel_rfl) rfl rfl (by kernel_rfl) (np_then np_body) ⟨f21.now, f26.now, f9500040.now, f9600040.now, trivial⟩ (fun W_ hS => trivial) fun a hk => ?_
  refine xd_done (by kernel_rfl) ?_
  refine then_n ?_
  refine wpIn_ret ?_
  obtain rfl := Option.some.inj H
  exact x_retG hk (rs := [.tmp 5]) (vs := [.int .i64 t32]) rfl ⟨rfl, trivial⟩ ⟨cl w oi o [] (fun l_ => if l_ = 1 then LF else 0) o49, rfl, hs.closeF (Lm := []) (Sh := []) hoa rfl (fun l_ => if l_ = 1 then LF else 0)⟩

/-! slices.MinFunc[[]int,int] -/
theorem slices_MinFunc_of52_calls (K : Nat) (Ap0 : Option Addr) (cp0 : Nat) (p0 : List Int) (bp1_0 : Nat) (bq1_0 : Nat) (Aq1_0_0 : Option Addr) (cq1_0_0 : Nat) (p1_0 : T118) (w : World) (o : Nat → Nat) (LF : Nat) (Lp0 : Nat) (hp0 : Ft (RdC (encInt .i64) Ap0 p0) w o Lp0) (hcp0 : (p0).length ≤ cp0) (Lp1_0 : Nat) (hp1_0 : Ft (Bx bp1_0 57 [.pointer (some ⟨bq1_0, 0, none⟩)]) w o Lp1_0) (Lq1_0 : Nat) (hq1_0 : Ft (Bx bq1_0 119 [.int .i64 p1_0.most, .int .i64 p1_0.now, mv Aq1_0_0]) w o Lq1_0) (Lq1_0_0 : Nat) (hq1_0_0 : MpN dT129 true Aq1_0_0 p1_0.l w o Lq1_0_0 LF) (hcq1_0_0 : (p1_0.l).length ≤ cq1_0_0) (hd0 : ([LF] : List Nat).Nodup) (hd1 : Lp0 ∉ [LF]) (hd2 : Lp1_0 ∉ [LF]) (hd3 : Lq1_0 ∉ [LF]) (hd4 : Lq1_0_0 ∉ [LF]) (r : Int) (H : slices_MinFunc_of52 K p0 p1_0 = some r) :
    Calls Tryd.prog 49 #[.slice Ap0 (p0).length cp0, .func (.func 52) #[] #[.pointer (some ⟨bp1_0, 0, none⟩)]] w (Ret fun v_ w' => ∃ o' : Nat → Nat, v_ = .int .i64 r ∧ St [] w o w' o') := by
  refine x_enter (vs := [.slice Ap0 (p0).length cp0, .func (.func 52) #[] #[.pointer (some ⟨bp1_0, 0, none⟩)]]) Tryd.func49 rfl rfl rfl fun a hk => ?_
  obtain ⟨oi, hs0, h0, h1, hob, hoz, hoa⟩ := St.startM2 w o (m := 1) hd0 rfl
  have hs := hs0 []
  have f900000 := h0 _ _ hd1 hp0
  have f9500020 := h0 _ _ hd2 hp1_0
  have f9600020 := h0 _ _ hd3 hq1_0
  have f9700400 := hq1_0_0.conv (fun P_ => h0 P_ _ hd4) (fun _ h_ => h1 0 1 h_ rfl rfl)
  clear h0 h1 hs0
  rw [slices_MinFunc_of52] at H
  refine x_seq ?_
  refine wpIn_region_lit ?_
  refine x_run tab hk (k := 1) (lv := []) (ks := [0, 1]) (e' := [(0, .slice Ap0 (p0).length cp0), (1, .func (.func 52) #[] #[.pointer (some ⟨bp1_0, 0, none⟩)])]) rfl trivial fun a hk => ?_
  refine wpListIn_nil ?_
  refine then_n ?_
  refine x_mid (fun a_ w_ => ∃ o5 : Nat → Nat, Kn 33 a_ [(0, .slice Ap0 (p0).length cp0), (1, .func (.func 52) #[] #[.pointer (some ⟨bp1_0, 0, none⟩)])] ∧ St [] w oi w_ o5 ∧ Ft (RdC (encInt .i64) Ap0 p0) w_ o5 0 ∧ Ft (Bx bp1_0 57 [.pointer (some ⟨bq1_0, 0, none⟩)]) w_ o5 0 ∧ Ft (Bx bq1_0 119 [.int .i64 p1_0.most, .int .i64 p1_0.now, mv Aq1_0_0]) w_ o5 0 ∧ MpN dT129 true Aq1_0_0 p1_0.l w_ o5 0 1 ∧ slices_MinFunc_of52_j1 K p0 p1_0 = some r) ?_ ?_
  rotate_left
  · rintro a w6 ⟨o5, hk, hs, f900000, f9500020, f9600020, f9700400, H⟩
    rw [slices_MinFunc_of52_j1] at H
    refine x_seq ?_
    refine wpIn_region_lit ?_
    obtain ⟨q7, H⟩ := ifS H
    obtain ⟨ad8, hAad8⟩ := RdC.addr f900000.now q7
    have hk_C := hk
    have f900000_C := f900000
    have f9500020_C := f9500020
    have f9600020_C := f9600020
    have f9700400_C := f9700400
    subst hAad8
    have hk := hk_C
    clear hk_C
    have f900000 := f900000_C
    clear f900000_C
    have f9500020 := f9500020_C
    clear f9500020_C
    have f9600020 := f9600020_C
    clear f9600020_C
    have f9700400 := f9700400_C
    clear f9700400_C
    refine x_run tab hk (k := 4) (lv := [.int .i64 (rdD 0 p0 0)]) (ks := [0, 1, 5]) (e' := [(0, .slice (some ad8) (p0).length cp0), (1, .func (.func 52) #[] #[.pointer (some ⟨bp1_0, 0, none⟩)]), (5, .int .i64 (rdD 0 p0 0))]) rfl ⟨q7, (load1 tab rfl (RdC.at0 (E := (encInt .i64)) (d := 0) (i := (0 : Int)) f900000.now q7 rfl)), trivial⟩ fun a hk => ?_
    refine wpListIn_nil ?_
    refine then_n ?_
    refine x_mid (fun a_ w_ => ∃ o58 : Nat → Nat, ∃ x59 : Int, Kn 33 a_ [(5, .int .i64 x59)] ∧ St [] w oi w_ o58 ∧ slices_MinFunc_of52_j2 x59 = some r) ?_ ?_
    rotate_left
    · rintro a w60 ⟨o58, x59, hk, hs, H⟩
      rw [slices_MinFunc_of52_j2] at H
      refine x_seq ?_
      refine wpIn_region_lit ?_
      refine x_run tab hk (k := 2) (lv := []) (ks := [4]) (e' := [(4, .int .i64 x59)]) rfl trivial fun a hk => ?_
      refine wpListIn_nil ?_
      refine then_n ?_
      refine wpIn_ret ?_
      obtain rfl := Option.some.inj H
      exact x_retG hk (rs := [.tmp 4]) (vs := [.int .i64 x59]) rfl ⟨rfl, trivial⟩ ⟨cl w oi o [] (fun l_ => if l_ = 1 then LF else 0) o58, rfl, hs.closeF (Lm := []) (Sh := []) hoa rfl (fun l_ => if l_ = 1 then LF else 0)⟩
    refine x_seq ?_
    refine wpIn_region_lit ?_
    refine x_run tab hk (k := 1) (lv := []) (ks := [0, 1, 5, 6]) (e' := [(0, .slice (some ad8) (p0).length cp0), (1, .func (.func 52) #[] #[.pointer (some ⟨bp1_0, 0, none⟩)]), (5, .int .i64 (rdD 0 p0 0)), (6, .int .i64 1)]) rfl trivial fun a hk => ?_
    refine wpListIn_nil ?_
    refine then_n ?_
    refine wpIn_block ?_
    refine x_loop (fun j_ a_ w_ => ∃ o75 : Nat → Nat, ∃ x76 : Int, ∃ x77 : Int, Kn 33 a_ [(0, .slice (some ad8) (p0).length cp0), (1, .func (.func 52) #[] #[.pointer (some ⟨bp1_0, 0, none⟩)]), (5, .int .i64 x76), (6, .int .i64 x77)] ∧ St [] w oi w_ o75 ∧ Ft (RdC (encInt .i64) (some ad8) p0) w_ o75 0 ∧ Ft (Bx bp1_0 57 [.pointer (some ⟨bq1_0, 0, none⟩)]) w_ o75 0 ∧ Ft (Bx bq1_0 119 [.int .i64 p1_0.most, .int .i64 p1_0.now, mv Aq1_0_0]) w_ o75 0 ∧ MpN dT129 true Aq1_0_0 p1_0.l w_ o75 0 1 ∧ slices_MinFunc_of52_l3 p0 p1_0 j_ x76 x77 = some r) (k := K) ⟨o5, (rdD 0 p0 0), 1, (by exact Kn.pick (ks := [0, 1, 5, 6]) hk rfl), hs, f900000, f9500020, f9600020, f9700400, H⟩ (by rintro _ _ ⟨_, _, _, _, _, _, _, _, _, H_⟩; exact absurd (show (none : Option Int) = some r from H_) (by simp)) ?_
    rintro k90 a w89 ⟨o75, x76, x77, hk, hs, f900000, f9500020, f9600020, f9700400, H⟩
    rw [slices_MinFunc_of52_l3] at H
    obtain ⟨lp91, hlp92⟩ : ∃ lp_, lp_ = slices_MinFunc_of52_l3 p0 p1_0 k90 := ⟨_, rfl⟩
    rw [← hlp92] at H
    refine x_seq ?_
    refine x_seq ?_
    refine wpIn_region_lit ?_
    refine x_run tab hk (k := 4) (lv := []) (ks := [0, 1, 5, 6, 17]) (e' := [(0, .slice (some ad8) (p0).length cp0), (1, .func (.func 52) #[] #[.pointer (some ⟨bp1_0, 0, none⟩)]), (5, .int .i64 x76), (6, .int .i64 x77), (17, .bool (decide (x77 < ((p0).length : Int))))]) rfl trivial fun a hk => ?_
    refine wpListIn_nil ?_
    refine then_n ?_
    cases b93 : (decide (x77 < ((p0).length : Int)))
    · rw [b93] at hk H
      replace H := bifF H
      refine x_if hk (b := false) rfl ?_
      refine (show Code.wpIn _ _ _ _ _ _ _ from ?_)
      refine wpIn_exit ?_
      refine then_x ?_
      refine then_x ?_
      refine blk_x ?_
      refine then_n ?_
      exact ⟨o75, x76, (by exact Kn.pick (ks := [5]) hk rfl), hs, H⟩
    · rw [b93] at hk H
      replace H := bifT H
      refine x_if hk (b := true) rfl ?_
      refine (show Code.wpIn _ _ _ _ _ _ _ from ?_)
      refine wpIn_skip ?_
      refine then_n ?_
      refine x_seq ?_
      refine wpIn_block ?_
      refine x_seq ?_
      refine wpIn_region_lit ?_
      obtain ⟨q94, H⟩ := ifS H
      refine x_run tab hk (k := 6) (lv := [.int .i64 (rdD 0 p0 x77)]) (ks := [0, 1, 5, 6, 20, 24, 25]) (e' := [(0, .slice (some ad8) (p0).length cp0), (1, .func (.func 52) #[] #[.pointer (some ⟨bp1_0, 0, none⟩)]), (5, .int .i64 x76), (6, .int .i64 x77), (20, .func (.func 52) #[] #[.pointer (some ⟨bp1_0, 0, none⟩)]), (24, .int .i64 (rdD 0 p0 x77)), (25, .int .i64 x76)]) rfl ⟨q94, (load1 tab rfl (RdC.at0 (E := (encInt .i64)) (d := 0) (i := x77) f900000.now q94 rfl)), trivial⟩ fun a hk => ?_
      refine x_op hk rfl ?_
      obtain ⟨t98, hc99, H⟩ := bindS H
      refine op_callv hk ent_52 rfl (vs := [.int .i64 (rdD 0 p0 x77), .int .i64 x76]) rfl (cache_Cache_Put_1_calls (rdD 0 p0 x77) x76 bp1_0 bq1_0 Aq1_0_0 cq1_0_0 p1_0 _ o75 1 0 f9500020 0 f9600020 _ f9700400 hcq1_0_0 (by decide) (by decide) (by decide) (by decide)   _ hc99) ?_
      rintro _ w100 ⟨o101, rfl, st102⟩
      replace f900000 := f900000.st st102 (by decide)
      replace f9500020 := f9500020.st st102 (by decide)
      replace f9600020 := f9600020.st st102 (by decide)
      replace f9700400 := f9700400.st st102 (by decide)
      replace hs := hs.locQ st102 hob rfl
      have hk := hk.put 26 (.int .i64 t98) rfl
      refine x_run tab hk (k := 1) (lv := []) (ks := [0, 1, 5, 6, 27]) (e' := [(0, .slice (some ad8) (p0).length cp0), (1, .func (.func 52) #[] #[.pointer (some ⟨bp1_0, 0, none⟩)]), (5, .int .i64 x76), (6, .int .i64 x77), (27, .bool (decide (t98 < (0 : Int))))]) rfl trivial fun a hk => ?_
      refine wpListIn_nil ?_
      refine then_n ?_
      cases b103 : (decide (t98 < (0 : Int)))
      · rw [b103] at hk H
        replace H := bifF H
        refine x_if hk (b := false) rfl ?_
        refine (show Code.wpIn _ _ _ _ _ _ _ from ?_)
        refine wpIn_skip ?_
        refine blk_n ?_
        refine then_n ?_
        refine wpIn_region_lit ?_
        refine x_run tab hk (k := 3) (lv := []) (ks := [0, 1, 5, 6]) (e' := [(0, .slice (some ad8) (p0).length cp0), (1, .func (.func 52) #[] #[.pointer (some ⟨bp1_0, 0, none⟩)]), (5, .int .i64 x76), (6, .int .i64 (IntKind.wrap .i64 (x77 + 1)))]) rfl trivial fun a hk => ?_
        refine wpListIn_nil ?_
        refine then_n ?_
        exact ⟨k90, Nat.le_refl _, o101, x76, (IntKind.wrap .i64 (x77 + 1)), (by exact Kn.pick (ks := [0, 1, 5, 6]) hk rfl), hs, f900000, f9500020, f9600020, f9700400, (hlp92 ▸ H)⟩
      · rw [b103] at hk H
        replace H := bifT H
        refine x_if hk (b := true) rfl ?_
        refine (show Code.wpIn _ _ _ _ _ _ _ from ?_)
        refine wpIn_region_lit ?_
        refine x_run tab hk (k := 5) (lv := [.int .i64 (rdD 0 p0 x77)]) (ks := [0, 1, 5, 6]) (e' := [(0, .slice (some ad8) (p0).length cp0), (1, .func (.func 52) #[] #[.pointer (some ⟨bp1_0, 0, none⟩)]), (5, .int .i64 (rdD 0 p0 x77)), (6, .int .i64 x77)]) rfl ⟨q94, (load1 tab rfl (RdC.at0 (E := (encInt .i64)) (d := 0) (i := x77) f900000.now q94 rfl)), trivial⟩ fun a hk => ?_
        refine wpListIn_nil ?_
        refine blk_n ?_
        refine then_n ?_
        refine wpIn_region_lit ?_
        refine x_run tab hk (k := 3) (lv := []) (ks := [0, 1, 5, 6]) (e' := [(0, .slice (some ad8) (p0).length cp0), (1, .func (.func 52) #[] #[.pointer (some ⟨bp1_0, 0, none⟩)]), (5, .int .i64 (rdD 0 p0 x77)), (6, .int .i64 (IntKind.wrap .i64 (x77 + 1)))]) rfl trivial fun a hk => ?_
        refine wpListIn_nil ?_
        refine then_n ?_
        exact ⟨k90, Nat.le_refl _, o101, (rdD 0 p0 x77), (IntKind.wrap .i64 (x77 + 1)), (by exact Kn.pick (ks := [0, 1, 5, 6]) hk rfl), hs, f900000, f9500020, f9600020, f9700400, (hlp92 ▸ H)⟩
  refine x_seq ?_
  refine wpIn_region_lit ?_
  refine x_run tab hk (k := 3) (lv := []) (ks := [0, 1, 9]) (e' := [(0, .slice Ap0 (p0).length cp0), (1, .func (.func 52) #[] #[.pointer (some ⟨bp1_0, 0, none⟩)]), (9, .bool (decide (((p0).length : Int) < (1 : Int))))]) rfl trivial fun a hk => ?_
  refine wpListIn_nil ?_
  refine then_n ?_
  cases b104 : (decide (((p0).length : Int) < (1 : Int)))
  · rw [b104] at hk H
    replace H := bifF H
    refine x_if hk (b := false) rfl ?_
    refine (show Code.wpIn _ _ _ _ _ _ _ from ?_)
    refine wpIn_skip ?_
    refine then_n ?_
    exact ⟨oi, (by exact Kn.pick (ks := [0, 1]) hk rfl), hs, f900000, f9500020, f9600020, f9700400, H⟩
  · rw [b104] at hk H
    replace H := bifT H
    refine x_if hk (b := true) rfl ?_
    refine (show Code.wpIn _ _ _ _ _ _ _ from ?_)
    refine wpIn_region_lit ?_
    exact absurd H (by simp)

/-! (*tidewrack/cache.Cache).Put -/
theorem cache_Cache_Put_calls (K : Nat) (bp0 : Nat) (Ap0_0 : Option Addr) (cp0_0 : Nat) (p0 : T118) (p1 : Int) (Ap2 : Option Addr) (cp2 : Nat) (p2 : List T36) (w : World) (o : Nat → Nat) (LF : Nat) (Lp0 : Nat) (hp0 : Ft (Bx bp0 119 [.int .i64 p0.most, .int .i64 p0.now, mv Ap0_0]) w o Lp0) (Lp0_0 : Nat) (hp0_0 : MpN dT129 true Ap0_0 p0.l w o Lp0_0 LF) (hcp0_0 : (p0.l).length ≤ cp0_0) (Lp2 : Nat) (hp2 : Ft (RdC ET36 Ap2 p2) w o Lp2) (hcp2 : (p2).length ≤ cp2) (hd0 : ([LF, Lp0, Lp0_0] : List Nat).Nodup) (hd1 : Lp2 ∉ [LF, Lp0, Lp0_0]) (r : Int × Bool × T118) (H : cache_Cache_Put K p0 p1 p2 = some r) :
    Calls Tryd.prog 20 #[.pointer (some ⟨bp0, 0, none⟩), .int .i64 p1, .slice Ap2 (p2).length cp2] w (Ret fun v_ w' => ∃ o' : Nat → Nat, ∃ A0 : Option Addr, ∃ c0 : Nat, v_ = .tuple #[.int .i64 r.1, .bool r.2.1] ∧ St [Lp0, Lp0_0] w o w' o' ∧ Ft (Bx bp0 119 [.int .i64 r.2.2.most, .int .i64 r.2.2.now, mv A0]) w' o' Lp0 ∧ MpN dT129 true A0 r.2.2.l w' o' Lp0_0 LF ∧ (r.2.2.l).length ≤ c0) := by
  refine x_enter (vs := [.pointer (some ⟨bp0, 0, none⟩), .int .i64 p1, .slice Ap2 (p2).length cp2]) Tryd.func20 rfl rfl rfl fun a hk => ?_
  obtain ⟨oi, hs0, h0, h1, hob, hoz, hoa⟩ := St.startM2 w o (m := 3) hd0 rfl
  have hs := hs0 [2, 3]
  have f900000 := hp0_0.conv (fun _ h_ => h1 2 3 h_ rfl rfl) (fun _ h_ => h1 0 1 h_ rfl rfl)
  have f900019 := h1 1 2 hp0 rfl rfl
  have f900040 := h0 _ _ hd1 hp2
  clear h0 h1 hs0
  rw [cache_Cache_Put] at H
  refine x_seq ?_
  refine wpIn_region_lit ?_
  refine x_op hk rfl ?_
  refine op_box (o := oi) (t := 57) (v := .pointer (some ⟨bp0, 0, none⟩)) (cs := [.pointer (some ⟨bp0, 0, none⟩)]) hk rfl rfl 4 fun bx4 w1 o2 st3 f5 => ?_
  replace f900000 := f900000.st st3 (by decide)
  replace f900019 := f900019.st st3 (by decide)
  replace f900040 := f900040.st st3 (by decide)
  replace hs := hs.locQ st3 hob rfl
  have hk := hk.put 3 (.pointer (some ⟨bx4, 0, none⟩)) rfl
  refine x_run tab hk (k := 2) (lv := []) (ks := [1, 2, 3]) (e' := [(1, .int .i64 p1), (2, .slice Ap2 (p2).length cp2), (3, .pointer (some ⟨bx4, 0, none⟩))]) rfl trivial fun a hk => ?_
  refine wpListIn_nil ?_
  refine then_n ?_
  refine x_mid (fun a_ w_ => ∃ o21 : Nat → Nat, Kn 44 a_ [(1, .int .i64 p1), (2, .slice Ap2 (p2).length cp2), (3, .pointer (some ⟨bx4, 0, none⟩))] ∧ St [2, 3] w oi w_ o21 ∧ Ft (Bx bx4 57 [.pointer (some ⟨bp0, 0, none⟩)]) w_ o21 6 ∧ MpN dT129 true Ap0_0 p0.l w_ o21 3 1 ∧ Ft (Bx bp0 119 [.int .i64 p0.most, .int .i64 p0.now, mv Ap0_0]) w_ o21 2 ∧ Ft (RdC ET36 Ap2 p2) w_ o21 0 ∧ cache_Cache_Put_j1 K p0 p1 p2 = some r) ?_ ?_
  rotate_left
  · rintro a w22 ⟨o21, hk, hs, f5, f900000, f900019, f900040, H⟩
    rw [cache_Cache_Put_j1] at H
    refine x_seq ?_
    refine xd_begin (o := o21) (fun W_ => (Bx bx4 57 [.pointer (some ⟨bp0, 0, none⟩)]) W_ ∧ True) mixed rfl rfl fun w77 st78 => ?_
    replace f5 := f5.st st78 (by decide)
    replace f900000 := f900000.st st78 (by decide)
    replace f900019 := f900019.st st78 (by decide)
    replace f900040 := f900040.st st78 (by decide)
    replace hs := hs.locQ st78 hob rfl
    refine xd_take tab hk (k := 2) (is := [0, 1, 2]) (ls' := #[true, true, true, false, false]) (lv := [.pointer (some ⟨bp0, 0, none⟩)]) (ks := [3, 15, 16, 17]) (e' := [(3, .pointer (some ⟨bx4, 0, none⟩)), (15, .pointer (some ⟨bp0, 0, none⟩)), (16, .int .i64 p1), (17, .slice Ap2 (p2).length cp2)]) (by kernel_rfl) rfl rfl (by kernel_rfl) (np_then np_body) ⟨f5.now, trivial⟩ (fun W_ hS => ⟨(load1 tab rfl ((Bx.cell hS.1 0).trans rfl)), trivial⟩) fun a hk => ?_
    refine xd_op hk (i := 3) (by kernel_rfl) rfl rfl ?_
    obtain ⟨t82, hc83, H⟩ := bindS H
    refine op_call hk ent_47 (vs := [.slice Ap2 (p2).length cp2]) rfl (slices_Clone_calls Ap2 cp2 p2 _ o21 _ f900040 hcp2 9  _ hc83) ?_
    rintro _ w84 ⟨o85, A87, c88, rfl, st86, f89, hc90⟩
    replace f5 := f5.st st86 (by decide)
    replace f900000 := f900000.st st86 (by decide)
    replace f900019 := f900019.st st86 (by decide)
    replace f900040 := f900040.st st86 (by decide)
    replace hs := hs.locQ st86 hob rfl
    have hk := hk.put 18 (.slice A87 (t82).length c88) rfl
    refine ⟨.inr ⟨f5.now, trivial⟩, ?_⟩
    refine xd_op hk (i := 4) (by kernel_rfl) rfl rfl ?_
    obtain ⟨o94, hR95⟩ := relab_ex o85 (fun l_ => if l_ = 9 then 1 else l_)
    replace hs : St [2, 3] w oi w84 o94 := by rw [hR95]; exact (hs.relabM hob (fun l_ => if l_ = 9 then 1 else l_) (by decide))
    replace f5 : Ft (Bx bx4 57 [.pointer (some ⟨bp0, 0, none⟩)]) w84 o94 6 := by rw [hR95]; exact f5.relab (fun l_ => if l_ = 9 then 1 else l_) rfl
    replace f89 : Ft (Own ET36 37 (.slice A87 (t82).length c88) t82) w84 o94 1 := by rw [hR95]; exact f89.relab (fun l_ => if l_ = 9 then 1 else l_) rfl
    replace f900000 : MpN dT129 true Ap0_0 p0.l w84 o94 3 1 := by rw [hR95]; exact f900000.relab (fun l_ => if l_ = 9 then 1 else l_) rfl
    replace f900019 : Ft (Bx bp0 119 [.int .i64 p0.most, .int .i64 p0.now, mv Ap0_0]) w84 o94 2 := by rw [hR95]; exact f900019.relab (fun l_ => if l_ = 9 then 1 else l_) rfl
    replace f900040 : Ft (RdC ET36 Ap2 p2) w84 o94 0 := by rw [hR95]; exact f900040.relab (fun l_ => if l_ = 9 then 1 else l_) rfl
    obtain ⟨t96, hc97, H⟩ := bindS H
    refine op_call hk ent_48 (vs := [.pointer (some ⟨bp0, 0, none⟩), .int .i64 p1, .slice A87 (t82).length c88]) rfl (cache_Cache_touch_calls bp0 Ap0_0 cp0_0 p0 p1 A87 c88 t82 _ o94 1 2 f900019 3 f900000 hcp0_0 (f89.imp fun _ h_ => Own.rd h_) hc90 (by decide)   _ hc97) ?_
    rintro _ w98 ⟨o99, A102, c103, rfl, st100, f101, f104, hc105⟩
    replace f5 := f5.st st100 (by decide)
    replace f89 := f89.st st100 (by decide)
    replace f900040 := f900040.st st100 (by decide)
    replace hs := hs.locQ st100 hob rfl
    have hk := hk.put 19 (.tuple #[]) rfl
    refine ⟨.inr ⟨f5.now, trivial⟩, ?_⟩
    refine xd_done (by kernel_rfl) ?_
    refine then_n ?_
    refine x_seq ?_
    refine x_seq ?_
    have f107 := MpN.size f104
    refine xd_begin (o := o99) (fun W_ => (Bx bp0 119 [.int .i64 t96.most, .int .i64 t96.now, mv A102]) W_ ∧ (MSize A102 (t96.l).length) W_ ∧ (Bx bx4 57 [.pointer (some ⟨bp0, 0, none⟩)]) W_ ∧ True) mixed rfl rfl fun w108 st109 => ?_
    replace f101 := f101.st st109 (by decide)
    replace f104 := f104.st st109 (by decide)
    replace f107 := f107.st st109 (by decide)
    replace f5 := f5.st st109 (by decide)
    replace f89 := f89.st st109 (by decide)
    replace f900040 := f900040.st st109 (by decide)
    replace hs := hs.locQ st109 hob rfl
    refine xd_take tab hk (k := 0) (is := [0, 1, 2, 3, 4, 5, 6, 7, 8, 9]) (ls' := #[true, true, true, true, true, true, true, true, true, true]) (lv := [.pointer (some ⟨bp0, 0, none⟩), mv A102, .int .i64 ((t96.l).length : Int), .pointer (some ⟨bp0, 0, none⟩), .int .i64 t96.most]) (ks := [3, 29]) (e' := [(3, .pointer (some ⟨bx4, 0, none⟩)), (29, .bool (decide (((t96.l).length : Int) ≤ t96.most)))]) (by kernel_rfl) rfl rfl (by kernel_rfl) (np_then (np_then np_body)) ⟨f101.now, f107.now, f5.now, trivial⟩ (fun W_ hS => ⟨(load1 tab rfl ((Bx.cell hS.2.2.1 0).trans rfl)), (load1 tab rfl ((Bx.cell hS.1 2).trans rfl)), (ask_mlenS tab rfl hS.2.1 rfl), (load1 tab rfl ((Bx.cell hS.2.2.1 0).trans rfl)), (load1 tab rfl ((Bx.cell hS.1 0).trans rfl)), trivial⟩) fun a hk => ?_
    refine xd_done (by kernel_rfl) ?_
    refine then_n ?_
    cases b110 : (decide (((t96.l).length : Int) ≤ t96.most))
    · rw [b110] at hk H
      replace H := bifF H
      refine x_if hk (b := false) rfl ?_
      refine (show Code.wpIn _ _ _ _ _ _ _ from ?_)
      refine wpIn_skip ?_
      refine then_n ?_
      refine x_seq ?_
      refine wpIn_region_lit ?_
      refine x_run tab hk (k := 4) (lv := [.pointer (some ⟨bp0, 0, none⟩), mv A102]) (ks := [3, 33]) (e' := [(3, .pointer (some ⟨bx4, 0, none⟩)), (33, mv A102)]) rfl ⟨(load1 tab rfl ((Bx.cell f5.now 0).trans rfl)), (load1 tab rfl ((Bx.cell f101.now 2).trans rfl)), trivial⟩ fun a hk => ?_
      refine x_op hk rfl ?_
      obtain ⟨t114, hc115, H⟩ := bindS H
      refine op_call hk ent_51 (vs := [mv A102]) rfl (maps_Keys'_calls A102 c103 t96.l _ o99 1 _ f104 hc105 (by decide) (by decide) 10  _ hc115) ?_
      rintro _ w116 ⟨o117, bx119, rfl, st118, f120⟩
      replace f101 := f101.st st118 (by decide)
      replace f104 := f104.st st118 (by decide)
      replace f5 := f5.st st118 (by decide)
      replace hs := hs.locQ st118 hob rfl
      have hk := hk.put 34 (.func (.func 86) #[] #[.pointer (some ⟨bx119, 0, none⟩)]) rfl
      refine x_op hk rfl ?_
      obtain ⟨q124, H⟩ := ifS H
      refine op_call hk ent_50 (vs := [.func (.func 86) #[] #[.pointer (some ⟨bx119, 0, none⟩)]]) rfl (collect50_calls bx119 117 A102 t96.l _ o117 f120 f104 q124 11) ?_
      rintro _ w131 ⟨o132, A125, c126, ks127, rfl, st133, hp129, f128, hc130⟩
      replace H := ordP_at H hp129
      replace f101 := f101.st st133 (by decide)
      replace f104 := f104.st st133 (by decide)
      replace f120 := f120.st st133 (by decide)
      replace f5 := f5.st st133 (by decide)
      replace hs := hs.locQ st133 hob rfl
      have hk := hk.put 35 (.slice A125 (ks127).length c126) rfl
      refine x_run tab hk (k := 1) (lv := []) (ks := [3, 35, 36]) (e' := [(3, .pointer (some ⟨bx4, 0, none⟩)), (35, .slice A125 (ks127).length c126), (36, .func (.func 52) #[] #[.pointer (some ⟨bx4, 0, none⟩)])]) rfl trivial fun a hk => ?_
      refine x_op hk rfl ?_
      obtain ⟨t137, hc138, H⟩ := bindS H
      refine op_call hk ent_49 (vs := [.slice A125 (ks127).length c126, .func (.func 52) #[] #[.pointer (some ⟨bx4, 0, none⟩)]]) rfl (slices_MinFunc_of52_calls K A125 c126 ks127 bx4 bp0 A102 c103 t96 _ o132 1 _ (f128.imp fun _ h_ => Own.rd h_) hc130 6 f5 2 f101 _ f104 hc105 (by decide) (by decide) (by decide) (by decide) (by decide)   _ hc138) ?_
      rintro _ w139 ⟨o140, rfl, st141⟩
      replace f101 := f101.st st141 (by decide)
      replace f104 := f104.st st141 (by decide)
      replace f128 := f128.st st141 (by decide)
      replace f5 := f5.st st141 (by decide)
      replace hs := hs.locQ st141 hob rfl
      have hk := hk.put 37 (.int .i64 t137) rfl
      refine x_run tab hk (k := 1) (lv := []) (ks := [3, 8]) (e' := [(3, .pointer (some ⟨bx4, 0, none⟩)), (8, .int .i64 t137)]) rfl trivial fun a hk => ?_
      refine wpListIn_nil ?_
      refine then_n ?_
      refine x_seq ?_
      refine wpIn_region_lit ?_
      refine x_run tab hk (k := 5) (lv := [.pointer (some ⟨bp0, 0, none⟩), mv A102]) (ks := [8, 41, 42]) (e' := [(8, .int .i64 t137), (41, mv A102), (42, .int .i64 t137)]) rfl ⟨(load1 tab rfl ((Bx.cell f5.now 0).trans rfl)), (load1 tab rfl ((Bx.cell f101.now 2).trans rfl)), trivial⟩ fun a hk => ?_
      refine x_op hk rfl ?_
      refine op_mdelN tab hk (D := dT129) (ag := true) (k := t137) rfl rfl rfl rfl f104 (by decide) fun w142 st144 f104_ => ?_
      replace f101 := f101.st st144 (by decide)
      replace hs := hs.locQ st144 hob rfl
      replace f104 := f104_
      refine wpListIn_nil ?_
      refine then_n ?_
      refine x_seq ?_
      refine wpIn_region_lit ?_
      refine x_run tab hk (k := 3) (lv := []) (ks := [6, 7]) (e' := [(6, .int .i64 t137), (7, .bool true)]) rfl trivial fun a hk => ?_
      refine wpListIn_nil ?_
      refine then_n ?_
      refine wpIn_ret ?_
      obtain rfl := Option.some.inj H
      exact x_retG hk (rs := [.tmp 6, .tmp 7]) (vs := [.int .i64 t137, .bool true]) rfl ⟨rfl, rfl, trivial⟩ ⟨cl w oi o [2, 3] (fun l_ => if l_ = 1 then LF else if l_ = 2 then Lp0 else if l_ = 3 then Lp0_0 else 0) o140, A102, ((M.del t96.l t137)).length, rfl, hs.closeF (Lm := [Lp0, Lp0_0]) (Sh := []) hoa rfl (fun l_ => if l_ = 1 then LF else if l_ = 2 then Lp0 else if l_ = 3 then Lp0_0 else 0), hs.closeM_ft (o := o) (ρ := fun l_ => if l_ = 1 then LF else if l_ = 2 then Lp0 else if l_ = 3 then Lp0_0 else 0) f101 (lab_at hoa (i := 1) rfl) rfl, f104.conv (fun _ h_ => hs.closeM_ft (o := o) (ρ := fun l_ => if l_ = 1 then LF else if l_ = 2 then Lp0 else if l_ = 3 then Lp0_0 else 0) h_ (lab_at hoa (i := 2) rfl) rfl) (fun _ h_ => hs.closeM_ft (o := o) (ρ := fun l_ => if l_ = 1 then LF else if l_ = 2 then Lp0 else if l_ = 3 then Lp0_0 else 0) h_ (lab_at hoa (i := 0) rfl) rfl), (Nat.le_refl _)⟩
    · rw [b110] at hk H
      replace H := bifT H
      refine x_if hk (b := true) rfl ?_
      refine (show Code.wpIn _ _ _ _ _ _ _ from ?_)
      refine x_seq ?_
      refine wpIn_region_lit ?_
      refine x_run tab hk (k := 2) (lv := []) (ks := [6, 7]) (e' := [(6, .int .i64 0), (7, .bool false)]) rfl trivial fun a hk => ?_
      refine wpListIn_nil ?_
      refine then_n ?_
      refine wpIn_ret ?_
      refine then_r ?_
      obtain rfl := Option.some.inj H
      exact x_retG hk (rs := [.tmp 6, .tmp 7]) (vs := [.int .i64 0, .bool false]) rfl ⟨rfl, rfl, trivial⟩ ⟨cl w oi o [2, 3] (fun l_ => if l_ = 1 then LF else if l_ = 2 then Lp0 else if l_ = 3 then Lp0_0 else 0) o99, A102, c103, rfl, hs.closeF (Lm := [Lp0, Lp0_0]) (Sh := []) hoa rfl (fun l_ => if l_ = 1 then LF else if l_ = 2 then Lp0 else if l_ = 3 then Lp0_0 else 0), hs.closeM_ft (o := o) (ρ := fun l_ => if l_ = 1 then LF else if l_ = 2 then Lp0 else if l_ = 3 then Lp0_0 else 0) f101 (lab_at hoa (i := 1) rfl) rfl, f104.conv (fun _ h_ => hs.closeM_ft (o := o) (ρ := fun l_ => if l_ = 1 then LF else if l_ = 2 then Lp0 else if l_ = 3 then Lp0_0 else 0) h_ (lab_at hoa (i := 2) rfl) rfl) (fun _ h_ => hs.closeM_ft (o := o) (ρ := fun l_ => if l_ = 1 then LF else if l_ = 2 then Lp0 else if l_ = 3 then Lp0_0 else 0) h_ (lab_at hoa (i := 0) rfl) rfl), hc105⟩
  refine x_mid (fun a_ w_ => ∃ o152 : Nat → Nat, ∃ x153 : Bool, Kn 44 a_ [(1, .int .i64 p1), (2, .slice Ap2 (p2).length cp2), (3, .pointer (some ⟨bx4, 0, none⟩)), (14, .bool x153)] ∧ St [2, 3] w oi w_ o152 ∧ Ft (Bx bx4 57 [.pointer (some ⟨bp0, 0, none⟩)]) w_ o152 12 ∧ MpN dT129 true Ap0_0 p0.l w_ o152 3 1 ∧ Ft (Bx bp0 119 [.int .i64 p0.most, .int .i64 p0.now, mv Ap0_0]) w_ o152 2 ∧ Ft (RdC ET36 Ap2 p2) w_ o152 0 ∧ cache_Cache_Put_j2 K p0 p1 p2 x153 = some r) ?_ ?_
  rotate_left
  · rintro a w154 ⟨o152, x153, hk, hs, f5, f900000, f900019, f900040, H⟩
    rw [cache_Cache_Put_j2] at H
    cases b155 : x153
    · rw [b155] at hk H
      replace H := bifF H
      refine x_if hk (b := false) rfl ?_
      refine (show Code.wpIn _ _ _ _ _ _ _ from ?_)
      refine wpIn_skip ?_
      refine then_n ?_
      exact ⟨(fun b_ => (fun l_ => if l_ = 12 then 6 else l_) (o152 b_)), (by exact Kn.pick (ks := [1, 2, 3]) hk rfl), (hs.relabM hob (fun l_ => if l_ = 12 then 6 else l_) (by decide)), (f5.relab (fun l_ => if l_ = 12 then 6 else l_) rfl), (f900000.relab (fun l_ => if l_ = 12 then 6 else l_) rfl), (f900019.relab (fun l_ => if l_ = 12 then 6 else l_) rfl), (f900040.relab (fun l_ => if l_ = 12 then 6 else l_) rfl), H⟩
    · rw [b155] at hk H
      replace H := bifT H
      refine x_if hk (b := true) rfl ?_
      refine (show Code.wpIn _ _ _ _ _ _ _ from ?_)
      refine x_seq ?_
      refine wpIn_region_lit ?_
      refine x_run tab hk (k := 2) (lv := []) (ks := [6, 7]) (e' := [(6, .int .i64 0), (7, .bool false)]) rfl trivial fun a hk => ?_
      refine wpListIn_nil ?_
      refine then_n ?_
      refine wpIn_ret ?_
      refine then_r ?_
      obtain rfl := Option.some.inj H
      exact x_retG hk (rs := [.tmp 6, .tmp 7]) (vs := [.int .i64 0, .bool false]) rfl ⟨rfl, rfl, trivial⟩ ⟨cl w oi o [2, 3] (fun l_ => if l_ = 1 then LF else if l_ = 2 then Lp0 else if l_ = 3 then Lp0_0 else 0) o152, Ap0_0, cp0_0, rfl, hs.closeF (Lm := [Lp0, Lp0_0]) (Sh := []) hoa rfl (fun l_ => if l_ = 1 then LF else if l_ = 2 then Lp0 else if l_ = 3 then Lp0_0 else 0), hs.closeM_ft (o := o) (ρ := fun l_ => if l_ = 1 then LF else if l_ = 2 then Lp0 else if l_ = 3 then Lp0_0 else 0) f900019 (lab_at hoa (i := 1) rfl) rfl, f900000.conv (fun _ h_ => hs.closeM_ft (o := o) (ρ := fun l_ => if l_ = 1 then LF else if l_ = 2 then Lp0 else if l_ = 3 then Lp0_0 else 0) h_ (lab_at hoa (i := 2) rfl) rfl) (fun _ h_ => hs.closeM_ft (o := o) (ρ := fun l_ => if l_ = 1 then LF else if l_ = 2 then Lp0 else if l_ = 3 then Lp0_0 else 0) h_ (lab_at hoa (i := 0) rfl) rfl), hcp0_0⟩
  refine wpIn_region_lit ?_
  refine x_run tab hk (k := 3) (lv := []) (ks := [1, 2, 3, 11]) (e' := [(1, .int .i64 p1), (2, .slice Ap2 (p2).length cp2), (3, .pointer (some ⟨bx4, 0, none⟩)), (11, .bool (decide (p1 < (0 : Int))))]) rfl trivial fun a hk => ?_
  cases b156 : (decide (p1 < (0 : Int)))
  · rw [b156] at hk H
    replace H := bifF H
    refine x_run tab hk (k := 3) (lv := []) (ks := [1, 2, 3, 14]) (e' := [(1, .int .i64 p1), (2, .slice Ap2 (p2).length cp2), (3, .pointer (some ⟨bx4, 0, none⟩)), (14, .bool (decide (p1 > (1152921504606846976 : Int))))]) rfl trivial fun a hk => ?_
    refine wpListIn_nil ?_
    refine then_n ?_
    exact ⟨(fun b_ => (fun l_ => if l_ = 4 then 12 else l_) (o2 b_)), (decide (p1 > (1152921504606846976 : Int))), (by exact Kn.pick (ks := [1, 2, 3, 14]) hk rfl), (hs.relabM hob (fun l_ => if l_ = 4 then 12 else l_) (by decide)), (f5.relab (fun l_ => if l_ = 4 then 12 else l_) rfl), (f900000.relab (fun l_ => if l_ = 4 then 12 else l_) rfl), (f900019.relab (fun l_ => if l_ = 4 then 12 else l_) rfl), (f900040.relab (fun l_ => if l_ = 4 then 12 else l_) rfl), H⟩
  · rw [b156] at hk H
    replace H := bifT H
    refine x_run tab hk (k := 3) (lv := []) (ks := [1, 2, 3, 14]) (e' := [(1, .int .i64 p1), (2, .slice Ap2 (p2).length cp2), (3, .pointer (some ⟨bx4, 0, none⟩)), (14, .bool true)]) rfl trivial fun a hk => ?_
    refine wpListIn_nil ?_
    refine then_n ?_
    exact ⟨(fun b_ => (fun l_ => if l_ = 4 then 12 else l_) (o2 b_)), true, (by exact Kn.pick (ks := [1, 2, 3, 14]) hk rfl), (hs.relabM hob (fun l_ => if l_ = 4 then 12 else l_) (by decide)), (f5.relab (fun l_ => if l_ = 4 then 12 else l_) rfl), (f900000.relab (fun l_ => if l_ = 4 then 12 else l_) rfl), (f900019.relab (fun l_ => if l_ = 4 then 12 else l_) rfl), (f900040.relab (fun l_ => if l_ = 4 then 12 else l_) rfl), H⟩

/-! (tidewrack/spans.Span).fit -/
theorem spans_Span_fit_calls (p0 : T67) (w : World) (o : Nat → Nat)   (r : T67) (H : spans_Span_fit p0 = some r) :
    Calls Tryd.prog 54 #[.agg #[.int .i64 p0.From, .int .i64 p0.To]] w (Ret fun v_ w' => ∃ o' : Nat → Nat, v_ = .agg #[.int .i64 r.From, .int .i64 r.To] ∧ St [] w o w' o') := by
  refine x_enter (vs := [.agg #[.int .i64 p0.From, .int .i64 p0.To]]) Tryd.func54 rfl rfl rfl fun a hk => ?_
  obtain ⟨o0, hs, h0⟩ := St.start w o
  clear h0
  rw [spans_Span_fit] at H
  refine x_seq ?_
  refine wpIn_region_lit ?_
  refine x_op hk rfl ?_
  refine op_box (o := o0) (t := 68) (v := .agg #[.int .i64 p0.From, .int .i64 p0.To]) (cs := [.int .i64 p0.From, .int .i64 p0.To]) hk rfl rfl 1 fun bx4 w1 o2 st3 f5 => ?_
  replace hs := hs.loc0 st3 (by decide)
  have hk := hk.put 1 (.pointer (some ⟨bx4, 0, none⟩)) rfl
  refine x_op hk rfl ?_
  refine op_alloc (o := o2) tab (t := 68) (cs := [.int .i64 0, .int .i64 0]) rfl rfl 2 fun bx9 w6 o7 st8 f10 => ?_
  replace f5 := f5.st st8 (by decide)
  replace hs := hs.loc0 st8 (by decide)
  have hk := hk.put 2 (.pointer (some ⟨bx9, 0, none⟩)) rfl
  refine wpListIn_nil ?_
  refine then_n ?_
  refine x_seq ?_
  refine wpIn_region_lit ?_
  refine x_run tab hk (k := 9) (lv := [.int .i64 p0.From, .int .i64 p0.To]) (ks := [2, 11]) (e' := [(2, .pointer (some ⟨bx9, 0, none⟩)), (11, .agg #[.int .i64 (mxI (-1152921504606846976) (mnI p0.From 1152921504606846976)), .int .i64 (mxI (-1152921504606846976) (mnI p0.To 1152921504606846976))])]) rfl ⟨(load1 tab rfl ((Bx.cell f5.now 0).trans rfl)), (load1 tab rfl ((Bx.cell f5.now 1).trans rfl)), trivial⟩ fun a hk => ?_
  refine x_op hk rfl ?_
  refine op_store tab hk (t := 68) (v := .agg #[.int .i64 (mxI (-1152921504606846976) (mnI p0.From 1152921504606846976)), .int .i64 (mxI (-1152921504606846976) (mnI p0.To 1152921504606846976))]) (b := bx9) (k := 0) (cs' := [.int .i64 (mxI (-1152921504606846976) (mnI p0.From 1152921504606846976)), .int .i64 (mxI (-1152921504606846976) (mnI p0.To 1152921504606846976))]) rfl rfl rfl rfl rfl rfl f10 rfl rfl fun w11 o12 st13 f10_ => ?_
  replace hs := hs.loc0 st13 (by decide)
  replace f10 := f10_
  refine wpListIn_nil ?_
  refine then_n ?_
  refine wpIn_ret ?_
  obtain rfl := Option.some.inj H
  exact x_retG hk (rs := [.cell 2 68]) (vs := [.agg #[.int .i64 (mxI (-1152921504606846976) (mnI p0.From 1152921504606846976)), .int .i64 (mxI (-1152921504606846976) (mnI p0.To 1152921504606846976))]]) rfl ⟨⟨_, rfl, load_box tab rfl rfl f10.now (k := 0) rfl rfl⟩, trivial⟩ ⟨fun b_ => if b_ < w.heap.size then o b_ else (fun _ => 0) (o12 b_), rfl, hs.close0 o (fun _ => 0)⟩

/-! (tidewrack/spans.Span).empty -/
theorem spans_Span_empty_calls (p0 : T67) (w : World) (o : Nat → Nat)   (r : Bool) (H : spans_Span_empty p0 = some r) :
    Calls Tryd.prog 55 #[.agg #[.int .i64 p0.From, .int .i64 p0.To]] w (Ret fun v_ w' => ∃ o' : Nat → Nat, v_ = .bool r ∧ St [] w o w' o') := by
  refine x_enter (vs := [.agg #[.int .i64 p0.From, .int .i64 p0.To]]) Tryd.func55 rfl rfl rfl fun a hk => ?_
  obtain ⟨o0, hs, h0⟩ := St.start w o
  clear h0
  rw [spans_Span_empty] at H
  refine x_seq ?_
  refine wpIn_region_lit ?_
  refine x_op hk rfl ?_
  refine op_box (o := o0) (t := 68) (v := .agg #[.int .i64 p0.From, .int .i64 p0.To]) (cs := [.int .i64 p0.From, .int .i64 p0.To]) hk rfl rfl 1 fun bx4 w1 o2 st3 f5 => ?_
  replace hs := hs.loc0 st3 (by decide)
  have hk := hk.put 1 (.pointer (some ⟨bx4, 0, none⟩)) rfl
  refine x_run tab hk (k := 1) (lv := []) (ks := [1]) (e' := [(1, .pointer (some ⟨bx4, 0, none⟩))]) rfl trivial fun a hk => ?_
  refine wpListIn_nil ?_
  refine then_n ?_
  refine x_seq ?_
  refine wpIn_region_lit ?_
  refine x_run tab hk (k := 6) (lv := [.int .i64 p0.To, .int .i64 p0.From]) (ks := [2]) (e' := [(2, .bool (decide (p0.To ≤ p0.From)))]) rfl ⟨(load1 tab rfl ((Bx.cell f5.now 1).trans rfl)), (load1 tab rfl ((Bx.cell f5.now 0).trans rfl)), trivial⟩ fun a hk => ?_
  refine wpListIn_nil ?_
  refine then_n ?_
  refine wpIn_ret ?_
  obtain rfl := Option.some.inj H
  exact x_retG hk (rs := [.tmp 2]) (vs := [.bool (decide (p0.To ≤ p0.From))]) rfl ⟨rfl, trivial⟩ ⟨fun b_ => if b_ < w.heap.size then o b_ else (fun _ => 0) (o2 b_), rfl, hs.close0 o (fun _ => 0)⟩

/-! slices.Grow[[]tidewrack/spans.Span,tidewrack/spans.Span] -/
theorem slices_Grow_calls (p1 : Int) (w : World) (o : Nat → Nat)   (R0 : Nat) (r : List T67) (H : slices_Grow p1 = some r) :
    Calls Tryd.prog 88 #[.slice none 0 0, .int .i64 p1] w (Ret fun v_ w' => ∃ o' : Nat → Nat, ∃ A0 : Option Addr, ∃ c0 : Nat, v_ = .slice A0 (r).length c0 ∧ St [] w o w' o' ∧ Ft (Own ET67 68 (.slice A0 (r).length c0) r) w' o' R0 ∧ (r).length ≤ c0) := by
  refine x_enter (vs := [.slice none 0 0, .int .i64 p1]) Tryd.func88 rfl rfl rfl fun a hk => ?_
  obtain ⟨o0, hs, h0⟩ := St.start w o
  clear h0
  rw [slices_Grow] at H
  refine x_seq ?_
  refine wpIn_region_lit ?_
  refine x_run tab hk (k := 1) (lv := []) (ks := [0, 1]) (e' := [(0, .slice none 0 0), (1, .int .i64 p1)]) rfl trivial fun a hk => ?_
  refine wpListIn_nil ?_
  refine then_n ?_
  refine x_mid (fun a_ w_ => ∃ o5 : Nat → Nat, Kn 27 a_ [(0, .slice none 0 0), (1, .int .i64 p1)] ∧ St [] w (fun _ => 0) w_ o5 ∧ slices_Grow_j1 p1 = some r) ?_ ?_
  rotate_left
  · rintro a w6 ⟨o5, hk, hs, H⟩
    rw [slices_Grow_j1] at H
    refine x_seq ?_
    refine x_seq ?_
    refine wpIn_region_lit ?_
    refine x_run tab hk (k := 8) (lv := []) (ks := [0, 1]) (e' := [(0, .slice none 0 0), (1, .int .i64 (IntKind.wrap .i64 (p1 - (IntKind.wrap .i64 (0 - ((([] : List T67)).length : Int))))))]) rfl trivial fun a hk => ?_
    refine wpListIn_nil ?_
    refine then_n ?_
    refine x_seq ?_
    refine wpIn_region_lit ?_
    refine x_run tab hk (k := 2) (lv := []) (ks := [0, 1, 16]) (e' := [(0, .slice none 0 0), (1, .int .i64 (IntKind.wrap .i64 (p1 - (IntKind.wrap .i64 (0 - ((([] : List T67)).length : Int)))))), (16, .bool (decide ((IntKind.wrap .i64 (p1 - (IntKind.wrap .i64 (0 - ((([] : List T67)).length : Int))))) > (0 : Int))))]) rfl trivial fun a hk => ?_
    refine wpListIn_nil ?_
    refine then_n ?_
    cases b7 : (decide ((IntKind.wrap .i64 (p1 - (IntKind.wrap .i64 (0 - ((([] : List T67)).length : Int))))) > (0 : Int)))
    · rw [b7] at hk H
      replace H := bifF H
      refine x_if hk (b := false) rfl ?_
      refine (show Code.wpIn _ _ _ _ _ _ _ from ?_)
      refine wpIn_skip ?_
      refine then_n ?_
      refine x_seq ?_
      refine wpIn_region_lit ?_
      refine x_run tab hk (k := 2) (lv := []) (ks := [4]) (e' := [(4, .slice none 0 0)]) rfl trivial fun a hk => ?_
      refine wpListIn_nil ?_
      refine then_n ?_
      refine wpIn_ret ?_
      obtain rfl := Option.some.inj H
      exact x_retG hk (rs := [.tmp 4]) (vs := [.slice none 0 0]) rfl ⟨rfl, trivial⟩ ⟨fun b_ => if b_ < w.heap.size then o b_ else (fun _ => 0) (o5 b_), none, 0, rfl, hs.close0 o (fun _ => 0), (Ft.of_all (fun _ => Own.nil _ _ _) _ _ _), (by simp)⟩
    · rw [b7] at hk H
      replace H := bifT H
      refine x_if hk (b := true) rfl ?_
      refine (show Code.wpIn _ _ _ _ _ _ _ from ?_)
      refine wpIn_region_lit ?_
      refine x_run tab hk (k := 5) (lv := [.slice none 0 0]) (ks := [0, 20, 21]) (e' := [(0, .slice none 0 0), (20, .slice none 0 0), (21, .int .i64 (IntKind.wrap .i64 (p1 - (IntKind.wrap .i64 (0 - ((([] : List T67)).length : Int))))))]) rfl ⟨(ask_take0 tab rfl rfl rfl rfl), trivial⟩ fun a hk => ?_
      refine x_op hk rfl ?_
      obtain ⟨q11, H⟩ := ifS H
      obtain ⟨q12, H⟩ := ifS H
      refine op_appendZ (o := o5) ET67 tab hk rfl rfl rfl rfl rfl rfl rfl rfl q11 q12 1 fun A13 c14 w8 o9 st10 f15 => ?_
      replace hs := hs.loc0 st10 (by decide)
      have hk := hk.put 22 (.slice A13 (Int.toNat (IntKind.wrap .i64 (p1 - (IntKind.wrap .i64 (0 - ((([] : List T67)).length : Int)))))) c14) rfl
      refine x_run tab hk (k := 4) (lv := [.slice A13 (([] : List T67)).length c14]) (ks := [0]) (e' := [(0, .slice A13 (([] : List T67)).length c14)]) rfl ⟨(ask_take0 tab rfl rfl rfl rfl), trivial⟩ fun a hk => ?_
      refine wpListIn_nil ?_
      refine then_n ?_
      refine x_seq ?_
      refine wpIn_region_lit ?_
      refine x_run tab hk (k := 2) (lv := []) (ks := [4]) (e' := [(4, .slice A13 (([] : List T67)).length c14)]) rfl trivial fun a hk => ?_
      refine wpListIn_nil ?_
      refine then_n ?_
      refine wpIn_ret ?_
      obtain rfl := Option.some.inj H
      exact x_retG hk (rs := [.tmp 4]) (vs := [.slice A13 (([] : List T67)).length c14]) rfl ⟨rfl, trivial⟩ ⟨fun b_ => if b_ < w.heap.size then o b_ else (fun _ => R0) (o9 b_), A13, c14, rfl, hs.close0 o (fun _ => R0), hs.close_ft (o := o) (ρ := fun _ => R0) f15 (by decide) rfl, (Nat.zero_le _)⟩
  refine x_seq ?_
  refine wpIn_region_lit ?_
  refine x_run tab hk (k := 2) (lv := []) (ks := [0, 1, 6]) (e' := [(0, .slice none 0 0), (1, .int .i64 p1), (6, .bool (decide (p1 < (0 : Int))))]) rfl trivial fun a hk => ?_
  refine wpListIn_nil ?_
  refine then_n ?_
  cases b16 : (decide (p1 < (0 : Int)))
  · rw [b16] at hk H
    replace H := bifF H
    refine x_if hk (b := false) rfl ?_
    refine (show Code.wpIn _ _ _ _ _ _ _ from ?_)
    refine wpIn_skip ?_
    refine then_n ?_
    exact ⟨o0, (by exact Kn.pick (ks := [0, 1]) hk rfl), hs, H⟩
  · rw [b16] at hk H
    replace H := bifT H
    refine x_if hk (b := true) rfl ?_
    refine (show Code.wpIn _ _ _ _ _ _ _ from ?_)
    refine wpIn_region_lit ?_
    exact absurd H (by simp)

/-! slices.Concat[[]tidewrack/spans.Span,tidewrack/spans.Span] -/
theorem slices_Concat_calls (K : Nat) (Ap0 : Option Addr) (cp0 : Nat) (p0 : List (List T67)) (w : World) (o : Nat → Nat) (LF : Nat) (Lp0 : Nat) (hp0 : NRd (dRows ET67) Ap0 p0 w o Lp0 LF) (hcp0 : (p0).length ≤ cp0) (hd0 : ([LF] : List Nat).Nodup) (hd1 : Lp0 ∉ [LF]) (R0 : Nat) (r : List T67) (H : slices_Concat K p0 = some r) :
    Calls Tryd.prog 56 #[.slice Ap0 (p0).length cp0] w (Ret fun v_ w' => ∃ o' : Nat → Nat, ∃ A0 : Option Addr, ∃ c0 : Nat, v_ = .slice A0 (r).length c0 ∧ St [] w o w' o' ∧ Ft (Own ET67 68 (.slice A0 (r).length c0) r) w' o' R0 ∧ (r).length ≤ c0) := by
  refine x_enter (vs := [.slice Ap0 (p0).length cp0]) Tryd.func56 rfl rfl rfl fun a hk => ?_
  obtain ⟨oi, hs0, h0, h1, hob, hoz, hoa⟩ := St.startM2 w o (m := 1) hd0 rfl
  have hs := hs0 []
  have f900000 := hp0.conv (fun P_ => h0 P_ _ hd1) (fun _ h_ => h1 0 1 h_ rfl rfl)
  clear h0 h1 hs0
  rw [slices_Concat] at H
  refine x_seq ?_
  refine wpIn_region_lit ?_
  refine x_run tab hk (k := 1) (lv := []) (ks := [0]) (e' := [(0, .slice Ap0 (p0).length cp0)]) rfl trivial fun a hk => ?_
  refine wpListIn_nil ?_
  refine then_n ?_
  refine x_seq ?_
  refine wpIn_region_lit ?_
  refine x_run tab hk (k := 1) (lv := []) (ks := [0, 3]) (e' := [(0, .slice Ap0 (p0).length cp0), (3, .int .i64 0)]) rfl trivial fun a hk => ?_
  refine wpListIn_nil ?_
  refine then_n ?_
  refine x_mid (fun a_ w_ => ∃ o44 : Nat → Nat, ∃ x45 : Int, Kn 36 a_ [(0, .slice Ap0 (p0).length cp0), (3, .int .i64 x45)] ∧ St [] w oi w_ o44 ∧ NRd (dRows ET67) Ap0 p0 w_ o44 0 1 ∧ slices_Concat_j1 K p0 x45 = some r) ?_ ?_
  rotate_left
  · rintro a w46 ⟨o44, x45, hk, hs, f900000, H⟩
    rw [slices_Concat_j1] at H
    refine x_seq ?_
    refine wpIn_region_lit ?_
    refine x_run tab hk (k := 1) (lv := []) (ks := [0, 23]) (e' := [(0, .slice Ap0 (p0).length cp0), (23, .int .i64 x45)]) rfl trivial fun a hk => ?_
    refine x_op hk rfl ?_
    obtain ⟨t50, hc51, H⟩ := bindS H
    refine op_call hk ent_88 (vs := [.slice none 0 0, .int .i64 x45]) rfl (slices_Grow_calls x45 _ o44  2  _ hc51) ?_
    rintro _ w52 ⟨o53, A55, c56, rfl, st54, f57, hc58⟩
    replace f900000 := f900000.st st54 (by decide)
    replace hs := hs.locQ st54 hob rfl
    have hk := hk.put 24 (.slice A55 (t50).length c56) rfl
    refine x_run tab hk (k := 1) (lv := []) (ks := [0, 6]) (e' := [(0, .slice Ap0 (p0).length cp0), (6, .slice A55 (t50).length c56)]) rfl trivial fun a hk => ?_
    refine wpListIn_nil ?_
    refine then_n ?_
    refine x_mid (fun a_ w_ => ∃ o131 : Nat → Nat, ∃ A132 : Option Addr, ∃ c133 : Nat, ∃ l134 : List T67, Kn 36 a_ [(6, .slice A132 (l134).length c133)] ∧ St [] w oi w_ o131 ∧ Ft (Own ET67 68 (.slice A132 (l134).length c133) l134) w_ o131 5 ∧ (l134).length ≤ c133 ∧ slices_Concat_j2 l134 = some r) ?_ ?_
    rotate_left
    · rintro a w137 ⟨o131, A132, c133, l134, hk, hs, f135, hc136, H⟩
      rw [slices_Concat_j2] at H
      refine x_seq ?_
      refine wpIn_region_lit ?_
      refine x_run tab hk (k := 2) (lv := []) (ks := [2]) (e' := [(2, .slice A132 (l134).length c133)]) rfl trivial fun a hk => ?_
      refine wpListIn_nil ?_
      refine then_n ?_
      refine wpIn_ret ?_
      obtain rfl := Option.some.inj H
      exact x_retG hk (rs := [.tmp 2]) (vs := [.slice A132 (l134).length c133]) rfl ⟨rfl, trivial⟩ ⟨cl w oi o [] (fun l_ => if l_ = 1 then LF else if l_ = 5 then R0 else 0) o131, A132, c133, rfl, hs.closeF (Lm := []) (Sh := []) hoa rfl (fun l_ => if l_ = 1 then LF else if l_ = 5 then R0 else 0), hs.closeM_ft (o := o) (ρ := fun l_ => if l_ = 1 then LF else if l_ = 5 then R0 else 0) f135 (lab_none hob rfl) rfl, hc136⟩
    refine x_seq ?_
    refine wpIn_region_lit ?_
    refine x_run tab hk (k := 3) (lv := []) (ks := [6, 25, 26, 27]) (e' := [(6, .slice A55 (t50).length c56), (25, .slice Ap0 (p0).length cp0), (26, .int .i64 ((p0).length : Int)), (27, .int .i64 0)]) rfl trivial fun a hk => ?_
    refine wpListIn_nil ?_
    refine then_n ?_
    refine wpIn_block ?_
    refine x_loop (fun j_ a_ w_ => ∃ o157 : Nat → Nat, ∃ A158 : Option Addr, ∃ c159 : Nat, ∃ l160 : List T67, ∃ x163 : Int, Kn 36 a_ [(6, .slice A158 (l160).length c159), (25, .slice Ap0 (p0).length cp0), (26, .int .i64 ((p0).length : Int)), (27, .int .i64 x163)] ∧ St [] w oi w_ o157 ∧ Ft (Own ET67 68 (.slice A158 (l160).length c159) l160) w_ o157 7 ∧ NRd (dRows ET67) Ap0 p0 w_ o157 0 1 ∧ (l160).length ≤ c159 ∧ slices_Concat_l3 p0 j_ l160 x163 = some r) (k := K) ⟨(fun b_ => (fun l_ => if l_ = 2 then 7 else l_) (o53 b_)), A55, c56, t50, 0, (by exact Kn.pick (ks := [6, 25, 26, 27]) hk rfl), (hs.relabM hob (fun l_ => if l_ = 2 then 7 else l_) (by decide)), (f57.relab (fun l_ => if l_ = 2 then 7 else l_) rfl), (f900000.relab (fun l_ => if l_ = 2 then 7 else l_) rfl), hc58, H⟩ (by rintro _ _ ⟨_, _, _, _, _, _, _, _, _, _, H_⟩; exact absurd (show (none : Option (List T67)) = some r from H_) (by simp)) ?_
    rintro k181 a w180 ⟨o157, A158, c159, l160, x163, hk, hs, f161, f900000, hc162, H⟩
    rw [slices_Concat_l3] at H
    obtain ⟨lp182, hlp183⟩ : ∃ lp_, lp_ = slices_Concat_l3 p0 k181 := ⟨_, rfl⟩
    rw [← hlp183] at H
    refine x_seq ?_
    refine wpIn_region_lit ?_
    refine x_run tab hk (k := 1) (lv := []) (ks := [6, 25, 26, 27, 28]) (e' := [(6, .slice A158 (l160).length c159), (25, .slice Ap0 (p0).length cp0), (26, .int .i64 ((p0).length : Int)), (27, .int .i64 x163), (28, .bool (decide (x163 < ((p0).length : Int))))]) rfl trivial fun a hk => ?_
    refine wpListIn_nil ?_
    refine then_n ?_
    refine x_seq ?_
    cases b184 : (decide (x163 < ((p0).length : Int)))
    · rw [b184] at hk H
      replace H := bifF H
      refine x_if hk (b := false) rfl ?_
      refine (show Code.wpIn _ _ _ _ _ _ _ from ?_)
      refine wpIn_exit ?_
      refine then_x ?_
      refine then_x ?_
      refine blk_x ?_
      refine then_n ?_
      exact ⟨(fun b_ => (fun l_ => if l_ = 7 then 5 else l_) (o157 b_)), A158, c159, l160, (by exact Kn.pick (ks := [6]) hk rfl), (hs.relabM hob (fun l_ => if l_ = 7 then 5 else l_) (by decide)), (f161.relab (fun l_ => if l_ = 7 then 5 else l_) rfl), hc162, H⟩
    · rw [b184] at hk H
      replace H := bifT H
      refine x_if hk (b := true) rfl ?_
      refine (show Code.wpIn _ _ _ _ _ _ _ from ?_)
      refine wpIn_skip ?_
      refine then_n ?_
      refine x_seq ?_
      refine wpIn_block ?_
      refine x_seq ?_
      refine wpIn_region_lit ?_
      obtain ⟨q185, H⟩ := ifS H
      obtain ⟨ad186, hAad186⟩ := NRd.addr f900000 q185
      have hk_C := hk
      have f161_C := f161
      have f900000_C := f900000
      subst hAad186
      have hk := hk_C
      clear hk_C
      have f161 := f161_C
      clear f161_C
      have f900000 := f900000_C
      clear f900000_C
      obtain ⟨A187, c188, f189, f190, hc191⟩ := NRd.row f900000 (P := Tryd.prog) tab (t := 62) rfl (i := x163) q185
      refine x_run tab hk (k := 3) (lv := [.slice A187 ((rdD [] p0 x163)).length c188]) (ks := [6, 8, 25, 26, 27]) (e' := [(6, .slice A158 (l160).length c159), (8, .slice A187 ((rdD [] p0 x163)).length c188), (25, .slice (some ad186) (p0).length cp0), (26, .int .i64 ((p0).length : Int)), (27, .int .i64 x163)]) rfl ⟨q185, f189.now, trivial⟩ fun a hk => ?_
      refine wpListIn_nil ?_
      refine then_n ?_
      refine wpIn_region_lit ?_
      refine x_run tab hk (k := 2) (lv := []) (ks := [25, 26, 27, 31, 32]) (e' := [(25, .slice (some ad186) (p0).length cp0), (26, .int .i64 ((p0).length : Int)), (27, .int .i64 x163), (31, .slice A158 (l160).length c159), (32, .slice A187 ((rdD [] p0 x163)).length c188)]) rfl trivial fun a hk => ?_
      refine x_op hk rfl ?_
      obtain ⟨q195, H⟩ := ifS H
      refine op_append (o := o157) (E := ET67) (xs := l160) (ys := (rdD [] p0 x163)) tab hk rfl rfl rfl rfl rfl rfl rfl f161 f190.now q195 fun A196 c197 w192 o193 st194 f198 hc199 => ?_
      replace f190 := f190.st st194 (by decide)
      replace f900000 := f900000.st st194 (by decide)
      replace hs := hs.locQ st194 hob rfl
      have hk := hk.put 33 (.slice A196 ((l160 ++ (rdD [] p0 x163))).length c197) rfl
      refine x_run tab hk (k := 1) (lv := []) (ks := [6, 25, 26, 27]) (e' := [(6, .slice A196 ((l160 ++ (rdD [] p0 x163))).length c197), (25, .slice (some ad186) (p0).length cp0), (26, .int .i64 ((p0).length : Int)), (27, .int .i64 x163)]) rfl trivial fun a hk => ?_
      refine wpListIn_nil ?_
      refine blk_n ?_
      refine then_n ?_
      refine wpIn_region_lit ?_
      refine x_run tab hk (k := 2) (lv := []) (ks := [6, 25, 26, 27]) (e' := [(6, .slice A196 ((l160 ++ (rdD [] p0 x163))).length c197), (25, .slice (some ad186) (p0).length cp0), (26, .int .i64 ((p0).length : Int)), (27, .int .i64 (IntKind.wrap .i64 (x163 + 1)))]) rfl trivial fun a hk => ?_
      refine wpListIn_nil ?_
      refine then_n ?_
      exact ⟨k181, Nat.le_refl _, o193, A196, c197, (l160 ++ (rdD [] p0 x163)), (IntKind.wrap .i64 (x163 + 1)), (by exact Kn.pick (ks := [6, 25, 26, 27]) hk rfl), hs, f198, f900000, hc199, (hlp183 ▸ H)⟩
  refine x_seq ?_
  refine wpIn_region_lit ?_
  refine x_run tab hk (k := 3) (lv := []) (ks := [0, 3, 9, 10, 11]) (e' := [(0, .slice Ap0 (p0).length cp0), (3, .int .i64 0), (9, .slice Ap0 (p0).length cp0), (10, .int .i64 ((p0).length : Int)), (11, .int .i64 0)]) rfl trivial fun a hk => ?_
  refine wpListIn_nil ?_
  refine then_n ?_
  refine wpIn_block ?_
  refine x_loop (fun j_ a_ w_ => ∃ o212 : Nat → Nat, ∃ x213 : Int, ∃ x214 : Int, Kn 36 a_ [(0, .slice Ap0 (p0).length cp0), (3, .int .i64 x213), (9, .slice Ap0 (p0).length cp0), (10, .int .i64 ((p0).length : Int)), (11, .int .i64 x214)] ∧ St [] w oi w_ o212 ∧ NRd (dRows ET67) Ap0 p0 w_ o212 0 1 ∧ slices_Concat_l4 K p0 j_ x213 x214 = some r) (k := K) ⟨oi, 0, 0, (by exact Kn.pick (ks := [0, 3, 9, 10, 11]) hk rfl), hs, f900000, H⟩ (by rintro _ _ ⟨_, _, _, _, _, _, H_⟩; exact absurd (show (none : Option (List T67)) = some r from H_) (by simp)) ?_
  rintro k225 a w224 ⟨o212, x213, x214, hk, hs, f900000, H⟩
  rw [slices_Concat_l4] at H
  obtain ⟨lp226, hlp227⟩ : ∃ lp_, lp_ = slices_Concat_l4 K p0 k225 := ⟨_, rfl⟩
  rw [← hlp227] at H
  refine x_seq ?_
  refine wpIn_region_lit ?_
  refine x_run tab hk (k := 1) (lv := []) (ks := [0, 3, 9, 10, 11, 12]) (e' := [(0, .slice Ap0 (p0).length cp0), (3, .int .i64 x213), (9, .slice Ap0 (p0).length cp0), (10, .int .i64 ((p0).length : Int)), (11, .int .i64 x214), (12, .bool (decide (x214 < ((p0).length : Int))))]) rfl trivial fun a hk => ?_
  refine wpListIn_nil ?_
  refine then_n ?_
  refine x_seq ?_
  cases b228 : (decide (x214 < ((p0).length : Int)))
  · rw [b228] at hk H
    replace H := bifF H
    refine x_if hk (b := false) rfl ?_
    refine (show Code.wpIn _ _ _ _ _ _ _ from ?_)
    refine wpIn_exit ?_
    refine then_x ?_
    refine then_x ?_
    refine blk_x ?_
    refine then_n ?_
    exact ⟨o212, x213, (by exact Kn.pick (ks := [0, 3]) hk rfl), hs, f900000, H⟩
  · rw [b228] at hk H
    replace H := bifT H
    refine x_if hk (b := true) rfl ?_
    refine (show Code.wpIn _ _ _ _ _ _ _ from ?_)
    refine wpIn_skip ?_
    refine then_n ?_
    refine x_seq ?_
    refine wpIn_block ?_
    refine x_seq ?_
    refine wpIn_region_lit ?_
    obtain ⟨q229, H⟩ := ifS H
    obtain ⟨ad230, hAad230⟩ := NRd.addr f900000 q229
    have hk_C := hk
    have f900000_C := f900000
    subst hAad230
    have hk := hk_C
    clear hk_C
    have f900000 := f900000_C
    clear f900000_C
    obtain ⟨A231, c232, f233, f234, hc235⟩ := NRd.row f900000 (P := Tryd.prog) tab (t := 62) rfl (i := x214) q229
    refine x_run tab hk (k := 3) (lv := [.slice A231 ((rdD [] p0 x214)).length c232]) (ks := [0, 3, 5, 9, 10, 11]) (e' := [(0, .slice (some ad230) (p0).length cp0), (3, .int .i64 x213), (5, .slice A231 ((rdD [] p0 x214)).length c232), (9, .slice (some ad230) (p0).length cp0), (10, .int .i64 ((p0).length : Int)), (11, .int .i64 x214)]) rfl ⟨q229, f233.now, trivial⟩ fun a hk => ?_
    refine wpListIn_nil ?_
    refine then_n ?_
    refine x_seq ?_
    refine wpIn_region_lit ?_
    refine x_run tab hk (k := 5) (lv := []) (ks := [0, 3, 9, 10, 11]) (e' := [(0, .slice (some ad230) (p0).length cp0), (3, .int .i64 (IntKind.wrap .i64 (x213 + (((rdD [] p0 x214)).length : Int)))), (9, .slice (some ad230) (p0).length cp0), (10, .int .i64 ((p0).length : Int)), (11, .int .i64 x214)]) rfl trivial fun a hk => ?_
    refine wpListIn_nil ?_
    refine then_n ?_
    refine x_seq ?_
    refine wpIn_region_lit ?_
    refine x_run tab hk (k := 2) (lv := []) (ks := [0, 3, 9, 10, 11, 20]) (e' := [(0, .slice (some ad230) (p0).length cp0), (3, .int .i64 (IntKind.wrap .i64 (x213 + (((rdD [] p0 x214)).length : Int)))), (9, .slice (some ad230) (p0).length cp0), (10, .int .i64 ((p0).length : Int)), (11, .int .i64 x214), (20, .bool (decide ((IntKind.wrap .i64 (x213 + (((rdD [] p0 x214)).length : Int))) < (0 : Int))))]) rfl trivial fun a hk => ?_
    refine wpListIn_nil ?_
    refine then_n ?_
    cases b236 : (decide ((IntKind.wrap .i64 (x213 + (((rdD [] p0 x214)).length : Int))) < (0 : Int)))
    · rw [b236] at hk H
      replace H := bifF H
      refine x_if hk (b := false) rfl ?_
      refine (show Code.wpIn _ _ _ _ _ _ _ from ?_)
      refine wpIn_skip ?_
      refine blk_n ?_
      refine then_n ?_
      refine wpIn_region_lit ?_
      refine x_run tab hk (k := 2) (lv := []) (ks := [0, 3, 9, 10, 11]) (e' := [(0, .slice (some ad230) (p0).length cp0), (3, .int .i64 (IntKind.wrap .i64 (x213 + (((rdD [] p0 x214)).length : Int)))), (9, .slice (some ad230) (p0).length cp0), (10, .int .i64 ((p0).length : Int)), (11, .int .i64 (IntKind.wrap .i64 (x214 + 1)))]) rfl trivial fun a hk => ?_
      refine wpListIn_nil ?_
      refine then_n ?_
      exact ⟨k225, Nat.le_refl _, o212, (IntKind.wrap .i64 (x213 + (((rdD [] p0 x214)).length : Int))), (IntKind.wrap .i64 (x214 + 1)), (by exact Kn.pick (ks := [0, 3, 9, 10, 11]) hk rfl), hs, f900000, (hlp227 ▸ H)⟩
    · rw [b236] at hk H
      replace H := bifT H
      refine x_if hk (b := true) rfl ?_
      refine (show Code.wpIn _ _ _ _ _ _ _ from ?_)
      refine wpIn_region_lit ?_
      exact absurd H (by simp)

/-! (*tidewrack/spans.Set).Add -/
set_option maxHeartbeats 4000000 in
set_option maxRecDepth 20000 in
theorem spans_Set_Add_calls (K : Nat) (bp0 : Nat) (Ap0_0 : Option Addr) (cp0_0 : Nat) (p0 : T63) (Ap1 : Option Addr) (cp1 : Nat) (p1 : List T67) (w : World) (o : Nat → Nat) (Lp0 : Nat) (hp0 : Ft (Bx bp0 64 [.slice Ap0_0 (p0.l).length cp0_0]) w o Lp0) (Lp0_0 : Nat) (hp0_0 : Ft (Own ET67 68 (.slice Ap0_0 (p0.l).length cp0_0) p0.l) w o Lp0_0) (hcp0_0 : (p0.l).length ≤ cp0_0) (Lp1 : Nat) (hp1 : Ft (RdC ET67 Ap1 p1) w o Lp1) (hcp1 : (p1).length ≤ cp1) (hd0 : ([Lp0, Lp0_0] : List Nat).Nodup) (hd1 : Lp1 ∉ [Lp0, Lp0_0]) (r : T63) (H : spans_Set_Add K p0 p1 = some r) :
    Calls Tryd.prog 21 #[.pointer (some ⟨bp0, 0, none⟩), .slice Ap1 (p1).length cp1] w (Ret fun v_ w' => ∃ o' : Nat → Nat, ∃ A0 : Option Addr, ∃ c0 : Nat, v_ = .tuple #[] ∧ St [Lp0, Lp0_0] w o w' o' ∧ Ft (Bx bp0 64 [.slice A0 (r.l).length c0]) w' o' Lp0 ∧ Ft (Own ET67 68 (.slice A0 (r.l).length c0) r.l) w' o' Lp0_0 ∧ (r.l).length ≤ c0) := by
  refine x_enter (vs := [.pointer (some ⟨bp0, 0, none⟩), .slice Ap1 (p1).length cp1]) Tryd.func21 rfl rfl rfl fun a hk => ?_
  obtain ⟨oi, hs0, h0, h1, hob, hoz, hoa⟩ := St.startM2 w o (m := 2) hd0 rfl
  have hs := hs0 [1, 2]
  have hom := lab_in hob (MM := [1, 2]) (by decide)
  have f900000 := h1 1 2 hp0_0 rfl rfl
  have f900019 := h1 0 1 hp0 rfl rfl
  have f900020 := h0 _ _ hd1 hp1
  clear h0 h1 hs0
  rw [spans_Set_Add] at H
  refine x_scope ?_
  refine x_seq ?_
  refine wpIn_label ?_
  refine then_n ?_
  refine x_seq ?_
  refine wpIn_region_lit ?_
  refine x_run tab hk (k := 3) (lv := []) (ks := [0, 9, 10, 11]) (e' := [(0, .pointer (some ⟨bp0, 0, none⟩)), (9, .slice Ap1 (p1).length cp1), (10, .int .i64 ((p1).length : Int)), (11, .int .i64 0)]) rfl trivial fun a hk => ?_
  refine wpListIn_nil ?_
  refine then_n ?_
  refine wpIn_block ?_
  refine x_loop (fun j_ a_ w_ => ∃ o6574 : Nat → Nat, ∃ A6575 : Option Addr, ∃ c6576 : Nat, ∃ l6577 : List T67, ∃ A6580 : Option Addr, ∃ c6581 : Nat, ∃ x6584 : Int, Kn 79 a_ [(0, .pointer (some ⟨bp0, 0, none⟩)), (9, .slice A6580 (p1).length c6581), (10, .int .i64 ((p1).length : Int)), (11, .int .i64 x6584)] ∧ St [1, 2] w oi w_ o6574 ∧ Ft (Own ET67 68 (.slice A6575 (l6577).length c6576) l6577) w_ o6574 2 ∧ Ft (RdC ET67 A6580 p1) w_ o6574 0 ∧ Ft (Bx bp0 64 [.slice A6575 (l6577).length c6576]) w_ o6574 1 ∧ (l6577).length ≤ c6576 ∧ (p1).length ≤ c6581 ∧ spans_Set_Add_l1 K p1 j_ l6577 x6584 = some r) (k := K) ⟨oi, Ap0_0, cp0_0, p0.l, Ap1, cp1, 0, (by exact Kn.pick (ks := [0, 9, 10, 11]) hk rfl), hs, f900000, f900020, f900019, hcp0_0, hcp1, H⟩ (by rintro _ _ ⟨_, _, _, _, _, _, _, _, _, _, _, _, _, _, H_⟩; exact absurd (show (none : Option T63) = some r from H_) (by simp)) ?_
  rintro k13156 a w13155 ⟨o6574, A6575, c6576, l6577, A6580, c6581, x6584, hk, hs, f6578, f6582, f900019, hc6579, hc6583, H⟩
  rw [spans_Set_Add_l1] at H
  obtain ⟨lp13157, hlp13158⟩ : ∃ lp_, lp_ = spans_Set_Add_l1 K p1 k13156 := ⟨_, rfl⟩
  rw [← hlp13158] at H
  refine x_seq ?_
  refine wpIn_region_lit ?_
  refine x_run tab hk (k := 1) (lv := []) (ks := [0, 9, 10, 11, 12]) (e' := [(0, .pointer (some ⟨bp0, 0, none⟩)), (9, .slice A6580 (p1).length c6581), (10, .int .i64 ((p1).length : Int)), (11, .int .i64 x6584), (12, .bool (decide (x6584 < ((p1).length : Int))))]) rfl trivial fun a hk => ?_
  refine wpListIn_nil ?_
  refine then_n ?_
  refine x_seq ?_
  cases b13159 : (decide (x6584 < ((p1).length : Int)))
  · rw [b13159] at hk H
    replace H := bifF H
    refine x_if hk (b := false) rfl ?_
    refine (show Code.wpIn _ _ _ _ _ _ _ from ?_)
    refine wpIn_exit ?_
    refine then_x ?_
    refine then_x ?_
    refine blk_x ?_
    refine sc_n ?_
    obtain rfl := Option.some.inj H
    exact x_endG hk (rs := []) (vs := []) rfl trivial ⟨cl w oi o [1, 2] (fun l_ => if l_ = 1 then Lp0 else if l_ = 2 then Lp0_0 else 0) o6574, A6575, c6576, rfl, hs.closeM hoz (by decide) (fun l_ => if l_ = 1 then Lp0 else if l_ = 2 then Lp0_0 else 0), hs.closeM_ft (o := o) (ρ := fun l_ => if l_ = 1 then Lp0 else if l_ = 2 then Lp0_0 else 0) f900019 (lab_at hoa (i := 0) rfl) rfl, hs.closeM_ft (o := o) (ρ := fun l_ => if l_ = 1 then Lp0 else if l_ = 2 then Lp0_0 else 0) f6578 (lab_at hoa (i := 1) rfl) rfl, hc6579⟩
  · rw [b13159] at hk H
    replace H := bifT H
    refine x_if hk (b := true) rfl ?_
    refine (show Code.wpIn _ _ _ _ _ _ _ from ?_)
    refine wpIn_skip ?_
    refine then_n ?_
    refine x_mid (fun a_ w_ => ∃ o16446 : Nat → Nat, ∃ A16447 : Option Addr, ∃ c16448 : Nat, ∃ l16449 : List T67, ∃ A16452 : Option Addr, ∃ c16453 : Nat, Kn 79 a_ [(0, .pointer (some ⟨bp0, 0, none⟩)), (9, .slice A16452 (p1).length c16453), (10, .int .i64 ((p1).length : Int)), (11, .int .i64 x6584)] ∧ St [1, 2] w oi w_ o16446 ∧ Ft (Own ET67 68 (.slice A16447 (l16449).length c16448) l16449) w_ o16446 2 ∧ Ft (RdC ET67 A16452 p1) w_ o16446 0 ∧ Ft (Bx bp0 64 [.slice A16447 (l16449).length c16448]) w_ o16446 1 ∧ (l16449).length ≤ c16448 ∧ (p1).length ≤ c16453 ∧ spans_Set_Add_j2 x6584 lp13157 l16449 = some r) ?_ ?_
    rotate_left
    · rintro a w16456 ⟨o16446, A16447, c16448, l16449, A16452, c16453, hk, hs, f16450, f16454, f900019, hc16451, hc16455, H⟩
      rw [spans_Set_Add_j2] at H
      refine wpIn_region_lit ?_
      refine x_run tab hk (k := 2) (lv := []) (ks := [0, 9, 10, 11]) (e' := [(0, .pointer (some ⟨bp0, 0, none⟩)), (9, .slice A16452 (p1).length c16453), (10, .int .i64 ((p1).length : Int)), (11, .int .i64 (IntKind.wrap .i64 (x6584 + 1)))]) rfl trivial fun a hk => ?_
      refine wpListIn_nil ?_
      refine then_n ?_
      exact ⟨k13156, Nat.le_refl _, o16446, A16447, c16448, l16449, A16452, c16453, (IntKind.wrap .i64 (x6584 + 1)), (by exact Kn.pick (ks := [0, 9, 10, 11]) hk rfl), hs, f16450, f16454, f900019, hc16451, hc16455, (hlp13158 ▸ H)⟩
    refine wpIn_block ?_
    refine x_seq ?_
    refine wpIn_region_lit ?_
    obtain ⟨q16457, H⟩ := ifS H
    obtain ⟨ad16458, hAad16458⟩ := RdC.addr f6582.now q16457
    have hk_C := hk
    have f6578_C := f6578
    have f6582_C := f6582
    have f900019_C := f900019
    subst hAad16458
    have hk := hk_C
    clear hk_C
    have f6578 := f6578_C
    clear f6578_C
    have f6582 := f6582_C
    clear f6582_C
    have f900019 := f900019_C
    clear f900019_C
    refine x_run tab hk (k := 2) (lv := [.agg #[.int .i64 ((rdD zT67 p1 x6584).From), .int .i64 ((rdD zT67 p1 x6584).To)]]) (ks := [0, 9, 10, 11, 14]) (e' := [(0, .pointer (some ⟨bp0, 0, none⟩)), (9, .slice (some ad16458) (p1).length c6581), (10, .int .i64 ((p1).length : Int)), (11, .int .i64 x6584), (14, .agg #[.int .i64 ((rdD zT67 p1 x6584).From), .int .i64 ((rdD zT67 p1 x6584).To)])]) rfl ⟨q16457, (load_elem (E := ET67) (i := x6584) (dx := zT67) tab rfl rfl f6582.now q16457), trivial⟩ fun a hk => ?_
    refine x_op hk rfl ?_
    refine op_alloc (o := o6574) tab (t := 68) (cs := [.int .i64 0, .int .i64 0]) rfl rfl 1589 fun bx16462 w16459 o16460 st16461 f16463 => ?_
    replace f6578 := f6578.st st16461 (by decide)
    replace f6582 := f6582.st st16461 (by decide)
    replace f900019 := f900019.st st16461 (by decide)
    replace hs := hs.locM st16461 (by decide) hom
    have hk := hk.put 5 (.pointer (some ⟨bx16462, 0, none⟩)) rfl
    refine x_op hk rfl ?_
    refine op_store tab hk (t := 68) (v := .agg #[.int .i64 ((rdD zT67 p1 x6584).From), .int .i64 ((rdD zT67 p1 x6584).To)]) (b := bx16462) (k := 0) (cs' := [.int .i64 ((rdD zT67 p1 x6584).From), .int .i64 ((rdD zT67 p1 x6584).To)]) rfl rfl rfl rfl rfl rfl f16463 rfl rfl fun w16464 o16465 st16466 f16463_ => ?_
    replace f6578 := f6578.st st16466 (by decide)
    replace f6582 := f6582.st st16466 (by decide)
    replace f900019 := f900019.st st16466 (by decide)
    replace hs := hs.locM st16466 (by decide) hom
    replace f16463 := f16463_
    refine wpListIn_nil ?_
    refine then_n ?_
    refine x_seq ?_
    refine x_seq ?_
    refine wpIn_region_lit ?_
    refine x_run tab hk (k := 1) (lv := [.agg #[.int .i64 ((rdD zT67 p1 x6584).From), .int .i64 ((rdD zT67 p1 x6584).To)]]) (ks := [0, 5, 9, 10, 11, 15]) (e' := [(0, .pointer (some ⟨bp0, 0, none⟩)), (5, .pointer (some ⟨bx16462, 0, none⟩)), (9, .slice (some ad16458) (p1).length c6581), (10, .int .i64 ((p1).length : Int)), (11, .int .i64 x6584), (15, .agg #[.int .i64 ((rdD zT67 p1 x6584).From), .int .i64 ((rdD zT67 p1 x6584).To)])]) rfl ⟨(load_box tab rfl rfl f16463.now (k := 0) rfl rfl), trivial⟩ fun a hk => ?_
    refine x_op hk rfl ?_
    obtain ⟨t16470, hc16471, H⟩ := bindS H
    refine op_call hk ent_54 (vs := [.agg #[.int .i64 ((rdD zT67 p1 x6584).From), .int .i64 ((rdD zT67 p1 x6584).To)]]) rfl (spans_Span_fit_calls (rdD zT67 p1 x6584) _ o16465    _ hc16471) ?_
    rintro _ w16472 ⟨o16473, rfl, st16474⟩
    replace f16463 := f16463.st st16474 (by decide)
    replace f6578 := f6578.st st16474 (by decide)
    replace f6582 := f6582.st st16474 (by decide)
    replace f900019 := f900019.st st16474 (by decide)
    replace hs := hs.locM st16474 (by decide) hom
    have hk := hk.put 16 (.agg #[.int .i64 t16470.From, .int .i64 t16470.To]) rfl
    refine x_op hk rfl ?_
    refine op_store tab hk (t := 68) (v := .agg #[.int .i64 t16470.From, .int .i64 t16470.To]) (b := bx16462) (k := 0) (cs' := [.int .i64 t16470.From, .int .i64 t16470.To]) rfl rfl rfl rfl rfl rfl f16463 rfl rfl fun w16475 o16476 st16477 f16463_ => ?_
    replace f6578 := f6578.st st16477 (by decide)
    replace f6582 := f6582.st st16477 (by decide)
    replace f900019 := f900019.st st16477 (by decide)
    replace hs := hs.locM st16477 (by decide) hom
    replace f16463 := f16463_
    refine wpListIn_nil ?_
    refine then_n ?_
    refine x_seq ?_
    refine wpIn_region_lit ?_
    refine x_run tab hk (k := 1) (lv := [.agg #[.int .i64 t16470.From, .int .i64 t16470.To]]) (ks := [0, 5, 9, 10, 11, 17]) (e' := [(0, .pointer (some ⟨bp0, 0, none⟩)), (5, .pointer (some ⟨bx16462, 0, none⟩)), (9, .slice (some ad16458) (p1).length c6581), (10, .int .i64 ((p1).length : Int)), (11, .int .i64 x6584), (17, .agg #[.int .i64 t16470.From, .int .i64 t16470.To])]) rfl ⟨(load_box tab rfl rfl f16463.now (k := 0) rfl rfl), trivial⟩ fun a hk => ?_
    refine x_op hk rfl ?_
    obtain ⟨t16481, hc16482, H⟩ := bindS H
    refine op_call hk ent_55 (vs := [.agg #[.int .i64 t16470.From, .int .i64 t16470.To]]) rfl (spans_Span_empty_calls t16470 _ o16476    _ hc16482) ?_
    rintro _ w16483 ⟨o16484, rfl, st16485⟩
    replace f16463 := f16463.st st16485 (by decide)
    replace f6578 := f6578.st st16485 (by decide)
    replace f6582 := f6582.st st16485 (by decide)
    replace f900019 := f900019.st st16485 (by decide)
    replace hs := hs.locM st16485 (by decide) hom
    have hk := hk.put 18 (.bool t16481) rfl
    refine wpListIn_nil ?_
    refine then_n ?_
    cases b16486 : t16481
    · rw [b16486] at hk H
      replace H := bifF H
      refine x_if hk (b := false) rfl ?_
      refine (show Code.wpIn _ _ _ _ _ _ _ from ?_)
      refine wpIn_skip ?_
      refine then_n ?_
      refine x_seq ?_
      refine wpIn_region_lit ?_
      refine x_run tab hk (k := 1) (lv := []) (ks := [0, 5, 6, 9, 10, 11]) (e' := [(0, .pointer (some ⟨bp0, 0, none⟩)), (5, .pointer (some ⟨bx16462, 0, none⟩)), (6, .slice none 0 0), (9, .slice (some ad16458) (p1).length c6581), (10, .int .i64 ((p1).length : Int)), (11, .int .i64 x6584)]) rfl trivial fun a hk => ?_
      refine wpListIn_nil ?_
      refine then_n ?_
      refine x_mid (fun a_ w_ => ∃ o18101 : Nat → Nat, ∃ x18102 : T67, ∃ A18103 : Option Addr, ∃ c18104 : Nat, ∃ l18105 : List T67, Kn 79 a_ [(0, .pointer (some ⟨bp0, 0, none⟩)), (5, .pointer (some ⟨bx16462, 0, none⟩)), (6, .slice A18103 (l18105).length c18104), (9, .slice (some ad16458) (p1).length c6581), (10, .int .i64 ((p1).length : Int)), (11, .int .i64 x6584)] ∧ St [1, 2] w oi w_ o18101 ∧ Ft (Bx bx16462 68 [.int .i64 x18102.From, .int .i64 x18102.To]) w_ o18101 1747 ∧ Ft (Own ET67 68 (.slice A18103 (l18105).length c18104) l18105) w_ o18101 1748 ∧ Ft (Own ET67 68 (.slice A6575 (l6577).length c6576) l6577) w_ o18101 2 ∧ Ft (RdC ET67 (some ad16458) p1) w_ o18101 0 ∧ Ft (Bx bp0 64 [.slice A6575 (l6577).length c6576]) w_ o18101 1 ∧ (l18105).length ≤ c18104 ∧ spans_Set_Add_j3 x6584 lp13157 x18102 l18105 = some r) ?_ ?_
      rotate_left
      · rintro a w18108 ⟨o18101, x18102, A18103, c18104, l18105, hk, hs, f16463, f18106, f6578, f6582, f900019, hc18107, H⟩
        rw [spans_Set_Add_j3] at H
        refine wpIn_region_lit ?_
        refine x_run tab hk (k := 3) (lv := [.agg #[.int .i64 x18102.From, .int .i64 x18102.To]]) (ks := [0, 9, 10, 11, 71, 72, 73]) (e' := [(0, .pointer (some ⟨bp0, 0, none⟩)), (9, .slice (some ad16458) (p1).length c6581), (10, .int .i64 ((p1).length : Int)), (11, .int .i64 x6584), (71, .pointer (some ⟨bp0, 0, none⟩)), (72, .slice A18103 (l18105).length c18104), (73, .agg #[.int .i64 x18102.From, .int .i64 x18102.To])]) rfl ⟨(load_box tab rfl rfl f16463.now (k := 0) rfl rfl), trivial⟩ fun a hk => ?_
        refine x_op hk rfl ?_
        refine op_slice (o := o18101) tab hk (vs := [.agg #[.int .i64 x18102.From, .int .i64 x18102.To]]) (cs := [.int .i64 x18102.From, .int .i64 x18102.To]) rfl rfl rfl rfl rfl rfl rfl rfl rfl 1749 fun bx18112 w18109 o18110 st18111 f18113 => ?_
        replace f18106 := f18106.st st18111 (by decide)
        replace f6578 := f6578.st st18111 (by decide)
        replace f6582 := f6582.st st18111 (by decide)
        replace f900019 := f900019.st st18111 (by decide)
        replace hs := hs.locM st18111 (by decide) hom
        have f18114 : Ft (Own ET67 68 (.slice (some ⟨bx18112, 0, none⟩) (([x18102] : List T67)).length 1) ([x18102] : List T67)) w18109 o18110 1749 := f18113.imp fun _ h_ => Own.of_box h_ rfl (by simp)
        have hk := hk.put 74 (.slice (some ⟨bx18112, 0, none⟩) (([x18102] : List T67)).length 1) rfl
        refine x_op hk rfl ?_
        obtain ⟨q18118, H⟩ := ifS H
        refine op_append (o := o18110) (E := ET67) (xs := l18105) (ys := ([x18102] : List T67)) tab hk rfl rfl rfl rfl rfl rfl rfl f18106 (Own.rd f18114.now) q18118 fun A18119 c18120 w18115 o18116 st18117 f18121 hc18122 => ?_
        replace f18114 := f18114.st st18117 (by decide)
        replace f6578 := f6578.st st18117 (by decide)
        replace f6582 := f6582.st st18117 (by decide)
        replace f900019 := f900019.st st18117 (by decide)
        replace hs := hs.locM st18117 (by decide) hom
        have hk := hk.put 75 (.slice A18119 ((l18105 ++ ([x18102] : List T67))).length c18120) rfl
        refine x_run tab hk (k := 2) (lv := []) (ks := [0, 9, 10, 11, 75, 77]) (e' := [(0, .pointer (some ⟨bp0, 0, none⟩)), (9, .slice (some ad16458) (p1).length c6581), (10, .int .i64 ((p1).length : Int)), (11, .int .i64 x6584), (75, .slice A18119 ((l18105 ++ ([x18102] : List T67))).length c18120), (77, .pointer (some ⟨bp0, 0, none⟩))]) rfl trivial fun a hk => ?_
        refine x_op hk rfl ?_
        refine op_store tab hk (t := 62) (v := .slice A18119 ((l18105 ++ ([x18102] : List T67))).length c18120) (b := bp0) (k := 0) (cs' := [.slice A18119 ((l18105 ++ ([x18102] : List T67))).length c18120]) rfl rfl rfl rfl rfl rfl f900019 rfl rfl fun w18123 o18124 st18125 f900019_ => ?_
        replace f18121 := f18121.st st18125 (by decide)
        replace f6578 := f6578.st st18125 (by decide)
        replace f6582 := f6582.st st18125 (by decide)
        replace hs := hs.locM st18125 (by decide) hom
        replace f900019 := f900019_
        refine wpListIn_nil ?_
        refine blk_n ?_
        refine then_n ?_
        exact ⟨(fun b_ => (fun l_ => if l_ = 1748 then 2 else l_) (o18124 b_)), A18119, c18120, (l18105 ++ ([x18102] : List T67)), (some ad16458), c6581, (by exact Kn.pick (ks := [0, 9, 10, 11]) hk rfl), (hs.relabM hob (fun l_ => if l_ = 1748 then 2 else l_) (by decide)), (f18121.relab (fun l_ => if l_ = 1748 then 2 else l_) rfl), (f6582.relab (fun l_ => if l_ = 1748 then 2 else l_) rfl), (f900019.relab (fun l_ => if l_ = 1748 then 2 else l_) rfl), hc18122, hc6583, H⟩
      refine x_seq ?_
      refine wpIn_region_lit ?_
      refine x_run tab hk (k := 6) (lv := [.slice A6575 (l6577).length c6576]) (ks := [0, 5, 6, 9, 10, 11, 22, 23, 24]) (e' := [(0, .pointer (some ⟨bp0, 0, none⟩)), (5, .pointer (some ⟨bx16462, 0, none⟩)), (6, .slice none 0 0), (9, .slice (some ad16458) (p1).length c6581), (10, .int .i64 ((p1).length : Int)), (11, .int .i64 x6584), (22, .slice A6575 (l6577).length c6576), (23, .int .i64 ((l6577).length : Int)), (24, .int .i64 0)]) rfl ⟨(load1 tab rfl ((Bx.cell f900019.now 0).trans rfl)), trivial⟩ fun a hk => ?_
      refine wpListIn_nil ?_
      refine then_n ?_
      refine wpIn_block ?_
      refine x_loop (fun j_ a_ w_ => ∃ o18655 : Nat → Nat, ∃ x18656 : T67, ∃ A18657 : Option Addr, ∃ c18658 : Nat, ∃ l18659 : List T67, ∃ x18662 : Int, Kn 79 a_ [(0, .pointer (some ⟨bp0, 0, none⟩)), (5, .pointer (some ⟨bx16462, 0, none⟩)), (6, .slice A18657 (l18659).length c18658), (9, .slice (some ad16458) (p1).length c6581), (10, .int .i64 ((p1).length : Int)), (11, .int .i64 x6584), (22, .slice A6575 (l6577).length c6576), (23, .int .i64 ((l6577).length : Int)), (24, .int .i64 x18662)] ∧ St [1, 2] w oi w_ o18655 ∧ Ft (Bx bx16462 68 [.int .i64 x18656.From, .int .i64 x18656.To]) w_ o18655 1800 ∧ Ft (Own ET67 68 (.slice A18657 (l18659).length c18658) l18659) w_ o18655 1801 ∧ Ft (Own ET67 68 (.slice A6575 (l6577).length c6576) l6577) w_ o18655 2 ∧ Ft (RdC ET67 (some ad16458) p1) w_ o18655 0 ∧ Ft (Bx bp0 64 [.slice A6575 (l6577).length c6576]) w_ o18655 1 ∧ (l18659).length ≤ c18658 ∧ spans_Set_Add_l4 K l6577 x6584 lp13157 j_ x18656 l18659 x18662 = some r) (k := K) ⟨(fun b_ => (fun l_ => if l_ = 1589 then 1800 else l_) (o16484 b_)), t16470, none, 0, ([] : List T67), 0, (by exact Kn.pick (ks := [0, 5, 6, 9, 10, 11, 22, 23, 24]) hk rfl), (hs.relabM hob (fun l_ => if l_ = 1589 then 1800 else l_) (by decide)), (f16463.relab (fun l_ => if l_ = 1589 then 1800 else l_) rfl), (Ft.of_all (fun _ => Own.nil _ _ _) _ _ _), (f6578.relab (fun l_ => if l_ = 1589 then 1800 else l_) rfl), (f6582.relab (fun l_ => if l_ = 1589 then 1800 else l_) rfl), (f900019.relab (fun l_ => if l_ = 1589 then 1800 else l_) rfl), (by simp), H⟩ (by rintro _ _ ⟨_, _, _, _, _, _, _, _, _, _, _, _, _, _, H_⟩; exact absurd (show (none : Option T63) = some r from H_) (by simp)) ?_
      rintro k19195 a w19194 ⟨o18655, x18656, A18657, c18658, l18659, x18662, hk, hs, f16463, f18660, f6578, f6582, f900019, hc18661, H⟩
      rw [spans_Set_Add_l4] at H
      obtain ⟨lp19196, hlp19197⟩ : ∃ lp_, lp_ = spans_Set_Add_l4 K l6577 x6584 lp13157 k19195 := ⟨_, rfl⟩
      rw [← hlp19197] at H
      refine x_seq ?_
      refine wpIn_region_lit ?_
      refine x_run tab hk (k := 1) (lv := []) (ks := [0, 5, 6, 9, 10, 11, 22, 23, 24, 25]) (e' := [(0, .pointer (some ⟨bp0, 0, none⟩)), (5, .pointer (some ⟨bx16462, 0, none⟩)), (6, .slice A18657 (l18659).length c18658), (9, .slice (some ad16458) (p1).length c6581), (10, .int .i64 ((p1).length : Int)), (11, .int .i64 x6584), (22, .slice A6575 (l6577).length c6576), (23, .int .i64 ((l6577).length : Int)), (24, .int .i64 x18662), (25, .bool (decide (x18662 < ((l6577).length : Int))))]) rfl trivial fun a hk => ?_
      refine wpListIn_nil ?_
      refine then_n ?_
      refine x_seq ?_
      cases b19198 : (decide (x18662 < ((l6577).length : Int)))
      · rw [b19198] at hk H
        replace H := bifF H
        refine x_if hk (b := false) rfl ?_
        refine (show Code.wpIn _ _ _ _ _ _ _ from ?_)
        refine wpIn_exit ?_
        refine then_x ?_
        refine then_x ?_
        refine blk_x ?_
        refine then_n ?_
        exact ⟨(fun b_ => (fun l_ => if l_ = 1800 then 1747 else if l_ = 1801 then 1748 else l_) (o18655 b_)), x18656, A18657, c18658, l18659, (by exact Kn.pick (ks := [0, 5, 6, 9, 10, 11]) hk rfl), (hs.relabM hob (fun l_ => if l_ = 1800 then 1747 else if l_ = 1801 then 1748 else l_) (by decide)), (f16463.relab (fun l_ => if l_ = 1800 then 1747 else if l_ = 1801 then 1748 else l_) rfl), (f18660.relab (fun l_ => if l_ = 1800 then 1747 else if l_ = 1801 then 1748 else l_) rfl), (f6578.relab (fun l_ => if l_ = 1800 then 1747 else if l_ = 1801 then 1748 else l_) rfl), (f6582.relab (fun l_ => if l_ = 1800 then 1747 else if l_ = 1801 then 1748 else l_) rfl), (f900019.relab (fun l_ => if l_ = 1800 then 1747 else if l_ = 1801 then 1748 else l_) rfl), hc18661, H⟩
      · rw [b19198] at hk H
        replace H := bifT H
        refine x_if hk (b := true) rfl ?_
        refine (show Code.wpIn _ _ _ _ _ _ _ from ?_)
        refine wpIn_skip ?_
        refine then_n ?_
        refine x_seq ?_
        refine wpIn_block ?_
        refine x_seq ?_
        refine wpIn_region_lit ?_
        obtain ⟨q19199, H⟩ := ifS H
        obtain ⟨ad19200, hAad19200⟩ := RdC.addr (Own.rd f6578.now) q19199
        have hk_C := hk
        have f16463_C := f16463
        have f18660_C := f18660
        have f6578_C := f6578
        have f6582_C := f6582
        have f900019_C := f900019
        subst hAad19200
        have hk := hk_C
        clear hk_C
        have f16463 := f16463_C
        clear f16463_C
        have f18660 := f18660_C
        clear f18660_C
        have f6578 := f6578_C
        clear f6578_C
        have f6582 := f6582_C
        clear f6582_C
        have f900019 := f900019_C
        clear f900019_C
        refine x_run tab hk (k := 3) (lv := [.agg #[.int .i64 ((rdD zT67 l6577 x18662).From), .int .i64 ((rdD zT67 l6577 x18662).To)]]) (ks := [0, 5, 6, 9, 10, 11, 22, 23, 24, 26, 28]) (e' := [(0, .pointer (some ⟨bp0, 0, none⟩)), (5, .pointer (some ⟨bx16462, 0, none⟩)), (6, .slice A18657 (l18659).length c18658), (9, .slice (some ad16458) (p1).length c6581), (10, .int .i64 ((p1).length : Int)), (11, .int .i64 x6584), (22, .slice (some ad19200) (l6577).length c6576), (23, .int .i64 ((l6577).length : Int)), (24, .int .i64 x18662), (26, .int .i64 x18662), (28, .agg #[.int .i64 ((rdD zT67 l6577 x18662).From), .int .i64 ((rdD zT67 l6577 x18662).To)])]) rfl ⟨q19199, (load_elem (E := ET67) (i := x18662) (dx := zT67) tab rfl rfl (Own.rd f6578.now) q19199), trivial⟩ fun a hk => ?_
        refine x_op hk rfl ?_
        refine op_alloc (o := o18655) tab (t := 68) (cs := [.int .i64 0, .int .i64 0]) rfl rfl 1854 fun bx19204 w19201 o19202 st19203 f19205 => ?_
        replace f16463 := f16463.st st19203 (by decide)
        replace f18660 := f18660.st st19203 (by decide)
        replace f6578 := f6578.st st19203 (by decide)
        replace f6582 := f6582.st st19203 (by decide)
        replace f900019 := f900019.st st19203 (by decide)
        replace hs := hs.locM st19203 (by decide) hom
        have hk := hk.put 8 (.pointer (some ⟨bx19204, 0, none⟩)) rfl
        refine x_run tab hk (k := 1) (lv := []) (ks := [0, 5, 6, 7, 8, 9, 10, 11, 22, 23, 24, 28]) (e' := [(0, .pointer (some ⟨bp0, 0, none⟩)), (5, .pointer (some ⟨bx16462, 0, none⟩)), (6, .slice A18657 (l18659).length c18658), (7, .int .i64 x18662), (8, .pointer (some ⟨bx19204, 0, none⟩)), (9, .slice (some ad16458) (p1).length c6581), (10, .int .i64 ((p1).length : Int)), (11, .int .i64 x6584), (22, .slice (some ad19200) (l6577).length c6576), (23, .int .i64 ((l6577).length : Int)), (24, .int .i64 x18662), (28, .agg #[.int .i64 ((rdD zT67 l6577 x18662).From), .int .i64 ((rdD zT67 l6577 x18662).To)])]) rfl trivial fun a hk => ?_
        refine x_op hk rfl ?_
        refine op_store tab hk (t := 68) (v := .agg #[.int .i64 ((rdD zT67 l6577 x18662).From), .int .i64 ((rdD zT67 l6577 x18662).To)]) (b := bx19204) (k := 0) (cs' := [.int .i64 ((rdD zT67 l6577 x18662).From), .int .i64 ((rdD zT67 l6577 x18662).To)]) rfl rfl rfl rfl rfl rfl f19205 rfl rfl fun w19206 o19207 st19208 f19205_ => ?_
        replace f16463 := f16463.st st19208 (by decide)
        replace f18660 := f18660.st st19208 (by decide)
        replace f6578 := f6578.st st19208 (by decide)
        replace f6582 := f6582.st st19208 (by decide)
        replace f900019 := f900019.st st19208 (by decide)
        replace hs := hs.locM st19208 (by decide) hom
        replace f19205 := f19205_
        refine wpListIn_nil ?_
        refine then_n ?_
        refine wpIn_block ?_
        refine x_seq ?_
        refine wpIn_region_lit ?_
        refine x_run tab hk (k := 6) (lv := [.int .i64 ((rdD zT67 l6577 x18662).To), .int .i64 x18656.From]) (ks := [0, 5, 6, 7, 8, 9, 10, 11, 22, 23, 24, 40]) (e' := [(0, .pointer (some ⟨bp0, 0, none⟩)), (5, .pointer (some ⟨bx16462, 0, none⟩)), (6, .slice A18657 (l18659).length c18658), (7, .int .i64 x18662), (8, .pointer (some ⟨bx19204, 0, none⟩)), (9, .slice (some ad16458) (p1).length c6581), (10, .int .i64 ((p1).length : Int)), (11, .int .i64 x6584), (22, .slice (some ad19200) (l6577).length c6576), (23, .int .i64 ((l6577).length : Int)), (24, .int .i64 x18662), (40, .bool (decide (((rdD zT67 l6577 x18662).To) < x18656.From)))]) rfl ⟨(load1 tab rfl ((Bx.cell f19205.now 1).trans rfl)), (load1 tab rfl ((Bx.cell f16463.now 0).trans rfl)), trivial⟩ fun a hk => ?_
        refine wpListIn_nil ?_
        refine then_n ?_
        cases b19209 : (decide (((rdD zT67 l6577 x18662).To) < x18656.From))
        · rw [b19209] at hk H
          replace H := bifF H
          refine x_if hk (b := false) rfl ?_
          refine (show Code.wpIn _ _ _ _ _ _ _ from ?_)
          refine x_seq ?_
          refine wpIn_region_lit ?_
          refine x_run tab hk (k := 6) (lv := [.int .i64 ((rdD zT67 l6577 x18662).From), .int .i64 x18656.To]) (ks := [0, 5, 6, 7, 8, 9, 10, 11, 22, 23, 24, 50]) (e' := [(0, .pointer (some ⟨bp0, 0, none⟩)), (5, .pointer (some ⟨bx16462, 0, none⟩)), (6, .slice A18657 (l18659).length c18658), (7, .int .i64 x18662), (8, .pointer (some ⟨bx19204, 0, none⟩)), (9, .slice (some ad16458) (p1).length c6581), (10, .int .i64 ((p1).length : Int)), (11, .int .i64 x6584), (22, .slice (some ad19200) (l6577).length c6576), (23, .int .i64 ((l6577).length : Int)), (24, .int .i64 x18662), (50, .bool (decide (((rdD zT67 l6577 x18662).From) > x18656.To)))]) rfl ⟨(load1 tab rfl ((Bx.cell f19205.now 0).trans rfl)), (load1 tab rfl ((Bx.cell f16463.now 1).trans rfl)), trivial⟩ fun a hk => ?_
          refine wpListIn_nil ?_
          refine then_n ?_
          cases b19210 : (decide (((rdD zT67 l6577 x18662).From) > x18656.To))
          · rw [b19210] at hk H
            replace H := bifF H
            refine x_if hk (b := false) rfl ?_
            refine (show Code.wpIn _ _ _ _ _ _ _ from ?_)
            refine wpIn_region_lit ?_
            refine x_run tab hk (k := 10) (lv := [.int .i64 x18656.From, .int .i64 ((rdD zT67 l6577 x18662).From), .int .i64 x18656.To, .int .i64 ((rdD zT67 l6577 x18662).To)]) (ks := [0, 5, 6, 9, 10, 11, 22, 23, 24, 33, 38]) (e' := [(0, .pointer (some ⟨bp0, 0, none⟩)), (5, .pointer (some ⟨bx16462, 0, none⟩)), (6, .slice A18657 (l18659).length c18658), (9, .slice (some ad16458) (p1).length c6581), (10, .int .i64 ((p1).length : Int)), (11, .int .i64 x6584), (22, .slice (some ad19200) (l6577).length c6576), (23, .int .i64 ((l6577).length : Int)), (24, .int .i64 x18662), (33, .int .i64 (mnI x18656.From ((rdD zT67 l6577 x18662).From))), (38, .int .i64 (mxI x18656.To ((rdD zT67 l6577 x18662).To)))]) rfl ⟨(load1 tab rfl ((Bx.cell f16463.now 0).trans rfl)), (load1 tab rfl ((Bx.cell f19205.now 0).trans rfl)), (load1 tab rfl ((Bx.cell f16463.now 1).trans rfl)), (load1 tab rfl ((Bx.cell f19205.now 1).trans rfl)), trivial⟩ fun a hk => ?_
            refine x_run tab hk (k := 1) (lv := []) (ks := [0, 5, 6, 9, 10, 11, 22, 23, 24, 39]) (e' := [(0, .pointer (some ⟨bp0, 0, none⟩)), (5, .pointer (some ⟨bx16462, 0, none⟩)), (6, .slice A18657 (l18659).length c18658), (9, .slice (some ad16458) (p1).length c6581), (10, .int .i64 ((p1).length : Int)), (11, .int .i64 x6584), (22, .slice (some ad19200) (l6577).length c6576), (23, .int .i64 ((l6577).length : Int)), (24, .int .i64 x18662), (39, .agg #[.int .i64 (mnI x18656.From ((rdD zT67 l6577 x18662).From)), .int .i64 (mxI x18656.To ((rdD zT67 l6577 x18662).To))])]) rfl trivial fun a hk => ?_
            refine x_op hk rfl ?_
            refine op_store tab hk (t := 68) (v := .agg #[.int .i64 (mnI x18656.From ((rdD zT67 l6577 x18662).From)), .int .i64 (mxI x18656.To ((rdD zT67 l6577 x18662).To))]) (b := bx16462) (k := 0) (cs' := [.int .i64 (mnI x18656.From ((rdD zT67 l6577 x18662).From)), .int .i64 (mxI x18656.To ((rdD zT67 l6577 x18662).To))]) rfl rfl rfl rfl rfl rfl f16463 rfl rfl fun w19211 o19212 st19213 f16463_ => ?_
            replace f18660 := f18660.st st19213 (by decide)
            replace f6578 := f6578.st st19213 (by decide)
            replace f6582 := f6582.st st19213 (by decide)
            replace f900019 := f900019.st st19213 (by decide)
            replace hs := hs.locM st19213 (by decide) hom
            replace f16463 := f16463_
            refine wpListIn_nil ?_
            refine blk_n ?_
            refine blk_n ?_
            refine then_n ?_
            refine wpIn_region_lit ?_
            refine x_run tab hk (k := 2) (lv := []) (ks := [0, 5, 6, 9, 10, 11, 22, 23, 24]) (e' := [(0, .pointer (some ⟨bp0, 0, none⟩)), (5, .pointer (some ⟨bx16462, 0, none⟩)), (6, .slice A18657 (l18659).length c18658), (9, .slice (some ad16458) (p1).length c6581), (10, .int .i64 ((p1).length : Int)), (11, .int .i64 x6584), (22, .slice (some ad19200) (l6577).length c6576), (23, .int .i64 ((l6577).length : Int)), (24, .int .i64 (IntKind.wrap .i64 (x18662 + 1)))]) rfl trivial fun a hk => ?_
            refine wpListIn_nil ?_
            refine then_n ?_
            exact ⟨k19195, Nat.le_refl _, o19212, (⟨(mnI x18656.From ((rdD zT67 l6577 x18662).From)), (mxI x18656.To ((rdD zT67 l6577 x18662).To))⟩ : T67), A18657, c18658, l18659, (IntKind.wrap .i64 (x18662 + 1)), (by exact Kn.pick (ks := [0, 5, 6, 9, 10, 11, 22, 23, 24]) hk rfl), hs, f16463, f18660, f6578, f6582, f900019, hc18661, (hlp19197 ▸ H)⟩
          · rw [b19210] at hk H
            replace H := bifT H
            refine x_if hk (b := true) rfl ?_
            refine (show Code.wpIn _ _ _ _ _ _ _ from ?_)
            refine x_seq ?_
            refine x_cut (fun a_ w_ => ∃ o19484 : Nat → Nat, ∃ A19485 : Option Addr, ∃ c19486 : Nat, ∃ l19487 : List T67, Kn 79 a_ [(0, .pointer (some ⟨bp0, 0, none⟩)), (9, .slice (some ad16458) (p1).length c6581), (10, .int .i64 ((p1).length : Int)), (11, .int .i64 x6584)] ∧ St [1, 2] w oi w_ o19484 ∧ Ft (Own ET67 68 (.slice A19485 (l19487).length c19486) l19487) w_ o19484 1881 ∧ Ft (RdC ET67 (some ad16458) p1) w_ o19484 0 ∧ Ft (Bx bp0 64 [.slice A19485 (l19487).length c19486]) w_ o19484 1 ∧ (l19487).length ≤ c19486 ∧ spans_Set_Add_j5 x6584 lp13157 l19487 = some r) ?_ ?_
            rotate_left
            · rintro a w19490 ⟨o19484, A19485, c19486, l19487, hk, hs, f19488, f6582, f900019, hc19489, H⟩
              rw [spans_Set_Add_j5] at H
              refine then_n ?_
              refine wpIn_exit ?_
              refine blk_y rfl ?_
              refine blk_y rfl ?_
              refine then_x ?_
              refine then_x ?_
              refine blk_y rfl ?_
              refine then_x ?_
              refine blk_x ?_
              refine then_n ?_
              exact ⟨(fun b_ => (fun l_ => if l_ = 1881 then 2 else l_) (o19484 b_)), A19485, c19486, l19487, (some ad16458), c6581, (by exact Kn.pick (ks := [0, 9, 10, 11]) hk rfl), (hs.relabM hob (fun l_ => if l_ = 1881 then 2 else l_) (by decide)), (f19488.relab (fun l_ => if l_ = 1881 then 2 else l_) rfl), (f6582.relab (fun l_ => if l_ = 1881 then 2 else l_) rfl), (f900019.relab (fun l_ => if l_ = 1881 then 2 else l_) rfl), hc19489, hc6583, H⟩
            obtain ⟨q19533, H⟩ := ifS H
            obtain ⟨q19534, H⟩ := ifS H
            obtain ⟨t19549, hc19550, H⟩ := bindS H
            refine xd_begin (o := o19207) (fun W_ => (Bx bx16462 68 [.int .i64 x18656.From, .int .i64 x18656.To]) W_ ∧ True) mixed rfl rfl fun w19627 st19628 => ?_
            replace f16463 := f16463.st st19628 (by decide)
            replace f18660 := f18660.st st19628 (by decide)
            replace f19205 := f19205.st st19628 (by decide)
            replace f6578 := f6578.st st19628 (by decide)
            replace f6582 := f6582.st st19628 (by decide)
            replace f900019 := f900019.st st19628 (by decide)
            replace hs := hs.locM st19628 (by decide) hom
            refine xd_abs fun G hG => ?_
            have N19650 : ∀ (a_ : Act) (w_ : World), (∃ o19644 : Nat → Nat, ∃ A19645 : Option Addr, ∃ c19646 : Nat, Kn 79 a_ [(0, .pointer (some ⟨bp0, 0, none⟩)), (9, .slice (some ad16458) (p1).length c6581), (10, .int .i64 ((p1).length : Int)), (11, .int .i64 x6584), (56, .pointer (some ⟨bp0, 0, none⟩)), (57, .slice A18657 (l18659).length c18658), (59, .slice A19645 (([x18656] : List T67)).length c19646), (62, .pointer (some ⟨bp0, 0, none⟩)), (64, .int .i64 x18662)] ∧ St [1, 2] w oi w_ o19644 ∧ Ft (Bx bx16462 68 [.int .i64 x18656.From, .int .i64 x18656.To]) w_ o19644 1895 ∧ Ft (Own ET67 68 (.slice A18657 (l18659).length c18658) l18659) w_ o19644 1896 ∧ Ft (Own ET67 68 (.slice A19645 (([x18656] : List T67)).length c19646) ([x18656] : List T67)) w_ o19644 1897 ∧ Ft (Own ET67 68 (.slice (some ad19200) (l6577).length c6576) l6577) w_ o19644 2 ∧ Ft (RdC ET67 (some ad16458) p1) w_ o19644 0 ∧ Ft (Bx bp0 64 [.slice (some ad19200) (l6577).length c6576]) w_ o19644 1 ∧ (([x18656] : List T67)).length ≤ c19646) → G 7 #[true, true, true, true, true, true, true, false, true, false, false, false, false, false, false] a_ w_ := by
              rintro a w19649 ⟨o19644, A19645, c19646, hk, hs, f16463, f18660, f19647, f6578, f6582, f900019, hc19648⟩
              refine xd_of hG ?_
              refine xd_op hk (i := 7) (by kernel_rfl) rfl rfl ?_
              refine op_quiet tab hk (lv := [.slice (some ad19200) (l6577).length c6576]) (v := .slice (some ad19200) (l6577).length c6576) rfl ⟨(load1 tab rfl ((Bx.cell f900019.now 0).trans rfl)), trivial⟩ ?_
              have hk := hk.put 63 (.slice (some ad19200) (l6577).length c6576) rfl
              refine ⟨.inr ⟨f16463.now, trivial⟩, ?_⟩
              obtain ⟨A19651, c19652, ak19654, f19653, hc19655⟩ := ask_cut (P := Tryd.prog) tab (t := 62) rfl rfl (f6578.imp fun _ h_ => Own.rd h_) hc6579 (some (.int .i64 x18662)) none rfl ⟨q19533, (by have := q19534; omega), trivial⟩ (by have := q19533; have := q19534; omega) (Nat.le_refl _)
              refine xd_take tab hk (k := 5) (is := [9]) (ls' := #[true, true, true, true, true, true, true, true, true, true, false, false, false, false, false]) (lv := [.slice A19651 ((List.drop (Int.toNat x18662) (List.take (l6577).length l6577))).length c19652]) (ks := [0, 9, 10, 11, 56, 57, 59, 65]) (e' := [(0, .pointer (some ⟨bp0, 0, none⟩)), (9, .slice (some ad16458) (p1).length c6581), (10, .int .i64 ((p1).length : Int)), (11, .int .i64 x6584), (56, .pointer (some ⟨bp0, 0, none⟩)), (57, .slice A18657 (l18659).length c18658), (59, .slice A19645 (([x18656] : List T67)).length c19646), (65, .slice A19651 ((List.drop (Int.toNat x18662) (List.take (l6577).length l6577))).length c19652)]) (by kernel_rfl) rfl rfl (by kernel_rfl) (np_then (np_then (np_blk (np_blk (np_then (np_then (np_blk (np_then (np_blk (np_then (np_then (np_blk (np_sc np_body))))))))))))) ⟨f16463.now, trivial⟩ (fun W_ hS => ⟨(ak19654 rfl rfl rfl _), trivial⟩) fun a hk => ?_
              refine xd_op hk (i := 10) (by kernel_rfl) rfl rfl ?_
              refine op_slice (o := o19644) tab hk (vs := [.slice A18657 (l18659).length c18658, .slice A19645 (([x18656] : List T67)).length c19646, .slice A19651 ((List.drop (Int.toNat x18662) (List.take (l6577).length l6577))).length c19652]) (cs := [.slice A18657 (l18659).length c18658, .slice A19645 (([x18656] : List T67)).length c19646, .slice A19651 ((List.drop (Int.toNat x18662) (List.take (l6577).length l6577))).length c19652]) rfl rfl rfl rfl rfl rfl rfl rfl rfl 1898 fun bx19659 w19656 o19657 st19658 f19660 => ?_
              replace f16463 := f16463.st st19658 (by decide)
              replace f18660 := f18660.st st19658 (by decide)
              replace f19647 := f19647.st st19658 (by decide)
              replace f19653 := f19653.st st19658 (by decide)
              replace f6578 := f6578.st st19658 (by decide)
              replace f6582 := f6582.st st19658 (by decide)
              replace f900019 := f900019.st st19658 (by decide)
              replace hs := hs.locM st19658 (by decide) hom
              have hk := hk.put 66 (.slice (some ⟨bx19659, 0, none⟩) 3 3) rfl
              refine ⟨.inr ⟨f16463.now, trivial⟩, ?_⟩
              refine xd_op hk (i := 11) (by kernel_rfl) rfl rfl ?_
              have f19664 : NRd (dRows ET67) (some ⟨bx19659, 0, none⟩) ([l18659, ([x18656] : List T67), (List.drop (Int.toNat x18662) (List.take (l6577).length l6577))] : List (List T67)) w19656 (oneLab o19657 1898) 1 0 := (NOwn.lit f19660.lab1 [⟨A18657, c18658, l18659⟩, ⟨A19645, c19646, ([x18656] : List T67)⟩, ⟨A19651, c19652, (List.drop (Int.toNat x18662) (List.take (l6577).length l6577))⟩] rfl (Inn.consF ((f18660.imp fun _ h_ => Own.rd h_).lab0 rfl) hc18661 (Inn.consF ((f19647.imp fun _ h_ => Own.rd h_).lab0 rfl) hc19648 (Inn.consF (f19653.lab0 rfl) hc19655 (Inn.nilF _ _ _ _)))) rfl (Nat.le_of_ble_eq_true rfl)).rd
              refine op_call hk ent_56 (vs := [.slice (some ⟨bx19659, 0, none⟩) 3 3]) rfl (slices_Concat_calls K (some ⟨bx19659, 0, none⟩) 3 ([l18659, ([x18656] : List T67), (List.drop (Int.toNat x18662) (List.take (l6577).length l6577))] : List (List T67)) _ (oneLab o19657 1898) 0 1 f19664 (Nat.le_refl _) (by decide) (by decide) 1899 _ hc19550) ?_
              rintro _ w19665 ⟨o19666, A19670, c19671, rfl, st19668, f19672, hc19673⟩
              have st19669 := st19668.back o19657
              replace f19672 := f19672.back st19668 (oneLab_ne _ rfl) o19657
              obtain ⟨o19667, ho19667⟩ : ∃ x_, x_ = (fun b_ => if b_ < w19656.heap.size then o19657 b_ else o19666 b_) := ⟨_, rfl⟩
              rw [← ho19667] at st19669 f19672
              replace f16463 := f16463.st st19669 (by decide)
              replace f18660 := f18660.st st19669 (by decide)
              replace f19647 := f19647.st st19669 (by decide)
              replace f19653 := f19653.st st19669 (by decide)
              replace f19660 := f19660.st st19669 (by decide)
              replace f6578 := f6578.st st19669 (by decide)
              replace f6582 := f6582.st st19669 (by decide)
              replace f900019 := f900019.st st19669 (by decide)
              replace hs := hs.locM st19669 (by decide) hom
              have hk := hk.put 67 (.slice A19670 (t19549).length c19671) rfl
              refine ⟨.inr ⟨f16463.now, trivial⟩, ?_⟩
              refine xd_take tab hk (k := 1) (is := [12, 13]) (ls' := #[true, true, true, true, true, true, true, true, true, true, true, true, true, true, false]) (lv := []) (ks := [0, 9, 10, 11, 67, 69]) (e' := [(0, .pointer (some ⟨bp0, 0, none⟩)), (9, .slice (some ad16458) (p1).length c6581), (10, .int .i64 ((p1).length : Int)), (11, .int .i64 x6584), (67, .slice A19670 (t19549).length c19671), (69, .pointer (some ⟨bp0, 0, none⟩))]) (by kernel_rfl) rfl rfl (by kernel_rfl) (np_then (np_then (np_blk (np_blk (np_then (np_then (np_blk (np_then (np_blk (np_then (np_then (np_blk (np_sc np_body))))))))))))) ⟨f16463.now, trivial⟩ (fun W_ hS => trivial) fun a hk => ?_
              refine xd_op hk (i := 14) (by kernel_rfl) rfl rfl ?_
              refine op_store tab hk (t := 62) (v := .slice A19670 (t19549).length c19671) (b := bp0) (k := 0) (cs' := [.slice A19670 (t19549).length c19671]) rfl rfl rfl rfl rfl rfl f900019 rfl rfl fun w19674 o19675 st19676 f900019_ => ?_
              replace f16463 := f16463.st st19676 (by decide)
              replace f18660 := f18660.st st19676 (by decide)
              replace f19647 := f19647.st st19676 (by decide)
              replace f19653 := f19653.st st19676 (by decide)
              replace f19660 := f19660.st st19676 (by decide)
              replace f19672 := f19672.st st19676 (by decide)
              replace f6578 := f6578.st st19676 (by decide)
              replace f6582 := f6582.st st19676 (by decide)
              replace hs := hs.locM st19676 (by decide) hom
              replace f900019 := f900019_
              refine ⟨.inr ⟨f16463.now, trivial⟩, ?_⟩
              refine xd_done (by kernel_rfl) ?_
              refine then_n ?_
              exact ⟨(fun b_ => (fun l_ => if l_ = 1899 then 1881 else l_) (o19675 b_)), A19670, c19671, t19549, (by exact Kn.pick (ks := [0, 9, 10, 11]) hk rfl), (hs.relabM hob (fun l_ => if l_ = 1899 then 1881 else l_) (by decide)), (f19672.relab (fun l_ => if l_ = 1899 then 1881 else l_) rfl), (f6582.relab (fun l_ => if l_ = 1899 then 1881 else l_) rfl), (f900019.relab (fun l_ => if l_ = 1899 then 1881 else l_) rfl), hc19673, H⟩
            have N19682 : ∀ (a_ : Act) (w_ : World), (∃ o19680 : Nat → Nat, Kn 79 a_ [(0, .pointer (some ⟨bp0, 0, none⟩)), (9, .slice (some ad16458) (p1).length c6581), (10, .int .i64 ((p1).length : Int)), (11, .int .i64 x6584), (56, .pointer (some ⟨bp0, 0, none⟩)), (57, .slice A18657 (l18659).length c18658), (58, .agg #[.int .i64 x18656.From, .int .i64 x18656.To]), (63, .slice (some ad19200) (l6577).length c6576), (64, .int .i64 x18662)] ∧ St [1, 2] w oi w_ o19680 ∧ Ft (Bx bx16462 68 [.int .i64 x18656.From, .int .i64 x18656.To]) w_ o19680 1900 ∧ Ft (Own ET67 68 (.slice A18657 (l18659).length c18658) l18659) w_ o19680 1901 ∧ Ft (Own ET67 68 (.slice (some ad19200) (l6577).length c6576) l6577) w_ o19680 2 ∧ Ft (RdC ET67 (some ad16458) p1) w_ o19680 0 ∧ Ft (Bx bp0 64 [.slice (some ad19200) (l6577).length c6576]) w_ o19680 1) → G 7 #[true, true, true, false, true, true, true, true, true, false, false, false, false, false, false] a_ w_ := by
              rintro a w19681 ⟨o19680, hk, hs, f16463, f18660, f6578, f6582, f900019⟩
              refine xd_of hG ?_
              obtain ⟨A19683, c19684, ak19686, f19685, hc19687⟩ := ask_cut (P := Tryd.prog) tab (t := 62) rfl rfl (f6578.imp fun _ h_ => Own.rd h_) hc6579 (some (.int .i64 x18662)) none rfl ⟨q19533, (by have := q19534; omega), trivial⟩ (by have := q19533; have := q19534; omega) (Nat.le_refl _)
              refine xd_take tab hk (k := 6) (is := [9]) (ls' := #[true, true, true, false, true, true, true, true, true, true, false, false, false, false, false]) (lv := [.slice A19683 ((List.drop (Int.toNat x18662) (List.take (l6577).length l6577))).length c19684]) (ks := [0, 9, 10, 11, 56, 57, 58, 65]) (e' := [(0, .pointer (some ⟨bp0, 0, none⟩)), (9, .slice (some ad16458) (p1).length c6581), (10, .int .i64 ((p1).length : Int)), (11, .int .i64 x6584), (56, .pointer (some ⟨bp0, 0, none⟩)), (57, .slice A18657 (l18659).length c18658), (58, .agg #[.int .i64 x18656.From, .int .i64 x18656.To]), (65, .slice A19683 ((List.drop (Int.toNat x18662) (List.take (l6577).length l6577))).length c19684)]) (by kernel_rfl) rfl rfl (by kernel_rfl) (np_then (np_then (np_blk (np_blk (np_then (np_then (np_blk (np_then (np_blk (np_then (np_then (np_blk (np_sc np_body))))))))))))) ⟨f16463.now, trivial⟩ (fun W_ hS => ⟨(ak19686 rfl rfl rfl _), trivial⟩) fun a hk => ?_
              refine xd_op hk (i := 3) (by kernel_rfl) rfl rfl ?_
              refine op_slice (o := o19680) tab hk (vs := [.agg #[.int .i64 x18656.From, .int .i64 x18656.To]]) (cs := [.int .i64 x18656.From, .int .i64 x18656.To]) rfl rfl rfl rfl rfl rfl rfl rfl rfl 1902 fun bx19691 w19688 o19689 st19690 f19692 => ?_
              replace f16463 := f16463.st st19690 (by decide)
              replace f18660 := f18660.st st19690 (by decide)
              replace f19685 := f19685.st st19690 (by decide)
              replace f6578 := f6578.st st19690 (by decide)
              replace f6582 := f6582.st st19690 (by decide)
              replace f900019 := f900019.st st19690 (by decide)
              replace hs := hs.locM st19690 (by decide) hom
              have f19693 : Ft (Own ET67 68 (.slice (some ⟨bx19691, 0, none⟩) (([x18656] : List T67)).length 1) ([x18656] : List T67)) w19688 o19689 1902 := f19692.imp fun _ h_ => Own.of_box h_ rfl (by simp)
              have hk := hk.put 59 (.slice (some ⟨bx19691, 0, none⟩) (([x18656] : List T67)).length 1) rfl
              refine ⟨.inr ⟨f16463.now, trivial⟩, ?_⟩
              refine xd_op hk (i := 10) (by kernel_rfl) rfl rfl ?_
              refine op_slice (o := o19689) tab hk (vs := [.slice A18657 (l18659).length c18658, .slice (some ⟨bx19691, 0, none⟩) (([x18656] : List T67)).length 1, .slice A19683 ((List.drop (Int.toNat x18662) (List.take (l6577).length l6577))).length c19684]) (cs := [.slice A18657 (l18659).length c18658, .slice (some ⟨bx19691, 0, none⟩) (([x18656] : List T67)).length 1, .slice A19683 ((List.drop (Int.toNat x18662) (List.take (l6577).length l6577))).length c19684]) rfl rfl rfl rfl rfl rfl rfl rfl rfl 1903 fun bx19697 w19694 o19695 st19696 f19698 => ?_
              replace f16463 := f16463.st st19696 (by decide)
              replace f18660 := f18660.st st19696 (by decide)
              replace f19685 := f19685.st st19696 (by decide)
              replace f19693 := f19693.st st19696 (by decide)
              replace f6578 := f6578.st st19696 (by decide)
              replace f6582 := f6582.st st19696 (by decide)
              replace f900019 := f900019.st st19696 (by decide)
              replace hs := hs.locM st19696 (by decide) hom
              have hk := hk.put 66 (.slice (some ⟨bx19697, 0, none⟩) 3 3) rfl
              refine ⟨.inr ⟨f16463.now, trivial⟩, ?_⟩
              refine xd_op hk (i := 11) (by kernel_rfl) rfl rfl ?_
              have f19702 : NRd (dRows ET67) (some ⟨bx19697, 0, none⟩) ([l18659, ([x18656] : List T67), (List.drop (Int.toNat x18662) (List.take (l6577).length l6577))] : List (List T67)) w19694 (oneLab o19695 1903) 1 0 := (NOwn.lit f19698.lab1 [⟨A18657, c18658, l18659⟩, ⟨(some ⟨bx19691, 0, none⟩), 1, ([x18656] : List T67)⟩, ⟨A19683, c19684, (List.drop (Int.toNat x18662) (List.take (l6577).length l6577))⟩] rfl (Inn.consF ((f18660.imp fun _ h_ => Own.rd h_).lab0 rfl) hc18661 (Inn.consF ((f19693.imp fun _ h_ => Own.rd h_).lab0 rfl) (Nat.le_refl _) (Inn.consF (f19685.lab0 rfl) hc19687 (Inn.nilF _ _ _ _)))) rfl (Nat.le_of_ble_eq_true rfl)).rd
              refine op_call hk ent_56 (vs := [.slice (some ⟨bx19697, 0, none⟩) 3 3]) rfl (slices_Concat_calls K (some ⟨bx19697, 0, none⟩) 3 ([l18659, ([x18656] : List T67), (List.drop (Int.toNat x18662) (List.take (l6577).length l6577))] : List (List T67)) _ (oneLab o19695 1903) 0 1 f19702 (Nat.le_refl _) (by decide) (by decide) 1904 _ hc19550) ?_
              rintro _ w19703 ⟨o19704, A19708, c19709, rfl, st19706, f19710, hc19711⟩
              have st19707 := st19706.back o19695
              replace f19710 := f19710.back st19706 (oneLab_ne _ rfl) o19695
              obtain ⟨o19705, ho19705⟩ : ∃ x_, x_ = (fun b_ => if b_ < w19694.heap.size then o19695 b_ else o19704 b_) := ⟨_, rfl⟩
              rw [← ho19705] at st19707 f19710
              replace f16463 := f16463.st st19707 (by decide)
              replace f18660 := f18660.st st19707 (by decide)
              replace f19685 := f19685.st st19707 (by decide)
              replace f19693 := f19693.st st19707 (by decide)
              replace f19698 := f19698.st st19707 (by decide)
              replace f6578 := f6578.st st19707 (by decide)
              replace f6582 := f6582.st st19707 (by decide)
              replace f900019 := f900019.st st19707 (by decide)
              replace hs := hs.locM st19707 (by decide) hom
              have hk := hk.put 67 (.slice A19708 (t19549).length c19709) rfl
              refine ⟨.inr ⟨f16463.now, trivial⟩, ?_⟩
              refine xd_take tab hk (k := 1) (is := [12, 13]) (ls' := #[true, true, true, true, true, true, true, true, true, true, true, true, true, true, false]) (lv := []) (ks := [0, 9, 10, 11, 67, 69]) (e' := [(0, .pointer (some ⟨bp0, 0, none⟩)), (9, .slice (some ad16458) (p1).length c6581), (10, .int .i64 ((p1).length : Int)), (11, .int .i64 x6584), (67, .slice A19708 (t19549).length c19709), (69, .pointer (some ⟨bp0, 0, none⟩))]) (by kernel_rfl) rfl rfl (by kernel_rfl) (np_then (np_then (np_blk (np_blk (np_then (np_then (np_blk (np_then (np_blk (np_then (np_then (np_blk (np_sc np_body))))))))))))) ⟨f16463.now, trivial⟩ (fun W_ hS => trivial) fun a hk => ?_
              refine xd_op hk (i := 14) (by kernel_rfl) rfl rfl ?_
              refine op_store tab hk (t := 62) (v := .slice A19708 (t19549).length c19709) (b := bp0) (k := 0) (cs' := [.slice A19708 (t19549).length c19709]) rfl rfl rfl rfl rfl rfl f900019 rfl rfl fun w19712 o19713 st19714 f900019_ => ?_
              replace f16463 := f16463.st st19714 (by decide)
              replace f18660 := f18660.st st19714 (by decide)
              replace f19685 := f19685.st st19714 (by decide)
              replace f19693 := f19693.st st19714 (by decide)
              replace f19698 := f19698.st st19714 (by decide)
              replace f19710 := f19710.st st19714 (by decide)
              replace f6578 := f6578.st st19714 (by decide)
              replace f6582 := f6582.st st19714 (by decide)
              replace hs := hs.locM st19714 (by decide) hom
              replace f900019 := f900019_
              refine ⟨.inr ⟨f16463.now, trivial⟩, ?_⟩
              refine xd_done (by kernel_rfl) ?_
              refine then_n ?_
              exact ⟨(fun b_ => (fun l_ => if l_ = 1904 then 1881 else l_) (o19713 b_)), A19708, c19709, t19549, (by exact Kn.pick (ks := [0, 9, 10, 11]) hk rfl), (hs.relabM hob (fun l_ => if l_ = 1904 then 1881 else l_) (by decide)), (f19710.relab (fun l_ => if l_ = 1904 then 1881 else l_) rfl), (f6582.relab (fun l_ => if l_ = 1904 then 1881 else l_) rfl), (f900019.relab (fun l_ => if l_ = 1904 then 1881 else l_) rfl), hc19711, H⟩
            refine xd_of hG ?_
            refine xd_take tab hk (k := 8) (is := [0, 1, 2, 4, 5, 6, 8]) (ls' := #[true, true, true, false, true, true, true, false, true, false, false, false, false, false, false]) (lv := [.agg #[.int .i64 x18656.From, .int .i64 x18656.To]]) (ks := [0, 9, 10, 11, 56, 57, 58, 62, 64]) (e' := [(0, .pointer (some ⟨bp0, 0, none⟩)), (9, .slice (some ad16458) (p1).length c6581), (10, .int .i64 ((p1).length : Int)), (11, .int .i64 x6584), (56, .pointer (some ⟨bp0, 0, none⟩)), (57, .slice A18657 (l18659).length c18658), (58, .agg #[.int .i64 x18656.From, .int .i64 x18656.To]), (62, .pointer (some ⟨bp0, 0, none⟩)), (64, .int .i64 x18662)]) (by kernel_rfl) rfl rfl (by kernel_rfl) (np_then (np_then (np_blk (np_blk (np_then (np_then (np_blk (np_then (np_blk (np_then (np_then (np_blk (np_sc np_body))))))))))))) ⟨f16463.now, trivial⟩ (fun W_ hS => ⟨(load_box tab rfl rfl hS.1 (k := 0) rfl rfl), trivial⟩) fun a hk => ?_
            refine xd_each [3, 7] (by kernel_rfl) rfl ⟨?_, ?_, trivial⟩
            · refine xd_one hk rfl rfl ?_
              refine op_slice (o := o19207) tab hk (vs := [.agg #[.int .i64 x18656.From, .int .i64 x18656.To]]) (cs := [.int .i64 x18656.From, .int .i64 x18656.To]) rfl rfl rfl rfl rfl rfl rfl rfl rfl 1894 fun bx19632 w19629 o19630 st19631 f19633 => ?_
              replace f16463 := f16463.st st19631 (by decide)
              replace f18660 := f18660.st st19631 (by decide)
              replace f19205 := f19205.st st19631 (by decide)
              replace f6578 := f6578.st st19631 (by decide)
              replace f6582 := f6582.st st19631 (by decide)
              replace f900019 := f900019.st st19631 (by decide)
              replace hs := hs.locM st19631 (by decide) hom
              have f19634 : Ft (Own ET67 68 (.slice (some ⟨bx19632, 0, none⟩) (([x18656] : List T67)).length 1) ([x18656] : List T67)) w19629 o19630 1894 := f19633.imp fun _ h_ => Own.of_box h_ rfl (by simp)
              have hk := hk.put 59 (.slice (some ⟨bx19632, 0, none⟩) (([x18656] : List T67)).length 1) rfl
              refine ⟨.inr ⟨f16463.now, trivial⟩, ?_⟩
              exact xd_to hG rfl (N19650 _ _ ⟨(fun b_ => (fun l_ => if l_ = 1800 then 1895 else if l_ = 1801 then 1896 else if l_ = 1894 then 1897 else l_) (o19630 b_)), (some ⟨bx19632, 0, none⟩), 1, (by exact Kn.pick (ks := [0, 9, 10, 11, 56, 57, 59, 62, 64]) hk rfl), (hs.relabM hob (fun l_ => if l_ = 1800 then 1895 else if l_ = 1801 then 1896 else if l_ = 1894 then 1897 else l_) (by decide)), (f16463.relab (fun l_ => if l_ = 1800 then 1895 else if l_ = 1801 then 1896 else if l_ = 1894 then 1897 else l_) rfl), (f18660.relab (fun l_ => if l_ = 1800 then 1895 else if l_ = 1801 then 1896 else if l_ = 1894 then 1897 else l_) rfl), (f19634.relab (fun l_ => if l_ = 1800 then 1895 else if l_ = 1801 then 1896 else if l_ = 1894 then 1897 else l_) rfl), (f6578.relab (fun l_ => if l_ = 1800 then 1895 else if l_ = 1801 then 1896 else if l_ = 1894 then 1897 else l_) rfl), (f6582.relab (fun l_ => if l_ = 1800 then 1895 else if l_ = 1801 then 1896 else if l_ = 1894 then 1897 else l_) rfl), (f900019.relab (fun l_ => if l_ = 1800 then 1895 else if l_ = 1801 then 1896 else if l_ = 1894 then 1897 else l_) rfl), (Nat.le_refl _)⟩)
            · refine xd_one hk rfl rfl ?_
              refine op_quiet tab hk (lv := [.slice (some ad19200) (l6577).length c6576]) (v := .slice (some ad19200) (l6577).length c6576) rfl ⟨(load1 tab rfl ((Bx.cell f900019.now 0).trans rfl)), trivial⟩ ?_
              have hk := hk.put 63 (.slice (some ad19200) (l6577).length c6576) rfl
              refine ⟨.inr ⟨f16463.now, trivial⟩, ?_⟩
              exact xd_to hG rfl (N19682 _ _ ⟨(fun b_ => (fun l_ => if l_ = 1800 then 1900 else if l_ = 1801 then 1901 else l_) (o19207 b_)), (by exact Kn.pick (ks := [0, 9, 10, 11, 56, 57, 58, 63, 64]) hk rfl), (hs.relabM hob (fun l_ => if l_ = 1800 then 1900 else if l_ = 1801 then 1901 else l_) (by decide)), (f16463.relab (fun l_ => if l_ = 1800 then 1900 else if l_ = 1801 then 1901 else l_) rfl), (f18660.relab (fun l_ => if l_ = 1800 then 1900 else if l_ = 1801 then 1901 else l_) rfl), (f6578.relab (fun l_ => if l_ = 1800 then 1900 else if l_ = 1801 then 1901 else l_) rfl), (f6582.relab (fun l_ => if l_ = 1800 then 1900 else if l_ = 1801 then 1901 else l_) rfl), (f900019.relab (fun l_ => if l_ = 1800 then 1900 else if l_ = 1801 then 1901 else l_) rfl)⟩)
        · rw [b19209] at hk H
          replace H := bifT H
          refine x_if hk (b := true) rfl ?_
          refine (show Code.wpIn _ _ _ _ _ _ _ from ?_)
          refine wpIn_region_lit ?_
          refine x_run tab hk (k := 2) (lv := [.agg #[.int .i64 ((rdD zT67 l6577 x18662).From), .int .i64 ((rdD zT67 l6577 x18662).To)]]) (ks := [0, 5, 9, 10, 11, 22, 23, 24, 46, 47]) (e' := [(0, .pointer (some ⟨bp0, 0, none⟩)), (5, .pointer (some ⟨bx16462, 0, none⟩)), (9, .slice (some ad16458) (p1).length c6581), (10, .int .i64 ((p1).length : Int)), (11, .int .i64 x6584), (22, .slice (some ad19200) (l6577).length c6576), (23, .int .i64 ((l6577).length : Int)), (24, .int .i64 x18662), (46, .slice A18657 (l18659).length c18658), (47, .agg #[.int .i64 ((rdD zT67 l6577 x18662).From), .int .i64 ((rdD zT67 l6577 x18662).To)])]) rfl ⟨(load_box tab rfl rfl f19205.now (k := 0) rfl rfl), trivial⟩ fun a hk => ?_
          refine x_op hk rfl ?_
          refine op_slice (o := o19207) tab hk (vs := [.agg #[.int .i64 ((rdD zT67 l6577 x18662).From), .int .i64 ((rdD zT67 l6577 x18662).To)]]) (cs := [.int .i64 ((rdD zT67 l6577 x18662).From), .int .i64 ((rdD zT67 l6577 x18662).To)]) rfl rfl rfl rfl rfl rfl rfl rfl rfl 1905 fun bx19718 w19715 o19716 st19717 f19719 => ?_
          replace f16463 := f16463.st st19717 (by decide)
          replace f18660 := f18660.st st19717 (by decide)
          replace f6578 := f6578.st st19717 (by decide)
          replace f6582 := f6582.st st19717 (by decide)
          replace f900019 := f900019.st st19717 (by decide)
          replace hs := hs.locM st19717 (by decide) hom
          have f19720 : Ft (Own ET67 68 (.slice (some ⟨bx19718, 0, none⟩) (([(rdD zT67 l6577 x18662)] : List T67)).length 1) ([(rdD zT67 l6577 x18662)] : List T67)) w19715 o19716 1905 := f19719.imp fun _ h_ => Own.of_box h_ rfl (by simp)
          have hk := hk.put 48 (.slice (some ⟨bx19718, 0, none⟩) (([(rdD zT67 l6577 x18662)] : List T67)).length 1) rfl
          refine x_op hk rfl ?_
          obtain ⟨q19724, H⟩ := ifS H
          refine op_append (o := o19716) (E := ET67) (xs := l18659) (ys := ([(rdD zT67 l6577 x18662)] : List T67)) tab hk rfl rfl rfl rfl rfl rfl rfl f18660 (Own.rd f19720.now) q19724 fun A19725 c19726 w19721 o19722 st19723 f19727 hc19728 => ?_
          replace f16463 := f16463.st st19723 (by decide)
          replace f19720 := f19720.st st19723 (by decide)
          replace f6578 := f6578.st st19723 (by decide)
          replace f6582 := f6582.st st19723 (by decide)
          replace f900019 := f900019.st st19723 (by decide)
          replace hs := hs.locM st19723 (by decide) hom
          have hk := hk.put 49 (.slice A19725 ((l18659 ++ ([(rdD zT67 l6577 x18662)] : List T67))).length c19726) rfl
          refine x_run tab hk (k := 1) (lv := []) (ks := [0, 5, 6, 9, 10, 11, 22, 23, 24]) (e' := [(0, .pointer (some ⟨bp0, 0, none⟩)), (5, .pointer (some ⟨bx16462, 0, none⟩)), (6, .slice A19725 ((l18659 ++ ([(rdD zT67 l6577 x18662)] : List T67))).length c19726), (9, .slice (some ad16458) (p1).length c6581), (10, .int .i64 ((p1).length : Int)), (11, .int .i64 x6584), (22, .slice (some ad19200) (l6577).length c6576), (23, .int .i64 ((l6577).length : Int)), (24, .int .i64 x18662)]) rfl trivial fun a hk => ?_
          refine wpListIn_nil ?_
          refine blk_n ?_
          refine blk_n ?_
          refine then_n ?_
          refine wpIn_region_lit ?_
          refine x_run tab hk (k := 2) (lv := []) (ks := [0, 5, 6, 9, 10, 11, 22, 23, 24]) (e' := [(0, .pointer (some ⟨bp0, 0, none⟩)), (5, .pointer (some ⟨bx16462, 0, none⟩)), (6, .slice A19725 ((l18659 ++ ([(rdD zT67 l6577 x18662)] : List T67))).length c19726), (9, .slice (some ad16458) (p1).length c6581), (10, .int .i64 ((p1).length : Int)), (11, .int .i64 x6584), (22, .slice (some ad19200) (l6577).length c6576), (23, .int .i64 ((l6577).length : Int)), (24, .int .i64 (IntKind.wrap .i64 (x18662 + 1)))]) rfl trivial fun a hk => ?_
          refine wpListIn_nil ?_
          refine then_n ?_
          exact ⟨k19195, Nat.le_refl _, o19722, x18656, A19725, c19726, (l18659 ++ ([(rdD zT67 l6577 x18662)] : List T67)), (IntKind.wrap .i64 (x18662 + 1)), (by exact Kn.pick (ks := [0, 5, 6, 9, 10, 11, 22, 23, 24]) hk rfl), hs, f16463, f19727, f6578, f6582, f900019, hc19728, (hlp19197 ▸ H)⟩
    · rw [b16486] at hk H
      replace H := bifT H
      refine x_if hk (b := true) rfl ?_
      refine (show Code.wpIn _ _ _ _ _ _ _ from ?_)
      refine wpIn_exit ?_
      refine then_x ?_
      refine blk_x ?_
      refine then_n ?_
      exact ⟨o16484, A6575, c6576, l6577, (some ad16458), c6581, (by exact Kn.pick (ks := [0, 9, 10, 11]) hk rfl), hs, f6578, f6582, f900019, hc6579, hc6583, H⟩

end Go.Proofs.YtpciioffkjpieaaDoor
