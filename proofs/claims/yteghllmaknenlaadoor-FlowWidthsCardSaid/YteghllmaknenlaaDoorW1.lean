/- Walks, printed by an own program: the machine's calls compute the plain functions. -/
import Derived.Test.YteghllmaknenlaaDoorW0
set_option linter.unusedVariables false
set_option linter.unusedSimpArgs false
namespace Go.Proofs.YteghllmaknenlaaDoor
open Go Go.Proofs.XC
/-! tidewrack/flow.runes -/
theorem flow_runes_calls (K : Nat) (Ap0 : Option Addr) (cp0 : Nat) (p0 : List T24) (w : World) (o : Nat → Nat) (Lp0 : Nat) (hp0 : Ft (RdC ET24 Ap0 p0) w o Lp0) (hcp0 : (p0).length ≤ cp0)  (R0 : Nat) (r : List Int) (H : flow_runes K p0 = some r) :
    Calls Tryd.prog 24 #[.slice Ap0 (p0).length cp0] w (Ret fun v_ w' => ∃ o' : Nat → Nat, ∃ A0 : Option Addr, ∃ c0 : Nat, v_ = .slice A0 (r).length c0 ∧ St [] w o w' o' ∧ Ft (Own (encInt .i32) 21 (.slice A0 (r).length c0) r) w' o' R0 ∧ (r).length ≤ c0) := by
  refine x_enter (vs := [.slice Ap0 (p0).length cp0]) Tryd.func24 rfl rfl rfl fun a hk => ?_
  obtain ⟨o0, hs, h0⟩ := St.start w o
  have f900000 := h0 _ _ hp0
  clear h0
  rw [flow_runes] at H
  refine x_seq ?_
  refine wpIn_region_lit ?_
  refine x_run tab hk (k := 1) (lv := []) (ks := [0]) (e' := [(0, .slice Ap0 (p0).length cp0)]) rfl trivial fun a hk => ?_
  refine wpListIn_nil ?_
  refine then_n ?_
  refine x_seq ?_
  refine wpIn_region_lit ?_
  refine x_run tab hk (k := 1) (lv := []) (ks := [0, 3]) (e' := [(0, .slice Ap0 (p0).length cp0), (3, .slice none 0 0)]) rfl trivial fun a hk => ?_
  refine wpListIn_nil ?_
  refine then_n ?_
  refine x_mid (fun a_ w_ => ∃ o100 : Nat → Nat, ∃ A101 : Option Addr, ∃ c102 : Nat, ∃ l103 : List Int, Kn 19 a_ [(3, .slice A101 (l103).length c102)] ∧ St [] w (fun _ => 0) w_ o100 ∧ Ft (Own (encInt .i32) 21 (.slice A101 (l103).length c102) l103) w_ o100 10 ∧ (l103).length ≤ c102 ∧ flow_runes_j1 l103 = some r) ?_ ?_
  rotate_left
  · rintro a w106 ⟨o100, A101, c102, l103, hk, hs, f104, hc105, H⟩
    rw [flow_runes_j1] at H
    refine x_seq ?_
    refine wpIn_region_lit ?_
    refine x_run tab hk (k := 2) (lv := []) (ks := [2]) (e' := [(2, .slice A101 (l103).length c102)]) rfl trivial fun a hk => ?_
    refine wpListIn_nil ?_
    refine then_n ?_
    refine wpIn_ret ?_
    obtain rfl := Option.some.inj H
    exact x_retG hk (rs := [.tmp 2]) (vs := [.slice A101 (l103).length c102]) rfl ⟨rfl, trivial⟩ ⟨fun b_ => if b_ < w.heap.size then o b_ else (fun _ => R0) (o100 b_), A101, c102, rfl, hs.close0 o (fun _ => R0), hs.close_ft (o := o) (ρ := fun _ => R0) f104 (by decide) rfl, hc105⟩
  refine x_seq ?_
  refine wpIn_region_lit ?_
  refine x_run tab hk (k := 3) (lv := []) (ks := [3, 6, 7, 8]) (e' := [(3, .slice none 0 0), (6, .slice Ap0 (p0).length cp0), (7, .int .i64 ((p0).length : Int)), (8, .int .i64 0)]) rfl trivial fun a hk => ?_
  refine wpListIn_nil ?_
  refine then_n ?_
  refine wpIn_block ?_
  refine x_loop (fun j_ a_ w_ => ∃ o135 : Nat → Nat, ∃ A136 : Option Addr, ∃ c137 : Nat, ∃ l138 : List Int, ∃ x141 : Int, Kn 19 a_ [(3, .slice A136 (l138).length c137), (6, .slice Ap0 (p0).length cp0), (7, .int .i64 ((p0).length : Int)), (8, .int .i64 x141)] ∧ St [] w (fun _ => 0) w_ o135 ∧ Ft (Own (encInt .i32) 21 (.slice A136 (l138).length c137) l138) w_ o135 14 ∧ Ft (RdC ET24 Ap0 p0) w_ o135 0 ∧ (l138).length ≤ c137 ∧ flow_runes_l2 p0 j_ l138 x141 = some r) (k := K) ⟨o0, none, 0, ([] : List Int), 0, (by exact Kn.pick (ks := [3, 6, 7, 8]) hk rfl), hs, (Ft.of_all (fun _ => Own.nil _ _ _) _ _ _), f900000, (by simp), H⟩ (by rintro _ _ ⟨_, _, _, _, _, _, _, _, _, _, H_⟩; exact absurd (show (none : Option (List Int)) = some r from H_) (by simp)) ?_
  rintro k168 a w167 ⟨o135, A136, c137, l138, x141, hk, hs, f139, f900000, hc140, H⟩
  rw [flow_runes_l2] at H
  obtain ⟨lp169, hlp170⟩ : ∃ lp_, lp_ = flow_runes_l2 p0 k168 := ⟨_, rfl⟩
  rw [← hlp170] at H
  refine x_seq ?_
  refine wpIn_region_lit ?_
  refine x_run tab hk (k := 1) (lv := []) (ks := [3, 6, 7, 8, 9]) (e' := [(3, .slice A136 (l138).length c137), (6, .slice Ap0 (p0).length cp0), (7, .int .i64 ((p0).length : Int)), (8, .int .i64 x141), (9, .bool (decide (x141 < ((p0).length : Int))))]) rfl trivial fun a hk => ?_
  refine wpListIn_nil ?_
  refine then_n ?_
  refine x_seq ?_
  cases b171 : (decide (x141 < ((p0).length : Int)))
  · rw [b171] at hk H
    replace H := bifF H
    refine x_if hk (b := false) rfl ?_
    refine (show Code.wpIn _ _ _ _ _ _ _ from ?_)
    refine wpIn_exit ?_
    refine then_x ?_
    refine then_x ?_
    refine blk_x ?_
    refine then_n ?_
    exact ⟨(fun b_ => (fun l_ => if l_ = 14 then 10 else l_) (o135 b_)), A136, c137, l138, (by exact Kn.pick (ks := [3]) hk rfl), (hs.relab0 (fun l_ => if l_ = 14 then 10 else l_) rfl), (f139.relab (fun l_ => if l_ = 14 then 10 else l_) rfl), hc140, H⟩
  · rw [b171] at hk H
    replace H := bifT H
    refine x_if hk (b := true) rfl ?_
    refine (show Code.wpIn _ _ _ _ _ _ _ from ?_)
    refine wpIn_skip ?_
    refine then_n ?_
    refine x_seq ?_
    refine wpIn_block ?_
    refine x_seq ?_
    refine wpIn_region_lit ?_
    obtain ⟨q172, H⟩ := ifS H
    obtain ⟨ad173, hAad173⟩ := RdC.addr f900000.now q172
    have hk_C := hk
    have f139_C := f139
    have f900000_C := f900000
    subst hAad173
    have hk := hk_C
    clear hk_C
    have f139 := f139_C
    clear f139_C
    have f900000 := f900000_C
    clear f900000_C
    refine x_run tab hk (k := 2) (lv := [.agg #[.int .i32 ((rdD zT24 p0 x141).Rune), .int .i64 ((rdD zT24 p0 x141).Style)]]) (ks := [3, 6, 7, 8, 11]) (e' := [(3, .slice A136 (l138).length c137), (6, .slice (some ad173) (p0).length cp0), (7, .int .i64 ((p0).length : Int)), (8, .int .i64 x141), (11, .agg #[.int .i32 ((rdD zT24 p0 x141).Rune), .int .i64 ((rdD zT24 p0 x141).Style)])]) rfl ⟨q172, (load_elem (E := ET24) (i := x141) (dx := zT24) tab rfl rfl f900000.now q172), trivial⟩ fun a hk => ?_
    refine x_op hk rfl ?_
    refine op_alloc (o := o135) tab (t := 25) (cs := [.int .i32 0, .int .i64 0]) rfl rfl 17 fun bx177 w174 o175 st176 f178 => ?_
    replace f139 := f139.st st176 (by decide)
    replace f900000 := f900000.st st176 (by decide)
    replace hs := hs.loc0 st176 (by decide)
    have hk := hk.put 5 (.pointer (some ⟨bx177, 0, none⟩)) rfl
    refine x_op hk rfl ?_
    refine op_store tab hk (t := 25) (v := .agg #[.int .i32 ((rdD zT24 p0 x141).Rune), .int .i64 ((rdD zT24 p0 x141).Style)]) (b := bx177) (k := 0) (cs' := [.int .i32 ((rdD zT24 p0 x141).Rune), .int .i64 ((rdD zT24 p0 x141).Style)]) rfl rfl rfl rfl rfl rfl f178 rfl rfl fun w179 o180 st181 f178_ => ?_
    replace f139 := f139.st st181 (by decide)
    replace f900000 := f900000.st st181 (by decide)
    replace hs := hs.loc0 st181 (by decide)
    replace f178 := f178_
    refine wpListIn_nil ?_
    refine then_n ?_
    refine wpIn_region_lit ?_
    refine x_run tab hk (k := 3) (lv := [.int .i32 ((rdD zT24 p0 x141).Rune)]) (ks := [6, 7, 8, 12, 14]) (e' := [(6, .slice (some ad173) (p0).length cp0), (7, .int .i64 ((p0).length : Int)), (8, .int .i64 x141), (12, .slice A136 (l138).length c137), (14, .int .i32 ((rdD zT24 p0 x141).Rune))]) rfl ⟨(load1 tab rfl ((Bx.cell f178.now 0).trans rfl)), trivial⟩ fun a hk => ?_
    refine x_op hk rfl ?_
    refine op_slice (o := o180) tab hk (vs := [.int .i32 ((rdD zT24 p0 x141).Rune)]) (cs := [.int .i32 ((rdD zT24 p0 x141).Rune)]) rfl rfl rfl rfl rfl rfl rfl rfl rfl 18 fun bx185 w182 o183 st184 f186 => ?_
    replace f139 := f139.st st184 (by decide)
    replace f900000 := f900000.st st184 (by decide)
    replace hs := hs.loc0 st184 (by decide)
    have f187 : Ft (Own (encInt .i32) 21 (.slice (some ⟨bx185, 0, none⟩) (([(rdD zT24 p0 x141).Rune] : List Int)).length 1) ([(rdD zT24 p0 x141).Rune] : List Int)) w182 o183 18 := f186.imp fun _ h_ => Own.of_box h_ rfl (by simp)
    have hk := hk.put 15 (.slice (some ⟨bx185, 0, none⟩) (([(rdD zT24 p0 x141).Rune] : List Int)).length 1) rfl
    refine x_op hk rfl ?_
    obtain ⟨q191, H⟩ := ifS H
    refine op_append (o := o183) (E := (encInt .i32)) (xs := l138) (ys := ([(rdD zT24 p0 x141).Rune] : List Int)) tab hk rfl rfl rfl rfl rfl rfl rfl f139 (Own.rd f187.now) q191 fun A192 c193 w188 o189 st190 f194 hc195 => ?_
    replace f187 := f187.st st190 (by decide)
    replace f900000 := f900000.st st190 (by decide)
    replace hs := hs.loc0 st190 (by decide)
    have hk := hk.put 16 (.slice A192 ((l138 ++ ([(rdD zT24 p0 x141).Rune] : List Int))).length c193) rfl
    refine x_run tab hk (k := 1) (lv := []) (ks := [3, 6, 7, 8]) (e' := [(3, .slice A192 ((l138 ++ ([(rdD zT24 p0 x141).Rune] : List Int))).length c193), (6, .slice (some ad173) (p0).length cp0), (7, .int .i64 ((p0).length : Int)), (8, .int .i64 x141)]) rfl trivial fun a hk => ?_
    refine wpListIn_nil ?_
    refine blk_n ?_
    refine then_n ?_
    refine wpIn_region_lit ?_
    refine x_run tab hk (k := 2) (lv := []) (ks := [3, 6, 7, 8]) (e' := [(3, .slice A192 ((l138 ++ ([(rdD zT24 p0 x141).Rune] : List Int))).length c193), (6, .slice (some ad173) (p0).length cp0), (7, .int .i64 ((p0).length : Int)), (8, .int .i64 (IntKind.wrap .i64 (x141 + 1)))]) rfl trivial fun a hk => ?_
    refine wpListIn_nil ?_
    refine then_n ?_
    exact ⟨k168, Nat.le_refl _, o189, A192, c193, (l138 ++ ([(rdD zT24 p0 x141).Rune] : List Int)), (IntKind.wrap .i64 (x141 + 1)), (by exact Kn.pick (ks := [3, 6, 7, 8]) hk rfl), hs, f194, f900000, hc195, (hlp170 ▸ H)⟩

/-! tidewrack/wide.in -/
theorem wide_in_calls (K : Nat) (Ap0 : Option Addr) (cp0 : Nat) (p0 : List T68) (p1 : Int) (w : World) (o : Nat → Nat) (Lp0 : Nat) (hp0 : Ft (RdC ET68 Ap0 p0) w o Lp0) (hcp0 : (p0).length ≤ cp0)  (r : Bool) (H : wide_in K p0 p1 = some r) :
    Calls Tryd.prog 34 #[.slice Ap0 (p0).length cp0, .int .i32 p1] w (Ret fun v_ w' => ∃ o' : Nat → Nat, v_ = .bool r ∧ St [] w o w' o') := by
  refine x_enter (vs := [.slice Ap0 (p0).length cp0, .int .i32 p1]) Tryd.func34 rfl rfl rfl fun a hk => ?_
  obtain ⟨o0, hs, h0⟩ := St.start w o
  have f900000 := h0 _ _ hp0
  clear h0
  rw [wide_in] at H
  refine x_seq ?_
  refine wpIn_region_lit ?_
  refine x_run tab hk (k := 1) (lv := []) (ks := [0, 1]) (e' := [(0, .slice Ap0 (p0).length cp0), (1, .int .i32 p1)]) rfl trivial fun a hk => ?_
  refine wpListIn_nil ?_
  refine then_n ?_
  refine x_seq ?_
  refine wpIn_region_lit ?_
  refine x_run tab hk (k := 4) (lv := []) (ks := [0, 1, 5, 6]) (e' := [(0, .slice Ap0 (p0).length cp0), (1, .int .i32 p1), (5, .int .i64 0), (6, .int .i64 ((p0).length : Int))]) rfl trivial fun a hk => ?_
  refine wpListIn_nil ?_
  refine then_n ?_
  refine x_mid (fun a_ w_ => ∃ o29 : Nat → Nat, ∃ x30 : Int, Kn 40 a_ [(0, .slice Ap0 (p0).length cp0), (1, .int .i32 p1), (5, .int .i64 x30)] ∧ St [] w (fun _ => 0) w_ o29 ∧ Ft (RdC ET68 Ap0 p0) w_ o29 0 ∧ wide_in_j1 p0 p1 x30 = some r) ?_ ?_
  rotate_left
  · rintro a w31 ⟨o29, x30, hk, hs, f900000, H⟩
    rw [wide_in_j1] at H
    refine x_seq ?_
    refine wpIn_region_lit ?_
    refine x_run tab hk (k := 5) (lv := []) (ks := [0, 1, 5, 31]) (e' := [(0, .slice Ap0 (p0).length cp0), (1, .int .i32 p1), (5, .int .i64 x30), (31, .bool (decide (x30 < ((p0).length : Int))))]) rfl trivial fun a hk => ?_
    cases b32 : (decide (x30 < ((p0).length : Int)))
    · rw [b32] at hk H
      replace H := bifF H
      refine x_run tab hk (k := 9) (lv := []) (ks := [4]) (e' := [(4, .bool false)]) rfl trivial fun a hk => ?_
      refine wpListIn_nil ?_
      refine then_n ?_
      refine wpIn_ret ?_
      obtain rfl := Option.some.inj H
      exact x_retG hk (rs := [.tmp 4]) (vs := [.bool false]) rfl ⟨rfl, trivial⟩ ⟨fun b_ => if b_ < w.heap.size then o b_ else (fun _ => 0) (o29 b_), rfl, hs.close0 o (fun _ => 0)⟩
    · rw [b32] at hk H
      replace H := bifT H
      obtain ⟨q33, H⟩ := ifS H
      obtain ⟨ad34, hAad34⟩ := RdC.addr f900000.now q33
      have hk_C := hk
      have f900000_C := f900000
      subst hAad34
      have hk := hk_C
      clear hk_C
      have f900000 := f900000_C
      clear f900000_C
      refine x_run tab hk (k := 9) (lv := [.int .i32 ((rdD zT68 p0 x30).from_)]) (ks := [4]) (e' := [(4, .bool (decide (((rdD zT68 p0 x30).from_) ≤ p1)))]) rfl ⟨q33, (load1 tab rfl (RdC.at (E := ET68) (d := zT68) (i := x30) (j := 0) f900000.now q33 rfl)), trivial⟩ fun a hk => ?_
      refine wpListIn_nil ?_
      refine then_n ?_
      refine wpIn_ret ?_
      obtain rfl := Option.some.inj H
      exact x_retG hk (rs := [.tmp 4]) (vs := [.bool (decide (((rdD zT68 p0 x30).from_) ≤ p1))]) rfl ⟨rfl, trivial⟩ ⟨fun b_ => if b_ < w.heap.size then o b_ else (fun _ => 0) (o29 b_), rfl, hs.close0 o (fun _ => 0)⟩
  refine wpIn_block ?_
  refine x_loop (fun j_ a_ w_ => ∃ o42 : Nat → Nat, ∃ x43 : Int, ∃ x44 : Int, Kn 40 a_ [(0, .slice Ap0 (p0).length cp0), (1, .int .i32 p1), (5, .int .i64 x43), (6, .int .i64 x44)] ∧ St [] w (fun _ => 0) w_ o42 ∧ Ft (RdC ET68 Ap0 p0) w_ o42 0 ∧ wide_in_l2 p0 p1 j_ x43 x44 = some r) (k := K) ⟨o0, 0, ((p0).length : Int), (by exact Kn.pick (ks := [0, 1, 5, 6]) hk rfl), hs, f900000, H⟩ (by rintro _ _ ⟨_, _, _, _, _, _, H_⟩; exact absurd (show (none : Option Bool) = some r from H_) (by simp)) ?_
  rintro k50 a w49 ⟨o42, x43, x44, hk, hs, f900000, H⟩
  rw [wide_in_l2] at H
  obtain ⟨lp51, hlp52⟩ : ∃ lp_, lp_ = wide_in_l2 p0 p1 k50 := ⟨_, rfl⟩
  rw [← hlp52] at H
  refine x_seq ?_
  refine x_seq ?_
  refine wpIn_region_lit ?_
  refine x_run tab hk (k := 3) (lv := []) (ks := [0, 1, 5, 6, 12]) (e' := [(0, .slice Ap0 (p0).length cp0), (1, .int .i32 p1), (5, .int .i64 x43), (6, .int .i64 x44), (12, .bool (decide (x43 < x44)))]) rfl trivial fun a hk => ?_
  refine wpListIn_nil ?_
  refine then_n ?_
  cases b53 : (decide (x43 < x44))
  · rw [b53] at hk H
    replace H := bifF H
    refine x_if hk (b := false) rfl ?_
    refine (show Code.wpIn _ _ _ _ _ _ _ from ?_)
    refine wpIn_exit ?_
    refine then_x ?_
    refine then_x ?_
    refine blk_x ?_
    refine then_n ?_
    exact ⟨o42, x43, (by exact Kn.pick (ks := [0, 1, 5]) hk rfl), hs, f900000, H⟩
  · rw [b53] at hk H
    replace H := bifT H
    refine x_if hk (b := true) rfl ?_
    refine (show Code.wpIn _ _ _ _ _ _ _ from ?_)
    refine wpIn_skip ?_
    refine then_n ?_
    refine wpIn_block ?_
    refine x_seq ?_
    refine wpIn_region_lit ?_
    refine x_run tab hk (k := 5) (lv := []) (ks := [0, 1, 5, 6, 7]) (e' := [(0, .slice Ap0 (p0).length cp0), (1, .int .i32 p1), (5, .int .i64 x43), (6, .int .i64 x44), (7, .int .i64 (IntKind.wrap .i64 (Int.tdiv (IntKind.wrap .i64 (x43 + x44)) 2)))]) rfl ⟨(show (2 : Int) ≠ 0 from by decide), trivial⟩ fun a hk => ?_
    refine wpListIn_nil ?_
    refine then_n ?_
    refine x_seq ?_
    refine wpIn_region_lit ?_
    obtain ⟨q54, H⟩ := ifS H
    obtain ⟨ad55, hAad55⟩ := RdC.addr f900000.now q54
    have hk_C := hk
    have f900000_C := f900000
    subst hAad55
    have hk := hk_C
    clear hk_C
    have f900000 := f900000_C
    clear f900000_C
    refine x_run tab hk (k := 7) (lv := [.int .i32 ((rdD zT68 p0 (IntKind.wrap .i64 (Int.tdiv (IntKind.wrap .i64 (x43 + x44)) 2))).to)]) (ks := [0, 1, 5, 6, 7, 23]) (e' := [(0, .slice (some ad55) (p0).length cp0), (1, .int .i32 p1), (5, .int .i64 x43), (6, .int .i64 x44), (7, .int .i64 (IntKind.wrap .i64 (Int.tdiv (IntKind.wrap .i64 (x43 + x44)) 2))), (23, .bool (decide (((rdD zT68 p0 (IntKind.wrap .i64 (Int.tdiv (IntKind.wrap .i64 (x43 + x44)) 2))).to) < p1)))]) rfl ⟨q54, (load1 tab rfl (RdC.at (E := ET68) (d := zT68) (i := (IntKind.wrap .i64 (Int.tdiv (IntKind.wrap .i64 (x43 + x44)) 2))) (j := 1) f900000.now q54 rfl)), trivial⟩ fun a hk => ?_
    refine wpListIn_nil ?_
    refine then_n ?_
    cases b56 : (decide (((rdD zT68 p0 (IntKind.wrap .i64 (Int.tdiv (IntKind.wrap .i64 (x43 + x44)) 2))).to) < p1))
    · rw [b56] at hk H
      replace H := bifF H
      refine x_if hk (b := false) rfl ?_
      refine (show Code.wpIn _ _ _ _ _ _ _ from ?_)
      refine wpIn_region_lit ?_
      refine x_run tab hk (k := 2) (lv := []) (ks := [0, 1, 5, 6]) (e' := [(0, .slice (some ad55) (p0).length cp0), (1, .int .i32 p1), (5, .int .i64 x43), (6, .int .i64 (IntKind.wrap .i64 (Int.tdiv (IntKind.wrap .i64 (x43 + x44)) 2)))]) rfl trivial fun a hk => ?_
      refine wpListIn_nil ?_
      refine blk_n ?_
      refine then_n ?_
      exact ⟨k50, Nat.le_refl _, o42, x43, (IntKind.wrap .i64 (Int.tdiv (IntKind.wrap .i64 (x43 + x44)) 2)), (by exact Kn.pick (ks := [0, 1, 5, 6]) hk rfl), hs, f900000, (hlp52 ▸ H)⟩
    · rw [b56] at hk H
      replace H := bifT H
      refine x_if hk (b := true) rfl ?_
      refine (show Code.wpIn _ _ _ _ _ _ _ from ?_)
      refine wpIn_region_lit ?_
      refine x_run tab hk (k := 3) (lv := []) (ks := [0, 1, 5, 6]) (e' := [(0, .slice (some ad55) (p0).length cp0), (1, .int .i32 p1), (5, .int .i64 (IntKind.wrap .i64 ((IntKind.wrap .i64 (Int.tdiv (IntKind.wrap .i64 (x43 + x44)) 2)) + 1))), (6, .int .i64 x44)]) rfl trivial fun a hk => ?_
      refine wpListIn_nil ?_
      refine blk_n ?_
      refine then_n ?_
      exact ⟨k50, Nat.le_refl _, o42, (IntKind.wrap .i64 ((IntKind.wrap .i64 (Int.tdiv (IntKind.wrap .i64 (x43 + x44)) 2)) + 1)), x44, (by exact Kn.pick (ks := [0, 1, 5, 6]) hk rfl), hs, f900000, (hlp52 ▸ H)⟩

/-! tidewrack/wide.Of -/
theorem wide_Of_calls (K : Nat) (p0 : Int) (w : World) (o : Nat → Nat) (Lg0 : Nat) (hg0 : Ft (RdC ET68 (some ⟨0, 0, none⟩) glob0) w o Lg0) (Lg1 : Nat) (hg1 : Ft (RdC ET68 (some ⟨1, 0, none⟩) glob1) w o Lg1)   (r : Int) (H : wide_Of K p0 = some r) :
    Calls Tryd.prog 33 #[.int .i32 p0] w (Ret fun v_ w' => ∃ o' : Nat → Nat, v_ = .int .i64 r ∧ St [] w o w' o') := by
  refine x_enter (vs := [.int .i32 p0]) Tryd.func33 rfl rfl rfl fun a hk => ?_
  obtain ⟨o0, hs, h0⟩ := St.start w o
  have fg0 := h0 _ _ hg0
  have fg1 := h0 _ _ hg1
  clear h0
  rw [wide_Of] at H
  refine x_seq ?_
  refine wpIn_region_lit ?_
  refine x_run tab hk (k := 1) (lv := []) (ks := [0]) (e' := [(0, .int .i32 p0)]) rfl trivial fun a hk => ?_
  refine wpListIn_nil ?_
  refine then_n ?_
  refine x_seq ?_
  refine wpIn_block ?_
  refine x_seq ?_
  refine wpIn_region_lit ?_
  refine x_run tab hk (k := 2) (lv := [.slice (some ⟨0, 0, none⟩) (glob0).length 13]) (ks := [0, 4, 5]) (e' := [(0, .int .i32 p0), (4, .slice (some ⟨0, 0, none⟩) (glob0).length 13), (5, .int .i32 p0)]) rfl ⟨(ask_whole tab rfl rfl rfl), trivial⟩ fun a hk => ?_
  refine x_op hk rfl ?_
  obtain ⟨t4, hc5, H⟩ := bindS H
  refine op_call hk ent_34 (vs := [.slice (some ⟨0, 0, none⟩) (glob0).length 13, .int .i32 p0]) rfl (wide_in_calls K (some ⟨0, 0, none⟩) 13 glob0 p0 _ o0 _ fg0 (by decide)   _ hc5) ?_
  rintro _ w6 ⟨o7, rfl, st8⟩
  replace fg0 := fg0.st st8 (by decide)
  replace fg1 := fg1.st st8 (by decide)
  replace hs := hs.loc0 st8 (by decide)
  have hk := hk.put 6 (.bool t4) rfl
  refine x_run tab hk (k := 1) (lv := []) (ks := [0, 3]) (e' := [(0, .int .i32 p0), (3, .bool t4)]) rfl trivial fun a hk => ?_
  refine wpListIn_nil ?_
  refine then_n ?_
  cases b9 : t4
  · rw [b9] at hk H
    replace H := bifF H
    refine x_if hk (b := false) rfl ?_
    refine (show Code.wpIn _ _ _ _ _ _ _ from ?_)
    refine x_seq ?_
    refine wpIn_region_lit ?_
    refine x_run tab hk (k := 2) (lv := [.slice (some ⟨1, 0, none⟩) (glob1).length 14]) (ks := [8, 9]) (e' := [(8, .slice (some ⟨1, 0, none⟩) (glob1).length 14), (9, .int .i32 p0)]) rfl ⟨(ask_whole tab rfl rfl rfl), trivial⟩ fun a hk => ?_
    refine x_op hk rfl ?_
    obtain ⟨t13, hc14, H⟩ := bindS H
    refine op_call hk ent_34 (vs := [.slice (some ⟨1, 0, none⟩) (glob1).length 14, .int .i32 p0]) rfl (wide_in_calls K (some ⟨1, 0, none⟩) 14 glob1 p0 _ o7 _ fg1 (by decide)   _ hc14) ?_
    rintro _ w15 ⟨o16, rfl, st17⟩
    replace fg0 := fg0.st st17 (by decide)
    replace fg1 := fg1.st st17 (by decide)
    replace hs := hs.loc0 st17 (by decide)
    have hk := hk.put 10 (.bool t13) rfl
    refine x_run tab hk (k := 1) (lv := []) (ks := [7]) (e' := [(7, .bool t13)]) rfl trivial fun a hk => ?_
    refine wpListIn_nil ?_
    refine then_n ?_
    cases b18 : t13
    · rw [b18] at hk H
      replace H := bifF H
      refine x_if hk (b := false) rfl ?_
      refine (show Code.wpIn _ _ _ _ _ _ _ from ?_)
      refine wpIn_skip ?_
      refine blk_n ?_
      refine then_n ?_
      refine x_seq ?_
      refine wpIn_region_lit ?_
      refine x_run tab hk (k := 1) (lv := []) (ks := [2]) (e' := [(2, .int .i64 1)]) rfl trivial fun a hk => ?_
      refine wpListIn_nil ?_
      refine then_n ?_
      refine wpIn_ret ?_
      obtain rfl := Option.some.inj H
      exact x_retG hk (rs := [.tmp 2]) (vs := [.int .i64 1]) rfl ⟨rfl, trivial⟩ ⟨fun b_ => if b_ < w.heap.size then o b_ else (fun _ => 0) (o16 b_), rfl, hs.close0 o (fun _ => 0)⟩
    · rw [b18] at hk H
      replace H := bifT H
      refine x_if hk (b := true) rfl ?_
      refine (show Code.wpIn _ _ _ _ _ _ _ from ?_)
      refine x_seq ?_
      refine wpIn_region_lit ?_
      refine x_run tab hk (k := 1) (lv := []) (ks := [2]) (e' := [(2, .int .i64 2)]) rfl trivial fun a hk => ?_
      refine wpListIn_nil ?_
      refine then_n ?_
      refine wpIn_ret ?_
      refine blk_r ?_
      refine then_r ?_
      obtain rfl := Option.some.inj H
      exact x_retG hk (rs := [.tmp 2]) (vs := [.int .i64 2]) rfl ⟨rfl, trivial⟩ ⟨fun b_ => if b_ < w.heap.size then o b_ else (fun _ => 0) (o16 b_), rfl, hs.close0 o (fun _ => 0)⟩
  · rw [b9] at hk H
    replace H := bifT H
    refine x_if hk (b := true) rfl ?_
    refine (show Code.wpIn _ _ _ _ _ _ _ from ?_)
    refine x_seq ?_
    refine wpIn_region_lit ?_
    refine x_run tab hk (k := 1) (lv := []) (ks := [2]) (e' := [(2, .int .i64 0)]) rfl trivial fun a hk => ?_
    refine wpListIn_nil ?_
    refine then_n ?_
    refine wpIn_ret ?_
    refine blk_r ?_
    refine then_r ?_
    obtain rfl := Option.some.inj H
    exact x_retG hk (rs := [.tmp 2]) (vs := [.int .i64 0]) rfl ⟨rfl, trivial⟩ ⟨fun b_ => if b_ < w.heap.size then o b_ else (fun _ => 0) (o7 b_), rfl, hs.close0 o (fun _ => 0)⟩

/-! tidewrack/wide.columns$1 -/
theorem wide_columns_1_iter (K : Nat) (bp1 : Nat) (Ap1_0 : Option Addr) (cp1_0 : Nat) (p1 : List Int) (w : World) (o : Nat → Nat) (Lg0 : Nat) (hg0 : Ft (RdC ET68 (some ⟨0, 0, none⟩) glob0) w o Lg0) (Lg1 : Nat) (hg1 : Ft (RdC ET68 (some ⟨1, 0, none⟩) glob1) w o Lg1) (Lp1 : Nat) (hp1 : Ft (Bx bp1 53 [.slice Ap1_0 (p1).length cp1_0]) w o Lp1) (Lp1_0 : Nat) (hp1_0 : Ft (RdC (encInt .i32) Ap1_0 p1) w o Lp1_0) (hcp1_0 : (p1).length ≤ cp1_0) (hd0 : ([] : List Nat).Nodup) (hd1 : Lg0 ∉ ([] : List Nat)) (hd2 : Lg1 ∉ ([] : List Nat)) (hd3 : Lp1_0 ∉ ([] : List Nat)) (hd4 : Lp1 ∉ ([] : List Nat)) (r : List (Int × Int)) (H : wide_columns_1 K p1 = some r) :
    IterC Tryd.prog 32 [] [.pointer (some ⟨bp1, 0, none⟩)] (fun (x_ : Int × Int) vs_ _ => vs_ = [.int .i64 x_.1, .int .i64 x_.2]) none r w o [] [Lg0, Lg1, Lp1, Lp1_0] := by
  refine iter_start hd0 (fun _ h_ => by cases h_) fun l_ JJ XX Res w1 oi h1 h2 h3 hJ hX hRl hY hE0 hE1 hs => ?_
  refine x_enter (vs := [.func (.yield l_) #[] #[], .pointer (some ⟨bp1, 0, none⟩)]) Tryd.func32 rfl rfl rfl fun a hk => ?_
  have fg0 := h3 2 hg0 (by simp) hd1 (by simp) rfl
  have fg1 := h3 2 hg1 (by simp) hd2 (by simp) rfl
  have f900020 := h3 2 hp1_0 (by simp) hd3 (by simp) rfl
  have f900039 := h3 2 hp1 (by simp) hd4 (by simp) rfl
  clear h1 h2 h3
  rw [wide_columns_1] at H
  refine x_seq ?_
  refine wpIn_region_lit ?_
  refine x_run tab hk (k := 1) (lv := []) (ks := [0, 1, 3]) (e' := [(0, .func (.yield l_) #[] #[]), (1, .pointer (some ⟨bp1, 0, none⟩)), (3, .int .i64 0)]) rfl trivial fun a hk => ?_
  refine wpListIn_nil ?_
  refine then_n ?_
  refine x_seq ?_
  refine wpIn_region_lit ?_
  refine x_run tab hk (k := 3) (lv := [.slice Ap1_0 (p1).length cp1_0]) (ks := [0, 3, 6, 7, 8]) (e' := [(0, .func (.yield l_) #[] #[]), (3, .int .i64 0), (6, .slice Ap1_0 (p1).length cp1_0), (7, .int .i64 ((p1).length : Int)), (8, .int .i64 0)]) rfl ⟨(load1 tab rfl ((Bx.cell f900039.now 0).trans rfl)), trivial⟩ fun a hk => ?_
  refine wpListIn_nil ?_
  refine then_n ?_
  refine wpIn_block ?_
  refine x_loop (fun j_ a_ w_ => ∃ o22 : Nat → Nat, ∃ r23 : List (Int × Int), ∃ x24 : Int, ∃ x25 : Int, Kn 23 a_ [(0, .func (.yield l_) #[] #[]), (3, .int .i64 x24), (6, .slice Ap1_0 (p1).length cp1_0), (7, .int .i64 ((p1).length : Int)), (8, .int .i64 x25)] ∧ JJ r23 w_ o22 ∧ Ft (RdC (encInt .i32) Ap1_0 p1) w_ o22 2 ∧ Ft (Bx bp1 53 [.slice Ap1_0 (p1).length cp1_0]) w_ o22 2 ∧ Ft (RdC ET68 (some ⟨0, 0, none⟩) glob0) w_ o22 2 ∧ Ft (RdC ET68 (some ⟨1, 0, none⟩) glob1) w_ o22 2 ∧ wide_columns_1_l1 K p1 j_ x24 x25 = some r23) (k := K) ⟨oi, r, 0, 0, (by exact Kn.pick (ks := [0, 3, 6, 7, 8]) hk rfl), hs, f900020, f900039, fg0, fg1, H⟩ (by rintro _ _ ⟨_, _, _, _, _, _, _, _, _, _, H_⟩; exact absurd (show (none : Option (List (Int × Int))) = some _ from H_) (by simp)) ?_
  rintro k44 a w43 ⟨o22, r23, x24, x25, hk, hs, f900020, f900039, fg0, fg1, H⟩
  rw [wide_columns_1_l1] at H
  obtain ⟨lp45, hlp46⟩ : ∃ lp_, lp_ = wide_columns_1_l1 K p1 k44 := ⟨_, rfl⟩
  rw [← hlp46] at H
  refine x_seq ?_
  refine wpIn_region_lit ?_
  refine x_run tab hk (k := 1) (lv := []) (ks := [0, 3, 6, 7, 8, 9]) (e' := [(0, .func (.yield l_) #[] #[]), (3, .int .i64 x24), (6, .slice Ap1_0 (p1).length cp1_0), (7, .int .i64 ((p1).length : Int)), (8, .int .i64 x25), (9, .bool (decide (x25 < ((p1).length : Int))))]) rfl trivial fun a hk => ?_
  refine wpListIn_nil ?_
  refine then_n ?_
  refine x_seq ?_
  cases b47 : (decide (x25 < ((p1).length : Int)))
  · rw [b47] at hk H
    replace H := bifF H
    refine x_if hk (b := false) rfl ?_
    refine (show Code.wpIn _ _ _ _ _ _ _ from ?_)
    refine wpIn_exit ?_
    refine then_x ?_
    refine then_x ?_
    refine blk_x ?_
    obtain rfl := Option.some.inj H
    exact x_endG hk (rs := []) (vs := []) rfl trivial (hE0 hs)
  · rw [b47] at hk H
    replace H := bifT H
    refine x_if hk (b := true) rfl ?_
    refine (show Code.wpIn _ _ _ _ _ _ _ from ?_)
    refine wpIn_skip ?_
    refine then_n ?_
    refine x_seq ?_
    refine wpIn_block ?_
    refine x_seq ?_
    refine wpIn_region_lit ?_
    obtain ⟨q48, H⟩ := ifS H
    obtain ⟨ad49, hAad49⟩ := RdC.addr f900020.now q48
    have hk_C := hk
    have f900020_C := f900020
    have f900039_C := f900039
    have fg0_C := fg0
    have fg1_C := fg1
    subst hAad49
    have hk := hk_C
    clear hk_C
    have f900020 := f900020_C
    clear f900020_C
    have f900039 := f900039_C
    clear f900039_C
    have fg0 := fg0_C
    clear fg0_C
    have fg1 := fg1_C
    clear fg1_C
    refine x_run tab hk (k := 5) (lv := [.int .i32 (rdD 0 p1 x25)]) (ks := [0, 3, 4, 5, 6, 7, 8]) (e' := [(0, .func (.yield l_) #[] #[]), (3, .int .i64 x24), (4, .int .i64 x25), (5, .int .i32 (rdD 0 p1 x25)), (6, .slice (some ad49) (p1).length cp1_0), (7, .int .i64 ((p1).length : Int)), (8, .int .i64 x25)]) rfl ⟨q48, (load1 tab rfl (RdC.at0 (E := (encInt .i32)) (d := 0) (i := x25) f900020.now q48 rfl)), trivial⟩ fun a hk => ?_
    refine wpListIn_nil ?_
    refine then_n ?_
    refine x_seq ?_
    refine wpIn_region_lit ?_
    refine x_run tab hk (k := 2) (lv := []) (ks := [0, 4, 6, 7, 8, 13, 14]) (e' := [(0, .func (.yield l_) #[] #[]), (4, .int .i64 x25), (6, .slice (some ad49) (p1).length cp1_0), (7, .int .i64 ((p1).length : Int)), (8, .int .i64 x25), (13, .int .i64 x24), (14, .int .i32 (rdD 0 p1 x25))]) rfl trivial fun a hk => ?_
    refine x_op hk rfl ?_
    obtain ⟨t53, hc54, H⟩ := bindS H
    refine op_call hk ent_33 (vs := [.int .i32 (rdD 0 p1 x25)]) rfl (wide_Of_calls K (rdD 0 p1 x25) _ o22 2 fg0 2 fg1   _ hc54) ?_
    rintro _ w55 ⟨o56, rfl, st57⟩
    replace f900020 := f900020.st st57 (by decide)
    replace f900039 := f900039.st st57 (by decide)
    replace fg0 := fg0.st st57 (by decide)
    replace fg1 := fg1.st st57 (by decide)
    replace hs := hJ hs st57 rfl
    have hk := hk.put 15 (.int .i64 t53) rfl
    refine x_run tab hk (k := 2) (lv := []) (ks := [0, 3, 4, 6, 7, 8]) (e' := [(0, .func (.yield l_) #[] #[]), (3, .int .i64 (IntKind.wrap .i64 (x24 + t53))), (4, .int .i64 x25), (6, .slice (some ad49) (p1).length cp1_0), (7, .int .i64 ((p1).length : Int)), (8, .int .i64 x25)]) rfl trivial fun a hk => ?_
    refine wpListIn_nil ?_
    refine then_n ?_
    refine x_seq ?_
    refine wpIn_region_lit ?_
    refine x_run tab hk (k := 3) (lv := []) (ks := [0, 3, 6, 7, 8, 17, 18, 19]) (e' := [(0, .func (.yield l_) #[] #[]), (3, .int .i64 (IntKind.wrap .i64 (x24 + t53))), (6, .slice (some ad49) (p1).length cp1_0), (7, .int .i64 ((p1).length : Int)), (8, .int .i64 x25), (17, .func (.yield l_) #[] #[]), (18, .int .i64 x25), (19, .int .i64 (IntKind.wrap .i64 (x24 + t53)))]) rfl trivial fun a hk => ?_
    refine x_op hk rfl ?_
    obtain ⟨r58, hr59, H⟩ := consS H
    rw [hr59] at hs
    refine op_yield hk rfl (vs := [.int .i64 x25, .int .i64 (IntKind.wrap .i64 (x24 + t53))]) rfl (hY hs (fun _ => rfl)) ?_
    rintro b60 w61 ⟨o62, st63, ht_, hf_⟩
    replace f900020 := f900020.st st63 (by decide)
    replace f900039 := f900039.st st63 (by decide)
    replace fg0 := fg0.st st63 (by decide)
    replace fg1 := fg1.st st63 (by decide)
    cases b60
    · have hs := hf_ rfl
      have hk := hk.put 20 (.bool false) rfl
      refine x_run tab hk (k := 1) (lv := []) (ks := [0, 3, 6, 7, 8, 21]) (e' := [(0, .func (.yield l_) #[] #[]), (3, .int .i64 (IntKind.wrap .i64 (x24 + t53))), (6, .slice (some ad49) (p1).length cp1_0), (7, .int .i64 ((p1).length : Int)), (8, .int .i64 x25), (21, .bool true)]) rfl trivial fun a hk => ?_
      refine wpListIn_nil ?_
      refine then_n ?_
      refine x_if hk (b := true) rfl ?_
      refine (show Code.wpIn _ _ _ _ _ _ _ from ?_)
      refine wpIn_ret ?_
      refine blk_r ?_
      refine then_r ?_
      refine then_r ?_
      refine blk_r ?_
      exact x_retG hk (rs := []) (vs := []) rfl trivial (hE1 hs)
    · have hs := ht_ rfl
      have hk := hk.put 20 (.bool true) rfl
      refine x_run tab hk (k := 1) (lv := []) (ks := [0, 3, 6, 7, 8, 21]) (e' := [(0, .func (.yield l_) #[] #[]), (3, .int .i64 (IntKind.wrap .i64 (x24 + t53))), (6, .slice (some ad49) (p1).length cp1_0), (7, .int .i64 ((p1).length : Int)), (8, .int .i64 x25), (21, .bool false)]) rfl trivial fun a hk => ?_
      refine wpListIn_nil ?_
      refine then_n ?_
      refine x_if hk (b := false) rfl ?_
      refine (show Code.wpIn _ _ _ _ _ _ _ from ?_)
      refine wpIn_skip ?_
      refine blk_n ?_
      refine then_n ?_
      refine wpIn_region_lit ?_
      refine x_run tab hk (k := 2) (lv := []) (ks := [0, 3, 6, 7, 8]) (e' := [(0, .func (.yield l_) #[] #[]), (3, .int .i64 (IntKind.wrap .i64 (x24 + t53))), (6, .slice (some ad49) (p1).length cp1_0), (7, .int .i64 ((p1).length : Int)), (8, .int .i64 (IntKind.wrap .i64 (x25 + 1)))]) rfl trivial fun a hk => ?_
      refine wpListIn_nil ?_
      refine then_n ?_
      exact ⟨k44, Nat.le_refl _, o62, r58, (IntKind.wrap .i64 (x24 + t53)), (IntKind.wrap .i64 (x25 + 1)), (by exact Kn.pick (ks := [0, 3, 6, 7, 8]) hk rfl), hs, f900020, f900039, fg0, fg1, (hlp46 ▸ H)⟩

/-! tidewrack/wide.columns -/
theorem wide_columns_calls (Ap0 : Option Addr) (cp0 : Nat) (p0 : List Int) (w : World) (o : Nat → Nat) (Lg0 : Nat) (hg0 : Ft (RdC ET68 (some ⟨0, 0, none⟩) glob0) w o Lg0) (Lg1 : Nat) (hg1 : Ft (RdC ET68 (some ⟨1, 0, none⟩) glob1) w o Lg1) (Lp0 : Nat) (hp0 : Ft (RdC (encInt .i32) Ap0 p0) w o Lp0) (hcp0 : (p0).length ≤ cp0)  (R0 : Nat) (r : Unit) (H : wide_columns p0 = some r) :
    Calls Tryd.prog 30 #[.slice Ap0 (p0).length cp0] w (Ret fun v_ w' => ∃ o' : Nat → Nat, ∃ b0 : Nat, v_ = .func (.func 32) #[] #[.pointer (some ⟨b0, 0, none⟩)] ∧ St [] w o w' o' ∧ Ft (Bx b0 53 [.slice Ap0 (p0).length cp0]) w' o' R0) := by
  refine x_enter (vs := [.slice Ap0 (p0).length cp0]) Tryd.func30 rfl rfl rfl fun a hk => ?_
  obtain ⟨o0, hs, h0⟩ := St.start w o
  have fg0 := h0 _ _ hg0
  have fg1 := h0 _ _ hg1
  have f900000 := h0 _ _ hp0
  clear h0
  rw [wide_columns] at H
  refine x_seq ?_
  refine wpIn_region_lit ?_
  refine x_op hk rfl ?_
  refine op_box (o := o0) (t := 53) (v := .slice Ap0 (p0).length cp0) (cs := [.slice Ap0 (p0).length cp0]) hk rfl rfl 1 fun bx4 w1 o2 st3 f5 => ?_
  replace f900000 := f900000.st st3 (by decide)
  replace fg0 := fg0.st st3 (by decide)
  replace fg1 := fg1.st st3 (by decide)
  replace hs := hs.loc0 st3 (by decide)
  have hk := hk.put 1 (.pointer (some ⟨bx4, 0, none⟩)) rfl
  refine x_run tab hk (k := 1) (lv := []) (ks := [1]) (e' := [(1, .pointer (some ⟨bx4, 0, none⟩))]) rfl trivial fun a hk => ?_
  refine wpListIn_nil ?_
  refine then_n ?_
  refine x_seq ?_
  refine wpIn_region_lit ?_
  refine x_run tab hk (k := 2) (lv := []) (ks := [2]) (e' := [(2, .func (.func 32) #[] #[.pointer (some ⟨bx4, 0, none⟩)])]) rfl trivial fun a hk => ?_
  refine wpListIn_nil ?_
  refine then_n ?_
  refine wpIn_ret ?_
  obtain rfl := Option.some.inj H
  exact x_retG hk (rs := [.tmp 2]) (vs := [.func (.func 32) #[] #[.pointer (some ⟨bx4, 0, none⟩)]]) rfl ⟨rfl, trivial⟩ ⟨fun b_ => if b_ < w.heap.size then o b_ else (fun _ => R0) (o2 b_), bx4, rfl, hs.close0 o (fun _ => R0), hs.close_ft (o := o) (ρ := fun _ => R0) f5 (by decide) rfl⟩

/-! tidewrack/wide.Fit -/
theorem wide_Fit_calls (K : Nat) (p0 : Int) (Ap1 : Option Addr) (cp1 : Nat) (p1 : List Int) (w : World) (o : Nat → Nat) (Lg0 : Nat) (hg0 : Ft (RdC ET68 (some ⟨0, 0, none⟩) glob0) w o Lg0) (Lg1 : Nat) (hg1 : Ft (RdC ET68 (some ⟨1, 0, none⟩) glob1) w o Lg1) (Lp1 : Nat) (hp1 : Ft (RdC (encInt .i32) Ap1 p1) w o Lp1) (hcp1 : (p1).length ≤ cp1)  (r : Int) (H : wide_Fit K p0 p1 = some r) :
    Calls Tryd.prog 29 #[.int .i64 p0, .slice Ap1 (p1).length cp1] w (Ret fun v_ w' => ∃ o' : Nat → Nat, v_ = .int .i64 r ∧ St [] w o w' o') := by
  refine x_enterQ (vs := [.int .i64 p0, .slice Ap1 (p1).length cp1]) Tryd.func29 rfl rfl rfl fun a hk => ?_
  obtain ⟨o0, hs, h0⟩ := St.start w o
  have fg0 := h0 _ _ hg0
  have fg1 := h0 _ _ hg1
  have f900020 := h0 _ _ hp1
  have fxm : Ft (MK []) w o0 1 := Ft.of_all (fun _ => MK.nil _) _ _ _
  clear h0
  rw [wide_Fit] at H
  refine x_seq ?_
  refine wpIn_region_lit ?_
  refine x_op hk rfl ?_
  refine op_box (o := o0) (t := 3) (v := .int .i64 p0) (cs := [.int .i64 p0]) hk rfl rfl 2 fun bx4 w1 o2 st3 f5 => ?_
  replace f900020 := f900020.st st3 (by decide)
  replace fg0 := fg0.st st3 (by decide)
  replace fg1 := fg1.st st3 (by decide)
  replace fxm := fxm.st st3 (by decide)
  replace hs := hs.loc0 st3 (by decide)
  have hk := hk.put 2 (.pointer (some ⟨bx4, 0, none⟩)) rfl
  refine x_run tab hk (k := 1) (lv := []) (ks := [1, 2]) (e' := [(1, .slice Ap1 (p1).length cp1), (2, .pointer (some ⟨bx4, 0, none⟩))]) rfl trivial fun a hk => ?_
  refine wpListIn_nil ?_
  refine then_n ?_
  refine x_seq ?_
  refine wpIn_region_lit ?_
  refine x_op hk rfl ?_
  refine op_alloc (o := o2) tab (t := 3) (cs := [.int .i64 0]) rfl rfl 3 fun bx9 w6 o7 st8 f10 => ?_
  replace f5 := f5.st st8 (by decide)
  replace f900020 := f900020.st st8 (by decide)
  replace fg0 := fg0.st st8 (by decide)
  replace fg1 := fg1.st st8 (by decide)
  replace fxm := fxm.st st8 (by decide)
  replace hs := hs.loc0 st8 (by decide)
  have hk := hk.put 5 (.pointer (some ⟨bx9, 0, none⟩)) rfl
  refine x_op hk rfl ?_
  refine op_store tab hk (t := 3) (v := .int .i64 0) (b := bx9) (k := 0) (cs' := [.int .i64 0]) rfl rfl rfl rfl rfl rfl f10 rfl rfl fun w11 o12 st13 f10_ => ?_
  replace f5 := f5.st st13 (by decide)
  replace f900020 := f900020.st st13 (by decide)
  replace fg0 := fg0.st st13 (by decide)
  replace fg1 := fg1.st st13 (by decide)
  replace fxm := fxm.st st13 (by decide)
  replace hs := hs.loc0 st13 (by decide)
  replace f10 := f10_
  refine wpListIn_nil ?_
  refine then_n ?_
  refine x_mid (fun a_ w_ => ∃ o81 : Nat → Nat, ∃ ds82 : List Deferred, ∃ x83 : Int, KnD 18 ds82 a_ [(5, .pointer (some ⟨bx9, 0, none⟩))] ∧ St [] w (fun _ => 0) w_ o81 ∧ Ft (Bx bx9 3 [.int .i64 x83]) w_ o81 9 ∧ Ft (RdC ET68 (some ⟨0, 0, none⟩) glob0) w_ o81 0 ∧ Ft (RdC ET68 (some ⟨1, 0, none⟩) glob1) w_ o81 0 ∧ Ft (MK ds82) w_ o81 1 ∧ wide_Fit_j1 x83 = some r) ?_ ?_
  rotate_left
  · rintro a w84 ⟨o81, ds82, x83, hk, hs, f10, fg0, fg1, fxm, H⟩
    rw [wide_Fit_j1] at H
    refine x_seq ?_
    refine wpIn_region_lit ?_
    refine x_run tab hk (k := 2) (lv := [.int .i64 x83]) (ks := [4]) (e' := [(4, .int .i64 x83)]) rfl ⟨(load1 tab rfl ((Bx.cell f10.now 0).trans rfl)), trivial⟩ fun a hk => ?_
    refine wpListIn_nil ?_
    refine then_n ?_
    refine wpIn_ret ?_
    refine x_retQ hk fxm fun w85 a st86 hk => ?_
    replace fg0 := fg0.st st86 (by decide)
    replace fg1 := fg1.st st86 (by decide)
    replace hs := hs.loc0 st86 (by decide)
    obtain rfl := Option.some.inj H
    exact x_retG hk (rs := [.tmp 4]) (vs := [.int .i64 x83]) rfl ⟨rfl, trivial⟩ ⟨fun b_ => if b_ < w.heap.size then o b_ else (fun _ => 0) (o81 b_), rfl, hs.close0 o (fun _ => 0)⟩
  refine x_seq ?_
  refine wpIn_region_lit ?_
  refine x_run tab hk (k := 1) (lv := []) (ks := [2, 5, 8]) (e' := [(2, .pointer (some ⟨bx4, 0, none⟩)), (5, .pointer (some ⟨bx9, 0, none⟩)), (8, .slice Ap1 (p1).length cp1)]) rfl trivial fun a hk => ?_
  refine x_op hk rfl ?_
  obtain ⟨t90, hc91, H⟩ := bindS H
  refine op_call hk ent_30 (vs := [.slice Ap1 (p1).length cp1]) rfl (wide_columns_calls Ap1 cp1 p1 _ o12 0 fg0 0 fg1 _ f900020 hcp1 10  _ hc91) ?_
  rintro _ w92 ⟨o93, bx95, rfl, st94, f96⟩
  replace f10 := f10.st st94 (by decide)
  replace f5 := f5.st st94 (by decide)
  replace f900020 := f900020.st st94 (by decide)
  replace fg0 := fg0.st st94 (by decide)
  replace fg1 := fg1.st st94 (by decide)
  replace fxm := fxm.st st94 (by decide)
  replace hs := hs.loc0 st94 (by decide)
  have hk := hk.put 9 (.func (.func 32) #[] #[.pointer (some ⟨bx95, 0, none⟩)]) rfl
  refine wpListIn_nil ?_
  refine then_n ?_
  refine wpIn_block ?_
  obtain ⟨ys97, hy98, H⟩ := bindS H
  refine x_range 1 11 12 [3] hk rfl ent_32 (wide_columns_1_iter K bx95 Ap1 cp1 p1 _ _ 0 fg0 0 fg1 10 f96 0 f900020 hcp1 (by decide) (by decide) (by decide) (by decide) (by decide) _ hy98) fxm (fun _ _ _ h_ => by subst h_; rfl) rfl rfl (fun rr_ w_ o119 => ∃ x120 : Int, St [] w (fun _ => 0) w_ o119 ∧ Ft (Bx bx9 3 [.int .i64 x120]) w_ o119 3 ∧ Ft (Bx bx4 3 [.int .i64 p0]) w_ o119 2 ∧ Ft (RdC ET68 (some ⟨0, 0, none⟩) glob0) w_ o119 0 ∧ Ft (RdC ET68 (some ⟨1, 0, none⟩) glob1) w_ o119 0 ∧ wide_Fit_r2 p0 rr_ x120 = some r) (fun c_ w_ o127 => (c_ = .exit 0 ∧ ∃ x137 : Int, St [] w (fun _ => 0) w_ o127 ∧ Ft (Bx bx9 3 [.int .i64 x137]) w_ o127 3 ∧ Ft (RdC ET68 (some ⟨0, 0, none⟩) glob0) w_ o127 0 ∧ Ft (RdC ET68 (some ⟨1, 0, none⟩) glob1) w_ o127 0 ∧ wide_Fit_x3 x137 = some r) ∨ (False)) ?_ ?_ ⟨0, hs, f10, f5, fg0, fg1, H⟩ ?_ ?_ ?_
  · rintro rr_ w_ _ _ _ ⟨x120, hs, f10, f5, fg0, fg1, H⟩ st_
    exact ⟨x120, hs.loc0 st_ (by decide), f10.st st_ (by decide), f5.st st_ (by decide), fg0.st st_ (by decide), fg1.st st_ (by decide), H⟩
  · rintro c_ w_ _ _ _ (⟨hc_, x137, hs, f10, fg0, fg1, H⟩ | hc_) st_
    · exact (Or.inl ⟨hc_, ⟨x137, hs.loc0 st_ (by decide), f10.st st_ (by decide), fg0.st st_ (by decide), fg1.st st_ (by decide), H⟩⟩)
    · exact hc_.elim
  · rintro R0_ R1_ lr_ x99 vs_ rest100 w101 o102 ⟨x120, hsO, f10, f5, fg0, fg1, H⟩ hE fxr a hk
    obtain rfl : vs_ = [.int .i64 x99.1, .int .i64 x99.2] := hE w101
    obtain ⟨o103, hs0, hfl, hbB, hoi⟩ := St.startB w101 o102 13
    have hs := hs0 [11, 3]
    replace f10 := hfl f10 rfl
    replace f5 := hfl f5 rfl
    replace fg0 := hfl fg0 rfl
    replace fg1 := hfl fg1 rfl
    replace fxr := hfl fxr rfl
    replace hk : Kn 18 a [(2, .pointer (some ⟨bx4, 0, none⟩)), (5, .pointer (some ⟨bx9, 0, none⟩)), (10, .int .i64 x99.1), (11, .int .i64 x99.2)] := Kn.pick (ks := [2, 5, 10, 11]) hk rfl
    rw [wide_Fit_r2] at H
    obtain ⟨lp104, hlp105⟩ : ∃ lp_, lp_ = wide_Fit_r2 p0 rest100 := ⟨_, rfl⟩
    rw [← hlp105] at H
    refine x_seq ?_
    refine wpIn_region_lit ?_
    refine x_run tab hk (k := 1) (lv := []) (ks := [2, 5, 6, 11]) (e' := [(2, .pointer (some ⟨bx4, 0, none⟩)), (5, .pointer (some ⟨bx9, 0, none⟩)), (6, .int .i64 x99.1), (11, .int .i64 x99.2)]) rfl trivial fun a hk => ?_
    refine wpListIn_nil ?_
    refine then_n ?_
    refine wpIn_region_lit ?_
    refine x_run tab hk (k := 1) (lv := []) (ks := [2, 5, 6, 7]) (e' := [(2, .pointer (some ⟨bx4, 0, none⟩)), (5, .pointer (some ⟨bx9, 0, none⟩)), (6, .int .i64 x99.1), (7, .int .i64 x99.2)]) rfl trivial fun a hk => ?_
    refine wpListIn_nil ?_
    refine then_n ?_
    refine ⟨_, fxr, fun w138 st139 fxr => ?_⟩
    replace f10 := f10.st st139 (by decide)
    replace f5 := f5.st st139 (by decide)
    replace fg0 := fg0.st st139 (by decide)
    replace fg1 := fg1.st st139 (by decide)
    replace hs := hs.locB st139 rfl hbB
    refine wpIn_block ?_
    refine x_seq ?_
    refine x_seq ?_
    refine wpIn_region_lit ?_
    refine x_run tab hk (k := 3) (lv := [.int .i64 p0]) (ks := [2, 5, 6, 14]) (e' := [(2, .pointer (some ⟨bx4, 0, none⟩)), (5, .pointer (some ⟨bx9, 0, none⟩)), (6, .int .i64 x99.1), (14, .bool (decide (x99.2 > p0)))]) rfl ⟨(load1 tab rfl ((Bx.cell f5.now 0).trans rfl)), trivial⟩ fun a hk => ?_
    refine wpListIn_nil ?_
    refine then_n ?_
    cases b140 : (decide (x99.2 > p0))
    · rw [b140] at hk H
      replace H := bifF H
      refine x_if hk (b := false) rfl ?_
      refine (show Code.wpIn _ _ _ _ _ _ _ from ?_)
      refine wpIn_skip ?_
      refine then_n ?_
      refine wpIn_region_lit ?_
      refine x_run tab hk (k := 2) (lv := []) (ks := [2, 5, 16]) (e' := [(2, .pointer (some ⟨bx4, 0, none⟩)), (5, .pointer (some ⟨bx9, 0, none⟩)), (16, .int .i64 (IntKind.wrap .i64 (x99.1 + 1)))]) rfl trivial fun a hk => ?_
      refine x_op hk rfl ?_
      refine op_store tab hk (t := 3) (v := .int .i64 (IntKind.wrap .i64 (x99.1 + 1))) (b := bx9) (k := 0) (cs' := [.int .i64 (IntKind.wrap .i64 (x99.1 + 1))]) rfl rfl rfl rfl rfl rfl f10 rfl rfl fun w141 o142 st143 f10_ => ?_
      replace f5 := f5.st st143 (by decide)
      replace fg0 := fg0.st st143 (by decide)
      replace fg1 := fg1.st st143 (by decide)
      replace fxr := fxr.st st143 (by decide)
      replace hs := hs.locB st143 rfl hbB
      replace f10 := f10_
      refine wpListIn_nil ?_
      refine blk_n ?_
      have hq144 := hs.closeB hoi hbB rfl (fun l_ => if l_ = 2 then 2 else if l_ = 3 then 3 else 0)
      exact ⟨_, hq144, fxr.now, ⟨(IntKind.wrap .i64 (x99.1 + 1)), (hsO.loc0 hq144 (by decide)), (hs.closeM_ft (o := o102) (ρ := (fun l_ => if l_ = 2 then 2 else if l_ = 3 then 3 else 0)) f10 (lab_atB hoi rfl) rfl), (hs.closeM_ft (o := o102) (ρ := (fun l_ => if l_ = 2 then 2 else if l_ = 3 then 3 else 0)) f5 (lab_atB hoi rfl) rfl), (hs.closeM_ft (o := o102) (ρ := (fun l_ => if l_ = 2 then 2 else if l_ = 3 then 3 else 0)) fg0 (lab_atB hoi rfl) rfl), (hs.closeM_ft (o := o102) (ρ := (fun l_ => if l_ = 2 then 2 else if l_ = 3 then 3 else 0)) fg1 (lab_atB hoi rfl) rfl), (hlp105 ▸ H)⟩⟩
    · rw [b140] at hk H
      replace H := bifT H
      refine x_if hk (b := true) rfl ?_
      refine (show Code.wpIn _ _ _ _ _ _ _ from ?_)
      refine wpIn_exit ?_
      refine then_x ?_
      refine blk_y rfl ?_
      have hq145 := hs.closeB hoi hbB rfl (fun l_ => if l_ = 3 then 3 else 0)
      exact ⟨_, hq145, fxr.now, Or.inl ⟨rfl, ⟨x120, (hsO.loc0 hq145 (by decide)), (hs.closeM_ft (o := o102) (ρ := (fun l_ => if l_ = 3 then 3 else 0)) f10 (lab_atB hoi rfl) rfl), (hs.closeM_ft (o := o102) (ρ := (fun l_ => if l_ = 3 then 3 else 0)) fg0 (lab_atB hoi rfl) rfl), (hs.closeM_ft (o := o102) (ρ := (fun l_ => if l_ = 3 then 3 else 0)) fg1 (lab_atB hoi rfl) rfl), H⟩⟩⟩
  · rintro ds129 w128 o119 a hk fxm ⟨x120, hs, f10, f5, fg0, fg1, H⟩
    rw [wide_Fit_r2] at H
    refine blk_n ?_
    refine then_n ?_
    exact ⟨(fun b_ => (fun l_ => if l_ = 3 then 9 else l_) (o119 b_)), ds129, x120, (by exact Kn.pick (ks := [5]) hk rfl), (hs.relab0 (fun l_ => if l_ = 3 then 9 else l_) rfl), (f10.relab (fun l_ => if l_ = 3 then 9 else l_) rfl), (fg0.relab (fun l_ => if l_ = 3 then 9 else l_) rfl), (fg1.relab (fun l_ => if l_ = 3 then 9 else l_) rfl), (fxm.relab (fun l_ => if l_ = 3 then 9 else l_) rfl), H⟩
  · rintro c_ ds129 w128 o127 a hk fxm (⟨rfl, x137, hs, f10, fg0, fg1, H⟩ | hc_)
    · rw [wide_Fit_x3] at H
      refine wpIn_exit ?_
      refine blk_x ?_
      refine then_n ?_
      exact ⟨(fun b_ => (fun l_ => if l_ = 3 then 9 else l_) (o127 b_)), ds129, x137, (by exact Kn.pick (ks := [5]) hk rfl), (hs.relab0 (fun l_ => if l_ = 3 then 9 else l_) rfl), (f10.relab (fun l_ => if l_ = 3 then 9 else l_) rfl), (fg0.relab (fun l_ => if l_ = 3 then 9 else l_) rfl), (fg1.relab (fun l_ => if l_ = 3 then 9 else l_) rfl), (fxm.relab (fun l_ => if l_ = 3 then 9 else l_) rfl), H⟩
    · exact hc_.elim

/-! tidewrack/flow.rows$1 -/
theorem flow_rows_1_iter (K : Nat) (bp1 : Nat) (p1 : Int) (bp2 : Nat) (Ap2_0 : Option Addr) (cp2_0 : Nat) (p2 : List T24) (w : World) (o : Nat → Nat) (Lg0 : Nat) (hg0 : Ft (RdC ET68 (some ⟨0, 0, none⟩) glob0) w o Lg0) (Lg1 : Nat) (hg1 : Ft (RdC ET68 (some ⟨1, 0, none⟩) glob1) w o Lg1) (Lp1 : Nat) (hp1 : Ft (Bx bp1 3 [.int .i64 p1]) w o Lp1) (Lp2 : Nat) (hp2 : Ft (Bx bp2 22 [.slice Ap2_0 (p2).length cp2_0]) w o Lp2) (Lp2_0 : Nat) (hp2_0 : Ft (RdC ET24 Ap2_0 p2) w o Lp2_0) (hcp2_0 : (p2).length ≤ cp2_0) (hd0 : ([Lp2] : List Nat).Nodup) (hd1 : Lg0 ∉ ([Lp2] : List Nat)) (hn1 : Lg0 ≠ Lp2_0) (hd2 : Lg1 ∉ ([Lp2] : List Nat)) (hn2 : Lg1 ≠ Lp2_0) (hd3 : Lp1 ∉ ([Lp2] : List Nat)) (hn3 : Lp1 ≠ Lp2_0) (hd4 : Lp2_0 ∉ ([Lp2] : List Nat)) (r : List (List T24)) (H : flow_rows_1 K p1 p2 = some r) :
    IterC Tryd.prog 28 [] [.pointer (some ⟨bp1, 0, none⟩), .pointer (some ⟨bp2, 0, none⟩)] (fun (x_ : List T24) vs_ w_ => ∃ A_ c_, vs_ = [.slice A_ (x_).length c_] ∧ (x_).length ≤ c_ ∧ RdC ET24 A_ x_ w_) (some Lp2_0) r w o [Lp2] [Lg0, Lg1, Lp1, Lp2_0] := by
  refine iter_start hd0 (fun _ h_ => by cases h_; simp) fun l_ JJ XX Res w1 oi h1 h2 h3 hJ hX hRl hY hE0 hE1 hs => ?_
  refine x_enter (vs := [.func (.yield l_) #[] #[], .pointer (some ⟨bp1, 0, none⟩), .pointer (some ⟨bp2, 0, none⟩)]) Tryd.func28 rfl rfl rfl fun a hk => ?_
  have f900059 := h1 0 1 hp2 rfl rfl
  have fg0 := h3 3 hg0 (by simp) hd1 (fun e_ => hn1 (Option.some.inj e_).symm) rfl
  have fg1 := h3 3 hg1 (by simp) hd2 (fun e_ => hn2 (Option.some.inj e_).symm) rfl
  have f900039 := h3 3 hp1 (by simp) hd3 (fun e_ => hn3 (Option.some.inj e_).symm) rfl
  have f900040 := h2 2 hp2_0 rfl hd4 rfl
  clear h1 h2 h3
  rw [flow_rows_1] at H
  refine wpIn_block ?_
  refine x_loop (fun j_ a_ w_ => ∃ o95 : Nat → Nat, ∃ r96 : List (List T24), ∃ A97 : Option Addr, ∃ c98 : Nat, ∃ l99 : List T24, Kn 26 a_ [(0, .func (.yield l_) #[] #[]), (1, .pointer (some ⟨bp1, 0, none⟩)), (2, .pointer (some ⟨bp2, 0, none⟩))] ∧ JJ r96 w_ o95 ∧ Ft (RdC ET24 A97 l99) w_ o95 2 ∧ Ft (Bx bp1 3 [.int .i64 p1]) w_ o95 3 ∧ Ft (Bx bp2 22 [.slice A97 (l99).length c98]) w_ o95 1 ∧ Ft (RdC ET68 (some ⟨0, 0, none⟩) glob0) w_ o95 3 ∧ Ft (RdC ET68 (some ⟨1, 0, none⟩) glob1) w_ o95 3 ∧ (l99).length ≤ c98 ∧ flow_rows_1_l1 K p1 j_ l99 = some r96) (k := K) ⟨oi, r, Ap2_0, cp2_0, p2, (by exact Kn.pick (ks := [0, 1, 2]) hk rfl), hs, f900040, f900039, f900059, fg0, fg1, hcp2_0, H⟩ (by rintro _ _ ⟨_, _, _, _, _, _, _, _, _, _, _, _, _, H_⟩; exact absurd (show (none : Option (List (List T24))) = some _ from H_) (by simp)) ?_
  rintro k193 a w192 ⟨o95, r96, A97, c98, l99, hk, hs, f100, f900039, f900059, fg0, fg1, hc101, H⟩
  rw [flow_rows_1_l1] at H
  obtain ⟨lp194, hlp195⟩ : ∃ lp_, lp_ = flow_rows_1_l1 K p1 k193 := ⟨_, rfl⟩
  rw [← hlp195] at H
  refine wpIn_block ?_
  refine x_seq ?_
  refine xd_begin (o := o95) (fun W_ => (Bx bp1 3 [.int .i64 p1]) W_ ∧ (Bx bp2 22 [.slice A97 (l99).length c98]) W_ ∧ True) mixed rfl rfl fun w236 st237 => ?_
  replace f100 := f100.st st237 (by decide)
  replace f900039 := f900039.st st237 (by decide)
  replace f900059 := f900059.st st237 (by decide)
  replace fg0 := fg0.st st237 (by decide)
  replace fg1 := fg1.st st237 (by decide)
  replace hs := hJ hs st237 rfl
  refine xd_take tab hk (k := 4) (is := [0, 1]) (ls' := #[true, true, false, false, false, false]) (lv := [.int .i64 p1, .slice A97 (l99).length c98]) (ks := [0, 1, 2, 5, 6]) (e' := [(0, .func (.yield l_) #[] #[]), (1, .pointer (some ⟨bp1, 0, none⟩)), (2, .pointer (some ⟨bp2, 0, none⟩)), (5, .int .i64 p1), (6, .slice A97 (l99).length c98)]) (by kernel_rfl) rfl rfl (by kernel_rfl) (np_then (np_blk (np_then (np_blk np_body)))) ⟨f900039.now, f900059.now, trivial⟩ (fun W_ hS => ⟨(load1 tab rfl ((Bx.cell hS.1 0).trans rfl)), (load1 tab rfl ((Bx.cell hS.2.1 0).trans rfl)), trivial⟩) fun a hk => ?_
  refine xd_op hk (i := 2) (by kernel_rfl) rfl rfl ?_
  obtain ⟨t241, hc242, H⟩ := bindS H
  refine op_call hk ent_24 (vs := [.slice A97 (l99).length c98]) rfl (flow_runes_calls K A97 c98 l99 _ o95 _ f100 hc101 12  _ hc242) ?_
  rintro _ w243 ⟨o244, A246, c247, rfl, st245, f248, hc249⟩
  replace f100 := f100.st st245 (by decide)
  replace f900039 := f900039.st st245 (by decide)
  replace f900059 := f900059.st st245 (by decide)
  replace fg0 := fg0.st st245 (by decide)
  replace fg1 := fg1.st st245 (by decide)
  replace hs := hJ hs st245 rfl
  have hk := hk.put 7 (.slice A246 (t241).length c247) rfl
  refine ⟨.inr ⟨f900039.now, f900059.now, trivial⟩, ?_⟩
  refine xd_op hk (i := 3) (by kernel_rfl) rfl rfl ?_
  obtain ⟨t253, hc254, H⟩ := bindS H
  refine op_call hk ent_29 (vs := [.int .i64 p1, .slice A246 (t241).length c247]) rfl (wide_Fit_calls K p1 A246 c247 t241 _ o244 3 fg0 3 fg1 _ (f248.imp fun _ h_ => Own.rd h_) hc249   _ hc254) ?_
  rintro _ w255 ⟨o256, rfl, st257⟩
  replace f100 := f100.st st257 (by decide)
  replace f248 := f248.st st257 (by decide)
  replace f900039 := f900039.st st257 (by decide)
  replace f900059 := f900059.st st257 (by decide)
  replace fg0 := fg0.st st257 (by decide)
  replace fg1 := fg1.st st257 (by decide)
  replace hs := hJ hs st257 rfl
  have hk := hk.put 8 (.int .i64 t253) rfl
  refine ⟨.inr ⟨f900039.now, f900059.now, trivial⟩, ?_⟩
  refine xd_take tab hk (k := 0) (is := [4, 5]) (ls' := #[true, true, true, true, true, true]) (lv := []) (ks := [0, 1, 2, 4]) (e' := [(0, .func (.yield l_) #[] #[]), (1, .pointer (some ⟨bp1, 0, none⟩)), (2, .pointer (some ⟨bp2, 0, none⟩)), (4, .int .i64 (mxI 1 t253))]) (by kernel_rfl) rfl rfl (by kernel_rfl) (np_then (np_blk (np_then (np_blk np_body)))) ⟨f900039.now, f900059.now, trivial⟩ (fun W_ hS => trivial) fun a hk => ?_
  refine xd_done (by kernel_rfl) ?_
  refine then_n ?_
  refine x_seq ?_
  refine x_seq ?_
  refine wpIn_region_lit ?_
  refine x_run tab hk (k := 4) (lv := [.slice A97 (l99).length c98]) (ks := [0, 1, 2, 4, 13]) (e' := [(0, .func (.yield l_) #[] #[]), (1, .pointer (some ⟨bp1, 0, none⟩)), (2, .pointer (some ⟨bp2, 0, none⟩)), (4, .int .i64 (mxI 1 t253)), (13, .bool (decide ((mxI 1 t253) ≥ ((l99).length : Int))))]) rfl ⟨(load1 tab rfl ((Bx.cell f900059.now 0).trans rfl)), trivial⟩ fun a hk => ?_
  refine wpListIn_nil ?_
  refine then_n ?_
  cases b258 : (decide ((mxI 1 t253) ≥ ((l99).length : Int)))
  · rw [b258] at hk H
    replace H := bifF H
    refine x_if hk (b := false) rfl ?_
    refine (show Code.wpIn _ _ _ _ _ _ _ from ?_)
    refine wpIn_skip ?_
    refine then_n ?_
    refine x_seq ?_
    refine x_seq ?_
    refine wpIn_region_lit ?_
    obtain ⟨q259, H⟩ := ifS H
    obtain ⟨q260, H⟩ := ifS H
    obtain ⟨A261, c262, ak264, f263, hc265⟩ := ask_cut (P := Tryd.prog) tab (t := 22) rfl rfl f100 hc101 none (some (.int .i64 (mxI 1 t253))) rfl ⟨q259, (by have := q260; have := hc101; omega), trivial⟩ (by have := q259; have := q260; omega) (by have := q259; have := q260; omega)
    refine x_run tab hk (k := 4) (lv := [.slice A97 (l99).length c98, .slice A261 ((List.drop 0 (List.take (Int.toNat (mxI 1 t253)) l99))).length c262]) (ks := [0, 1, 2, 4, 17, 20]) (e' := [(0, .func (.yield l_) #[] #[]), (1, .pointer (some ⟨bp1, 0, none⟩)), (2, .pointer (some ⟨bp2, 0, none⟩)), (4, .int .i64 (mxI 1 t253)), (17, .func (.yield l_) #[] #[]), (20, .slice A261 ((List.drop 0 (List.take (Int.toNat (mxI 1 t253)) l99))).length c262)]) rfl ⟨(load1 tab rfl ((Bx.cell f900059.now 0).trans rfl)), (ak264 rfl rfl rfl _), trivial⟩ fun a hk => ?_
    refine x_op hk rfl ?_
    obtain ⟨r266, hr267, H⟩ := consS H
    rw [hr267] at hs
    refine op_yield hk rfl (vs := [.slice A261 ((List.drop 0 (List.take (Int.toNat (mxI 1 t253)) l99))).length c262]) rfl (hY hs (f263.imp fun _ h_ => ⟨_, _, rfl, hc265, h_⟩)) ?_
    rintro b268 w269 ⟨o270, st271, ht_, hf_⟩
    replace f100 := f100.st st271 (by decide)
    replace f263 := f263.st st271 (by decide)
    replace f900039 := f900039.st st271 (by decide)
    replace f900059 := f900059.st st271 (by decide)
    replace fg0 := fg0.st st271 (by decide)
    replace fg1 := fg1.st st271 (by decide)
    cases b268
    · have hs := hf_ rfl
      have hk := hk.put 21 (.bool false) rfl
      refine x_run tab hk (k := 1) (lv := []) (ks := [0, 1, 2, 4, 22]) (e' := [(0, .func (.yield l_) #[] #[]), (1, .pointer (some ⟨bp1, 0, none⟩)), (2, .pointer (some ⟨bp2, 0, none⟩)), (4, .int .i64 (mxI 1 t253)), (22, .bool true)]) rfl trivial fun a hk => ?_
      refine wpListIn_nil ?_
      refine then_n ?_
      refine x_if hk (b := true) rfl ?_
      refine (show Code.wpIn _ _ _ _ _ _ _ from ?_)
      refine wpIn_ret ?_
      refine then_r ?_
      refine blk_r ?_
      refine then_r ?_
      refine blk_r ?_
      exact x_retG hk (rs := []) (vs := []) rfl trivial (hE1 hs)
    · have hs := ht_ rfl
      have hk := hk.put 21 (.bool true) rfl
      refine x_run tab hk (k := 1) (lv := []) (ks := [0, 1, 2, 4, 22]) (e' := [(0, .func (.yield l_) #[] #[]), (1, .pointer (some ⟨bp1, 0, none⟩)), (2, .pointer (some ⟨bp2, 0, none⟩)), (4, .int .i64 (mxI 1 t253)), (22, .bool false)]) rfl trivial fun a hk => ?_
      refine wpListIn_nil ?_
      refine then_n ?_
      refine x_if hk (b := false) rfl ?_
      refine (show Code.wpIn _ _ _ _ _ _ _ from ?_)
      refine wpIn_skip ?_
      refine then_n ?_
      refine wpIn_region_lit ?_
      obtain ⟨A272, c273, ak275, f274, hc276⟩ := ask_cut (P := Tryd.prog) tab (t := 22) rfl rfl f100 hc101 (some (.int .i64 (mxI 1 t253))) none rfl ⟨q259, (by have := q260; omega), trivial⟩ (by have := q259; have := q260; omega) (Nat.le_refl _)
      refine x_run tab hk (k := 3) (lv := [.slice A97 (l99).length c98, .slice A272 ((List.drop (Int.toNat (mxI 1 t253)) (List.take (l99).length l99))).length c273]) (ks := [0, 1, 2, 25]) (e' := [(0, .func (.yield l_) #[] #[]), (1, .pointer (some ⟨bp1, 0, none⟩)), (2, .pointer (some ⟨bp2, 0, none⟩)), (25, .slice A272 ((List.drop (Int.toNat (mxI 1 t253)) (List.take (l99).length l99))).length c273)]) rfl ⟨(load1 tab rfl ((Bx.cell f900059.now 0).trans rfl)), (ak275 rfl rfl rfl _), trivial⟩ fun a hk => ?_
      refine x_op hk rfl ?_
      refine op_store tab hk (t := 22) (v := .slice A272 ((List.drop (Int.toNat (mxI 1 t253)) (List.take (l99).length l99))).length c273) (b := bp2) (k := 0) (cs' := [.slice A272 ((List.drop (Int.toNat (mxI 1 t253)) (List.take (l99).length l99))).length c273]) rfl rfl rfl rfl rfl rfl f900059 rfl rfl fun w277 o278 st279 f900059_ => ?_
      replace f100 := f100.st st279 (by decide)
      replace f274 := f274.st st279 (by decide)
      replace f900039 := f900039.st st279 (by decide)
      replace fg0 := fg0.st st279 (by decide)
      replace fg1 := fg1.st st279 (by decide)
      replace hs := hJ hs st279 rfl
      replace f900059 := f900059_
      refine wpListIn_nil ?_
      refine blk_n ?_
      refine then_n ?_
      exact ⟨k193, Nat.le_refl _, o278, r266, A272, c273, (List.drop (Int.toNat (mxI 1 t253)) (List.take (l99).length l99)), (by exact Kn.pick (ks := [0, 1, 2]) hk rfl), hs, f274, f900039, f900059, fg0, fg1, hc276, (hlp195 ▸ H)⟩
  · rw [b258] at hk H
    replace H := bifT H
    refine x_if hk (b := true) rfl ?_
    refine (show Code.wpIn _ _ _ _ _ _ _ from ?_)
    refine x_seq ?_
    refine wpIn_region_lit ?_
    refine x_run tab hk (k := 2) (lv := [.slice A97 (l99).length c98]) (ks := [14, 15]) (e' := [(14, .func (.yield l_) #[] #[]), (15, .slice A97 (l99).length c98)]) rfl ⟨(load1 tab rfl ((Bx.cell f900059.now 0).trans rfl)), trivial⟩ fun a hk => ?_
    refine x_op hk rfl ?_
    obtain ⟨r280, hr281, H⟩ := consS H
    rw [hr281] at hs
    refine op_yield hk rfl (vs := [.slice A97 (l99).length c98]) rfl (hY hs (f100.imp fun _ h_ => ⟨_, _, rfl, hc101, h_⟩)) ?_
    rintro b282 w283 ⟨o284, st285, ht_, hf_⟩
    replace f100 := f100.st st285 (by decide)
    replace f900039 := f900039.st st285 (by decide)
    replace f900059 := f900059.st st285 (by decide)
    replace fg0 := fg0.st st285 (by decide)
    replace fg1 := fg1.st st285 (by decide)
    cases b282
    · have hs := hf_ rfl
      have hk := hk.put 16 (.bool false) rfl
      refine wpListIn_nil ?_
      refine then_n ?_
      refine wpIn_ret ?_
      refine then_r ?_
      refine blk_r ?_
      refine then_r ?_
      refine blk_r ?_
      exact x_retG hk (rs := []) (vs := []) rfl trivial (hE1 hs)
    · have hs := ht_ rfl
      have hk := hk.put 16 (.bool true) rfl
      refine wpListIn_nil ?_
      refine then_n ?_
      refine wpIn_ret ?_
      refine then_r ?_
      refine blk_r ?_
      refine then_r ?_
      refine blk_r ?_
      obtain rfl := Option.some.inj H
      exact x_retG hk (rs := []) (vs := []) rfl trivial (hE0 hs)

/-! tidewrack/flow.rows -/
theorem flow_rows_calls (Ap0 : Option Addr) (cp0 : Nat) (p0 : List T24) (p1 : Int) (w : World) (o : Nat → Nat) (Lg0 : Nat) (hg0 : Ft (RdC ET68 (some ⟨0, 0, none⟩) glob0) w o Lg0) (Lg1 : Nat) (hg1 : Ft (RdC ET68 (some ⟨1, 0, none⟩) glob1) w o Lg1) (Lp0 : Nat) (hp0 : Ft (RdC ET24 Ap0 p0) w o Lp0) (hcp0 : (p0).length ≤ cp0)  (R0 : Nat) (R1 : Nat) (r : Int) (H : flow_rows p0 p1 = some r) :
    Calls Tryd.prog 21 #[.slice Ap0 (p0).length cp0, .int .i64 p1] w (Ret fun v_ w' => ∃ o' : Nat → Nat, ∃ b0 : Nat, ∃ b1 : Nat, v_ = .func (.func 28) #[] #[.pointer (some ⟨b0, 0, none⟩), .pointer (some ⟨b1, 0, none⟩)] ∧ St [] w o w' o' ∧ Ft (Bx b0 3 [.int .i64 r]) w' o' R0 ∧ Ft (Bx b1 22 [.slice Ap0 (p0).length cp0]) w' o' R1) := by
  refine x_enter (vs := [.slice Ap0 (p0).length cp0, .int .i64 p1]) Tryd.func21 rfl rfl rfl fun a hk => ?_
  obtain ⟨o0, hs, h0⟩ := St.start w o
  have fg0 := h0 _ _ hg0
  have fg1 := h0 _ _ hg1
  have f900000 := h0 _ _ hp0
  clear h0
  rw [flow_rows] at H
  refine x_seq ?_
  refine wpIn_region_lit ?_
  refine x_op hk rfl ?_
  refine op_box (o := o0) (t := 22) (v := .slice Ap0 (p0).length cp0) (cs := [.slice Ap0 (p0).length cp0]) hk rfl rfl 1 fun bx4 w1 o2 st3 f5 => ?_
  replace f900000 := f900000.st st3 (by decide)
  replace fg0 := fg0.st st3 (by decide)
  replace fg1 := fg1.st st3 (by decide)
  replace hs := hs.loc0 st3 (by decide)
  have hk := hk.put 2 (.pointer (some ⟨bx4, 0, none⟩)) rfl
  refine x_op hk rfl ?_
  refine op_box (o := o2) (t := 3) (v := .int .i64 p1) (cs := [.int .i64 p1]) hk rfl rfl 2 fun bx9 w6 o7 st8 f10 => ?_
  replace f5 := f5.st st8 (by decide)
  replace f900000 := f900000.st st8 (by decide)
  replace fg0 := fg0.st st8 (by decide)
  replace fg1 := fg1.st st8 (by decide)
  replace hs := hs.loc0 st8 (by decide)
  have hk := hk.put 3 (.pointer (some ⟨bx9, 0, none⟩)) rfl
  refine x_run tab hk (k := 1) (lv := []) (ks := [2, 3]) (e' := [(2, .pointer (some ⟨bx4, 0, none⟩)), (3, .pointer (some ⟨bx9, 0, none⟩))]) rfl trivial fun a hk => ?_
  refine wpListIn_nil ?_
  refine then_n ?_
  refine x_seq ?_
  refine wpIn_region_lit ?_
  refine x_run tab hk (k := 3) (lv := [.int .i64 p1]) (ks := [2, 3, 7]) (e' := [(2, .pointer (some ⟨bx4, 0, none⟩)), (3, .pointer (some ⟨bx9, 0, none⟩)), (7, .int .i64 (mxI 2 (mnI p1 1000)))]) rfl ⟨(load1 tab rfl ((Bx.cell f10.now 0).trans rfl)), trivial⟩ fun a hk => ?_
  refine x_op hk rfl ?_
  refine op_store tab hk (t := 3) (v := .int .i64 (mxI 2 (mnI p1 1000))) (b := bx9) (k := 0) (cs' := [.int .i64 (mxI 2 (mnI p1 1000))]) rfl rfl rfl rfl rfl rfl f10 rfl rfl fun w11 o12 st13 f10_ => ?_
  replace f5 := f5.st st13 (by decide)
  replace f900000 := f900000.st st13 (by decide)
  replace fg0 := fg0.st st13 (by decide)
  replace fg1 := fg1.st st13 (by decide)
  replace hs := hs.loc0 st13 (by decide)
  replace f10 := f10_
  refine wpListIn_nil ?_
  refine then_n ?_
  refine x_seq ?_
  refine wpIn_region_lit ?_
  refine x_run tab hk (k := 2) (lv := []) (ks := [4]) (e' := [(4, .func (.func 28) #[] #[.pointer (some ⟨bx9, 0, none⟩), .pointer (some ⟨bx4, 0, none⟩)])]) rfl trivial fun a hk => ?_
  refine wpListIn_nil ?_
  refine then_n ?_
  refine wpIn_ret ?_
  obtain rfl := Option.some.inj H
  exact x_retG hk (rs := [.tmp 4]) (vs := [.func (.func 28) #[] #[.pointer (some ⟨bx9, 0, none⟩), .pointer (some ⟨bx4, 0, none⟩)]]) rfl ⟨rfl, trivial⟩ ⟨fun b_ => if b_ < w.heap.size then o b_ else (fun l_ => if l_ = 1 then R1 else if l_ = 2 then R0 else 0) (o12 b_), bx9, bx4, rfl, hs.close0 o (fun l_ => if l_ = 1 then R1 else if l_ = 2 then R0 else 0), hs.close_ft (o := o) (ρ := fun l_ => if l_ = 1 then R1 else if l_ = 2 then R0 else 0) f10 (by decide) rfl, hs.close_ft (o := o) (ρ := fun l_ => if l_ = 1 then R1 else if l_ = 2 then R0 else 0) f5 (by decide) rfl⟩

/-! slices.Clone[[]tidewrack/row.Glyph,tidewrack/row.Glyph] -/
theorem slices_Clone_calls (Ap0 : Option Addr) (cp0 : Nat) (p0 : List T24) (w : World) (o : Nat → Nat) (Lp0 : Nat) (hp0 : Ft (RdC ET24 Ap0 p0) w o Lp0) (hcp0 : (p0).length ≤ cp0)  (R0 : Nat) (r : List T24) (H : slices_Clone p0 = some r) :
    Calls Tryd.prog 22 #[.slice Ap0 (p0).length cp0] w (Ret fun v_ w' => ∃ o' : Nat → Nat, ∃ A0 : Option Addr, ∃ c0 : Nat, v_ = .slice A0 (r).length c0 ∧ St [] w o w' o' ∧ Ft (Own ET24 25 (.slice A0 (r).length c0) r) w' o' R0 ∧ (r).length ≤ c0) := by
  refine x_enter (vs := [.slice Ap0 (p0).length cp0]) Tryd.func22 rfl rfl rfl fun a hk => ?_
  obtain ⟨o0, hs, h0⟩ := St.start w o
  have f900000 := h0 _ _ hp0
  clear h0
  rw [slices_Clone] at H
  refine x_seq ?_
  refine wpIn_region_lit ?_
  refine x_run tab hk (k := 1) (lv := []) (ks := [0]) (e' := [(0, .slice Ap0 (p0).length cp0)]) rfl trivial fun a hk => ?_
  refine wpListIn_nil ?_
  refine then_n ?_
  refine x_seq ?_
  refine x_seq ?_
  refine wpIn_region_lit ?_
  refine x_run tab hk (k := 1) (lv := []) (ks := [0, 3]) (e' := [(0, .slice Ap0 (p0).length cp0), (3, .slice Ap0 (p0).length cp0)]) rfl trivial fun a hk => ?_
  rcases none_or Ap0 with hAad1 | ⟨ad1, hAad1⟩
  · have hk_C := hk
    have f900000_C := f900000
    subst hAad1
    have hk := hk_C
    clear hk_C
    have f900000 := f900000_C
    clear f900000_C
    have hz2 : p0 = [] := RdC.none f900000.now
    replace H : (some ([] : List T24)) = some r := by (try rw [hz2] at H); simpa using H
    refine x_run tab hk (k := 1) (lv := []) (ks := [0, 4]) (e' := [(0, .slice none (p0).length cp0), (4, .bool true)]) rfl trivial fun a hk => ?_
    refine wpListIn_nil ?_
    refine then_n ?_
    refine x_if hk (b := true) rfl ?_
    refine (show Code.wpIn _ _ _ _ _ _ _ from ?_)
    refine x_seq ?_
    refine wpIn_region_lit ?_
    refine x_run tab hk (k := 1) (lv := []) (ks := [2]) (e' := [(2, .slice none 0 0)]) rfl trivial fun a hk => ?_
    refine wpListIn_nil ?_
    refine then_n ?_
    refine wpIn_ret ?_
    refine then_r ?_
    obtain rfl := Option.some.inj H
    exact x_retG hk (rs := [.tmp 2]) (vs := [.slice none 0 0]) rfl ⟨rfl, trivial⟩ ⟨fun b_ => if b_ < w.heap.size then o b_ else (fun _ => 0) (o0 b_), none, 0, rfl, hs.close0 o (fun _ => 0), (Ft.of_all (fun _ => Own.nil _ _ _) _ _ _), (by simp)⟩
  · have hk_C := hk
    have f900000_C := f900000
    subst hAad1
    have hk := hk_C
    clear hk_C
    have f900000 := f900000_C
    clear f900000_C
    refine x_run tab hk (k := 1) (lv := []) (ks := [0, 4]) (e' := [(0, .slice (some ad1) (p0).length cp0), (4, .bool false)]) rfl trivial fun a hk => ?_
    refine wpListIn_nil ?_
    refine then_n ?_
    refine x_if hk (b := false) rfl ?_
    refine (show Code.wpIn _ _ _ _ _ _ _ from ?_)
    refine wpIn_skip ?_
    refine then_n ?_
    refine x_seq ?_
    refine wpIn_region_lit ?_
    refine x_op hk rfl ?_
    refine op_slice (o := o0) tab hk (vs := []) (cs := []) rfl rfl rfl rfl rfl rfl rfl rfl rfl 1 fun bx6 w3 o4 st5 f7 => ?_
    replace f900000 := f900000.st st5 (by decide)
    replace hs := hs.loc0 st5 (by decide)
    have f8 : Ft (Own ET24 25 (.slice (some ⟨bx6, 0, none⟩) (([] : List T24)).length 0) ([] : List T24)) w3 o4 1 := f7.imp fun _ h_ => Own.of_box h_ rfl (by simp)
    have hk := hk.put 5 (.slice (some ⟨bx6, 0, none⟩) (([] : List T24)).length 0) rfl
    refine x_run tab hk (k := 1) (lv := []) (ks := [5, 6]) (e' := [(5, .slice (some ⟨bx6, 0, none⟩) (([] : List T24)).length 0), (6, .slice (some ad1) (p0).length cp0)]) rfl trivial fun a hk => ?_
    refine x_op hk rfl ?_
    obtain ⟨q12, H⟩ := ifS H
    refine op_append (o := o4) (E := ET24) (xs := ([] : List T24)) (ys := p0) tab hk rfl rfl rfl rfl rfl rfl rfl f8 f900000.now q12 fun A13 c14 w9 o10 st11 f15 hc16 => ?_
    replace f900000 := f900000.st st11 (by decide)
    replace hs := hs.loc0 st11 (by decide)
    have hk := hk.put 7 (.slice A13 ((([] : List T24) ++ p0)).length c14) rfl
    refine x_run tab hk (k := 1) (lv := []) (ks := [2]) (e' := [(2, .slice A13 ((([] : List T24) ++ p0)).length c14)]) rfl trivial fun a hk => ?_
    refine wpListIn_nil ?_
    refine then_n ?_
    refine wpIn_ret ?_
    obtain rfl := Option.some.inj H
    exact x_retG hk (rs := [.tmp 2]) (vs := [.slice A13 ((([] : List T24) ++ p0)).length c14]) rfl ⟨rfl, trivial⟩ ⟨fun b_ => if b_ < w.heap.size then o b_ else (fun _ => R0) (o10 b_), A13, c14, rfl, hs.close0 o (fun _ => R0), hs.close_ft (o := o) (ρ := fun _ => R0) f15 (by decide) rfl, hc16⟩

/-! tidewrack/flow.Cut -/
theorem flow_Cut_calls (K : Nat) (Ap0 : Option Addr) (cp0 : Nat) (p0 : List T24) (p1 : Int) (w : World) (o : Nat → Nat) (LF : Nat) (Lg0 : Nat) (hg0 : Ft (RdC ET68 (some ⟨0, 0, none⟩) glob0) w o Lg0) (Lg1 : Nat) (hg1 : Ft (RdC ET68 (some ⟨1, 0, none⟩) glob1) w o Lg1) (Lp0 : Nat) (hp0 : Ft (RdC ET24 Ap0 p0) w o Lp0) (hcp0 : (p0).length ≤ cp0) (hd0 : ([LF, Lp0] : List Nat).Nodup) (hd1 : Lg0 ∉ [LF, Lp0]) (hd2 : Lg1 ∉ [LF, Lp0]) (R0 : Nat) (r : List (List T24)) (H : flow_Cut K p0 p1 = some r) :
    Calls Tryd.prog 12 #[.slice Ap0 (p0).length cp0, .int .i64 p1] w (Ret fun v_ w' => ∃ o' : Nat → Nat, ∃ A0 : Option Addr, ∃ c0 : Nat, v_ = .slice A0 (r).length c0 ∧ St [] w o w' o' ∧ NOwn (dRows ET24) 22 A0 c0 r w' o' R0 LF ∧ (r).length ≤ c0) := by
  refine x_enterQ (vs := [.slice Ap0 (p0).length cp0, .int .i64 p1]) Tryd.func12 rfl rfl rfl fun a hk => ?_
  obtain ⟨oi, hs0, h0, h1, hob, hoz, hoa⟩ := St.startM2 w o (m := 2) hd0 rfl
  have hs := hs0 []
  have fg0 := h0 _ _ hd1 hg0
  have fg1 := h0 _ _ hd2 hg1
  have f900000 := h1 1 2 hp0 rfl rfl
  have fxm : Ft (MK []) w oi 3 := Ft.of_all (fun _ => MK.nil _) _ _ _
  clear h0 h1 hs0
  rw [flow_Cut] at H
  refine x_seq ?_
  refine wpIn_region_lit ?_
  refine x_run tab hk (k := 1) (lv := []) (ks := [0, 1]) (e' := [(0, .slice Ap0 (p0).length cp0), (1, .int .i64 p1)]) rfl trivial fun a hk => ?_
  refine wpListIn_nil ?_
  refine then_n ?_
  refine x_seq ?_
  refine wpIn_region_lit ?_
  refine x_op hk rfl ?_
  refine op_alloc (o := oi) tab (t := 32) (cs := [.slice none 0 0]) rfl rfl 4 fun bx4 w1 o2 st3 f5 => ?_
  replace f900000 := f900000.st st3 (by decide)
  replace fg0 := fg0.st st3 (by decide)
  replace fg1 := fg1.st st3 (by decide)
  replace fxm := fxm.st st3 (by decide)
  replace hs := hs.locQ st3 hob rfl
  have hk := hk.put 5 (.pointer (some ⟨bx4, 0, none⟩)) rfl
  refine wpListIn_nil ?_
  refine then_n ?_
  refine x_mid (fun a_ w_ => ∃ o413 : Nat → Nat, ∃ ds414 : List Deferred, ∃ A415 : Option Addr, ∃ c416 : Nat, ∃ l417 : List (List T24), KnD 17 ds414 a_ [(5, .pointer (some ⟨bx4, 0, none⟩))] ∧ St [] w oi w_ o413 ∧ NOwn (dRows ET24) 22 A415 c416 l417 w_ o413 40 1 ∧ Ft (Bx bx4 32 [.slice A415 (l417).length c416]) w_ o413 41 ∧ Ft (RdC ET68 (some ⟨0, 0, none⟩) glob0) w_ o413 0 ∧ Ft (RdC ET68 (some ⟨1, 0, none⟩) glob1) w_ o413 0 ∧ Ft (MK ds414) w_ o413 3 ∧ (l417).length ≤ c416 ∧ flow_Cut_j1 l417 = some r) ?_ ?_
  rotate_left
  · rintro a w420 ⟨o413, ds414, A415, c416, l417, hk, hs, f418, f5, fg0, fg1, fxm, hc419, H⟩
    rw [flow_Cut_j1] at H
    refine x_seq ?_
    refine wpIn_region_lit ?_
    refine x_run tab hk (k := 2) (lv := [.slice A415 (l417).length c416]) (ks := [4]) (e' := [(4, .slice A415 (l417).length c416)]) rfl ⟨(load1 tab rfl ((Bx.cell f5.now 0).trans rfl)), trivial⟩ fun a hk => ?_
    refine wpListIn_nil ?_
    refine then_n ?_
    refine wpIn_ret ?_
    refine x_retQ hk fxm fun w421 a st422 hk => ?_
    replace f418 := f418.st st422 (by decide)
    replace fg0 := fg0.st st422 (by decide)
    replace fg1 := fg1.st st422 (by decide)
    replace hs := hs.locQ st422 hob rfl
    obtain rfl := Option.some.inj H
    exact x_retG hk (rs := [.tmp 4]) (vs := [.slice A415 (l417).length c416]) rfl ⟨rfl, trivial⟩ ⟨fun b_ => if b_ < w.heap.size then o b_ else (fun l_ => if l_ = 1 then LF else if l_ = 40 then R0 else 0) (o413 b_), A415, c416, rfl, hs.closeF (Lm := []) (Sh := [Lp0]) hoa rfl (fun l_ => if l_ = 1 then LF else if l_ = 40 then R0 else 0), f418.conv (fun _ h_ => hs.closeM_ft (o := o) (ρ := fun l_ => if l_ = 1 then LF else if l_ = 40 then R0 else 0) h_ (lab_none hob rfl) rfl) (fun _ h_ => hs.closeM_ft (o := o) (ρ := fun l_ => if l_ = 1 then LF else if l_ = 40 then R0 else 0) h_ (lab_at hoa (i := 0) rfl) rfl), hc419⟩
  refine x_seq ?_
  refine wpIn_region_lit ?_
  refine x_run tab hk (k := 2) (lv := []) (ks := [5, 7, 8]) (e' := [(5, .pointer (some ⟨bx4, 0, none⟩)), (7, .slice Ap0 (p0).length cp0), (8, .int .i64 p1)]) rfl trivial fun a hk => ?_
  refine x_op hk rfl ?_
  obtain ⟨t426, hc427, H⟩ := bindS H
  refine op_call hk ent_21 (vs := [.slice Ap0 (p0).length cp0, .int .i64 p1]) rfl (flow_rows_calls Ap0 cp0 p0 p1 _ o2 0 fg0 0 fg1 _ f900000 hcp0 42 43  _ hc427) ?_
  rintro _ w428 ⟨o429, bx431, bx433, rfl, st430, f432, f434⟩
  replace f5 := f5.st st430 (by decide)
  replace f900000 := f900000.st st430 (by decide)
  replace fg0 := fg0.st st430 (by decide)
  replace fg1 := fg1.st st430 (by decide)
  replace fxm := fxm.st st430 (by decide)
  replace hs := hs.locQ st430 hob rfl
  have hk := hk.put 9 (.func (.func 28) #[] #[.pointer (some ⟨bx431, 0, none⟩), .pointer (some ⟨bx433, 0, none⟩)]) rfl
  refine wpListIn_nil ?_
  refine then_n ?_
  refine wpIn_block ?_
  obtain ⟨ys435, hy436, H⟩ := bindS H
  refine x_range 3 44 45 [4, 59] hk rfl ent_28 (flow_rows_1_iter K bx431 t426 bx433 Ap0 cp0 p0 _ _ 0 fg0 0 fg1 42 f432 43 f434 2 f900000 hcp0 (by decide) (by decide) (by decide) (by decide) (by decide) (by decide) (by decide) (by decide) _ hy436) fxm (by rintro _ _ _ ⟨_, _, rfl, _⟩; rfl) rfl rfl (fun rr_ w_ o570 => ∃ A571 : Option Addr, ∃ c572 : Nat, ∃ l573 : List (List T24), St [] w oi w_ o570 ∧ Ft (Bx bx4 32 [.slice A571 (l573).length c572]) w_ o570 4 ∧ NOwn (dRows ET24) 22 A571 c572 l573 w_ o570 59 1 ∧ Ft (RdC ET68 (some ⟨0, 0, none⟩) glob0) w_ o570 0 ∧ Ft (RdC ET68 (some ⟨1, 0, none⟩) glob1) w_ o570 0 ∧ (l573).length ≤ c572 ∧ flow_Cut_r2 rr_ l573 = some r) (fun c_ w_ o695 => False) ?_ ?_ ⟨none, 0, ([] : List (List T24)), hs, f5, (NOwn.nil _ _ _ _ _ _), fg0, fg1, (by simp), H⟩ ?_ ?_ ?_
  · rintro rr_ w_ _ _ _ ⟨A571, c572, l573, hs, f5, f574, fg0, fg1, hc575, H⟩ st_
    exact ⟨A571, c572, l573, hs.locQ st_ hob rfl, f5.st st_ (by decide), f574.st st_ (by decide), fg0.st st_ (by decide), fg1.st st_ (by decide), hc575, H⟩
  · exact fun _ _ _ _ _ h_ _ => h_.elim
  · rintro R0_ R1_ lr_ x437 vs_ rest438 w439 o440 ⟨A571, c572, l573, hsO, f5, f574, fg0, fg1, hc575, H⟩ hE fxr a hk
    obtain ⟨A444, c445, rfl, hc447, f446⟩ := evc_row hE
    obtain ⟨o441, hs0, hfl, hbB, hoi⟩ := St.startB w439 o440 59
    have hs := hs0 [44, 4, 59]
    replace f446 := hfl f446 rfl
    replace f5 := hfl f5 rfl
    replace f574 := f574.conv (fun _ h_ => hfl h_ rfl) (fun _ h_ => hfl h_ rfl)
    replace fg0 := hfl fg0 rfl
    replace fg1 := hfl fg1 rfl
    replace fxr := hfl fxr rfl
    replace hk : Kn 17 a [(5, .pointer (some ⟨bx4, 0, none⟩)), (10, .slice A444 (x437).length c445)] := Kn.pick (ks := [5, 10]) hk rfl
    rw [flow_Cut_r2] at H
    obtain ⟨lp442, hlp443⟩ : ∃ lp_, lp_ = flow_Cut_r2 rest438 := ⟨_, rfl⟩
    rw [← hlp443] at H
    refine wpIn_region_lit ?_
    refine x_run tab hk (k := 1) (lv := []) (ks := [5, 6]) (e' := [(5, .pointer (some ⟨bx4, 0, none⟩)), (6, .slice A444 (x437).length c445)]) rfl trivial fun a hk => ?_
    refine wpListIn_nil ?_
    refine then_n ?_
    refine ⟨_, fxr, fun w698 st699 fxr => ?_⟩
    replace f446 := f446.st st699 (by decide)
    replace f5 := f5.st st699 (by decide)
    replace f574 := f574.st st699 (by decide)
    replace fg0 := fg0.st st699 (by decide)
    replace fg1 := fg1.st st699 (by decide)
    replace hs := hs.locB st699 rfl hbB
    refine wpIn_block ?_
    obtain ⟨t731, hc732, H⟩ := bindS H
    obtain ⟨q751, H⟩ := ifS H
    refine xd_begin (o := o441) (fun W_ => (Bx bx4 32 [.slice A571 (l573).length c572]) W_ ∧ True) mixed rfl rfl fun w787 st788 => ?_
    replace f446 := f446.st st788 (by decide)
    replace f5 := f5.st st788 (by decide)
    replace f574 := f574.st st788 (by decide)
    replace fg0 := fg0.st st788 (by decide)
    replace fg1 := fg1.st st788 (by decide)
    replace fxr := fxr.st st788 (by decide)
    replace hs := hs.locB st788 rfl hbB
    refine xd_take tab hk (k := 4) (is := [0, 1]) (ls' := #[true, true, false, false, false, false]) (lv := [.slice A571 (l573).length c572]) (ks := [5, 11, 12]) (e' := [(5, .pointer (some ⟨bx4, 0, none⟩)), (11, .slice A571 (l573).length c572), (12, .slice A444 (x437).length c445)]) (by kernel_rfl) rfl rfl (by kernel_rfl) (np_blk np_RQ) ⟨f5.now, trivial⟩ (fun W_ hS => ⟨(load1 tab rfl ((Bx.cell hS.1 0).trans rfl)), trivial⟩) fun a hk => ?_
    refine xd_op hk (i := 2) (by kernel_rfl) rfl rfl ?_
    refine op_call hk ent_22 (vs := [.slice A444 (x437).length c445]) rfl (slices_Clone_calls A444 c445 x437 _ o441 _ f446 hc447 75  _ hc732) ?_
    rintro _ w792 ⟨o793, A795, c796, rfl, st794, f797, hc798⟩
    replace f446 := f446.st st794 (by decide)
    replace f5 := f5.st st794 (by decide)
    replace f574 := f574.st st794 (by decide)
    replace fg0 := fg0.st st794 (by decide)
    replace fg1 := fg1.st st794 (by decide)
    replace fxr := fxr.st st794 (by decide)
    replace hs := hs.locB st794 rfl hbB
    have hk := hk.put 13 (.slice A795 (t731).length c796) rfl
    refine ⟨.inr ⟨f5.now, trivial⟩, ?_⟩
    refine xd_op hk (i := 3) (by kernel_rfl) rfl rfl ?_
    obtain ⟨o802, hR803⟩ := relab_ex o793 (fun l_ => if l_ = 75 then 1 else l_)
    replace hs : St [44, 4, 59] w439 o441 w792 o802 := by rw [hR803]; exact (hs.relabM hbB (fun l_ => if l_ = 75 then 1 else l_) (by intro l_ hl_; (try dsimp only); (repeat' split) <;> omega))
    replace f446 : Ft (RdC ET24 A444 x437) w792 o802 2 := by rw [hR803]; exact f446.relab (fun l_ => if l_ = 75 then 1 else l_) rfl
    replace f5 : Ft (Bx bx4 32 [.slice A571 (l573).length c572]) w792 o802 4 := by rw [hR803]; exact f5.relab (fun l_ => if l_ = 75 then 1 else l_) rfl
    replace f574 : NOwn (dRows ET24) 22 A571 c572 l573 w792 o802 59 1 := by rw [hR803]; exact f574.relab (fun l_ => if l_ = 75 then 1 else l_) rfl
    replace f797 : Ft (Own ET24 25 (.slice A795 (t731).length c796) t731) w792 o802 1 := by rw [hR803]; exact f797.relab (fun l_ => if l_ = 75 then 1 else l_) rfl
    replace fg0 : Ft (RdC ET68 (some ⟨0, 0, none⟩) glob0) w792 o802 0 := by rw [hR803]; exact fg0.relab (fun l_ => if l_ = 75 then 1 else l_) rfl
    replace fg1 : Ft (RdC ET68 (some ⟨1, 0, none⟩) glob1) w792 o802 0 := by rw [hR803]; exact fg1.relab (fun l_ => if l_ = 75 then 1 else l_) rfl
    replace fxr : Ft (R1_) w792 o802 44 := by rw [hR803]; exact fxr.relab (fun l_ => if l_ = 75 then 1 else l_) rfl
    refine op_slice (o := o802) tab hk (vs := [.slice A795 (t731).length c796]) (cs := [.slice A795 (t731).length c796]) rfl rfl rfl rfl rfl rfl rfl rfl rfl 76 fun bx804 w799 o800 st801 f805 => ?_
    replace f446 := f446.st st801 (by decide)
    replace f5 := f5.st st801 (by decide)
    replace f574 := f574.st st801 (by decide)
    replace f797 := f797.st st801 (by decide)
    replace fg0 := fg0.st st801 (by decide)
    replace fg1 := fg1.st st801 (by decide)
    replace fxr := fxr.st st801 (by decide)
    replace hs := hs.locB st801 rfl hbB
    have f806 : NOwn (dRows ET24) 22 (some ⟨bx804, 0, none⟩) 1 ([t731] : List (List T24)) w799 o800 76 1 := NOwn.lit f805 [⟨A795, c796, t731⟩] rfl (Inn.consF (f797.imp fun _ h_ => Own.rd h_) hc798 (Inn.nilF _ _ _ _)) rfl (Nat.le_of_ble_eq_true rfl)
    have hk := hk.put 14 (.slice (some ⟨bx804, 0, none⟩) (([t731] : List (List T24))).length 1) rfl
    refine ⟨.inr ⟨f5.now, trivial⟩, ?_⟩
    refine xd_op hk (i := 4) (by kernel_rfl) rfl rfl ?_
    refine op_appendN (o := o800) (D := (dRows ET24)) (xs := l573) (ys := ([t731] : List (List T24))) tab hk rfl rfl rfl rfl rfl rfl rfl f574 f806.rd (by decide) q751 fun A810 c811 w807 o808 st809 f812 hc813 => ?_
    replace f446 := f446.st st809 (by decide)
    replace f5 := f5.st st809 (by decide)
    replace f797 := f797.st st809 (by decide)
    replace f806 := f806.st st809 (by decide)
    replace fg0 := fg0.st st809 (by decide)
    replace fg1 := fg1.st st809 (by decide)
    replace fxr := fxr.st st809 (by decide)
    replace hs := hs.locB st809 rfl hbB
    have hk := hk.put 15 (.slice A810 ((l573 ++ ([t731] : List (List T24)))).length c811) rfl
    refine ⟨.inr ⟨f5.now, trivial⟩, ?_⟩
    refine xd_op hk (i := 5) (by kernel_rfl) rfl rfl ?_
    refine op_store tab hk (t := 32) (v := .slice A810 ((l573 ++ ([t731] : List (List T24)))).length c811) (b := bx4) (k := 0) (cs' := [.slice A810 ((l573 ++ ([t731] : List (List T24)))).length c811]) rfl rfl rfl rfl rfl rfl f5 rfl rfl fun w814 o815 st816 f5_ => ?_
    replace f446 := f446.st st816 (by decide)
    replace f797 := f797.st st816 (by decide)
    replace f806 := f806.st st816 (by decide)
    replace f812 := f812.st st816 (by decide)
    replace fg0 := fg0.st st816 (by decide)
    replace fg1 := fg1.st st816 (by decide)
    replace fxr := fxr.st st816 (by decide)
    replace hs := hs.locB st816 rfl hbB
    replace f5 := f5_
    refine ⟨.inl (by kernel_rfl), ?_⟩
    refine xd_done (by kernel_rfl) ?_
    refine blk_n ?_
    have hq817 := hs.closeB hoi hbB rfl (fun l_ => if l_ = 1 then 1 else if l_ = 4 then 4 else if l_ = 59 then 59 else 0)
    exact ⟨_, hq817, fxr.now, ⟨A810, c811, (l573 ++ ([t731] : List (List T24))), (hsO.locQ hq817 hob rfl), (hs.closeM_ft (o := o440) (ρ := (fun l_ => if l_ = 1 then 1 else if l_ = 4 then 4 else if l_ = 59 then 59 else 0)) f5 (lab_atB hoi rfl) rfl), (f812.conv (fun _ h_ => (hs.closeM_ft (o := o440) (ρ := (fun l_ => if l_ = 1 then 1 else if l_ = 4 then 4 else if l_ = 59 then 59 else 0)) h_ (lab_atB hoi rfl) rfl)) (fun _ h_ => (hs.closeM_ft (o := o440) (ρ := (fun l_ => if l_ = 1 then 1 else if l_ = 4 then 4 else if l_ = 59 then 59 else 0)) h_ (lab_atB hoi rfl) rfl))), (hs.closeM_ft (o := o440) (ρ := (fun l_ => if l_ = 1 then 1 else if l_ = 4 then 4 else if l_ = 59 then 59 else 0)) fg0 (lab_atB hoi rfl) rfl), (hs.closeM_ft (o := o440) (ρ := (fun l_ => if l_ = 1 then 1 else if l_ = 4 then 4 else if l_ = 59 then 59 else 0)) fg1 (lab_atB hoi rfl) rfl), hc813, (hlp443 ▸ H)⟩⟩
  · rintro ds697 w696 o570 a hk fxm ⟨A571, c572, l573, hs, f5, f574, fg0, fg1, hc575, H⟩
    rw [flow_Cut_r2] at H
    refine blk_n ?_
    refine then_n ?_
    exact ⟨(fun b_ => (fun l_ => if l_ = 4 then 41 else if l_ = 59 then 40 else l_) (o570 b_)), ds697, A571, c572, l573, (by exact Kn.pick (ks := [5]) hk rfl), (hs.relabM hob (fun l_ => if l_ = 4 then 41 else if l_ = 59 then 40 else l_) (by decide)), (f574.relab (fun l_ => if l_ = 4 then 41 else if l_ = 59 then 40 else l_) rfl), (f5.relab (fun l_ => if l_ = 4 then 41 else if l_ = 59 then 40 else l_) rfl), (fg0.relab (fun l_ => if l_ = 4 then 41 else if l_ = 59 then 40 else l_) rfl), (fg1.relab (fun l_ => if l_ = 4 then 41 else if l_ = 59 then 40 else l_) rfl), (fxm.relab (fun l_ => if l_ = 4 then 41 else if l_ = 59 then 40 else l_) rfl), hc575, H⟩
  · exact fun _ _ _ _ _ _ _ h_ => h_.elim

/-! tidewrack/glyph.Encode -/
theorem glyph_Encode_calls (K : Nat) (Ap0 : Option Addr) (cp0 : Nat) (p0 : List Int) (w : World) (o : Nat → Nat) (Lp0 : Nat) (hp0 : Ft (RdC (encInt .i32) Ap0 p0) w o Lp0) (hcp0 : (p0).length ≤ cp0)  (r : ByteArray) (H : glyph_Encode K p0 = some r) :
    Calls Tryd.prog 25 #[.slice Ap0 (p0).length cp0] w (Ret fun v_ w' => ∃ o' : Nat → Nat, v_ = .string r ∧ St [] w o w' o') := by
  refine x_enter (vs := [.slice Ap0 (p0).length cp0]) Tryd.func25 rfl rfl rfl fun a hk => ?_
  obtain ⟨o0, hs, h0⟩ := St.start w o
  have f900000 := h0 _ _ hp0
  clear h0
  rw [glyph_Encode] at H
  refine x_seq ?_
  refine wpIn_region_lit ?_
  refine x_run tab hk (k := 1) (lv := []) (ks := [0]) (e' := [(0, .slice Ap0 (p0).length cp0)]) rfl trivial fun a hk => ?_
  refine wpListIn_nil ?_
  refine then_n ?_
  refine x_seq ?_
  refine wpIn_region_lit ?_
  refine x_run tab hk (k := 1) (lv := []) (ks := [0, 3]) (e' := [(0, .slice Ap0 (p0).length cp0), (3, .slice none 0 0)]) rfl trivial fun a hk => ?_
  refine wpListIn_nil ?_
  refine then_n ?_
  refine x_mid (fun a_ w_ => ∃ o262 : Nat → Nat, ∃ A263 : Option Addr, ∃ c264 : Nat, ∃ l265 : List Int, Kn 91 a_ [(3, .slice A263 (l265).length c264)] ∧ St [] w (fun _ => 0) w_ o262 ∧ Ft (Own (encInt .u8) 5 (.slice A263 (l265).length c264) l265) w_ o262 21 ∧ (l265).length ≤ c264 ∧ glyph_Encode_j1 l265 = some r) ?_ ?_
  rotate_left
  · rintro a w268 ⟨o262, A263, c264, l265, hk, hs, f266, hc267, H⟩
    rw [glyph_Encode_j1] at H
    refine x_seq ?_
    refine wpIn_region_lit ?_
    refine x_run tab hk (k := 3) (lv := [.string (strOfNums l265)]) (ks := [2]) (e' := [(2, .string (strOfNums l265))]) rfl ⟨(ask_str tab rfl rfl rfl rfl (Own.rd f266.now) (Own.plain f266.now _ _ _ rfl)), trivial⟩ fun a hk => ?_
    refine wpListIn_nil ?_
    refine then_n ?_
    refine wpIn_ret ?_
    obtain rfl := Option.some.inj H
    exact x_retG hk (rs := [.tmp 2]) (vs := [.string (strOfNums l265)]) rfl ⟨rfl, trivial⟩ ⟨fun b_ => if b_ < w.heap.size then o b_ else (fun _ => 0) (o262 b_), rfl, hs.close0 o (fun _ => 0)⟩
  refine x_seq ?_
  refine wpIn_region_lit ?_
  refine x_run tab hk (k := 3) (lv := []) (ks := [3, 6, 7, 8]) (e' := [(3, .slice none 0 0), (6, .slice Ap0 (p0).length cp0), (7, .int .i64 ((p0).length : Int)), (8, .int .i64 0)]) rfl trivial fun a hk => ?_
  refine wpListIn_nil ?_
  refine then_n ?_
  refine wpIn_block ?_
  refine x_loop (fun j_ a_ w_ => ∃ o351 : Nat → Nat, ∃ A352 : Option Addr, ∃ c353 : Nat, ∃ l354 : List Int, ∃ x357 : Int, Kn 91 a_ [(3, .slice A352 (l354).length c353), (6, .slice Ap0 (p0).length cp0), (7, .int .i64 ((p0).length : Int)), (8, .int .i64 x357)] ∧ St [] w (fun _ => 0) w_ o351 ∧ Ft (Own (encInt .u8) 5 (.slice A352 (l354).length c353) l354) w_ o351 30 ∧ Ft (RdC (encInt .i32) Ap0 p0) w_ o351 0 ∧ (l354).length ≤ c353 ∧ glyph_Encode_l2 p0 j_ l354 x357 = some r) (k := K) ⟨o0, none, 0, ([] : List Int), 0, (by exact Kn.pick (ks := [3, 6, 7, 8]) hk rfl), hs, (Ft.of_all (fun _ => Own.nil _ _ _) _ _ _), f900000, (by simp), H⟩ (by rintro _ _ ⟨_, _, _, _, _, _, _, _, _, _, H_⟩; exact absurd (show (none : Option ByteArray) = some r from H_) (by simp)) ?_
  rintro k438 a w437 ⟨o351, A352, c353, l354, x357, hk, hs, f355, f900000, hc356, H⟩
  rw [glyph_Encode_l2] at H
  obtain ⟨lp439, hlp440⟩ : ∃ lp_, lp_ = glyph_Encode_l2 p0 k438 := ⟨_, rfl⟩
  rw [← hlp440] at H
  refine x_seq ?_
  refine wpIn_region_lit ?_
  refine x_run tab hk (k := 1) (lv := []) (ks := [3, 6, 7, 8, 9]) (e' := [(3, .slice A352 (l354).length c353), (6, .slice Ap0 (p0).length cp0), (7, .int .i64 ((p0).length : Int)), (8, .int .i64 x357), (9, .bool (decide (x357 < ((p0).length : Int))))]) rfl trivial fun a hk => ?_
  refine wpListIn_nil ?_
  refine then_n ?_
  refine x_seq ?_
  cases b441 : (decide (x357 < ((p0).length : Int)))
  · rw [b441] at hk H
    replace H := bifF H
    refine x_if hk (b := false) rfl ?_
    refine (show Code.wpIn _ _ _ _ _ _ _ from ?_)
    refine wpIn_exit ?_
    refine then_x ?_
    refine then_x ?_
    refine blk_x ?_
    refine then_n ?_
    exact ⟨(fun b_ => (fun l_ => if l_ = 30 then 21 else l_) (o351 b_)), A352, c353, l354, (by exact Kn.pick (ks := [3]) hk rfl), (hs.relab0 (fun l_ => if l_ = 30 then 21 else l_) rfl), (f355.relab (fun l_ => if l_ = 30 then 21 else l_) rfl), hc356, H⟩
  · rw [b441] at hk H
    replace H := bifT H
    refine x_if hk (b := true) rfl ?_
    refine (show Code.wpIn _ _ _ _ _ _ _ from ?_)
    refine wpIn_skip ?_
    refine then_n ?_
    refine x_seq ?_
    refine wpIn_block ?_
    refine x_seq ?_
    refine wpIn_region_lit ?_
    obtain ⟨q442, H⟩ := ifS H
    obtain ⟨ad443, hAad443⟩ := RdC.addr f900000.now q442
    have hk_C := hk
    have f355_C := f355
    have f900000_C := f900000
    subst hAad443
    have hk := hk_C
    clear hk_C
    have f355 := f355_C
    clear f355_C
    have f900000 := f900000_C
    clear f900000_C
    refine x_run tab hk (k := 3) (lv := [.int .i32 (rdD 0 p0 x357)]) (ks := [3, 5, 6, 7, 8]) (e' := [(3, .slice A352 (l354).length c353), (5, .int .i32 (rdD 0 p0 x357)), (6, .slice (some ad443) (p0).length cp0), (7, .int .i64 ((p0).length : Int)), (8, .int .i64 x357)]) rfl ⟨q442, (load1 tab rfl (RdC.at0 (E := (encInt .i32)) (d := 0) (i := x357) f900000.now q442 rfl)), trivial⟩ fun a hk => ?_
    refine wpListIn_nil ?_
    refine then_n ?_
    refine x_mid (fun a_ w_ => ∃ o454 : Nat → Nat, ∃ x455 : Int, Kn 91 a_ [(3, .slice A352 (l354).length c353), (5, .int .i32 x455), (6, .slice (some ad443) (p0).length cp0), (7, .int .i64 ((p0).length : Int)), (8, .int .i64 x357)] ∧ St [] w (fun _ => 0) w_ o454 ∧ Ft (Own (encInt .u8) 5 (.slice A352 (l354).length c353) l354) w_ o454 36 ∧ Ft (RdC (encInt .i32) (some ad443) p0) w_ o454 0 ∧ glyph_Encode_j3 l354 x357 lp439 x455 = some r) ?_ ?_
    rotate_left
    · rintro a w456 ⟨o454, x455, hk, hs, f355, f900000, H⟩
      rw [glyph_Encode_j3] at H
      refine wpIn_block ?_
      refine x_seq ?_
      refine wpIn_region_lit ?_
      refine x_run tab hk (k := 3) (lv := []) (ks := [3, 5, 6, 7, 8, 47]) (e' := [(3, .slice A352 (l354).length c353), (5, .int .i32 x455), (6, .slice (some ad443) (p0).length cp0), (7, .int .i64 ((p0).length : Int)), (8, .int .i64 x357), (47, .bool (decide (x455 < (128 : Int))))]) rfl trivial fun a hk => ?_
      refine wpListIn_nil ?_
      refine then_n ?_
      cases b457 : (decide (x455 < (128 : Int)))
      · rw [b457] at hk H
        replace H := bifF H
        refine x_if hk (b := false) rfl ?_
        refine (show Code.wpIn _ _ _ _ _ _ _ from ?_)
        refine x_seq ?_
        refine wpIn_region_lit ?_
        refine x_run tab hk (k := 3) (lv := []) (ks := [3, 5, 6, 7, 8, 55]) (e' := [(3, .slice A352 (l354).length c353), (5, .int .i32 x455), (6, .slice (some ad443) (p0).length cp0), (7, .int .i64 ((p0).length : Int)), (8, .int .i64 x357), (55, .bool (decide (x455 < (2048 : Int))))]) rfl trivial fun a hk => ?_
        refine wpListIn_nil ?_
        refine then_n ?_
        cases b458 : (decide (x455 < (2048 : Int)))
        · rw [b458] at hk H
          replace H := bifF H
          refine x_if hk (b := false) rfl ?_
          refine (show Code.wpIn _ _ _ _ _ _ _ from ?_)
          refine x_seq ?_
          refine wpIn_region_lit ?_
          refine x_run tab hk (k := 3) (lv := []) (ks := [3, 5, 6, 7, 8, 69]) (e' := [(3, .slice A352 (l354).length c353), (5, .int .i32 x455), (6, .slice (some ad443) (p0).length cp0), (7, .int .i64 ((p0).length : Int)), (8, .int .i64 x357), (69, .bool (decide (x455 < (65536 : Int))))]) rfl trivial fun a hk => ?_
          refine wpListIn_nil ?_
          refine then_n ?_
          cases b459 : (decide (x455 < (65536 : Int)))
          · rw [b459] at hk H
            replace H := bifF H
            refine x_if hk (b := false) rfl ?_
            refine (show Code.wpIn _ _ _ _ _ _ _ from ?_)
            refine wpIn_region_lit ?_
            refine x_run tab hk (k := 10) (lv := []) (ks := [5, 6, 7, 8, 26, 30, 35]) (e' := [(5, .int .i32 x455), (6, .slice (some ad443) (p0).length cp0), (7, .int .i64 ((p0).length : Int)), (8, .int .i64 x357), (26, .slice A352 (l354).length c353), (30, .int .u8 (IntKind.wrap .u8 (bits .or .i32 240 (Int.fdiv x455 (2 ^ min (Int.toNat 18) 32))))), (35, .int .u8 (IntKind.wrap .u8 (bits .or .i32 128 (bits .and .i32 (Int.fdiv x455 (2 ^ min (Int.toNat 12) 32)) 63))))]) rfl ⟨(show 0 ≤ (18 : Int) from by decide), (show 0 ≤ (12 : Int) from by decide), trivial⟩ fun a hk => ?_
            refine x_run tab hk (k := 9) (lv := []) (ks := [6, 7, 8, 26, 30, 35, 40, 44]) (e' := [(6, .slice (some ad443) (p0).length cp0), (7, .int .i64 ((p0).length : Int)), (8, .int .i64 x357), (26, .slice A352 (l354).length c353), (30, .int .u8 (IntKind.wrap .u8 (bits .or .i32 240 (Int.fdiv x455 (2 ^ min (Int.toNat 18) 32))))), (35, .int .u8 (IntKind.wrap .u8 (bits .or .i32 128 (bits .and .i32 (Int.fdiv x455 (2 ^ min (Int.toNat 12) 32)) 63)))), (40, .int .u8 (IntKind.wrap .u8 (bits .or .i32 128 (bits .and .i32 (Int.fdiv x455 (2 ^ min (Int.toNat 6) 32)) 63)))), (44, .int .u8 (IntKind.wrap .u8 (bits .or .i32 128 (bits .and .i32 x455 63))))]) rfl ⟨(show 0 ≤ (6 : Int) from by decide), trivial⟩ fun a hk => ?_
            refine x_op hk rfl ?_
            refine op_slice (o := o454) tab hk (vs := [.int .u8 (IntKind.wrap .u8 (bits .or .i32 240 (Int.fdiv x455 (2 ^ min (Int.toNat 18) 32)))), .int .u8 (IntKind.wrap .u8 (bits .or .i32 128 (bits .and .i32 (Int.fdiv x455 (2 ^ min (Int.toNat 12) 32)) 63))), .int .u8 (IntKind.wrap .u8 (bits .or .i32 128 (bits .and .i32 (Int.fdiv x455 (2 ^ min (Int.toNat 6) 32)) 63))), .int .u8 (IntKind.wrap .u8 (bits .or .i32 128 (bits .and .i32 x455 63)))]) (cs := [.int .u8 (IntKind.wrap .u8 (bits .or .i32 240 (Int.fdiv x455 (2 ^ min (Int.toNat 18) 32)))), .int .u8 (IntKind.wrap .u8 (bits .or .i32 128 (bits .and .i32 (Int.fdiv x455 (2 ^ min (Int.toNat 12) 32)) 63))), .int .u8 (IntKind.wrap .u8 (bits .or .i32 128 (bits .and .i32 (Int.fdiv x455 (2 ^ min (Int.toNat 6) 32)) 63))), .int .u8 (IntKind.wrap .u8 (bits .or .i32 128 (bits .and .i32 x455 63)))]) rfl rfl rfl rfl rfl rfl rfl rfl rfl 37 fun bx463 w460 o461 st462 f464 => ?_
            replace f355 := f355.st st462 (by decide)
            replace f900000 := f900000.st st462 (by decide)
            replace hs := hs.loc0 st462 (by decide)
            have f465 : Ft (Own (encInt .u8) 5 (.slice (some ⟨bx463, 0, none⟩) (([(IntKind.wrap .u8 (bits .or .i32 240 (Int.fdiv x455 (2 ^ min (Int.toNat 18) 32)))), (IntKind.wrap .u8 (bits .or .i32 128 (bits .and .i32 (Int.fdiv x455 (2 ^ min (Int.toNat 12) 32)) 63))), (IntKind.wrap .u8 (bits .or .i32 128 (bits .and .i32 (Int.fdiv x455 (2 ^ min (Int.toNat 6) 32)) 63))), (IntKind.wrap .u8 (bits .or .i32 128 (bits .and .i32 x455 63)))] : List Int)).length 4) ([(IntKind.wrap .u8 (bits .or .i32 240 (Int.fdiv x455 (2 ^ min (Int.toNat 18) 32)))), (IntKind.wrap .u8 (bits .or .i32 128 (bits .and .i32 (Int.fdiv x455 (2 ^ min (Int.toNat 12) 32)) 63))), (IntKind.wrap .u8 (bits .or .i32 128 (bits .and .i32 (Int.fdiv x455 (2 ^ min (Int.toNat 6) 32)) 63))), (IntKind.wrap .u8 (bits .or .i32 128 (bits .and .i32 x455 63)))] : List Int)) w460 o461 37 := f464.imp fun _ h_ => Own.of_box h_ rfl (by simp)
            have hk := hk.put 45 (.slice (some ⟨bx463, 0, none⟩) (([(IntKind.wrap .u8 (bits .or .i32 240 (Int.fdiv x455 (2 ^ min (Int.toNat 18) 32)))), (IntKind.wrap .u8 (bits .or .i32 128 (bits .and .i32 (Int.fdiv x455 (2 ^ min (Int.toNat 12) 32)) 63))), (IntKind.wrap .u8 (bits .or .i32 128 (bits .and .i32 (Int.fdiv x455 (2 ^ min (Int.toNat 6) 32)) 63))), (IntKind.wrap .u8 (bits .or .i32 128 (bits .and .i32 x455 63)))] : List Int)).length 4) rfl
            refine x_op hk rfl ?_
            obtain ⟨q469, H⟩ := ifS H
            refine op_append (o := o461) (E := (encInt .u8)) (xs := l354) (ys := ([(IntKind.wrap .u8 (bits .or .i32 240 (Int.fdiv x455 (2 ^ min (Int.toNat 18) 32)))), (IntKind.wrap .u8 (bits .or .i32 128 (bits .and .i32 (Int.fdiv x455 (2 ^ min (Int.toNat 12) 32)) 63))), (IntKind.wrap .u8 (bits .or .i32 128 (bits .and .i32 (Int.fdiv x455 (2 ^ min (Int.toNat 6) 32)) 63))), (IntKind.wrap .u8 (bits .or .i32 128 (bits .and .i32 x455 63)))] : List Int)) tab hk rfl rfl rfl rfl rfl rfl rfl f355 (Own.rd f465.now) q469 fun A470 c471 w466 o467 st468 f472 hc473 => ?_
            replace f465 := f465.st st468 (by decide)
            replace f900000 := f900000.st st468 (by decide)
            replace hs := hs.loc0 st468 (by decide)
            have hk := hk.put 46 (.slice A470 ((l354 ++ ([(IntKind.wrap .u8 (bits .or .i32 240 (Int.fdiv x455 (2 ^ min (Int.toNat 18) 32)))), (IntKind.wrap .u8 (bits .or .i32 128 (bits .and .i32 (Int.fdiv x455 (2 ^ min (Int.toNat 12) 32)) 63))), (IntKind.wrap .u8 (bits .or .i32 128 (bits .and .i32 (Int.fdiv x455 (2 ^ min (Int.toNat 6) 32)) 63))), (IntKind.wrap .u8 (bits .or .i32 128 (bits .and .i32 x455 63)))] : List Int))).length c471) rfl
            refine x_run tab hk (k := 1) (lv := []) (ks := [3, 6, 7, 8]) (e' := [(3, .slice A470 ((l354 ++ ([(IntKind.wrap .u8 (bits .or .i32 240 (Int.fdiv x455 (2 ^ min (Int.toNat 18) 32)))), (IntKind.wrap .u8 (bits .or .i32 128 (bits .and .i32 (Int.fdiv x455 (2 ^ min (Int.toNat 12) 32)) 63))), (IntKind.wrap .u8 (bits .or .i32 128 (bits .and .i32 (Int.fdiv x455 (2 ^ min (Int.toNat 6) 32)) 63))), (IntKind.wrap .u8 (bits .or .i32 128 (bits .and .i32 x455 63)))] : List Int))).length c471), (6, .slice (some ad443) (p0).length cp0), (7, .int .i64 ((p0).length : Int)), (8, .int .i64 x357)]) rfl trivial fun a hk => ?_
            refine wpListIn_nil ?_
            refine blk_n ?_
            refine blk_n ?_
            refine then_n ?_
            refine wpIn_region_lit ?_
            refine x_run tab hk (k := 2) (lv := []) (ks := [3, 6, 7, 8]) (e' := [(3, .slice A470 ((l354 ++ ([(IntKind.wrap .u8 (bits .or .i32 240 (Int.fdiv x455 (2 ^ min (Int.toNat 18) 32)))), (IntKind.wrap .u8 (bits .or .i32 128 (bits .and .i32 (Int.fdiv x455 (2 ^ min (Int.toNat 12) 32)) 63))), (IntKind.wrap .u8 (bits .or .i32 128 (bits .and .i32 (Int.fdiv x455 (2 ^ min (Int.toNat 6) 32)) 63))), (IntKind.wrap .u8 (bits .or .i32 128 (bits .and .i32 x455 63)))] : List Int))).length c471), (6, .slice (some ad443) (p0).length cp0), (7, .int .i64 ((p0).length : Int)), (8, .int .i64 (IntKind.wrap .i64 (x357 + 1)))]) rfl trivial fun a hk => ?_
            refine wpListIn_nil ?_
            refine then_n ?_
            exact ⟨k438, Nat.le_refl _, (fun b_ => (fun l_ => if l_ = 36 then 30 else l_) (o467 b_)), A470, c471, (l354 ++ ([(IntKind.wrap .u8 (bits .or .i32 240 (Int.fdiv x455 (2 ^ min (Int.toNat 18) 32)))), (IntKind.wrap .u8 (bits .or .i32 128 (bits .and .i32 (Int.fdiv x455 (2 ^ min (Int.toNat 12) 32)) 63))), (IntKind.wrap .u8 (bits .or .i32 128 (bits .and .i32 (Int.fdiv x455 (2 ^ min (Int.toNat 6) 32)) 63))), (IntKind.wrap .u8 (bits .or .i32 128 (bits .and .i32 x455 63)))] : List Int)), (IntKind.wrap .i64 (x357 + 1)), (by exact Kn.pick (ks := [3, 6, 7, 8]) hk rfl), (hs.relab0 (fun l_ => if l_ = 36 then 30 else l_) rfl), (f472.relab (fun l_ => if l_ = 36 then 30 else l_) rfl), (f900000.relab (fun l_ => if l_ = 36 then 30 else l_) rfl), hc473, (hlp440 ▸ H)⟩
          · rw [b459] at hk H
            replace H := bifT H
            refine x_if hk (b := true) rfl ?_
            refine (show Code.wpIn _ _ _ _ _ _ _ from ?_)
            refine wpIn_region_lit ?_
            refine x_run tab hk (k := 10) (lv := []) (ks := [5, 6, 7, 8, 72, 76, 81]) (e' := [(5, .int .i32 x455), (6, .slice (some ad443) (p0).length cp0), (7, .int .i64 ((p0).length : Int)), (8, .int .i64 x357), (72, .slice A352 (l354).length c353), (76, .int .u8 (IntKind.wrap .u8 (bits .or .i32 224 (Int.fdiv x455 (2 ^ min (Int.toNat 12) 32))))), (81, .int .u8 (IntKind.wrap .u8 (bits .or .i32 128 (bits .and .i32 (Int.fdiv x455 (2 ^ min (Int.toNat 6) 32)) 63))))]) rfl ⟨(show 0 ≤ (12 : Int) from by decide), (show 0 ≤ (6 : Int) from by decide), trivial⟩ fun a hk => ?_
            refine x_run tab hk (k := 4) (lv := []) (ks := [6, 7, 8, 72, 76, 81, 85]) (e' := [(6, .slice (some ad443) (p0).length cp0), (7, .int .i64 ((p0).length : Int)), (8, .int .i64 x357), (72, .slice A352 (l354).length c353), (76, .int .u8 (IntKind.wrap .u8 (bits .or .i32 224 (Int.fdiv x455 (2 ^ min (Int.toNat 12) 32))))), (81, .int .u8 (IntKind.wrap .u8 (bits .or .i32 128 (bits .and .i32 (Int.fdiv x455 (2 ^ min (Int.toNat 6) 32)) 63)))), (85, .int .u8 (IntKind.wrap .u8 (bits .or .i32 128 (bits .and .i32 x455 63))))]) rfl trivial fun a hk => ?_
            refine x_op hk rfl ?_
            refine op_slice (o := o454) tab hk (vs := [.int .u8 (IntKind.wrap .u8 (bits .or .i32 224 (Int.fdiv x455 (2 ^ min (Int.toNat 12) 32)))), .int .u8 (IntKind.wrap .u8 (bits .or .i32 128 (bits .and .i32 (Int.fdiv x455 (2 ^ min (Int.toNat 6) 32)) 63))), .int .u8 (IntKind.wrap .u8 (bits .or .i32 128 (bits .and .i32 x455 63)))]) (cs := [.int .u8 (IntKind.wrap .u8 (bits .or .i32 224 (Int.fdiv x455 (2 ^ min (Int.toNat 12) 32)))), .int .u8 (IntKind.wrap .u8 (bits .or .i32 128 (bits .and .i32 (Int.fdiv x455 (2 ^ min (Int.toNat 6) 32)) 63))), .int .u8 (IntKind.wrap .u8 (bits .or .i32 128 (bits .and .i32 x455 63)))]) rfl rfl rfl rfl rfl rfl rfl rfl rfl 38 fun bx477 w474 o475 st476 f478 => ?_
            replace f355 := f355.st st476 (by decide)
            replace f900000 := f900000.st st476 (by decide)
            replace hs := hs.loc0 st476 (by decide)
            have f479 : Ft (Own (encInt .u8) 5 (.slice (some ⟨bx477, 0, none⟩) (([(IntKind.wrap .u8 (bits .or .i32 224 (Int.fdiv x455 (2 ^ min (Int.toNat 12) 32)))), (IntKind.wrap .u8 (bits .or .i32 128 (bits .and .i32 (Int.fdiv x455 (2 ^ min (Int.toNat 6) 32)) 63))), (IntKind.wrap .u8 (bits .or .i32 128 (bits .and .i32 x455 63)))] : List Int)).length 3) ([(IntKind.wrap .u8 (bits .or .i32 224 (Int.fdiv x455 (2 ^ min (Int.toNat 12) 32)))), (IntKind.wrap .u8 (bits .or .i32 128 (bits .and .i32 (Int.fdiv x455 (2 ^ min (Int.toNat 6) 32)) 63))), (IntKind.wrap .u8 (bits .or .i32 128 (bits .and .i32 x455 63)))] : List Int)) w474 o475 38 := f478.imp fun _ h_ => Own.of_box h_ rfl (by simp)
            have hk := hk.put 86 (.slice (some ⟨bx477, 0, none⟩) (([(IntKind.wrap .u8 (bits .or .i32 224 (Int.fdiv x455 (2 ^ min (Int.toNat 12) 32)))), (IntKind.wrap .u8 (bits .or .i32 128 (bits .and .i32 (Int.fdiv x455 (2 ^ min (Int.toNat 6) 32)) 63))), (IntKind.wrap .u8 (bits .or .i32 128 (bits .and .i32 x455 63)))] : List Int)).length 3) rfl
            refine x_op hk rfl ?_
            obtain ⟨q483, H⟩ := ifS H
            refine op_append (o := o475) (E := (encInt .u8)) (xs := l354) (ys := ([(IntKind.wrap .u8 (bits .or .i32 224 (Int.fdiv x455 (2 ^ min (Int.toNat 12) 32)))), (IntKind.wrap .u8 (bits .or .i32 128 (bits .and .i32 (Int.fdiv x455 (2 ^ min (Int.toNat 6) 32)) 63))), (IntKind.wrap .u8 (bits .or .i32 128 (bits .and .i32 x455 63)))] : List Int)) tab hk rfl rfl rfl rfl rfl rfl rfl f355 (Own.rd f479.now) q483 fun A484 c485 w480 o481 st482 f486 hc487 => ?_
            replace f479 := f479.st st482 (by decide)
            replace f900000 := f900000.st st482 (by decide)
            replace hs := hs.loc0 st482 (by decide)
            have hk := hk.put 87 (.slice A484 ((l354 ++ ([(IntKind.wrap .u8 (bits .or .i32 224 (Int.fdiv x455 (2 ^ min (Int.toNat 12) 32)))), (IntKind.wrap .u8 (bits .or .i32 128 (bits .and .i32 (Int.fdiv x455 (2 ^ min (Int.toNat 6) 32)) 63))), (IntKind.wrap .u8 (bits .or .i32 128 (bits .and .i32 x455 63)))] : List Int))).length c485) rfl
            refine x_run tab hk (k := 1) (lv := []) (ks := [3, 6, 7, 8]) (e' := [(3, .slice A484 ((l354 ++ ([(IntKind.wrap .u8 (bits .or .i32 224 (Int.fdiv x455 (2 ^ min (Int.toNat 12) 32)))), (IntKind.wrap .u8 (bits .or .i32 128 (bits .and .i32 (Int.fdiv x455 (2 ^ min (Int.toNat 6) 32)) 63))), (IntKind.wrap .u8 (bits .or .i32 128 (bits .and .i32 x455 63)))] : List Int))).length c485), (6, .slice (some ad443) (p0).length cp0), (7, .int .i64 ((p0).length : Int)), (8, .int .i64 x357)]) rfl trivial fun a hk => ?_
            refine wpListIn_nil ?_
            refine blk_n ?_
            refine blk_n ?_
            refine then_n ?_
            refine wpIn_region_lit ?_
            refine x_run tab hk (k := 2) (lv := []) (ks := [3, 6, 7, 8]) (e' := [(3, .slice A484 ((l354 ++ ([(IntKind.wrap .u8 (bits .or .i32 224 (Int.fdiv x455 (2 ^ min (Int.toNat 12) 32)))), (IntKind.wrap .u8 (bits .or .i32 128 (bits .and .i32 (Int.fdiv x455 (2 ^ min (Int.toNat 6) 32)) 63))), (IntKind.wrap .u8 (bits .or .i32 128 (bits .and .i32 x455 63)))] : List Int))).length c485), (6, .slice (some ad443) (p0).length cp0), (7, .int .i64 ((p0).length : Int)), (8, .int .i64 (IntKind.wrap .i64 (x357 + 1)))]) rfl trivial fun a hk => ?_
            refine wpListIn_nil ?_
            refine then_n ?_
            exact ⟨k438, Nat.le_refl _, (fun b_ => (fun l_ => if l_ = 36 then 30 else l_) (o481 b_)), A484, c485, (l354 ++ ([(IntKind.wrap .u8 (bits .or .i32 224 (Int.fdiv x455 (2 ^ min (Int.toNat 12) 32)))), (IntKind.wrap .u8 (bits .or .i32 128 (bits .and .i32 (Int.fdiv x455 (2 ^ min (Int.toNat 6) 32)) 63))), (IntKind.wrap .u8 (bits .or .i32 128 (bits .and .i32 x455 63)))] : List Int)), (IntKind.wrap .i64 (x357 + 1)), (by exact Kn.pick (ks := [3, 6, 7, 8]) hk rfl), (hs.relab0 (fun l_ => if l_ = 36 then 30 else l_) rfl), (f486.relab (fun l_ => if l_ = 36 then 30 else l_) rfl), (f900000.relab (fun l_ => if l_ = 36 then 30 else l_) rfl), hc487, (hlp440 ▸ H)⟩
        · rw [b458] at hk H
          replace H := bifT H
          refine x_if hk (b := true) rfl ?_
          refine (show Code.wpIn _ _ _ _ _ _ _ from ?_)
          refine wpIn_region_lit ?_
          refine x_run tab hk (k := 9) (lv := []) (ks := [6, 7, 8, 58, 62, 66]) (e' := [(6, .slice (some ad443) (p0).length cp0), (7, .int .i64 ((p0).length : Int)), (8, .int .i64 x357), (58, .slice A352 (l354).length c353), (62, .int .u8 (IntKind.wrap .u8 (bits .or .i32 192 (Int.fdiv x455 (2 ^ min (Int.toNat 6) 32))))), (66, .int .u8 (IntKind.wrap .u8 (bits .or .i32 128 (bits .and .i32 x455 63))))]) rfl ⟨(show 0 ≤ (6 : Int) from by decide), trivial⟩ fun a hk => ?_
          refine x_op hk rfl ?_
          refine op_slice (o := o454) tab hk (vs := [.int .u8 (IntKind.wrap .u8 (bits .or .i32 192 (Int.fdiv x455 (2 ^ min (Int.toNat 6) 32)))), .int .u8 (IntKind.wrap .u8 (bits .or .i32 128 (bits .and .i32 x455 63)))]) (cs := [.int .u8 (IntKind.wrap .u8 (bits .or .i32 192 (Int.fdiv x455 (2 ^ min (Int.toNat 6) 32)))), .int .u8 (IntKind.wrap .u8 (bits .or .i32 128 (bits .and .i32 x455 63)))]) rfl rfl rfl rfl rfl rfl rfl rfl rfl 39 fun bx491 w488 o489 st490 f492 => ?_
          replace f355 := f355.st st490 (by decide)
          replace f900000 := f900000.st st490 (by decide)
          replace hs := hs.loc0 st490 (by decide)
          have f493 : Ft (Own (encInt .u8) 5 (.slice (some ⟨bx491, 0, none⟩) (([(IntKind.wrap .u8 (bits .or .i32 192 (Int.fdiv x455 (2 ^ min (Int.toNat 6) 32)))), (IntKind.wrap .u8 (bits .or .i32 128 (bits .and .i32 x455 63)))] : List Int)).length 2) ([(IntKind.wrap .u8 (bits .or .i32 192 (Int.fdiv x455 (2 ^ min (Int.toNat 6) 32)))), (IntKind.wrap .u8 (bits .or .i32 128 (bits .and .i32 x455 63)))] : List Int)) w488 o489 39 := f492.imp fun _ h_ => Own.of_box h_ rfl (by simp)
          have hk := hk.put 67 (.slice (some ⟨bx491, 0, none⟩) (([(IntKind.wrap .u8 (bits .or .i32 192 (Int.fdiv x455 (2 ^ min (Int.toNat 6) 32)))), (IntKind.wrap .u8 (bits .or .i32 128 (bits .and .i32 x455 63)))] : List Int)).length 2) rfl
          refine x_op hk rfl ?_
          obtain ⟨q497, H⟩ := ifS H
          refine op_append (o := o489) (E := (encInt .u8)) (xs := l354) (ys := ([(IntKind.wrap .u8 (bits .or .i32 192 (Int.fdiv x455 (2 ^ min (Int.toNat 6) 32)))), (IntKind.wrap .u8 (bits .or .i32 128 (bits .and .i32 x455 63)))] : List Int)) tab hk rfl rfl rfl rfl rfl rfl rfl f355 (Own.rd f493.now) q497 fun A498 c499 w494 o495 st496 f500 hc501 => ?_
          replace f493 := f493.st st496 (by decide)
          replace f900000 := f900000.st st496 (by decide)
          replace hs := hs.loc0 st496 (by decide)
          have hk := hk.put 68 (.slice A498 ((l354 ++ ([(IntKind.wrap .u8 (bits .or .i32 192 (Int.fdiv x455 (2 ^ min (Int.toNat 6) 32)))), (IntKind.wrap .u8 (bits .or .i32 128 (bits .and .i32 x455 63)))] : List Int))).length c499) rfl
          refine x_run tab hk (k := 1) (lv := []) (ks := [3, 6, 7, 8]) (e' := [(3, .slice A498 ((l354 ++ ([(IntKind.wrap .u8 (bits .or .i32 192 (Int.fdiv x455 (2 ^ min (Int.toNat 6) 32)))), (IntKind.wrap .u8 (bits .or .i32 128 (bits .and .i32 x455 63)))] : List Int))).length c499), (6, .slice (some ad443) (p0).length cp0), (7, .int .i64 ((p0).length : Int)), (8, .int .i64 x357)]) rfl trivial fun a hk => ?_
          refine wpListIn_nil ?_
          refine blk_n ?_
          refine blk_n ?_
          refine then_n ?_
          refine wpIn_region_lit ?_
          refine x_run tab hk (k := 2) (lv := []) (ks := [3, 6, 7, 8]) (e' := [(3, .slice A498 ((l354 ++ ([(IntKind.wrap .u8 (bits .or .i32 192 (Int.fdiv x455 (2 ^ min (Int.toNat 6) 32)))), (IntKind.wrap .u8 (bits .or .i32 128 (bits .and .i32 x455 63)))] : List Int))).length c499), (6, .slice (some ad443) (p0).length cp0), (7, .int .i64 ((p0).length : Int)), (8, .int .i64 (IntKind.wrap .i64 (x357 + 1)))]) rfl trivial fun a hk => ?_
          refine wpListIn_nil ?_
          refine then_n ?_
          exact ⟨k438, Nat.le_refl _, (fun b_ => (fun l_ => if l_ = 36 then 30 else l_) (o495 b_)), A498, c499, (l354 ++ ([(IntKind.wrap .u8 (bits .or .i32 192 (Int.fdiv x455 (2 ^ min (Int.toNat 6) 32)))), (IntKind.wrap .u8 (bits .or .i32 128 (bits .and .i32 x455 63)))] : List Int)), (IntKind.wrap .i64 (x357 + 1)), (by exact Kn.pick (ks := [3, 6, 7, 8]) hk rfl), (hs.relab0 (fun l_ => if l_ = 36 then 30 else l_) rfl), (f500.relab (fun l_ => if l_ = 36 then 30 else l_) rfl), (f900000.relab (fun l_ => if l_ = 36 then 30 else l_) rfl), hc501, (hlp440 ▸ H)⟩
      · rw [b457] at hk H
        replace H := bifT H
        refine x_if hk (b := true) rfl ?_
        refine (show Code.wpIn _ _ _ _ _ _ _ from ?_)
        refine wpIn_region_lit ?_
        refine x_run tab hk (k := 3) (lv := []) (ks := [6, 7, 8, 50, 52]) (e' := [(6, .slice (some ad443) (p0).length cp0), (7, .int .i64 ((p0).length : Int)), (8, .int .i64 x357), (50, .slice A352 (l354).length c353), (52, .int .u8 (IntKind.wrap .u8 x455))]) rfl trivial fun a hk => ?_
        refine x_op hk rfl ?_
        refine op_slice (o := o454) tab hk (vs := [.int .u8 (IntKind.wrap .u8 x455)]) (cs := [.int .u8 (IntKind.wrap .u8 x455)]) rfl rfl rfl rfl rfl rfl rfl rfl rfl 40 fun bx505 w502 o503 st504 f506 => ?_
        replace f355 := f355.st st504 (by decide)
        replace f900000 := f900000.st st504 (by decide)
        replace hs := hs.loc0 st504 (by decide)
        have f507 : Ft (Own (encInt .u8) 5 (.slice (some ⟨bx505, 0, none⟩) (([(IntKind.wrap .u8 x455)] : List Int)).length 1) ([(IntKind.wrap .u8 x455)] : List Int)) w502 o503 40 := f506.imp fun _ h_ => Own.of_box h_ rfl (by simp)
        have hk := hk.put 53 (.slice (some ⟨bx505, 0, none⟩) (([(IntKind.wrap .u8 x455)] : List Int)).length 1) rfl
        refine x_op hk rfl ?_
        obtain ⟨q511, H⟩ := ifS H
        refine op_append (o := o503) (E := (encInt .u8)) (xs := l354) (ys := ([(IntKind.wrap .u8 x455)] : List Int)) tab hk rfl rfl rfl rfl rfl rfl rfl f355 (Own.rd f507.now) q511 fun A512 c513 w508 o509 st510 f514 hc515 => ?_
        replace f507 := f507.st st510 (by decide)
        replace f900000 := f900000.st st510 (by decide)
        replace hs := hs.loc0 st510 (by decide)
        have hk := hk.put 54 (.slice A512 ((l354 ++ ([(IntKind.wrap .u8 x455)] : List Int))).length c513) rfl
        refine x_run tab hk (k := 1) (lv := []) (ks := [3, 6, 7, 8]) (e' := [(3, .slice A512 ((l354 ++ ([(IntKind.wrap .u8 x455)] : List Int))).length c513), (6, .slice (some ad443) (p0).length cp0), (7, .int .i64 ((p0).length : Int)), (8, .int .i64 x357)]) rfl trivial fun a hk => ?_
        refine wpListIn_nil ?_
        refine blk_n ?_
        refine blk_n ?_
        refine then_n ?_
        refine wpIn_region_lit ?_
        refine x_run tab hk (k := 2) (lv := []) (ks := [3, 6, 7, 8]) (e' := [(3, .slice A512 ((l354 ++ ([(IntKind.wrap .u8 x455)] : List Int))).length c513), (6, .slice (some ad443) (p0).length cp0), (7, .int .i64 ((p0).length : Int)), (8, .int .i64 (IntKind.wrap .i64 (x357 + 1)))]) rfl trivial fun a hk => ?_
        refine wpListIn_nil ?_
        refine then_n ?_
        exact ⟨k438, Nat.le_refl _, (fun b_ => (fun l_ => if l_ = 36 then 30 else l_) (o509 b_)), A512, c513, (l354 ++ ([(IntKind.wrap .u8 x455)] : List Int)), (IntKind.wrap .i64 (x357 + 1)), (by exact Kn.pick (ks := [3, 6, 7, 8]) hk rfl), (hs.relab0 (fun l_ => if l_ = 36 then 30 else l_) rfl), (f514.relab (fun l_ => if l_ = 36 then 30 else l_) rfl), (f900000.relab (fun l_ => if l_ = 36 then 30 else l_) rfl), hc515, (hlp440 ▸ H)⟩
    refine x_seq ?_
    refine wpIn_region_lit ?_
    refine x_run tab hk (k := 3) (lv := []) (ks := [3, 5, 6, 7, 8, 14]) (e' := [(3, .slice A352 (l354).length c353), (5, .int .i32 (rdD 0 p0 x357)), (6, .slice (some ad443) (p0).length cp0), (7, .int .i64 ((p0).length : Int)), (8, .int .i64 x357), (14, .bool (decide ((rdD 0 p0 x357) < (0 : Int))))]) rfl trivial fun a hk => ?_
    cases b516 : (decide ((rdD 0 p0 x357) < (0 : Int)))
    · rw [b516] at hk H
      replace H := bifF H
      refine x_run tab hk (k := 4) (lv := []) (ks := [3, 5, 6, 7, 8, 18]) (e' := [(3, .slice A352 (l354).length c353), (5, .int .i32 (rdD 0 p0 x357)), (6, .slice (some ad443) (p0).length cp0), (7, .int .i64 ((p0).length : Int)), (8, .int .i64 x357), (18, .bool (decide ((rdD 0 p0 x357) > (1114111 : Int))))]) rfl trivial fun a hk => ?_
      cases b517 : (decide ((rdD 0 p0 x357) > (1114111 : Int)))
      · rw [b517] at hk H
        replace H := bifF H
        refine x_run tab hk (k := 3) (lv := []) (ks := [3, 5, 6, 7, 8, 18, 21]) (e' := [(3, .slice A352 (l354).length c353), (5, .int .i32 (rdD 0 p0 x357)), (6, .slice (some ad443) (p0).length cp0), (7, .int .i64 ((p0).length : Int)), (8, .int .i64 x357), (18, .bool false), (21, .bool (decide ((rdD 0 p0 x357) ≥ (55296 : Int))))]) rfl trivial fun a hk => ?_
        cases b518 : (decide ((rdD 0 p0 x357) ≥ (55296 : Int)))
        · rw [b518] at hk H
          replace H := bifF H
          refine x_run tab hk (k := 4) (lv := []) (ks := [3, 5, 6, 7, 8, 25]) (e' := [(3, .slice A352 (l354).length c353), (5, .int .i32 (rdD 0 p0 x357)), (6, .slice (some ad443) (p0).length cp0), (7, .int .i64 ((p0).length : Int)), (8, .int .i64 x357), (25, .bool false)]) rfl trivial fun a hk => ?_
          refine wpListIn_nil ?_
          refine then_n ?_
          refine x_if hk (b := false) rfl ?_
          refine (show Code.wpIn _ _ _ _ _ _ _ from ?_)
          refine wpIn_skip ?_
          refine then_n ?_
          exact ⟨(fun b_ => (fun l_ => if l_ = 30 then 36 else l_) (o351 b_)), (rdD 0 p0 x357), (by exact Kn.pick (ks := [3, 5, 6, 7, 8]) hk rfl), (hs.relab0 (fun l_ => if l_ = 30 then 36 else l_) rfl), (f355.relab (fun l_ => if l_ = 30 then 36 else l_) rfl), (f900000.relab (fun l_ => if l_ = 30 then 36 else l_) rfl), H⟩
        · rw [b518] at hk H
          replace H := bifT H
          refine x_run tab hk (k := 4) (lv := []) (ks := [3, 5, 6, 7, 8, 25]) (e' := [(3, .slice A352 (l354).length c353), (5, .int .i32 (rdD 0 p0 x357)), (6, .slice (some ad443) (p0).length cp0), (7, .int .i64 ((p0).length : Int)), (8, .int .i64 x357), (25, .bool (decide ((rdD 0 p0 x357) ≤ (57343 : Int))))]) rfl trivial fun a hk => ?_
          refine wpListIn_nil ?_
          refine then_n ?_
          cases b519 : (decide ((rdD 0 p0 x357) ≤ (57343 : Int)))
          · rw [b519] at hk H
            replace H := bifF H
            refine x_if hk (b := false) rfl ?_
            refine (show Code.wpIn _ _ _ _ _ _ _ from ?_)
            refine wpIn_skip ?_
            refine then_n ?_
            exact ⟨(fun b_ => (fun l_ => if l_ = 30 then 36 else l_) (o351 b_)), (rdD 0 p0 x357), (by exact Kn.pick (ks := [3, 5, 6, 7, 8]) hk rfl), (hs.relab0 (fun l_ => if l_ = 30 then 36 else l_) rfl), (f355.relab (fun l_ => if l_ = 30 then 36 else l_) rfl), (f900000.relab (fun l_ => if l_ = 30 then 36 else l_) rfl), H⟩
          · rw [b519] at hk H
            replace H := bifT H
            refine x_if hk (b := true) rfl ?_
            refine (show Code.wpIn _ _ _ _ _ _ _ from ?_)
            refine wpIn_region_lit ?_
            refine x_run tab hk (k := 1) (lv := []) (ks := [3, 5, 6, 7, 8]) (e' := [(3, .slice A352 (l354).length c353), (5, .int .i32 65533), (6, .slice (some ad443) (p0).length cp0), (7, .int .i64 ((p0).length : Int)), (8, .int .i64 x357)]) rfl trivial fun a hk => ?_
            refine wpListIn_nil ?_
            refine then_n ?_
            exact ⟨(fun b_ => (fun l_ => if l_ = 30 then 36 else l_) (o351 b_)), 65533, (by exact Kn.pick (ks := [3, 5, 6, 7, 8]) hk rfl), (hs.relab0 (fun l_ => if l_ = 30 then 36 else l_) rfl), (f355.relab (fun l_ => if l_ = 30 then 36 else l_) rfl), (f900000.relab (fun l_ => if l_ = 30 then 36 else l_) rfl), H⟩
      · rw [b517] at hk H
        replace H := bifT H
        refine x_run tab hk (k := 7) (lv := []) (ks := [3, 5, 6, 7, 8, 25]) (e' := [(3, .slice A352 (l354).length c353), (5, .int .i32 (rdD 0 p0 x357)), (6, .slice (some ad443) (p0).length cp0), (7, .int .i64 ((p0).length : Int)), (8, .int .i64 x357), (25, .bool true)]) rfl trivial fun a hk => ?_
        refine wpListIn_nil ?_
        refine then_n ?_
        refine x_if hk (b := true) rfl ?_
        refine (show Code.wpIn _ _ _ _ _ _ _ from ?_)
        refine wpIn_region_lit ?_
        refine x_run tab hk (k := 1) (lv := []) (ks := [3, 5, 6, 7, 8]) (e' := [(3, .slice A352 (l354).length c353), (5, .int .i32 65533), (6, .slice (some ad443) (p0).length cp0), (7, .int .i64 ((p0).length : Int)), (8, .int .i64 x357)]) rfl trivial fun a hk => ?_
        refine wpListIn_nil ?_
        refine then_n ?_
        exact ⟨(fun b_ => (fun l_ => if l_ = 30 then 36 else l_) (o351 b_)), 65533, (by exact Kn.pick (ks := [3, 5, 6, 7, 8]) hk rfl), (hs.relab0 (fun l_ => if l_ = 30 then 36 else l_) rfl), (f355.relab (fun l_ => if l_ = 30 then 36 else l_) rfl), (f900000.relab (fun l_ => if l_ = 30 then 36 else l_) rfl), H⟩
    · rw [b516] at hk H
      replace H := bifT H
      refine x_run tab hk (k := 10) (lv := []) (ks := [3, 5, 6, 7, 8, 18, 24]) (e' := [(3, .slice A352 (l354).length c353), (5, .int .i32 (rdD 0 p0 x357)), (6, .slice (some ad443) (p0).length cp0), (7, .int .i64 ((p0).length : Int)), (8, .int .i64 x357), (18, .bool true), (24, undef)]) rfl trivial fun a hk => ?_
      refine x_run tab hk (k := 1) (lv := []) (ks := [3, 5, 6, 7, 8, 25]) (e' := [(3, .slice A352 (l354).length c353), (5, .int .i32 (rdD 0 p0 x357)), (6, .slice (some ad443) (p0).length cp0), (7, .int .i64 ((p0).length : Int)), (8, .int .i64 x357), (25, .bool true)]) rfl trivial fun a hk => ?_
      refine wpListIn_nil ?_
      refine then_n ?_
      refine x_if hk (b := true) rfl ?_
      refine (show Code.wpIn _ _ _ _ _ _ _ from ?_)
      refine wpIn_region_lit ?_
      refine x_run tab hk (k := 1) (lv := []) (ks := [3, 5, 6, 7, 8]) (e' := [(3, .slice A352 (l354).length c353), (5, .int .i32 65533), (6, .slice (some ad443) (p0).length cp0), (7, .int .i64 ((p0).length : Int)), (8, .int .i64 x357)]) rfl trivial fun a hk => ?_
      refine wpListIn_nil ?_
      refine then_n ?_
      exact ⟨(fun b_ => (fun l_ => if l_ = 30 then 36 else l_) (o351 b_)), 65533, (by exact Kn.pick (ks := [3, 5, 6, 7, 8]) hk rfl), (hs.relab0 (fun l_ => if l_ = 30 then 36 else l_) rfl), (f355.relab (fun l_ => if l_ = 30 then 36 else l_) rfl), (f900000.relab (fun l_ => if l_ = 30 then 36 else l_) rfl), H⟩

/-! tidewrack/flow.Text -/
theorem flow_Text_calls (K : Nat) (Ap0 : Option Addr) (cp0 : Nat) (p0 : List T24) (w : World) (o : Nat → Nat) (Lp0 : Nat) (hp0 : Ft (RdC ET24 Ap0 p0) w o Lp0) (hcp0 : (p0).length ≤ cp0)  (r : ByteArray) (H : flow_Text K p0 = some r) :
    Calls Tryd.prog 17 #[.slice Ap0 (p0).length cp0] w (Ret fun v_ w' => ∃ o' : Nat → Nat, v_ = .string r ∧ St [] w o w' o') := by
  refine x_enter (vs := [.slice Ap0 (p0).length cp0]) Tryd.func17 rfl rfl rfl fun a hk => ?_
  obtain ⟨o0, hs, h0⟩ := St.start w o
  have f900000 := h0 _ _ hp0
  clear h0
  rw [flow_Text] at H
  refine x_seq ?_
  refine wpIn_region_lit ?_
  refine x_run tab hk (k := 1) (lv := []) (ks := [0]) (e' := [(0, .slice Ap0 (p0).length cp0)]) rfl trivial fun a hk => ?_
  refine wpListIn_nil ?_
  refine then_n ?_
  refine x_seq ?_
  refine wpIn_region_lit ?_
  refine x_run tab hk (k := 1) (lv := []) (ks := [3]) (e' := [(3, .slice Ap0 (p0).length cp0)]) rfl trivial fun a hk => ?_
  refine x_op hk rfl ?_
  obtain ⟨t4, hc5, H⟩ := bindS H
  refine op_call hk ent_24 (vs := [.slice Ap0 (p0).length cp0]) rfl (flow_runes_calls K Ap0 cp0 p0 _ o0 _ f900000 hcp0 1  _ hc5) ?_
  rintro _ w6 ⟨o7, A9, c10, rfl, st8, f11, hc12⟩
  replace f900000 := f900000.st st8 (by decide)
  replace hs := hs.loc0 st8 (by decide)
  have hk := hk.put 4 (.slice A9 (t4).length c10) rfl
  refine x_op hk rfl ?_
  obtain ⟨t16, hc17, H⟩ := bindS H
  refine op_call hk ent_25 (vs := [.slice A9 (t4).length c10]) rfl (glyph_Encode_calls K A9 c10 t4 _ o7 _ (f11.imp fun _ h_ => Own.rd h_) hc12   _ hc17) ?_
  rintro _ w18 ⟨o19, rfl, st20⟩
  replace f11 := f11.st st20 (by decide)
  replace f900000 := f900000.st st20 (by decide)
  replace hs := hs.loc0 st20 (by decide)
  have hk := hk.put 5 (.string t16) rfl
  refine x_run tab hk (k := 1) (lv := []) (ks := [2]) (e' := [(2, .string t16)]) rfl trivial fun a hk => ?_
  refine wpListIn_nil ?_
  refine then_n ?_
  refine wpIn_ret ?_
  obtain rfl := Option.some.inj H
  exact x_retG hk (rs := [.tmp 2]) (vs := [.string t16]) rfl ⟨rfl, trivial⟩ ⟨fun b_ => if b_ < w.heap.size then o b_ else (fun _ => 0) (o19 b_), rfl, hs.close0 o (fun _ => 0)⟩

/-! tidewrack/tidewracklaw15.awake -/
theorem tidewracklaw15_awake_calls (K : Nat)  (w : World) (o : Nat → Nat) (Lg0 : Nat) (hg0 : Ft (RdC ET68 (some ⟨0, 0, none⟩) glob0) w o Lg0) (Lg1 : Nat) (hg1 : Ft (RdC ET68 (some ⟨1, 0, none⟩) glob1) w o Lg1)   (r : Bool) (H : tidewracklaw15_awake K = some r) :
    Calls Tryd.prog 8 #[] w (Ret fun v_ w' => ∃ o' : Nat → Nat, v_ = .bool r ∧ St [] w o w' o') := by
  refine x_enter (vs := []) Tryd.func8 rfl rfl rfl fun a hk => ?_
  obtain ⟨o0, hs, h0⟩ := St.start w o
  have fg0 := h0 _ _ hg0
  have fg1 := h0 _ _ hg1
  clear h0
  rw [tidewracklaw15_awake] at H
  refine x_seq ?_
  refine wpIn_region_lit ?_
  refine x_run tab hk (k := 1) (lv := []) (ks := []) (e' := []) rfl trivial fun a hk => ?_
  refine wpListIn_nil ?_
  refine then_n ?_
  refine x_seq ?_
  refine wpIn_region_lit ?_
  refine x_run tab hk (k := 3) (lv := []) (ks := [3, 4, 5]) (e' := [(3, .agg #[.int .i32 97, .int .i64 0]), (4, .agg #[.int .i32 98, .int .i64 0]), (5, .agg #[.int .i32 20013, .int .i64 0])]) rfl trivial fun a hk => ?_
  refine x_op hk rfl ?_
  refine op_slice (o := o0) tab hk (vs := [.agg #[.int .i32 97, .int .i64 0], .agg #[.int .i32 98, .int .i64 0], .agg #[.int .i32 20013, .int .i64 0]]) (cs := [.int .i32 97, .int .i64 0, .int .i32 98, .int .i64 0, .int .i32 20013, .int .i64 0]) rfl rfl rfl rfl rfl rfl rfl rfl rfl 2 fun bx4 w1 o2 st3 f5 => ?_
  replace fg0 := fg0.st st3 (by decide)
  replace fg1 := fg1.st st3 (by decide)
  replace hs := hs.loc0 st3 (by decide)
  have f6 : Ft (Own ET24 25 (.slice (some ⟨bx4, 0, none⟩) (([(⟨97, 0⟩ : T24), (⟨98, 0⟩ : T24), (⟨20013, 0⟩ : T24)] : List T24)).length 3) ([(⟨97, 0⟩ : T24), (⟨98, 0⟩ : T24), (⟨20013, 0⟩ : T24)] : List T24)) w1 o2 2 := f5.imp fun _ h_ => Own.of_box h_ rfl (by simp)
  have hk := hk.put 6 (.slice (some ⟨bx4, 0, none⟩) (([(⟨97, 0⟩ : T24), (⟨98, 0⟩ : T24), (⟨20013, 0⟩ : T24)] : List T24)).length 3) rfl
  refine x_run tab hk (k := 1) (lv := []) (ks := [1]) (e' := [(1, .slice (some ⟨bx4, 0, none⟩) (([(⟨97, 0⟩ : T24), (⟨98, 0⟩ : T24), (⟨20013, 0⟩ : T24)] : List T24)).length 3)]) rfl trivial fun a hk => ?_
  refine wpListIn_nil ?_
  refine then_n ?_
  refine x_seq ?_
  refine wpIn_region_lit ?_
  refine x_run tab hk (k := 1) (lv := []) (ks := [1, 7]) (e' := [(1, .slice (some ⟨bx4, 0, none⟩) (([(⟨97, 0⟩ : T24), (⟨98, 0⟩ : T24), (⟨20013, 0⟩ : T24)] : List T24)).length 3), (7, .slice (some ⟨bx4, 0, none⟩) (([(⟨97, 0⟩ : T24), (⟨98, 0⟩ : T24), (⟨20013, 0⟩ : T24)] : List T24)).length 3)]) rfl trivial fun a hk => ?_
  refine x_op hk rfl ?_
  obtain ⟨t10, hc11, H⟩ := bindS H
  refine op_call hk ent_12 (vs := [.slice (some ⟨bx4, 0, none⟩) (([(⟨97, 0⟩ : T24), (⟨98, 0⟩ : T24), (⟨20013, 0⟩ : T24)] : List T24)).length 3, .int .i64 3]) rfl (flow_Cut_calls K (some ⟨bx4, 0, none⟩) 3 ([(⟨97, 0⟩ : T24), (⟨98, 0⟩ : T24), (⟨20013, 0⟩ : T24)] : List T24) 3 _ o2 1 0 fg0 0 fg1 2 (f6.imp fun _ h_ => Own.rd h_) (Nat.le_refl _) (by decide) (by decide) (by decide) 3  _ hc11) ?_
  rintro _ w12 ⟨o13, A15, c16, rfl, st14, f17, hc18⟩
  replace f6 := f6.st st14 (by decide)
  replace fg0 := fg0.st st14 (by decide)
  replace fg1 := fg1.st st14 (by decide)
  replace hs := hs.loc0 st14 (by decide)
  have hk := hk.put 8 (.slice A15 (t10).length c16) rfl
  refine x_run tab hk (k := 1) (lv := []) (ks := [1, 2]) (e' := [(1, .slice (some ⟨bx4, 0, none⟩) (([(⟨97, 0⟩ : T24), (⟨98, 0⟩ : T24), (⟨20013, 0⟩ : T24)] : List T24)).length 3), (2, .slice A15 (t10).length c16)]) rfl trivial fun a hk => ?_
  refine wpListIn_nil ?_
  refine then_n ?_
  refine x_seq ?_
  refine wpIn_region_lit ?_
  refine x_run tab hk (k := 4) (lv := []) (ks := [1, 2, 12]) (e' := [(1, .slice (some ⟨bx4, 0, none⟩) (([(⟨97, 0⟩ : T24), (⟨98, 0⟩ : T24), (⟨20013, 0⟩ : T24)] : List T24)).length 3), (2, .slice A15 (t10).length c16), (12, .bool (((t10).length : Int) == (2 : Int)))]) rfl trivial fun a hk => ?_
  cases b19 : (((t10).length : Int) == (2 : Int))
  · rw [b19] at hk H
    replace H := bifF H
    refine x_run tab hk (k := 12) (lv := []) (ks := [1, 19, 24]) (e' := [(1, .slice (some ⟨bx4, 0, none⟩) (([(⟨97, 0⟩ : T24), (⟨98, 0⟩ : T24), (⟨20013, 0⟩ : T24)] : List T24)).length 3), (19, .bool false), (24, undef)]) rfl trivial fun a hk => ?_
    refine x_run tab hk (k := 10) (lv := []) (ks := [31, 34]) (e' := [(31, .bool false), (34, undef)]) rfl trivial fun a hk => ?_
    refine x_run tab hk (k := 2) (lv := []) (ks := [0]) (e' := [(0, .bool false)]) rfl trivial fun a hk => ?_
    refine wpListIn_nil ?_
    refine then_n ?_
    refine wpIn_ret ?_
    obtain rfl := Option.some.inj H
    exact x_retG hk (rs := [.tmp 0]) (vs := [.bool false]) rfl ⟨rfl, trivial⟩ ⟨fun b_ => if b_ < w.heap.size then o b_ else (fun _ => 0) (o13 b_), rfl, hs.close0 o (fun _ => 0)⟩
  · rw [b19] at hk H
    replace H := bifT H
    obtain ⟨q20, H⟩ := ifS H
    obtain ⟨ad21, hAad21⟩ := NRd.addr f17.rd q20
    have hk_C := hk
    have f17_C := f17
    have f6_C := f6
    have fg0_C := fg0
    have fg1_C := fg1
    subst hAad21
    have hk := hk_C
    clear hk_C
    have f17 := f17_C
    clear f17_C
    have f6 := f6_C
    clear f6_C
    have fg0 := fg0_C
    clear fg0_C
    have fg1 := fg1_C
    clear fg1_C
    obtain ⟨A22, c23, f24, f25, hc26⟩ := NRd.row f17.rd (P := Tryd.prog) tab (t := 22) rfl (i := (0 : Int)) q20
    refine x_run tab hk (k := 7) (lv := [.slice A22 ((rdD [] t10 0)).length c23]) (ks := [1, 2, 19]) (e' := [(1, .slice (some ⟨bx4, 0, none⟩) (([(⟨97, 0⟩ : T24), (⟨98, 0⟩ : T24), (⟨20013, 0⟩ : T24)] : List T24)).length 3), (2, .slice (some ad21) (t10).length c16), (19, .bool ((((rdD [] t10 0)).length : Int) == (2 : Int)))]) rfl ⟨q20, f24.now, trivial⟩ fun a hk => ?_
    cases b27 : ((((rdD [] t10 0)).length : Int) == (2 : Int))
    · rw [b27] at hk H
      replace H := bifF H
      refine x_run tab hk (k := 10) (lv := []) (ks := [26, 29]) (e' := [(26, .bool false), (29, undef)]) rfl trivial fun a hk => ?_
      refine x_run tab hk (k := 7) (lv := []) (ks := [0]) (e' := [(0, .bool false)]) rfl trivial fun a hk => ?_
      refine wpListIn_nil ?_
      refine then_n ?_
      refine wpIn_ret ?_
      obtain rfl := Option.some.inj H
      exact x_retG hk (rs := [.tmp 0]) (vs := [.bool false]) rfl ⟨rfl, trivial⟩ ⟨fun b_ => if b_ < w.heap.size then o b_ else (fun _ => 0) (o13 b_), rfl, hs.close0 o (fun _ => 0)⟩
    · rw [b27] at hk H
      replace H := bifT H
      obtain ⟨q28, H⟩ := ifS H
      obtain ⟨A29, c30, f31, f32, hc33⟩ := NRd.row f17.rd (P := Tryd.prog) tab (t := 22) rfl (i := (1 : Int)) q28
      refine x_run tab hk (k := 7) (lv := [.slice A29 ((rdD [] t10 1)).length c30]) (ks := [1, 26]) (e' := [(1, .slice (some ⟨bx4, 0, none⟩) (([(⟨97, 0⟩ : T24), (⟨98, 0⟩ : T24), (⟨20013, 0⟩ : T24)] : List T24)).length 3), (26, .bool ((((rdD [] t10 1)).length : Int) == (1 : Int)))]) rfl ⟨q28, f31.now, trivial⟩ fun a hk => ?_
      cases b34 : ((((rdD [] t10 1)).length : Int) == (1 : Int))
      · rw [b34] at hk H
        replace H := bifF H
        refine x_run tab hk (k := 10) (lv := []) (ks := [0]) (e' := [(0, .bool false)]) rfl trivial fun a hk => ?_
        refine wpListIn_nil ?_
        refine then_n ?_
        refine wpIn_ret ?_
        obtain rfl := Option.some.inj H
        exact x_retG hk (rs := [.tmp 0]) (vs := [.bool false]) rfl ⟨rfl, trivial⟩ ⟨fun b_ => if b_ < w.heap.size then o b_ else (fun _ => 0) (o13 b_), rfl, hs.close0 o (fun _ => 0)⟩
      · rw [b34] at hk H
        replace H := bifT H
        refine x_run tab hk (k := 1) (lv := []) (ks := [26, 27]) (e' := [(26, .bool true), (27, .slice (some ⟨bx4, 0, none⟩) (([(⟨97, 0⟩ : T24), (⟨98, 0⟩ : T24), (⟨20013, 0⟩ : T24)] : List T24)).length 3)]) rfl trivial fun a hk => ?_
        refine x_op hk rfl ?_
        obtain ⟨t38, hc39, H⟩ := bindS H
        refine op_call hk ent_17 (vs := [.slice (some ⟨bx4, 0, none⟩) (([(⟨97, 0⟩ : T24), (⟨98, 0⟩ : T24), (⟨20013, 0⟩ : T24)] : List T24)).length 3]) rfl (flow_Text_calls K (some ⟨bx4, 0, none⟩) 3 ([(⟨97, 0⟩ : T24), (⟨98, 0⟩ : T24), (⟨20013, 0⟩ : T24)] : List T24) _ o13 _ (f6.imp fun _ h_ => Own.rd h_) (Nat.le_refl _)   _ hc39) ?_
        rintro _ w40 ⟨o41, rfl, st42⟩
        replace f6 := f6.st st42 (by decide)
        replace fg0 := fg0.st st42 (by decide)
        replace fg1 := fg1.st st42 (by decide)
        replace hs := hs.loc0 st42 (by decide)
        have hk := hk.put 28 (.string t38) rfl
        refine x_run tab hk (k := 3) (lv := []) (ks := [31]) (e' := [(31, .bool (ByteArray.toList t38 == ByteArray.toList (⟨#[97, 98, 228, 184, 173]⟩ : ByteArray)))]) rfl trivial fun a hk => ?_
        cases b43 : (ByteArray.toList t38 == ByteArray.toList (⟨#[97, 98, 228, 184, 173]⟩ : ByteArray))
        · rw [b43] at hk H
          replace H := bifF H
          refine x_run tab hk (k := 5) (lv := []) (ks := [0]) (e' := [(0, .bool false)]) rfl trivial fun a hk => ?_
          refine wpListIn_nil ?_
          refine then_n ?_
          refine wpIn_ret ?_
          obtain rfl := Option.some.inj H
          exact x_retG hk (rs := [.tmp 0]) (vs := [.bool false]) rfl ⟨rfl, trivial⟩ ⟨fun b_ => if b_ < w.heap.size then o b_ else (fun _ => 0) (o41 b_), rfl, hs.close0 o (fun _ => 0)⟩
        · rw [b43] at hk H
          replace H := bifT H
          refine x_op hk rfl ?_
          obtain ⟨t47, hc48, H⟩ := bindS H
          refine op_call hk ent_12 (vs := [.slice none 0 0, .int .i64 5]) rfl (flow_Cut_calls K none 0 ([] : List T24) 5 _ o41 1 0 fg0 0 fg1 4 (Ft.of_all (fun _ => (fun h_ => absurd h_ (by simp))) _ _ 4) (by simp) (by decide) (by decide) (by decide) 5  _ hc48) ?_
          rintro _ w49 ⟨o50, A52, c53, rfl, st51, f54, hc55⟩
          replace fg0 := fg0.st st51 (by decide)
          replace fg1 := fg1.st st51 (by decide)
          replace hs := hs.loc0 st51 (by decide)
          have hk := hk.put 32 (.slice A52 (t47).length c53) rfl
          refine x_run tab hk (k := 4) (lv := []) (ks := [0]) (e' := [(0, .bool (((t47).length : Int) == (1 : Int)))]) rfl trivial fun a hk => ?_
          refine wpListIn_nil ?_
          refine then_n ?_
          refine wpIn_ret ?_
          obtain rfl := Option.some.inj H
          exact x_retG hk (rs := [.tmp 0]) (vs := [.bool (((t47).length : Int) == (1 : Int))]) rfl ⟨rfl, trivial⟩ ⟨fun b_ => if b_ < w.heap.size then o b_ else (fun _ => 0) (o50 b_), rfl, hs.close0 o (fun _ => 0)⟩

/-! tidewrack/tidewrackref06.Of -/
set_option maxHeartbeats 4000000 in
theorem tidewrackref06_Of_calls (K : Nat) (p0 : Int) (w : World) (o : Nat → Nat)   (r : Int) (H : tidewrackref06_Of K p0 = some r) :
    Calls Tryd.prog 9 #[.int .i64 p0] w (Ret fun v_ w' => ∃ o' : Nat → Nat, v_ = .int .i64 r ∧ St [] w o w' o') := by
  refine x_enter (vs := [.int .i64 p0]) Tryd.func9 rfl rfl rfl fun a hk => ?_
  obtain ⟨o0, hs, h0⟩ := St.start w o
  clear h0
  rw [tidewrackref06_Of] at H
  refine x_seq ?_
  refine wpIn_region_lit ?_
  refine x_run tab hk (k := 1) (lv := []) (ks := [0]) (e' := [(0, .int .i64 p0)]) rfl trivial fun a hk => ?_
  refine wpListIn_nil ?_
  refine then_n ?_
  refine x_seq ?_
  refine wpIn_region_lit ?_
  refine x_run tab hk (k := 10) (lv := [.agg #[.int .i64 127, .int .i64 159], .agg #[.int .i64 768, .int .i64 879], .agg #[.int .i64 6832, .int .i64 6911], .agg #[.int .i64 7616, .int .i64 7679], .agg #[.int .i64 8203, .int .i64 8207], .agg #[.int .i64 8400, .int .i64 8447], .agg #[.int .i64 55296, .int .i64 57343], .agg #[.int .i64 65024, .int .i64 65039], .agg #[.int .i64 65056, .int .i64 65071], .agg #[.int .i64 65279, .int .i64 65279]]) (ks := [0, 9, 10, 11, 12, 13, 14, 15, 16, 17, 18]) (e' := [(0, .int .i64 p0), (9, .agg #[.int .i64 127, .int .i64 159]), (10, .agg #[.int .i64 768, .int .i64 879]), (11, .agg #[.int .i64 6832, .int .i64 6911]), (12, .agg #[.int .i64 7616, .int .i64 7679]), (13, .agg #[.int .i64 8203, .int .i64 8207]), (14, .agg #[.int .i64 8400, .int .i64 8447]), (15, .agg #[.int .i64 55296, .int .i64 57343]), (16, .agg #[.int .i64 65024, .int .i64 65039]), (17, .agg #[.int .i64 65056, .int .i64 65071]), (18, .agg #[.int .i64 65279, .int .i64 65279])]) rfl ⟨(ask_buildA tab rfl rfl rfl rfl rfl), (ask_buildA tab rfl rfl rfl rfl rfl), (ask_buildA tab rfl rfl rfl rfl rfl), (ask_buildA tab rfl rfl rfl rfl rfl), (ask_buildA tab rfl rfl rfl rfl rfl), (ask_buildA tab rfl rfl rfl rfl rfl), (ask_buildA tab rfl rfl rfl rfl rfl), (ask_buildA tab rfl rfl rfl rfl rfl), (ask_buildA tab rfl rfl rfl rfl rfl), (ask_buildA tab rfl rfl rfl rfl rfl), trivial⟩ fun a hk => ?_
  refine x_run tab hk (k := 1) (lv := [.agg #[.int .i64 917760, .int .i64 917999]]) (ks := [0, 9, 10, 11, 12, 13, 14, 15, 16, 17, 18, 19]) (e' := [(0, .int .i64 p0), (9, .agg #[.int .i64 127, .int .i64 159]), (10, .agg #[.int .i64 768, .int .i64 879]), (11, .agg #[.int .i64 6832, .int .i64 6911]), (12, .agg #[.int .i64 7616, .int .i64 7679]), (13, .agg #[.int .i64 8203, .int .i64 8207]), (14, .agg #[.int .i64 8400, .int .i64 8447]), (15, .agg #[.int .i64 55296, .int .i64 57343]), (16, .agg #[.int .i64 65024, .int .i64 65039]), (17, .agg #[.int .i64 65056, .int .i64 65071]), (18, .agg #[.int .i64 65279, .int .i64 65279]), (19, .agg #[.int .i64 917760, .int .i64 917999])]) rfl ⟨(ask_buildA tab rfl rfl rfl rfl rfl), trivial⟩ fun a hk => ?_
  refine x_op hk rfl ?_
  refine op_slice (o := o0) tab hk (vs := [.agg #[.int .i64 127, .int .i64 159], .agg #[.int .i64 768, .int .i64 879], .agg #[.int .i64 6832, .int .i64 6911], .agg #[.int .i64 7616, .int .i64 7679], .agg #[.int .i64 8203, .int .i64 8207], .agg #[.int .i64 8400, .int .i64 8447], .agg #[.int .i64 55296, .int .i64 57343], .agg #[.int .i64 65024, .int .i64 65039], .agg #[.int .i64 65056, .int .i64 65071], .agg #[.int .i64 65279, .int .i64 65279], .agg #[.int .i64 917760, .int .i64 917999]]) (cs := [.int .i64 127, .int .i64 159, .int .i64 768, .int .i64 879, .int .i64 6832, .int .i64 6911, .int .i64 7616, .int .i64 7679, .int .i64 8203, .int .i64 8207, .int .i64 8400, .int .i64 8447, .int .i64 55296, .int .i64 57343, .int .i64 65024, .int .i64 65039, .int .i64 65056, .int .i64 65071, .int .i64 65279, .int .i64 65279, .int .i64 917760, .int .i64 917999]) rfl rfl rfl rfl rfl rfl rfl rfl rfl 1 fun bx4 w1 o2 st3 f5 => ?_
  replace hs := hs.loc0 st3 (by decide)
  have f6 : Ft (Own ET45 45 (.slice (some ⟨bx4, 0, none⟩) (([(⟨127, 159⟩ : T45), (⟨768, 879⟩ : T45), (⟨6832, 6911⟩ : T45), (⟨7616, 7679⟩ : T45), (⟨8203, 8207⟩ : T45), (⟨8400, 8447⟩ : T45), (⟨55296, 57343⟩ : T45), (⟨65024, 65039⟩ : T45), (⟨65056, 65071⟩ : T45), (⟨65279, 65279⟩ : T45), (⟨917760, 917999⟩ : T45)] : List T45)).length 11) ([(⟨127, 159⟩ : T45), (⟨768, 879⟩ : T45), (⟨6832, 6911⟩ : T45), (⟨7616, 7679⟩ : T45), (⟨8203, 8207⟩ : T45), (⟨8400, 8447⟩ : T45), (⟨55296, 57343⟩ : T45), (⟨65024, 65039⟩ : T45), (⟨65056, 65071⟩ : T45), (⟨65279, 65279⟩ : T45), (⟨917760, 917999⟩ : T45)] : List T45)) w1 o2 1 := f5.imp fun _ h_ => Own.of_box h_ rfl (by simp)
  have hk := hk.put 20 (.slice (some ⟨bx4, 0, none⟩) (([(⟨127, 159⟩ : T45), (⟨768, 879⟩ : T45), (⟨6832, 6911⟩ : T45), (⟨7616, 7679⟩ : T45), (⟨8203, 8207⟩ : T45), (⟨8400, 8447⟩ : T45), (⟨55296, 57343⟩ : T45), (⟨65024, 65039⟩ : T45), (⟨65056, 65071⟩ : T45), (⟨65279, 65279⟩ : T45), (⟨917760, 917999⟩ : T45)] : List T45)).length 11) rfl
  refine x_run tab hk (k := 1) (lv := []) (ks := [0, 3]) (e' := [(0, .int .i64 p0), (3, .slice (some ⟨bx4, 0, none⟩) (([(⟨127, 159⟩ : T45), (⟨768, 879⟩ : T45), (⟨6832, 6911⟩ : T45), (⟨7616, 7679⟩ : T45), (⟨8203, 8207⟩ : T45), (⟨8400, 8447⟩ : T45), (⟨55296, 57343⟩ : T45), (⟨65024, 65039⟩ : T45), (⟨65056, 65071⟩ : T45), (⟨65279, 65279⟩ : T45), (⟨917760, 917999⟩ : T45)] : List T45)).length 11)]) rfl trivial fun a hk => ?_
  refine wpListIn_nil ?_
  refine then_n ?_
  refine x_seq ?_
  refine wpIn_region_lit ?_
  refine x_run tab hk (k := 10) (lv := [.agg #[.int .i64 4352, .int .i64 4447], .agg #[.int .i64 11904, .int .i64 12350], .agg #[.int .i64 12353, .int .i64 13311], .agg #[.int .i64 13312, .int .i64 19903], .agg #[.int .i64 19968, .int .i64 40959], .agg #[.int .i64 40960, .int .i64 42191], .agg #[.int .i64 44032, .int .i64 55203], .agg #[.int .i64 63744, .int .i64 64255], .agg #[.int .i64 65072, .int .i64 65135], .agg #[.int .i64 65280, .int .i64 65376]]) (ks := [0, 3, 21, 22, 23, 24, 25, 26, 27, 28, 29, 30]) (e' := [(0, .int .i64 p0), (3, .slice (some ⟨bx4, 0, none⟩) (([(⟨127, 159⟩ : T45), (⟨768, 879⟩ : T45), (⟨6832, 6911⟩ : T45), (⟨7616, 7679⟩ : T45), (⟨8203, 8207⟩ : T45), (⟨8400, 8447⟩ : T45), (⟨55296, 57343⟩ : T45), (⟨65024, 65039⟩ : T45), (⟨65056, 65071⟩ : T45), (⟨65279, 65279⟩ : T45), (⟨917760, 917999⟩ : T45)] : List T45)).length 11), (21, .agg #[.int .i64 4352, .int .i64 4447]), (22, .agg #[.int .i64 11904, .int .i64 12350]), (23, .agg #[.int .i64 12353, .int .i64 13311]), (24, .agg #[.int .i64 13312, .int .i64 19903]), (25, .agg #[.int .i64 19968, .int .i64 40959]), (26, .agg #[.int .i64 40960, .int .i64 42191]), (27, .agg #[.int .i64 44032, .int .i64 55203]), (28, .agg #[.int .i64 63744, .int .i64 64255]), (29, .agg #[.int .i64 65072, .int .i64 65135]), (30, .agg #[.int .i64 65280, .int .i64 65376])]) rfl ⟨(ask_buildA tab rfl rfl rfl rfl rfl), (ask_buildA tab rfl rfl rfl rfl rfl), (ask_buildA tab rfl rfl rfl rfl rfl), (ask_buildA tab rfl rfl rfl rfl rfl), (ask_buildA tab rfl rfl rfl rfl rfl), (ask_buildA tab rfl rfl rfl rfl rfl), (ask_buildA tab rfl rfl rfl rfl rfl), (ask_buildA tab rfl rfl rfl rfl rfl), (ask_buildA tab rfl rfl rfl rfl rfl), (ask_buildA tab rfl rfl rfl rfl rfl), trivial⟩ fun a hk => ?_
  refine x_run tab hk (k := 4) (lv := [.agg #[.int .i64 65504, .int .i64 65510], .agg #[.int .i64 127744, .int .i64 128591], .agg #[.int .i64 129280, .int .i64 129535], .agg #[.int .i64 131072, .int .i64 262141]]) (ks := [0, 3, 21, 22, 23, 24, 25, 26, 27, 28, 29, 30, 31, 32, 33, 34]) (e' := [(0, .int .i64 p0), (3, .slice (some ⟨bx4, 0, none⟩) (([(⟨127, 159⟩ : T45), (⟨768, 879⟩ : T45), (⟨6832, 6911⟩ : T45), (⟨7616, 7679⟩ : T45), (⟨8203, 8207⟩ : T45), (⟨8400, 8447⟩ : T45), (⟨55296, 57343⟩ : T45), (⟨65024, 65039⟩ : T45), (⟨65056, 65071⟩ : T45), (⟨65279, 65279⟩ : T45), (⟨917760, 917999⟩ : T45)] : List T45)).length 11), (21, .agg #[.int .i64 4352, .int .i64 4447]), (22, .agg #[.int .i64 11904, .int .i64 12350]), (23, .agg #[.int .i64 12353, .int .i64 13311]), (24, .agg #[.int .i64 13312, .int .i64 19903]), (25, .agg #[.int .i64 19968, .int .i64 40959]), (26, .agg #[.int .i64 40960, .int .i64 42191]), (27, .agg #[.int .i64 44032, .int .i64 55203]), (28, .agg #[.int .i64 63744, .int .i64 64255]), (29, .agg #[.int .i64 65072, .int .i64 65135]), (30, .agg #[.int .i64 65280, .int .i64 65376]), (31, .agg #[.int .i64 65504, .int .i64 65510]), (32, .agg #[.int .i64 127744, .int .i64 128591]), (33, .agg #[.int .i64 129280, .int .i64 129535]), (34, .agg #[.int .i64 131072, .int .i64 262141])]) rfl ⟨(ask_buildA tab rfl rfl rfl rfl rfl), (ask_buildA tab rfl rfl rfl rfl rfl), (ask_buildA tab rfl rfl rfl rfl rfl), (ask_buildA tab rfl rfl rfl rfl rfl), trivial⟩ fun a hk => ?_
  refine x_op hk rfl ?_
  refine op_slice (o := o2) tab hk (vs := [.agg #[.int .i64 4352, .int .i64 4447], .agg #[.int .i64 11904, .int .i64 12350], .agg #[.int .i64 12353, .int .i64 13311], .agg #[.int .i64 13312, .int .i64 19903], .agg #[.int .i64 19968, .int .i64 40959], .agg #[.int .i64 40960, .int .i64 42191], .agg #[.int .i64 44032, .int .i64 55203], .agg #[.int .i64 63744, .int .i64 64255], .agg #[.int .i64 65072, .int .i64 65135], .agg #[.int .i64 65280, .int .i64 65376], .agg #[.int .i64 65504, .int .i64 65510], .agg #[.int .i64 127744, .int .i64 128591], .agg #[.int .i64 129280, .int .i64 129535], .agg #[.int .i64 131072, .int .i64 262141]]) (cs := [.int .i64 4352, .int .i64 4447, .int .i64 11904, .int .i64 12350, .int .i64 12353, .int .i64 13311, .int .i64 13312, .int .i64 19903, .int .i64 19968, .int .i64 40959, .int .i64 40960, .int .i64 42191, .int .i64 44032, .int .i64 55203, .int .i64 63744, .int .i64 64255, .int .i64 65072, .int .i64 65135, .int .i64 65280, .int .i64 65376, .int .i64 65504, .int .i64 65510, .int .i64 127744, .int .i64 128591, .int .i64 129280, .int .i64 129535, .int .i64 131072, .int .i64 262141]) rfl rfl rfl rfl rfl rfl rfl rfl rfl 2 fun bx10 w7 o8 st9 f11 => ?_
  replace f6 := f6.st st9 (by decide)
  replace hs := hs.loc0 st9 (by decide)
  have f12 : Ft (Own ET45 45 (.slice (some ⟨bx10, 0, none⟩) (([(⟨4352, 4447⟩ : T45), (⟨11904, 12350⟩ : T45), (⟨12353, 13311⟩ : T45), (⟨13312, 19903⟩ : T45), (⟨19968, 40959⟩ : T45), (⟨40960, 42191⟩ : T45), (⟨44032, 55203⟩ : T45), (⟨63744, 64255⟩ : T45), (⟨65072, 65135⟩ : T45), (⟨65280, 65376⟩ : T45), (⟨65504, 65510⟩ : T45), (⟨127744, 128591⟩ : T45), (⟨129280, 129535⟩ : T45), (⟨131072, 262141⟩ : T45)] : List T45)).length 14) ([(⟨4352, 4447⟩ : T45), (⟨11904, 12350⟩ : T45), (⟨12353, 13311⟩ : T45), (⟨13312, 19903⟩ : T45), (⟨19968, 40959⟩ : T45), (⟨40960, 42191⟩ : T45), (⟨44032, 55203⟩ : T45), (⟨63744, 64255⟩ : T45), (⟨65072, 65135⟩ : T45), (⟨65280, 65376⟩ : T45), (⟨65504, 65510⟩ : T45), (⟨127744, 128591⟩ : T45), (⟨129280, 129535⟩ : T45), (⟨131072, 262141⟩ : T45)] : List T45)) w7 o8 2 := f11.imp fun _ h_ => Own.of_box h_ rfl (by simp)
  have hk := hk.put 35 (.slice (some ⟨bx10, 0, none⟩) (([(⟨4352, 4447⟩ : T45), (⟨11904, 12350⟩ : T45), (⟨12353, 13311⟩ : T45), (⟨13312, 19903⟩ : T45), (⟨19968, 40959⟩ : T45), (⟨40960, 42191⟩ : T45), (⟨44032, 55203⟩ : T45), (⟨63744, 64255⟩ : T45), (⟨65072, 65135⟩ : T45), (⟨65280, 65376⟩ : T45), (⟨65504, 65510⟩ : T45), (⟨127744, 128591⟩ : T45), (⟨129280, 129535⟩ : T45), (⟨131072, 262141⟩ : T45)] : List T45)).length 14) rfl
  refine x_run tab hk (k := 1) (lv := []) (ks := [0, 3, 4]) (e' := [(0, .int .i64 p0), (3, .slice (some ⟨bx4, 0, none⟩) (([(⟨127, 159⟩ : T45), (⟨768, 879⟩ : T45), (⟨6832, 6911⟩ : T45), (⟨7616, 7679⟩ : T45), (⟨8203, 8207⟩ : T45), (⟨8400, 8447⟩ : T45), (⟨55296, 57343⟩ : T45), (⟨65024, 65039⟩ : T45), (⟨65056, 65071⟩ : T45), (⟨65279, 65279⟩ : T45), (⟨917760, 917999⟩ : T45)] : List T45)).length 11), (4, .slice (some ⟨bx10, 0, none⟩) (([(⟨4352, 4447⟩ : T45), (⟨11904, 12350⟩ : T45), (⟨12353, 13311⟩ : T45), (⟨13312, 19903⟩ : T45), (⟨19968, 40959⟩ : T45), (⟨40960, 42191⟩ : T45), (⟨44032, 55203⟩ : T45), (⟨63744, 64255⟩ : T45), (⟨65072, 65135⟩ : T45), (⟨65280, 65376⟩ : T45), (⟨65504, 65510⟩ : T45), (⟨127744, 128591⟩ : T45), (⟨129280, 129535⟩ : T45), (⟨131072, 262141⟩ : T45)] : List T45)).length 14)]) rfl trivial fun a hk => ?_
  refine wpListIn_nil ?_
  refine then_n ?_
  refine x_mid (fun a_ w_ => ∃ o18 : Nat → Nat, Kn 76 a_ [(0, .int .i64 p0), (3, .slice (some ⟨bx4, 0, none⟩) (([(⟨127, 159⟩ : T45), (⟨768, 879⟩ : T45), (⟨6832, 6911⟩ : T45), (⟨7616, 7679⟩ : T45), (⟨8203, 8207⟩ : T45), (⟨8400, 8447⟩ : T45), (⟨55296, 57343⟩ : T45), (⟨65024, 65039⟩ : T45), (⟨65056, 65071⟩ : T45), (⟨65279, 65279⟩ : T45), (⟨917760, 917999⟩ : T45)] : List T45)).length 11), (4, .slice (some ⟨bx10, 0, none⟩) (([(⟨4352, 4447⟩ : T45), (⟨11904, 12350⟩ : T45), (⟨12353, 13311⟩ : T45), (⟨13312, 19903⟩ : T45), (⟨19968, 40959⟩ : T45), (⟨40960, 42191⟩ : T45), (⟨44032, 55203⟩ : T45), (⟨63744, 64255⟩ : T45), (⟨65072, 65135⟩ : T45), (⟨65280, 65376⟩ : T45), (⟨65504, 65510⟩ : T45), (⟨127744, 128591⟩ : T45), (⟨129280, 129535⟩ : T45), (⟨131072, 262141⟩ : T45)] : List T45)).length 14)] ∧ St [] w (fun _ => 0) w_ o18 ∧ Ft (Own ET45 45 (.slice (some ⟨bx10, 0, none⟩) (([(⟨4352, 4447⟩ : T45), (⟨11904, 12350⟩ : T45), (⟨12353, 13311⟩ : T45), (⟨13312, 19903⟩ : T45), (⟨19968, 40959⟩ : T45), (⟨40960, 42191⟩ : T45), (⟨44032, 55203⟩ : T45), (⟨63744, 64255⟩ : T45), (⟨65072, 65135⟩ : T45), (⟨65280, 65376⟩ : T45), (⟨65504, 65510⟩ : T45), (⟨127744, 128591⟩ : T45), (⟨129280, 129535⟩ : T45), (⟨131072, 262141⟩ : T45)] : List T45)).length 14) ([(⟨4352, 4447⟩ : T45), (⟨11904, 12350⟩ : T45), (⟨12353, 13311⟩ : T45), (⟨13312, 19903⟩ : T45), (⟨19968, 40959⟩ : T45), (⟨40960, 42191⟩ : T45), (⟨44032, 55203⟩ : T45), (⟨63744, 64255⟩ : T45), (⟨65072, 65135⟩ : T45), (⟨65280, 65376⟩ : T45), (⟨65504, 65510⟩ : T45), (⟨127744, 128591⟩ : T45), (⟨129280, 129535⟩ : T45), (⟨131072, 262141⟩ : T45)] : List T45)) w_ o18 4 ∧ Ft (Own ET45 45 (.slice (some ⟨bx4, 0, none⟩) (([(⟨127, 159⟩ : T45), (⟨768, 879⟩ : T45), (⟨6832, 6911⟩ : T45), (⟨7616, 7679⟩ : T45), (⟨8203, 8207⟩ : T45), (⟨8400, 8447⟩ : T45), (⟨55296, 57343⟩ : T45), (⟨65024, 65039⟩ : T45), (⟨65056, 65071⟩ : T45), (⟨65279, 65279⟩ : T45), (⟨917760, 917999⟩ : T45)] : List T45)).length 11) ([(⟨127, 159⟩ : T45), (⟨768, 879⟩ : T45), (⟨6832, 6911⟩ : T45), (⟨7616, 7679⟩ : T45), (⟨8203, 8207⟩ : T45), (⟨8400, 8447⟩ : T45), (⟨55296, 57343⟩ : T45), (⟨65024, 65039⟩ : T45), (⟨65056, 65071⟩ : T45), (⟨65279, 65279⟩ : T45), (⟨917760, 917999⟩ : T45)] : List T45)) w_ o18 3 ∧ tidewrackref06_Of_j1 K p0 = some r) ?_ ?_
  rotate_left
  · rintro a w19 ⟨o18, hk, hs, f12, f6, H⟩
    rw [tidewrackref06_Of_j1] at H
    refine x_mid (fun a_ w_ => ∃ o68 : Nat → Nat, Kn 76 a_ [(0, .int .i64 p0), (4, .slice (some ⟨bx10, 0, none⟩) (([(⟨4352, 4447⟩ : T45), (⟨11904, 12350⟩ : T45), (⟨12353, 13311⟩ : T45), (⟨13312, 19903⟩ : T45), (⟨19968, 40959⟩ : T45), (⟨40960, 42191⟩ : T45), (⟨44032, 55203⟩ : T45), (⟨63744, 64255⟩ : T45), (⟨65072, 65135⟩ : T45), (⟨65280, 65376⟩ : T45), (⟨65504, 65510⟩ : T45), (⟨127744, 128591⟩ : T45), (⟨129280, 129535⟩ : T45), (⟨131072, 262141⟩ : T45)] : List T45)).length 14)] ∧ St [] w (fun _ => 0) w_ o68 ∧ Ft (Own ET45 45 (.slice (some ⟨bx10, 0, none⟩) (([(⟨4352, 4447⟩ : T45), (⟨11904, 12350⟩ : T45), (⟨12353, 13311⟩ : T45), (⟨13312, 19903⟩ : T45), (⟨19968, 40959⟩ : T45), (⟨40960, 42191⟩ : T45), (⟨44032, 55203⟩ : T45), (⟨63744, 64255⟩ : T45), (⟨65072, 65135⟩ : T45), (⟨65280, 65376⟩ : T45), (⟨65504, 65510⟩ : T45), (⟨127744, 128591⟩ : T45), (⟨129280, 129535⟩ : T45), (⟨131072, 262141⟩ : T45)] : List T45)).length 14) ([(⟨4352, 4447⟩ : T45), (⟨11904, 12350⟩ : T45), (⟨12353, 13311⟩ : T45), (⟨13312, 19903⟩ : T45), (⟨19968, 40959⟩ : T45), (⟨40960, 42191⟩ : T45), (⟨44032, 55203⟩ : T45), (⟨63744, 64255⟩ : T45), (⟨65072, 65135⟩ : T45), (⟨65280, 65376⟩ : T45), (⟨65504, 65510⟩ : T45), (⟨127744, 128591⟩ : T45), (⟨129280, 129535⟩ : T45), (⟨131072, 262141⟩ : T45)] : List T45)) w_ o68 12 ∧ tidewrackref06_Of_j2 K p0 = some r) ?_ ?_
    rotate_left
    · rintro a w69 ⟨o68, hk, hs, f12, H⟩
      rw [tidewrackref06_Of_j2] at H
      refine x_mid (fun a_ w_ => ∃ o118 : Nat → Nat, Kn 76 a_ [] ∧ St [] w (fun _ => 0) w_ o118 ∧ tidewrackref06_Of_j3 = some r) ?_ ?_
      rotate_left
      · rintro a w119 ⟨o118, hk, hs, H⟩
        rw [tidewrackref06_Of_j3] at H
        refine x_seq ?_
        refine wpIn_region_lit ?_
        refine x_run tab hk (k := 1) (lv := []) (ks := [2]) (e' := [(2, .int .i64 1)]) rfl trivial fun a hk => ?_
        refine wpListIn_nil ?_
        refine then_n ?_
        refine wpIn_ret ?_
        obtain rfl := Option.some.inj H
        exact x_retG hk (rs := [.tmp 2]) (vs := [.int .i64 1]) rfl ⟨rfl, trivial⟩ ⟨fun b_ => if b_ < w.heap.size then o b_ else (fun _ => 0) (o118 b_), rfl, hs.close0 o (fun _ => 0)⟩
      refine x_seq ?_
      refine wpIn_region_lit ?_
      refine x_run tab hk (k := 3) (lv := []) (ks := [0, 59, 60, 61]) (e' := [(0, .int .i64 p0), (59, .slice (some ⟨bx10, 0, none⟩) (([(⟨4352, 4447⟩ : T45), (⟨11904, 12350⟩ : T45), (⟨12353, 13311⟩ : T45), (⟨13312, 19903⟩ : T45), (⟨19968, 40959⟩ : T45), (⟨40960, 42191⟩ : T45), (⟨44032, 55203⟩ : T45), (⟨63744, 64255⟩ : T45), (⟨65072, 65135⟩ : T45), (⟨65280, 65376⟩ : T45), (⟨65504, 65510⟩ : T45), (⟨127744, 128591⟩ : T45), (⟨129280, 129535⟩ : T45), (⟨131072, 262141⟩ : T45)] : List T45)).length 14), (60, .int .i64 ((([(⟨4352, 4447⟩ : T45), (⟨11904, 12350⟩ : T45), (⟨12353, 13311⟩ : T45), (⟨13312, 19903⟩ : T45), (⟨19968, 40959⟩ : T45), (⟨40960, 42191⟩ : T45), (⟨44032, 55203⟩ : T45), (⟨63744, 64255⟩ : T45), (⟨65072, 65135⟩ : T45), (⟨65280, 65376⟩ : T45), (⟨65504, 65510⟩ : T45), (⟨127744, 128591⟩ : T45), (⟨129280, 129535⟩ : T45), (⟨131072, 262141⟩ : T45)] : List T45)).length : Int)), (61, .int .i64 0)]) rfl trivial fun a hk => ?_
      refine wpListIn_nil ?_
      refine then_n ?_
      refine wpIn_block ?_
      refine x_loop (fun j_ a_ w_ => ∃ o135 : Nat → Nat, ∃ x136 : Int, Kn 76 a_ [(0, .int .i64 p0), (59, .slice (some ⟨bx10, 0, none⟩) (([(⟨4352, 4447⟩ : T45), (⟨11904, 12350⟩ : T45), (⟨12353, 13311⟩ : T45), (⟨13312, 19903⟩ : T45), (⟨19968, 40959⟩ : T45), (⟨40960, 42191⟩ : T45), (⟨44032, 55203⟩ : T45), (⟨63744, 64255⟩ : T45), (⟨65072, 65135⟩ : T45), (⟨65280, 65376⟩ : T45), (⟨65504, 65510⟩ : T45), (⟨127744, 128591⟩ : T45), (⟨129280, 129535⟩ : T45), (⟨131072, 262141⟩ : T45)] : List T45)).length 14), (60, .int .i64 ((([(⟨4352, 4447⟩ : T45), (⟨11904, 12350⟩ : T45), (⟨12353, 13311⟩ : T45), (⟨13312, 19903⟩ : T45), (⟨19968, 40959⟩ : T45), (⟨40960, 42191⟩ : T45), (⟨44032, 55203⟩ : T45), (⟨63744, 64255⟩ : T45), (⟨65072, 65135⟩ : T45), (⟨65280, 65376⟩ : T45), (⟨65504, 65510⟩ : T45), (⟨127744, 128591⟩ : T45), (⟨129280, 129535⟩ : T45), (⟨131072, 262141⟩ : T45)] : List T45)).length : Int)), (61, .int .i64 x136)] ∧ St [] w (fun _ => 0) w_ o135 ∧ Ft (Own ET45 45 (.slice (some ⟨bx10, 0, none⟩) (([(⟨4352, 4447⟩ : T45), (⟨11904, 12350⟩ : T45), (⟨12353, 13311⟩ : T45), (⟨13312, 19903⟩ : T45), (⟨19968, 40959⟩ : T45), (⟨40960, 42191⟩ : T45), (⟨44032, 55203⟩ : T45), (⟨63744, 64255⟩ : T45), (⟨65072, 65135⟩ : T45), (⟨65280, 65376⟩ : T45), (⟨65504, 65510⟩ : T45), (⟨127744, 128591⟩ : T45), (⟨129280, 129535⟩ : T45), (⟨131072, 262141⟩ : T45)] : List T45)).length 14) ([(⟨4352, 4447⟩ : T45), (⟨11904, 12350⟩ : T45), (⟨12353, 13311⟩ : T45), (⟨13312, 19903⟩ : T45), (⟨19968, 40959⟩ : T45), (⟨40960, 42191⟩ : T45), (⟨44032, 55203⟩ : T45), (⟨63744, 64255⟩ : T45), (⟨65072, 65135⟩ : T45), (⟨65280, 65376⟩ : T45), (⟨65504, 65510⟩ : T45), (⟨127744, 128591⟩ : T45), (⟨129280, 129535⟩ : T45), (⟨131072, 262141⟩ : T45)] : List T45)) w_ o135 20 ∧ tidewrackref06_Of_l4 p0 j_ x136 = some r) (k := K) ⟨(fun b_ => (fun l_ => if l_ = 12 then 20 else l_) (o68 b_)), 0, (by exact Kn.pick (ks := [0, 59, 60, 61]) hk rfl), (hs.relab0 (fun l_ => if l_ = 12 then 20 else l_) rfl), (f12.relab (fun l_ => if l_ = 12 then 20 else l_) rfl), H⟩ (by rintro _ _ ⟨_, _, _, _, _, H_⟩; exact absurd (show (none : Option Int) = some r from H_) (by simp)) ?_
      rintro k150 a w149 ⟨o135, x136, hk, hs, f12, H⟩
      rw [tidewrackref06_Of_l4] at H
      obtain ⟨lp151, hlp152⟩ : ∃ lp_, lp_ = tidewrackref06_Of_l4 p0 k150 := ⟨_, rfl⟩
      rw [← hlp152] at H
      refine x_seq ?_
      refine wpIn_region_lit ?_
      refine x_run tab hk (k := 1) (lv := []) (ks := [0, 59, 60, 61, 62]) (e' := [(0, .int .i64 p0), (59, .slice (some ⟨bx10, 0, none⟩) (([(⟨4352, 4447⟩ : T45), (⟨11904, 12350⟩ : T45), (⟨12353, 13311⟩ : T45), (⟨13312, 19903⟩ : T45), (⟨19968, 40959⟩ : T45), (⟨40960, 42191⟩ : T45), (⟨44032, 55203⟩ : T45), (⟨63744, 64255⟩ : T45), (⟨65072, 65135⟩ : T45), (⟨65280, 65376⟩ : T45), (⟨65504, 65510⟩ : T45), (⟨127744, 128591⟩ : T45), (⟨129280, 129535⟩ : T45), (⟨131072, 262141⟩ : T45)] : List T45)).length 14), (60, .int .i64 ((([(⟨4352, 4447⟩ : T45), (⟨11904, 12350⟩ : T45), (⟨12353, 13311⟩ : T45), (⟨13312, 19903⟩ : T45), (⟨19968, 40959⟩ : T45), (⟨40960, 42191⟩ : T45), (⟨44032, 55203⟩ : T45), (⟨63744, 64255⟩ : T45), (⟨65072, 65135⟩ : T45), (⟨65280, 65376⟩ : T45), (⟨65504, 65510⟩ : T45), (⟨127744, 128591⟩ : T45), (⟨129280, 129535⟩ : T45), (⟨131072, 262141⟩ : T45)] : List T45)).length : Int)), (61, .int .i64 x136), (62, .bool (decide (x136 < ((([(⟨4352, 4447⟩ : T45), (⟨11904, 12350⟩ : T45), (⟨12353, 13311⟩ : T45), (⟨13312, 19903⟩ : T45), (⟨19968, 40959⟩ : T45), (⟨40960, 42191⟩ : T45), (⟨44032, 55203⟩ : T45), (⟨63744, 64255⟩ : T45), (⟨65072, 65135⟩ : T45), (⟨65280, 65376⟩ : T45), (⟨65504, 65510⟩ : T45), (⟨127744, 128591⟩ : T45), (⟨129280, 129535⟩ : T45), (⟨131072, 262141⟩ : T45)] : List T45)).length : Int))))]) rfl trivial fun a hk => ?_
      refine wpListIn_nil ?_
      refine then_n ?_
      refine x_seq ?_
      cases b153 : (decide (x136 < ((([(⟨4352, 4447⟩ : T45), (⟨11904, 12350⟩ : T45), (⟨12353, 13311⟩ : T45), (⟨13312, 19903⟩ : T45), (⟨19968, 40959⟩ : T45), (⟨40960, 42191⟩ : T45), (⟨44032, 55203⟩ : T45), (⟨63744, 64255⟩ : T45), (⟨65072, 65135⟩ : T45), (⟨65280, 65376⟩ : T45), (⟨65504, 65510⟩ : T45), (⟨127744, 128591⟩ : T45), (⟨129280, 129535⟩ : T45), (⟨131072, 262141⟩ : T45)] : List T45)).length : Int)))
      · rw [b153] at hk H
        replace H := bifF H
        refine x_if hk (b := false) rfl ?_
        refine (show Code.wpIn _ _ _ _ _ _ _ from ?_)
        refine wpIn_exit ?_
        refine then_x ?_
        refine then_x ?_
        refine blk_x ?_
        refine then_n ?_
        exact ⟨o135, (by exact Kn.pick (ks := []) hk rfl), hs, H⟩
      · rw [b153] at hk H
        replace H := bifT H
        refine x_if hk (b := true) rfl ?_
        refine (show Code.wpIn _ _ _ _ _ _ _ from ?_)
        refine wpIn_skip ?_
        refine then_n ?_
        refine x_seq ?_
        refine wpIn_block ?_
        refine x_seq ?_
        refine wpIn_region_lit ?_
        obtain ⟨q154, H⟩ := ifS H
        refine x_run tab hk (k := 2) (lv := [.agg #[.int .i64 ((rdD zT45 ([(⟨4352, 4447⟩ : T45), (⟨11904, 12350⟩ : T45), (⟨12353, 13311⟩ : T45), (⟨13312, 19903⟩ : T45), (⟨19968, 40959⟩ : T45), (⟨40960, 42191⟩ : T45), (⟨44032, 55203⟩ : T45), (⟨63744, 64255⟩ : T45), (⟨65072, 65135⟩ : T45), (⟨65280, 65376⟩ : T45), (⟨65504, 65510⟩ : T45), (⟨127744, 128591⟩ : T45), (⟨129280, 129535⟩ : T45), (⟨131072, 262141⟩ : T45)] : List T45) x136).a0), .int .i64 ((rdD zT45 ([(⟨4352, 4447⟩ : T45), (⟨11904, 12350⟩ : T45), (⟨12353, 13311⟩ : T45), (⟨13312, 19903⟩ : T45), (⟨19968, 40959⟩ : T45), (⟨40960, 42191⟩ : T45), (⟨44032, 55203⟩ : T45), (⟨63744, 64255⟩ : T45), (⟨65072, 65135⟩ : T45), (⟨65280, 65376⟩ : T45), (⟨65504, 65510⟩ : T45), (⟨127744, 128591⟩ : T45), (⟨129280, 129535⟩ : T45), (⟨131072, 262141⟩ : T45)] : List T45) x136).a1)]]) (ks := [0, 59, 60, 61, 64]) (e' := [(0, .int .i64 p0), (59, .slice (some ⟨bx10, 0, none⟩) (([(⟨4352, 4447⟩ : T45), (⟨11904, 12350⟩ : T45), (⟨12353, 13311⟩ : T45), (⟨13312, 19903⟩ : T45), (⟨19968, 40959⟩ : T45), (⟨40960, 42191⟩ : T45), (⟨44032, 55203⟩ : T45), (⟨63744, 64255⟩ : T45), (⟨65072, 65135⟩ : T45), (⟨65280, 65376⟩ : T45), (⟨65504, 65510⟩ : T45), (⟨127744, 128591⟩ : T45), (⟨129280, 129535⟩ : T45), (⟨131072, 262141⟩ : T45)] : List T45)).length 14), (60, .int .i64 ((([(⟨4352, 4447⟩ : T45), (⟨11904, 12350⟩ : T45), (⟨12353, 13311⟩ : T45), (⟨13312, 19903⟩ : T45), (⟨19968, 40959⟩ : T45), (⟨40960, 42191⟩ : T45), (⟨44032, 55203⟩ : T45), (⟨63744, 64255⟩ : T45), (⟨65072, 65135⟩ : T45), (⟨65280, 65376⟩ : T45), (⟨65504, 65510⟩ : T45), (⟨127744, 128591⟩ : T45), (⟨129280, 129535⟩ : T45), (⟨131072, 262141⟩ : T45)] : List T45)).length : Int)), (61, .int .i64 x136), (64, .agg #[.int .i64 ((rdD zT45 ([(⟨4352, 4447⟩ : T45), (⟨11904, 12350⟩ : T45), (⟨12353, 13311⟩ : T45), (⟨13312, 19903⟩ : T45), (⟨19968, 40959⟩ : T45), (⟨40960, 42191⟩ : T45), (⟨44032, 55203⟩ : T45), (⟨63744, 64255⟩ : T45), (⟨65072, 65135⟩ : T45), (⟨65280, 65376⟩ : T45), (⟨65504, 65510⟩ : T45), (⟨127744, 128591⟩ : T45), (⟨129280, 129535⟩ : T45), (⟨131072, 262141⟩ : T45)] : List T45) x136).a0), .int .i64 ((rdD zT45 ([(⟨4352, 4447⟩ : T45), (⟨11904, 12350⟩ : T45), (⟨12353, 13311⟩ : T45), (⟨13312, 19903⟩ : T45), (⟨19968, 40959⟩ : T45), (⟨40960, 42191⟩ : T45), (⟨44032, 55203⟩ : T45), (⟨63744, 64255⟩ : T45), (⟨65072, 65135⟩ : T45), (⟨65280, 65376⟩ : T45), (⟨65504, 65510⟩ : T45), (⟨127744, 128591⟩ : T45), (⟨129280, 129535⟩ : T45), (⟨131072, 262141⟩ : T45)] : List T45) x136).a1)])]) rfl ⟨q154, (load_elem (E := ET45) (i := x136) (dx := zT45) tab rfl rfl (Own.rd f12.now) q154), trivial⟩ fun a hk => ?_
        refine x_op hk rfl ?_
        refine op_alloc (o := o135) tab (t := 45) (cs := [.int .i64 0, .int .i64 0]) rfl rfl 22 fun bx158 w155 o156 st157 f159 => ?_
        replace f12 := f12.st st157 (by decide)
        replace hs := hs.loc0 st157 (by decide)
        have hk := hk.put 8 (.pointer (some ⟨bx158, 0, none⟩)) rfl
        refine x_op hk rfl ?_
        refine op_store tab hk (t := 45) (v := .agg #[.int .i64 ((rdD zT45 ([(⟨4352, 4447⟩ : T45), (⟨11904, 12350⟩ : T45), (⟨12353, 13311⟩ : T45), (⟨13312, 19903⟩ : T45), (⟨19968, 40959⟩ : T45), (⟨40960, 42191⟩ : T45), (⟨44032, 55203⟩ : T45), (⟨63744, 64255⟩ : T45), (⟨65072, 65135⟩ : T45), (⟨65280, 65376⟩ : T45), (⟨65504, 65510⟩ : T45), (⟨127744, 128591⟩ : T45), (⟨129280, 129535⟩ : T45), (⟨131072, 262141⟩ : T45)] : List T45) x136).a0), .int .i64 ((rdD zT45 ([(⟨4352, 4447⟩ : T45), (⟨11904, 12350⟩ : T45), (⟨12353, 13311⟩ : T45), (⟨13312, 19903⟩ : T45), (⟨19968, 40959⟩ : T45), (⟨40960, 42191⟩ : T45), (⟨44032, 55203⟩ : T45), (⟨63744, 64255⟩ : T45), (⟨65072, 65135⟩ : T45), (⟨65280, 65376⟩ : T45), (⟨65504, 65510⟩ : T45), (⟨127744, 128591⟩ : T45), (⟨129280, 129535⟩ : T45), (⟨131072, 262141⟩ : T45)] : List T45) x136).a1)]) (b := bx158) (k := 0) (cs' := [.int .i64 ((rdD zT45 ([(⟨4352, 4447⟩ : T45), (⟨11904, 12350⟩ : T45), (⟨12353, 13311⟩ : T45), (⟨13312, 19903⟩ : T45), (⟨19968, 40959⟩ : T45), (⟨40960, 42191⟩ : T45), (⟨44032, 55203⟩ : T45), (⟨63744, 64255⟩ : T45), (⟨65072, 65135⟩ : T45), (⟨65280, 65376⟩ : T45), (⟨65504, 65510⟩ : T45), (⟨127744, 128591⟩ : T45), (⟨129280, 129535⟩ : T45), (⟨131072, 262141⟩ : T45)] : List T45) x136).a0), .int .i64 ((rdD zT45 ([(⟨4352, 4447⟩ : T45), (⟨11904, 12350⟩ : T45), (⟨12353, 13311⟩ : T45), (⟨13312, 19903⟩ : T45), (⟨19968, 40959⟩ : T45), (⟨40960, 42191⟩ : T45), (⟨44032, 55203⟩ : T45), (⟨63744, 64255⟩ : T45), (⟨65072, 65135⟩ : T45), (⟨65280, 65376⟩ : T45), (⟨65504, 65510⟩ : T45), (⟨127744, 128591⟩ : T45), (⟨129280, 129535⟩ : T45), (⟨131072, 262141⟩ : T45)] : List T45) x136).a1)]) rfl rfl rfl rfl rfl rfl f159 rfl rfl fun w160 o161 st162 f159_ => ?_
        replace f12 := f12.st st162 (by decide)
        replace hs := hs.loc0 st162 (by decide)
        replace f159 := f159_
        refine wpListIn_nil ?_
        refine then_n ?_
        refine x_seq ?_
        refine wpIn_region_lit ?_
        refine x_run tab hk (k := 5) (lv := [.int .i64 ((rdD zT45 ([(⟨4352, 4447⟩ : T45), (⟨11904, 12350⟩ : T45), (⟨12353, 13311⟩ : T45), (⟨13312, 19903⟩ : T45), (⟨19968, 40959⟩ : T45), (⟨40960, 42191⟩ : T45), (⟨44032, 55203⟩ : T45), (⟨63744, 64255⟩ : T45), (⟨65072, 65135⟩ : T45), (⟨65280, 65376⟩ : T45), (⟨65504, 65510⟩ : T45), (⟨127744, 128591⟩ : T45), (⟨129280, 129535⟩ : T45), (⟨131072, 262141⟩ : T45)] : List T45) x136).a0)]) (ks := [0, 8, 59, 60, 61, 69]) (e' := [(0, .int .i64 p0), (8, .pointer (some ⟨bx158, 0, none⟩)), (59, .slice (some ⟨bx10, 0, none⟩) (([(⟨4352, 4447⟩ : T45), (⟨11904, 12350⟩ : T45), (⟨12353, 13311⟩ : T45), (⟨13312, 19903⟩ : T45), (⟨19968, 40959⟩ : T45), (⟨40960, 42191⟩ : T45), (⟨44032, 55203⟩ : T45), (⟨63744, 64255⟩ : T45), (⟨65072, 65135⟩ : T45), (⟨65280, 65376⟩ : T45), (⟨65504, 65510⟩ : T45), (⟨127744, 128591⟩ : T45), (⟨129280, 129535⟩ : T45), (⟨131072, 262141⟩ : T45)] : List T45)).length 14), (60, .int .i64 ((([(⟨4352, 4447⟩ : T45), (⟨11904, 12350⟩ : T45), (⟨12353, 13311⟩ : T45), (⟨13312, 19903⟩ : T45), (⟨19968, 40959⟩ : T45), (⟨40960, 42191⟩ : T45), (⟨44032, 55203⟩ : T45), (⟨63744, 64255⟩ : T45), (⟨65072, 65135⟩ : T45), (⟨65280, 65376⟩ : T45), (⟨65504, 65510⟩ : T45), (⟨127744, 128591⟩ : T45), (⟨129280, 129535⟩ : T45), (⟨131072, 262141⟩ : T45)] : List T45)).length : Int)), (61, .int .i64 x136), (69, .bool (decide (p0 ≥ ((rdD zT45 ([(⟨4352, 4447⟩ : T45), (⟨11904, 12350⟩ : T45), (⟨12353, 13311⟩ : T45), (⟨13312, 19903⟩ : T45), (⟨19968, 40959⟩ : T45), (⟨40960, 42191⟩ : T45), (⟨44032, 55203⟩ : T45), (⟨63744, 64255⟩ : T45), (⟨65072, 65135⟩ : T45), (⟨65280, 65376⟩ : T45), (⟨65504, 65510⟩ : T45), (⟨127744, 128591⟩ : T45), (⟨129280, 129535⟩ : T45), (⟨131072, 262141⟩ : T45)] : List T45) x136).a0))))]) rfl ⟨(show (0 : Int) ≤ 0 ∧ (0 : Int) < 2 from by decide), (load1 tab rfl ((Bx.cell f159.now 0).trans rfl)), trivial⟩ fun a hk => ?_
        cases b163 : (decide (p0 ≥ ((rdD zT45 ([(⟨4352, 4447⟩ : T45), (⟨11904, 12350⟩ : T45), (⟨12353, 13311⟩ : T45), (⟨13312, 19903⟩ : T45), (⟨19968, 40959⟩ : T45), (⟨40960, 42191⟩ : T45), (⟨44032, 55203⟩ : T45), (⟨63744, 64255⟩ : T45), (⟨65072, 65135⟩ : T45), (⟨65280, 65376⟩ : T45), (⟨65504, 65510⟩ : T45), (⟨127744, 128591⟩ : T45), (⟨129280, 129535⟩ : T45), (⟨131072, 262141⟩ : T45)] : List T45) x136).a0)))
        · rw [b163] at hk H
          replace H := bifF H
          refine x_run tab hk (k := 5) (lv := []) (ks := [0, 59, 60, 61, 74]) (e' := [(0, .int .i64 p0), (59, .slice (some ⟨bx10, 0, none⟩) (([(⟨4352, 4447⟩ : T45), (⟨11904, 12350⟩ : T45), (⟨12353, 13311⟩ : T45), (⟨13312, 19903⟩ : T45), (⟨19968, 40959⟩ : T45), (⟨40960, 42191⟩ : T45), (⟨44032, 55203⟩ : T45), (⟨63744, 64255⟩ : T45), (⟨65072, 65135⟩ : T45), (⟨65280, 65376⟩ : T45), (⟨65504, 65510⟩ : T45), (⟨127744, 128591⟩ : T45), (⟨129280, 129535⟩ : T45), (⟨131072, 262141⟩ : T45)] : List T45)).length 14), (60, .int .i64 ((([(⟨4352, 4447⟩ : T45), (⟨11904, 12350⟩ : T45), (⟨12353, 13311⟩ : T45), (⟨13312, 19903⟩ : T45), (⟨19968, 40959⟩ : T45), (⟨40960, 42191⟩ : T45), (⟨44032, 55203⟩ : T45), (⟨63744, 64255⟩ : T45), (⟨65072, 65135⟩ : T45), (⟨65280, 65376⟩ : T45), (⟨65504, 65510⟩ : T45), (⟨127744, 128591⟩ : T45), (⟨129280, 129535⟩ : T45), (⟨131072, 262141⟩ : T45)] : List T45)).length : Int)), (61, .int .i64 x136), (74, .bool false)]) rfl trivial fun a hk => ?_
          refine wpListIn_nil ?_
          refine then_n ?_
          refine x_if hk (b := false) rfl ?_
          refine (show Code.wpIn _ _ _ _ _ _ _ from ?_)
          refine wpIn_skip ?_
          refine blk_n ?_
          refine then_n ?_
          refine wpIn_region_lit ?_
          refine x_run tab hk (k := 2) (lv := []) (ks := [0, 59, 60, 61]) (e' := [(0, .int .i64 p0), (59, .slice (some ⟨bx10, 0, none⟩) (([(⟨4352, 4447⟩ : T45), (⟨11904, 12350⟩ : T45), (⟨12353, 13311⟩ : T45), (⟨13312, 19903⟩ : T45), (⟨19968, 40959⟩ : T45), (⟨40960, 42191⟩ : T45), (⟨44032, 55203⟩ : T45), (⟨63744, 64255⟩ : T45), (⟨65072, 65135⟩ : T45), (⟨65280, 65376⟩ : T45), (⟨65504, 65510⟩ : T45), (⟨127744, 128591⟩ : T45), (⟨129280, 129535⟩ : T45), (⟨131072, 262141⟩ : T45)] : List T45)).length 14), (60, .int .i64 ((([(⟨4352, 4447⟩ : T45), (⟨11904, 12350⟩ : T45), (⟨12353, 13311⟩ : T45), (⟨13312, 19903⟩ : T45), (⟨19968, 40959⟩ : T45), (⟨40960, 42191⟩ : T45), (⟨44032, 55203⟩ : T45), (⟨63744, 64255⟩ : T45), (⟨65072, 65135⟩ : T45), (⟨65280, 65376⟩ : T45), (⟨65504, 65510⟩ : T45), (⟨127744, 128591⟩ : T45), (⟨129280, 129535⟩ : T45), (⟨131072, 262141⟩ : T45)] : List T45)).length : Int)), (61, .int .i64 (IntKind.wrap .i64 (x136 + 1)))]) rfl trivial fun a hk => ?_
          refine wpListIn_nil ?_
          refine then_n ?_
          exact ⟨k150, Nat.le_refl _, o161, (IntKind.wrap .i64 (x136 + 1)), (by exact Kn.pick (ks := [0, 59, 60, 61]) hk rfl), hs, f12, (hlp152 ▸ H)⟩
        · rw [b163] at hk H
          replace H := bifT H
          refine x_run tab hk (k := 5) (lv := [.int .i64 ((rdD zT45 ([(⟨4352, 4447⟩ : T45), (⟨11904, 12350⟩ : T45), (⟨12353, 13311⟩ : T45), (⟨13312, 19903⟩ : T45), (⟨19968, 40959⟩ : T45), (⟨40960, 42191⟩ : T45), (⟨44032, 55203⟩ : T45), (⟨63744, 64255⟩ : T45), (⟨65072, 65135⟩ : T45), (⟨65280, 65376⟩ : T45), (⟨65504, 65510⟩ : T45), (⟨127744, 128591⟩ : T45), (⟨129280, 129535⟩ : T45), (⟨131072, 262141⟩ : T45)] : List T45) x136).a1)]) (ks := [0, 59, 60, 61, 74]) (e' := [(0, .int .i64 p0), (59, .slice (some ⟨bx10, 0, none⟩) (([(⟨4352, 4447⟩ : T45), (⟨11904, 12350⟩ : T45), (⟨12353, 13311⟩ : T45), (⟨13312, 19903⟩ : T45), (⟨19968, 40959⟩ : T45), (⟨40960, 42191⟩ : T45), (⟨44032, 55203⟩ : T45), (⟨63744, 64255⟩ : T45), (⟨65072, 65135⟩ : T45), (⟨65280, 65376⟩ : T45), (⟨65504, 65510⟩ : T45), (⟨127744, 128591⟩ : T45), (⟨129280, 129535⟩ : T45), (⟨131072, 262141⟩ : T45)] : List T45)).length 14), (60, .int .i64 ((([(⟨4352, 4447⟩ : T45), (⟨11904, 12350⟩ : T45), (⟨12353, 13311⟩ : T45), (⟨13312, 19903⟩ : T45), (⟨19968, 40959⟩ : T45), (⟨40960, 42191⟩ : T45), (⟨44032, 55203⟩ : T45), (⟨63744, 64255⟩ : T45), (⟨65072, 65135⟩ : T45), (⟨65280, 65376⟩ : T45), (⟨65504, 65510⟩ : T45), (⟨127744, 128591⟩ : T45), (⟨129280, 129535⟩ : T45), (⟨131072, 262141⟩ : T45)] : List T45)).length : Int)), (61, .int .i64 x136), (74, .bool (decide (p0 ≤ ((rdD zT45 ([(⟨4352, 4447⟩ : T45), (⟨11904, 12350⟩ : T45), (⟨12353, 13311⟩ : T45), (⟨13312, 19903⟩ : T45), (⟨19968, 40959⟩ : T45), (⟨40960, 42191⟩ : T45), (⟨44032, 55203⟩ : T45), (⟨63744, 64255⟩ : T45), (⟨65072, 65135⟩ : T45), (⟨65280, 65376⟩ : T45), (⟨65504, 65510⟩ : T45), (⟨127744, 128591⟩ : T45), (⟨129280, 129535⟩ : T45), (⟨131072, 262141⟩ : T45)] : List T45) x136).a1))))]) rfl ⟨(show (0 : Int) ≤ 1 ∧ (1 : Int) < 2 from by decide), (load1 tab rfl ((Bx.cell f159.now 1).trans rfl)), trivial⟩ fun a hk => ?_
          refine wpListIn_nil ?_
          refine then_n ?_
          cases b164 : (decide (p0 ≤ ((rdD zT45 ([(⟨4352, 4447⟩ : T45), (⟨11904, 12350⟩ : T45), (⟨12353, 13311⟩ : T45), (⟨13312, 19903⟩ : T45), (⟨19968, 40959⟩ : T45), (⟨40960, 42191⟩ : T45), (⟨44032, 55203⟩ : T45), (⟨63744, 64255⟩ : T45), (⟨65072, 65135⟩ : T45), (⟨65280, 65376⟩ : T45), (⟨65504, 65510⟩ : T45), (⟨127744, 128591⟩ : T45), (⟨129280, 129535⟩ : T45), (⟨131072, 262141⟩ : T45)] : List T45) x136).a1)))
          · rw [b164] at hk H
            replace H := bifF H
            refine x_if hk (b := false) rfl ?_
            refine (show Code.wpIn _ _ _ _ _ _ _ from ?_)
            refine wpIn_skip ?_
            refine blk_n ?_
            refine then_n ?_
            refine wpIn_region_lit ?_
            refine x_run tab hk (k := 2) (lv := []) (ks := [0, 59, 60, 61]) (e' := [(0, .int .i64 p0), (59, .slice (some ⟨bx10, 0, none⟩) (([(⟨4352, 4447⟩ : T45), (⟨11904, 12350⟩ : T45), (⟨12353, 13311⟩ : T45), (⟨13312, 19903⟩ : T45), (⟨19968, 40959⟩ : T45), (⟨40960, 42191⟩ : T45), (⟨44032, 55203⟩ : T45), (⟨63744, 64255⟩ : T45), (⟨65072, 65135⟩ : T45), (⟨65280, 65376⟩ : T45), (⟨65504, 65510⟩ : T45), (⟨127744, 128591⟩ : T45), (⟨129280, 129535⟩ : T45), (⟨131072, 262141⟩ : T45)] : List T45)).length 14), (60, .int .i64 ((([(⟨4352, 4447⟩ : T45), (⟨11904, 12350⟩ : T45), (⟨12353, 13311⟩ : T45), (⟨13312, 19903⟩ : T45), (⟨19968, 40959⟩ : T45), (⟨40960, 42191⟩ : T45), (⟨44032, 55203⟩ : T45), (⟨63744, 64255⟩ : T45), (⟨65072, 65135⟩ : T45), (⟨65280, 65376⟩ : T45), (⟨65504, 65510⟩ : T45), (⟨127744, 128591⟩ : T45), (⟨129280, 129535⟩ : T45), (⟨131072, 262141⟩ : T45)] : List T45)).length : Int)), (61, .int .i64 (IntKind.wrap .i64 (x136 + 1)))]) rfl trivial fun a hk => ?_
            refine wpListIn_nil ?_
            refine then_n ?_
            exact ⟨k150, Nat.le_refl _, o161, (IntKind.wrap .i64 (x136 + 1)), (by exact Kn.pick (ks := [0, 59, 60, 61]) hk rfl), hs, f12, (hlp152 ▸ H)⟩
          · rw [b164] at hk H
            replace H := bifT H
            refine x_if hk (b := true) rfl ?_
            refine (show Code.wpIn _ _ _ _ _ _ _ from ?_)
            refine x_seq ?_
            refine wpIn_region_lit ?_
            refine x_run tab hk (k := 1) (lv := []) (ks := [2]) (e' := [(2, .int .i64 2)]) rfl trivial fun a hk => ?_
            refine wpListIn_nil ?_
            refine then_n ?_
            refine wpIn_ret ?_
            refine blk_r ?_
            refine then_r ?_
            refine then_r ?_
            refine blk_r ?_
            refine then_r ?_
            obtain rfl := Option.some.inj H
            exact x_retG hk (rs := [.tmp 2]) (vs := [.int .i64 2]) rfl ⟨rfl, trivial⟩ ⟨fun b_ => if b_ < w.heap.size then o b_ else (fun _ => 0) (o161 b_), rfl, hs.close0 o (fun _ => 0)⟩
    refine x_seq ?_
    refine wpIn_region_lit ?_
    refine x_run tab hk (k := 3) (lv := []) (ks := [0, 4, 42, 43, 44]) (e' := [(0, .int .i64 p0), (4, .slice (some ⟨bx10, 0, none⟩) (([(⟨4352, 4447⟩ : T45), (⟨11904, 12350⟩ : T45), (⟨12353, 13311⟩ : T45), (⟨13312, 19903⟩ : T45), (⟨19968, 40959⟩ : T45), (⟨40960, 42191⟩ : T45), (⟨44032, 55203⟩ : T45), (⟨63744, 64255⟩ : T45), (⟨65072, 65135⟩ : T45), (⟨65280, 65376⟩ : T45), (⟨65504, 65510⟩ : T45), (⟨127744, 128591⟩ : T45), (⟨129280, 129535⟩ : T45), (⟨131072, 262141⟩ : T45)] : List T45)).length 14), (42, .slice (some ⟨bx4, 0, none⟩) (([(⟨127, 159⟩ : T45), (⟨768, 879⟩ : T45), (⟨6832, 6911⟩ : T45), (⟨7616, 7679⟩ : T45), (⟨8203, 8207⟩ : T45), (⟨8400, 8447⟩ : T45), (⟨55296, 57343⟩ : T45), (⟨65024, 65039⟩ : T45), (⟨65056, 65071⟩ : T45), (⟨65279, 65279⟩ : T45), (⟨917760, 917999⟩ : T45)] : List T45)).length 11), (43, .int .i64 ((([(⟨127, 159⟩ : T45), (⟨768, 879⟩ : T45), (⟨6832, 6911⟩ : T45), (⟨7616, 7679⟩ : T45), (⟨8203, 8207⟩ : T45), (⟨8400, 8447⟩ : T45), (⟨55296, 57343⟩ : T45), (⟨65024, 65039⟩ : T45), (⟨65056, 65071⟩ : T45), (⟨65279, 65279⟩ : T45), (⟨917760, 917999⟩ : T45)] : List T45)).length : Int)), (44, .int .i64 0)]) rfl trivial fun a hk => ?_
    refine wpListIn_nil ?_
    refine then_n ?_
    refine wpIn_block ?_
    refine x_loop (fun j_ a_ w_ => ∃ o180 : Nat → Nat, ∃ x181 : Int, Kn 76 a_ [(0, .int .i64 p0), (4, .slice (some ⟨bx10, 0, none⟩) (([(⟨4352, 4447⟩ : T45), (⟨11904, 12350⟩ : T45), (⟨12353, 13311⟩ : T45), (⟨13312, 19903⟩ : T45), (⟨19968, 40959⟩ : T45), (⟨40960, 42191⟩ : T45), (⟨44032, 55203⟩ : T45), (⟨63744, 64255⟩ : T45), (⟨65072, 65135⟩ : T45), (⟨65280, 65376⟩ : T45), (⟨65504, 65510⟩ : T45), (⟨127744, 128591⟩ : T45), (⟨129280, 129535⟩ : T45), (⟨131072, 262141⟩ : T45)] : List T45)).length 14), (42, .slice (some ⟨bx4, 0, none⟩) (([(⟨127, 159⟩ : T45), (⟨768, 879⟩ : T45), (⟨6832, 6911⟩ : T45), (⟨7616, 7679⟩ : T45), (⟨8203, 8207⟩ : T45), (⟨8400, 8447⟩ : T45), (⟨55296, 57343⟩ : T45), (⟨65024, 65039⟩ : T45), (⟨65056, 65071⟩ : T45), (⟨65279, 65279⟩ : T45), (⟨917760, 917999⟩ : T45)] : List T45)).length 11), (43, .int .i64 ((([(⟨127, 159⟩ : T45), (⟨768, 879⟩ : T45), (⟨6832, 6911⟩ : T45), (⟨7616, 7679⟩ : T45), (⟨8203, 8207⟩ : T45), (⟨8400, 8447⟩ : T45), (⟨55296, 57343⟩ : T45), (⟨65024, 65039⟩ : T45), (⟨65056, 65071⟩ : T45), (⟨65279, 65279⟩ : T45), (⟨917760, 917999⟩ : T45)] : List T45)).length : Int)), (44, .int .i64 x181)] ∧ St [] w (fun _ => 0) w_ o180 ∧ Ft (Own ET45 45 (.slice (some ⟨bx10, 0, none⟩) (([(⟨4352, 4447⟩ : T45), (⟨11904, 12350⟩ : T45), (⟨12353, 13311⟩ : T45), (⟨13312, 19903⟩ : T45), (⟨19968, 40959⟩ : T45), (⟨40960, 42191⟩ : T45), (⟨44032, 55203⟩ : T45), (⟨63744, 64255⟩ : T45), (⟨65072, 65135⟩ : T45), (⟨65280, 65376⟩ : T45), (⟨65504, 65510⟩ : T45), (⟨127744, 128591⟩ : T45), (⟨129280, 129535⟩ : T45), (⟨131072, 262141⟩ : T45)] : List T45)).length 14) ([(⟨4352, 4447⟩ : T45), (⟨11904, 12350⟩ : T45), (⟨12353, 13311⟩ : T45), (⟨13312, 19903⟩ : T45), (⟨19968, 40959⟩ : T45), (⟨40960, 42191⟩ : T45), (⟨44032, 55203⟩ : T45), (⟨63744, 64255⟩ : T45), (⟨65072, 65135⟩ : T45), (⟨65280, 65376⟩ : T45), (⟨65504, 65510⟩ : T45), (⟨127744, 128591⟩ : T45), (⟨129280, 129535⟩ : T45), (⟨131072, 262141⟩ : T45)] : List T45)) w_ o180 26 ∧ Ft (Own ET45 45 (.slice (some ⟨bx4, 0, none⟩) (([(⟨127, 159⟩ : T45), (⟨768, 879⟩ : T45), (⟨6832, 6911⟩ : T45), (⟨7616, 7679⟩ : T45), (⟨8203, 8207⟩ : T45), (⟨8400, 8447⟩ : T45), (⟨55296, 57343⟩ : T45), (⟨65024, 65039⟩ : T45), (⟨65056, 65071⟩ : T45), (⟨65279, 65279⟩ : T45), (⟨917760, 917999⟩ : T45)] : List T45)).length 11) ([(⟨127, 159⟩ : T45), (⟨768, 879⟩ : T45), (⟨6832, 6911⟩ : T45), (⟨7616, 7679⟩ : T45), (⟨8203, 8207⟩ : T45), (⟨8400, 8447⟩ : T45), (⟨55296, 57343⟩ : T45), (⟨65024, 65039⟩ : T45), (⟨65056, 65071⟩ : T45), (⟨65279, 65279⟩ : T45), (⟨917760, 917999⟩ : T45)] : List T45)) w_ o180 27 ∧ tidewrackref06_Of_l5 K p0 j_ x181 = some r) (k := K) ⟨(fun b_ => (fun l_ => if l_ = 3 then 27 else if l_ = 4 then 26 else l_) (o18 b_)), 0, (by exact Kn.pick (ks := [0, 4, 42, 43, 44]) hk rfl), (hs.relab0 (fun l_ => if l_ = 3 then 27 else if l_ = 4 then 26 else l_) rfl), (f12.relab (fun l_ => if l_ = 3 then 27 else if l_ = 4 then 26 else l_) rfl), (f6.relab (fun l_ => if l_ = 3 then 27 else if l_ = 4 then 26 else l_) rfl), H⟩ (by rintro _ _ ⟨_, _, _, _, _, _, H_⟩; exact absurd (show (none : Option Int) = some r from H_) (by simp)) ?_
    rintro k195 a w194 ⟨o180, x181, hk, hs, f12, f6, H⟩
    rw [tidewrackref06_Of_l5] at H
    obtain ⟨lp196, hlp197⟩ : ∃ lp_, lp_ = tidewrackref06_Of_l5 K p0 k195 := ⟨_, rfl⟩
    rw [← hlp197] at H
    refine x_seq ?_
    refine wpIn_region_lit ?_
    refine x_run tab hk (k := 1) (lv := []) (ks := [0, 4, 42, 43, 44, 45]) (e' := [(0, .int .i64 p0), (4, .slice (some ⟨bx10, 0, none⟩) (([(⟨4352, 4447⟩ : T45), (⟨11904, 12350⟩ : T45), (⟨12353, 13311⟩ : T45), (⟨13312, 19903⟩ : T45), (⟨19968, 40959⟩ : T45), (⟨40960, 42191⟩ : T45), (⟨44032, 55203⟩ : T45), (⟨63744, 64255⟩ : T45), (⟨65072, 65135⟩ : T45), (⟨65280, 65376⟩ : T45), (⟨65504, 65510⟩ : T45), (⟨127744, 128591⟩ : T45), (⟨129280, 129535⟩ : T45), (⟨131072, 262141⟩ : T45)] : List T45)).length 14), (42, .slice (some ⟨bx4, 0, none⟩) (([(⟨127, 159⟩ : T45), (⟨768, 879⟩ : T45), (⟨6832, 6911⟩ : T45), (⟨7616, 7679⟩ : T45), (⟨8203, 8207⟩ : T45), (⟨8400, 8447⟩ : T45), (⟨55296, 57343⟩ : T45), (⟨65024, 65039⟩ : T45), (⟨65056, 65071⟩ : T45), (⟨65279, 65279⟩ : T45), (⟨917760, 917999⟩ : T45)] : List T45)).length 11), (43, .int .i64 ((([(⟨127, 159⟩ : T45), (⟨768, 879⟩ : T45), (⟨6832, 6911⟩ : T45), (⟨7616, 7679⟩ : T45), (⟨8203, 8207⟩ : T45), (⟨8400, 8447⟩ : T45), (⟨55296, 57343⟩ : T45), (⟨65024, 65039⟩ : T45), (⟨65056, 65071⟩ : T45), (⟨65279, 65279⟩ : T45), (⟨917760, 917999⟩ : T45)] : List T45)).length : Int)), (44, .int .i64 x181), (45, .bool (decide (x181 < ((([(⟨127, 159⟩ : T45), (⟨768, 879⟩ : T45), (⟨6832, 6911⟩ : T45), (⟨7616, 7679⟩ : T45), (⟨8203, 8207⟩ : T45), (⟨8400, 8447⟩ : T45), (⟨55296, 57343⟩ : T45), (⟨65024, 65039⟩ : T45), (⟨65056, 65071⟩ : T45), (⟨65279, 65279⟩ : T45), (⟨917760, 917999⟩ : T45)] : List T45)).length : Int))))]) rfl trivial fun a hk => ?_
    refine wpListIn_nil ?_
    refine then_n ?_
    refine x_seq ?_
    cases b198 : (decide (x181 < ((([(⟨127, 159⟩ : T45), (⟨768, 879⟩ : T45), (⟨6832, 6911⟩ : T45), (⟨7616, 7679⟩ : T45), (⟨8203, 8207⟩ : T45), (⟨8400, 8447⟩ : T45), (⟨55296, 57343⟩ : T45), (⟨65024, 65039⟩ : T45), (⟨65056, 65071⟩ : T45), (⟨65279, 65279⟩ : T45), (⟨917760, 917999⟩ : T45)] : List T45)).length : Int)))
    · rw [b198] at hk H
      replace H := bifF H
      refine x_if hk (b := false) rfl ?_
      refine (show Code.wpIn _ _ _ _ _ _ _ from ?_)
      refine wpIn_exit ?_
      refine then_x ?_
      refine then_x ?_
      refine blk_x ?_
      refine then_n ?_
      exact ⟨(fun b_ => (fun l_ => if l_ = 26 then 12 else l_) (o180 b_)), (by exact Kn.pick (ks := [0, 4]) hk rfl), (hs.relab0 (fun l_ => if l_ = 26 then 12 else l_) rfl), (f12.relab (fun l_ => if l_ = 26 then 12 else l_) rfl), H⟩
    · rw [b198] at hk H
      replace H := bifT H
      refine x_if hk (b := true) rfl ?_
      refine (show Code.wpIn _ _ _ _ _ _ _ from ?_)
      refine wpIn_skip ?_
      refine then_n ?_
      refine x_seq ?_
      refine wpIn_block ?_
      refine x_seq ?_
      refine wpIn_region_lit ?_
      obtain ⟨q199, H⟩ := ifS H
      refine x_run tab hk (k := 2) (lv := [.agg #[.int .i64 ((rdD zT45 ([(⟨127, 159⟩ : T45), (⟨768, 879⟩ : T45), (⟨6832, 6911⟩ : T45), (⟨7616, 7679⟩ : T45), (⟨8203, 8207⟩ : T45), (⟨8400, 8447⟩ : T45), (⟨55296, 57343⟩ : T45), (⟨65024, 65039⟩ : T45), (⟨65056, 65071⟩ : T45), (⟨65279, 65279⟩ : T45), (⟨917760, 917999⟩ : T45)] : List T45) x181).a0), .int .i64 ((rdD zT45 ([(⟨127, 159⟩ : T45), (⟨768, 879⟩ : T45), (⟨6832, 6911⟩ : T45), (⟨7616, 7679⟩ : T45), (⟨8203, 8207⟩ : T45), (⟨8400, 8447⟩ : T45), (⟨55296, 57343⟩ : T45), (⟨65024, 65039⟩ : T45), (⟨65056, 65071⟩ : T45), (⟨65279, 65279⟩ : T45), (⟨917760, 917999⟩ : T45)] : List T45) x181).a1)]]) (ks := [0, 4, 42, 43, 44, 47]) (e' := [(0, .int .i64 p0), (4, .slice (some ⟨bx10, 0, none⟩) (([(⟨4352, 4447⟩ : T45), (⟨11904, 12350⟩ : T45), (⟨12353, 13311⟩ : T45), (⟨13312, 19903⟩ : T45), (⟨19968, 40959⟩ : T45), (⟨40960, 42191⟩ : T45), (⟨44032, 55203⟩ : T45), (⟨63744, 64255⟩ : T45), (⟨65072, 65135⟩ : T45), (⟨65280, 65376⟩ : T45), (⟨65504, 65510⟩ : T45), (⟨127744, 128591⟩ : T45), (⟨129280, 129535⟩ : T45), (⟨131072, 262141⟩ : T45)] : List T45)).length 14), (42, .slice (some ⟨bx4, 0, none⟩) (([(⟨127, 159⟩ : T45), (⟨768, 879⟩ : T45), (⟨6832, 6911⟩ : T45), (⟨7616, 7679⟩ : T45), (⟨8203, 8207⟩ : T45), (⟨8400, 8447⟩ : T45), (⟨55296, 57343⟩ : T45), (⟨65024, 65039⟩ : T45), (⟨65056, 65071⟩ : T45), (⟨65279, 65279⟩ : T45), (⟨917760, 917999⟩ : T45)] : List T45)).length 11), (43, .int .i64 ((([(⟨127, 159⟩ : T45), (⟨768, 879⟩ : T45), (⟨6832, 6911⟩ : T45), (⟨7616, 7679⟩ : T45), (⟨8203, 8207⟩ : T45), (⟨8400, 8447⟩ : T45), (⟨55296, 57343⟩ : T45), (⟨65024, 65039⟩ : T45), (⟨65056, 65071⟩ : T45), (⟨65279, 65279⟩ : T45), (⟨917760, 917999⟩ : T45)] : List T45)).length : Int)), (44, .int .i64 x181), (47, .agg #[.int .i64 ((rdD zT45 ([(⟨127, 159⟩ : T45), (⟨768, 879⟩ : T45), (⟨6832, 6911⟩ : T45), (⟨7616, 7679⟩ : T45), (⟨8203, 8207⟩ : T45), (⟨8400, 8447⟩ : T45), (⟨55296, 57343⟩ : T45), (⟨65024, 65039⟩ : T45), (⟨65056, 65071⟩ : T45), (⟨65279, 65279⟩ : T45), (⟨917760, 917999⟩ : T45)] : List T45) x181).a0), .int .i64 ((rdD zT45 ([(⟨127, 159⟩ : T45), (⟨768, 879⟩ : T45), (⟨6832, 6911⟩ : T45), (⟨7616, 7679⟩ : T45), (⟨8203, 8207⟩ : T45), (⟨8400, 8447⟩ : T45), (⟨55296, 57343⟩ : T45), (⟨65024, 65039⟩ : T45), (⟨65056, 65071⟩ : T45), (⟨65279, 65279⟩ : T45), (⟨917760, 917999⟩ : T45)] : List T45) x181).a1)])]) rfl ⟨q199, (load_elem (E := ET45) (i := x181) (dx := zT45) tab rfl rfl (Own.rd f6.now) q199), trivial⟩ fun a hk => ?_
      refine x_op hk rfl ?_
      refine op_alloc (o := o180) tab (t := 45) (cs := [.int .i64 0, .int .i64 0]) rfl rfl 29 fun bx203 w200 o201 st202 f204 => ?_
      replace f12 := f12.st st202 (by decide)
      replace f6 := f6.st st202 (by decide)
      replace hs := hs.loc0 st202 (by decide)
      have hk := hk.put 6 (.pointer (some ⟨bx203, 0, none⟩)) rfl
      refine x_op hk rfl ?_
      refine op_store tab hk (t := 45) (v := .agg #[.int .i64 ((rdD zT45 ([(⟨127, 159⟩ : T45), (⟨768, 879⟩ : T45), (⟨6832, 6911⟩ : T45), (⟨7616, 7679⟩ : T45), (⟨8203, 8207⟩ : T45), (⟨8400, 8447⟩ : T45), (⟨55296, 57343⟩ : T45), (⟨65024, 65039⟩ : T45), (⟨65056, 65071⟩ : T45), (⟨65279, 65279⟩ : T45), (⟨917760, 917999⟩ : T45)] : List T45) x181).a0), .int .i64 ((rdD zT45 ([(⟨127, 159⟩ : T45), (⟨768, 879⟩ : T45), (⟨6832, 6911⟩ : T45), (⟨7616, 7679⟩ : T45), (⟨8203, 8207⟩ : T45), (⟨8400, 8447⟩ : T45), (⟨55296, 57343⟩ : T45), (⟨65024, 65039⟩ : T45), (⟨65056, 65071⟩ : T45), (⟨65279, 65279⟩ : T45), (⟨917760, 917999⟩ : T45)] : List T45) x181).a1)]) (b := bx203) (k := 0) (cs' := [.int .i64 ((rdD zT45 ([(⟨127, 159⟩ : T45), (⟨768, 879⟩ : T45), (⟨6832, 6911⟩ : T45), (⟨7616, 7679⟩ : T45), (⟨8203, 8207⟩ : T45), (⟨8400, 8447⟩ : T45), (⟨55296, 57343⟩ : T45), (⟨65024, 65039⟩ : T45), (⟨65056, 65071⟩ : T45), (⟨65279, 65279⟩ : T45), (⟨917760, 917999⟩ : T45)] : List T45) x181).a0), .int .i64 ((rdD zT45 ([(⟨127, 159⟩ : T45), (⟨768, 879⟩ : T45), (⟨6832, 6911⟩ : T45), (⟨7616, 7679⟩ : T45), (⟨8203, 8207⟩ : T45), (⟨8400, 8447⟩ : T45), (⟨55296, 57343⟩ : T45), (⟨65024, 65039⟩ : T45), (⟨65056, 65071⟩ : T45), (⟨65279, 65279⟩ : T45), (⟨917760, 917999⟩ : T45)] : List T45) x181).a1)]) rfl rfl rfl rfl rfl rfl f204 rfl rfl fun w205 o206 st207 f204_ => ?_
      replace f12 := f12.st st207 (by decide)
      replace f6 := f6.st st207 (by decide)
      replace hs := hs.loc0 st207 (by decide)
      replace f204 := f204_
      refine wpListIn_nil ?_
      refine then_n ?_
      refine x_seq ?_
      refine wpIn_region_lit ?_
      refine x_run tab hk (k := 5) (lv := [.int .i64 ((rdD zT45 ([(⟨127, 159⟩ : T45), (⟨768, 879⟩ : T45), (⟨6832, 6911⟩ : T45), (⟨7616, 7679⟩ : T45), (⟨8203, 8207⟩ : T45), (⟨8400, 8447⟩ : T45), (⟨55296, 57343⟩ : T45), (⟨65024, 65039⟩ : T45), (⟨65056, 65071⟩ : T45), (⟨65279, 65279⟩ : T45), (⟨917760, 917999⟩ : T45)] : List T45) x181).a0)]) (ks := [0, 4, 6, 42, 43, 44, 52]) (e' := [(0, .int .i64 p0), (4, .slice (some ⟨bx10, 0, none⟩) (([(⟨4352, 4447⟩ : T45), (⟨11904, 12350⟩ : T45), (⟨12353, 13311⟩ : T45), (⟨13312, 19903⟩ : T45), (⟨19968, 40959⟩ : T45), (⟨40960, 42191⟩ : T45), (⟨44032, 55203⟩ : T45), (⟨63744, 64255⟩ : T45), (⟨65072, 65135⟩ : T45), (⟨65280, 65376⟩ : T45), (⟨65504, 65510⟩ : T45), (⟨127744, 128591⟩ : T45), (⟨129280, 129535⟩ : T45), (⟨131072, 262141⟩ : T45)] : List T45)).length 14), (6, .pointer (some ⟨bx203, 0, none⟩)), (42, .slice (some ⟨bx4, 0, none⟩) (([(⟨127, 159⟩ : T45), (⟨768, 879⟩ : T45), (⟨6832, 6911⟩ : T45), (⟨7616, 7679⟩ : T45), (⟨8203, 8207⟩ : T45), (⟨8400, 8447⟩ : T45), (⟨55296, 57343⟩ : T45), (⟨65024, 65039⟩ : T45), (⟨65056, 65071⟩ : T45), (⟨65279, 65279⟩ : T45), (⟨917760, 917999⟩ : T45)] : List T45)).length 11), (43, .int .i64 ((([(⟨127, 159⟩ : T45), (⟨768, 879⟩ : T45), (⟨6832, 6911⟩ : T45), (⟨7616, 7679⟩ : T45), (⟨8203, 8207⟩ : T45), (⟨8400, 8447⟩ : T45), (⟨55296, 57343⟩ : T45), (⟨65024, 65039⟩ : T45), (⟨65056, 65071⟩ : T45), (⟨65279, 65279⟩ : T45), (⟨917760, 917999⟩ : T45)] : List T45)).length : Int)), (44, .int .i64 x181), (52, .bool (decide (p0 ≥ ((rdD zT45 ([(⟨127, 159⟩ : T45), (⟨768, 879⟩ : T45), (⟨6832, 6911⟩ : T45), (⟨7616, 7679⟩ : T45), (⟨8203, 8207⟩ : T45), (⟨8400, 8447⟩ : T45), (⟨55296, 57343⟩ : T45), (⟨65024, 65039⟩ : T45), (⟨65056, 65071⟩ : T45), (⟨65279, 65279⟩ : T45), (⟨917760, 917999⟩ : T45)] : List T45) x181).a0))))]) rfl ⟨(show (0 : Int) ≤ 0 ∧ (0 : Int) < 2 from by decide), (load1 tab rfl ((Bx.cell f204.now 0).trans rfl)), trivial⟩ fun a hk => ?_
      cases b208 : (decide (p0 ≥ ((rdD zT45 ([(⟨127, 159⟩ : T45), (⟨768, 879⟩ : T45), (⟨6832, 6911⟩ : T45), (⟨7616, 7679⟩ : T45), (⟨8203, 8207⟩ : T45), (⟨8400, 8447⟩ : T45), (⟨55296, 57343⟩ : T45), (⟨65024, 65039⟩ : T45), (⟨65056, 65071⟩ : T45), (⟨65279, 65279⟩ : T45), (⟨917760, 917999⟩ : T45)] : List T45) x181).a0)))
      · rw [b208] at hk H
        replace H := bifF H
        refine x_run tab hk (k := 5) (lv := []) (ks := [0, 4, 42, 43, 44, 57]) (e' := [(0, .int .i64 p0), (4, .slice (some ⟨bx10, 0, none⟩) (([(⟨4352, 4447⟩ : T45), (⟨11904, 12350⟩ : T45), (⟨12353, 13311⟩ : T45), (⟨13312, 19903⟩ : T45), (⟨19968, 40959⟩ : T45), (⟨40960, 42191⟩ : T45), (⟨44032, 55203⟩ : T45), (⟨63744, 64255⟩ : T45), (⟨65072, 65135⟩ : T45), (⟨65280, 65376⟩ : T45), (⟨65504, 65510⟩ : T45), (⟨127744, 128591⟩ : T45), (⟨129280, 129535⟩ : T45), (⟨131072, 262141⟩ : T45)] : List T45)).length 14), (42, .slice (some ⟨bx4, 0, none⟩) (([(⟨127, 159⟩ : T45), (⟨768, 879⟩ : T45), (⟨6832, 6911⟩ : T45), (⟨7616, 7679⟩ : T45), (⟨8203, 8207⟩ : T45), (⟨8400, 8447⟩ : T45), (⟨55296, 57343⟩ : T45), (⟨65024, 65039⟩ : T45), (⟨65056, 65071⟩ : T45), (⟨65279, 65279⟩ : T45), (⟨917760, 917999⟩ : T45)] : List T45)).length 11), (43, .int .i64 ((([(⟨127, 159⟩ : T45), (⟨768, 879⟩ : T45), (⟨6832, 6911⟩ : T45), (⟨7616, 7679⟩ : T45), (⟨8203, 8207⟩ : T45), (⟨8400, 8447⟩ : T45), (⟨55296, 57343⟩ : T45), (⟨65024, 65039⟩ : T45), (⟨65056, 65071⟩ : T45), (⟨65279, 65279⟩ : T45), (⟨917760, 917999⟩ : T45)] : List T45)).length : Int)), (44, .int .i64 x181), (57, .bool false)]) rfl trivial fun a hk => ?_
        refine wpListIn_nil ?_
        refine then_n ?_
        refine x_if hk (b := false) rfl ?_
        refine (show Code.wpIn _ _ _ _ _ _ _ from ?_)
        refine wpIn_skip ?_
        refine blk_n ?_
        refine then_n ?_
        refine wpIn_region_lit ?_
        refine x_run tab hk (k := 2) (lv := []) (ks := [0, 4, 42, 43, 44]) (e' := [(0, .int .i64 p0), (4, .slice (some ⟨bx10, 0, none⟩) (([(⟨4352, 4447⟩ : T45), (⟨11904, 12350⟩ : T45), (⟨12353, 13311⟩ : T45), (⟨13312, 19903⟩ : T45), (⟨19968, 40959⟩ : T45), (⟨40960, 42191⟩ : T45), (⟨44032, 55203⟩ : T45), (⟨63744, 64255⟩ : T45), (⟨65072, 65135⟩ : T45), (⟨65280, 65376⟩ : T45), (⟨65504, 65510⟩ : T45), (⟨127744, 128591⟩ : T45), (⟨129280, 129535⟩ : T45), (⟨131072, 262141⟩ : T45)] : List T45)).length 14), (42, .slice (some ⟨bx4, 0, none⟩) (([(⟨127, 159⟩ : T45), (⟨768, 879⟩ : T45), (⟨6832, 6911⟩ : T45), (⟨7616, 7679⟩ : T45), (⟨8203, 8207⟩ : T45), (⟨8400, 8447⟩ : T45), (⟨55296, 57343⟩ : T45), (⟨65024, 65039⟩ : T45), (⟨65056, 65071⟩ : T45), (⟨65279, 65279⟩ : T45), (⟨917760, 917999⟩ : T45)] : List T45)).length 11), (43, .int .i64 ((([(⟨127, 159⟩ : T45), (⟨768, 879⟩ : T45), (⟨6832, 6911⟩ : T45), (⟨7616, 7679⟩ : T45), (⟨8203, 8207⟩ : T45), (⟨8400, 8447⟩ : T45), (⟨55296, 57343⟩ : T45), (⟨65024, 65039⟩ : T45), (⟨65056, 65071⟩ : T45), (⟨65279, 65279⟩ : T45), (⟨917760, 917999⟩ : T45)] : List T45)).length : Int)), (44, .int .i64 (IntKind.wrap .i64 (x181 + 1)))]) rfl trivial fun a hk => ?_
        refine wpListIn_nil ?_
        refine then_n ?_
        exact ⟨k195, Nat.le_refl _, o206, (IntKind.wrap .i64 (x181 + 1)), (by exact Kn.pick (ks := [0, 4, 42, 43, 44]) hk rfl), hs, f12, f6, (hlp197 ▸ H)⟩
      · rw [b208] at hk H
        replace H := bifT H
        refine x_run tab hk (k := 5) (lv := [.int .i64 ((rdD zT45 ([(⟨127, 159⟩ : T45), (⟨768, 879⟩ : T45), (⟨6832, 6911⟩ : T45), (⟨7616, 7679⟩ : T45), (⟨8203, 8207⟩ : T45), (⟨8400, 8447⟩ : T45), (⟨55296, 57343⟩ : T45), (⟨65024, 65039⟩ : T45), (⟨65056, 65071⟩ : T45), (⟨65279, 65279⟩ : T45), (⟨917760, 917999⟩ : T45)] : List T45) x181).a1)]) (ks := [0, 4, 42, 43, 44, 57]) (e' := [(0, .int .i64 p0), (4, .slice (some ⟨bx10, 0, none⟩) (([(⟨4352, 4447⟩ : T45), (⟨11904, 12350⟩ : T45), (⟨12353, 13311⟩ : T45), (⟨13312, 19903⟩ : T45), (⟨19968, 40959⟩ : T45), (⟨40960, 42191⟩ : T45), (⟨44032, 55203⟩ : T45), (⟨63744, 64255⟩ : T45), (⟨65072, 65135⟩ : T45), (⟨65280, 65376⟩ : T45), (⟨65504, 65510⟩ : T45), (⟨127744, 128591⟩ : T45), (⟨129280, 129535⟩ : T45), (⟨131072, 262141⟩ : T45)] : List T45)).length 14), (42, .slice (some ⟨bx4, 0, none⟩) (([(⟨127, 159⟩ : T45), (⟨768, 879⟩ : T45), (⟨6832, 6911⟩ : T45), (⟨7616, 7679⟩ : T45), (⟨8203, 8207⟩ : T45), (⟨8400, 8447⟩ : T45), (⟨55296, 57343⟩ : T45), (⟨65024, 65039⟩ : T45), (⟨65056, 65071⟩ : T45), (⟨65279, 65279⟩ : T45), (⟨917760, 917999⟩ : T45)] : List T45)).length 11), (43, .int .i64 ((([(⟨127, 159⟩ : T45), (⟨768, 879⟩ : T45), (⟨6832, 6911⟩ : T45), (⟨7616, 7679⟩ : T45), (⟨8203, 8207⟩ : T45), (⟨8400, 8447⟩ : T45), (⟨55296, 57343⟩ : T45), (⟨65024, 65039⟩ : T45), (⟨65056, 65071⟩ : T45), (⟨65279, 65279⟩ : T45), (⟨917760, 917999⟩ : T45)] : List T45)).length : Int)), (44, .int .i64 x181), (57, .bool (decide (p0 ≤ ((rdD zT45 ([(⟨127, 159⟩ : T45), (⟨768, 879⟩ : T45), (⟨6832, 6911⟩ : T45), (⟨7616, 7679⟩ : T45), (⟨8203, 8207⟩ : T45), (⟨8400, 8447⟩ : T45), (⟨55296, 57343⟩ : T45), (⟨65024, 65039⟩ : T45), (⟨65056, 65071⟩ : T45), (⟨65279, 65279⟩ : T45), (⟨917760, 917999⟩ : T45)] : List T45) x181).a1))))]) rfl ⟨(show (0 : Int) ≤ 1 ∧ (1 : Int) < 2 from by decide), (load1 tab rfl ((Bx.cell f204.now 1).trans rfl)), trivial⟩ fun a hk => ?_
        refine wpListIn_nil ?_
        refine then_n ?_
        cases b209 : (decide (p0 ≤ ((rdD zT45 ([(⟨127, 159⟩ : T45), (⟨768, 879⟩ : T45), (⟨6832, 6911⟩ : T45), (⟨7616, 7679⟩ : T45), (⟨8203, 8207⟩ : T45), (⟨8400, 8447⟩ : T45), (⟨55296, 57343⟩ : T45), (⟨65024, 65039⟩ : T45), (⟨65056, 65071⟩ : T45), (⟨65279, 65279⟩ : T45), (⟨917760, 917999⟩ : T45)] : List T45) x181).a1)))
        · rw [b209] at hk H
          replace H := bifF H
          refine x_if hk (b := false) rfl ?_
          refine (show Code.wpIn _ _ _ _ _ _ _ from ?_)
          refine wpIn_skip ?_
          refine blk_n ?_
          refine then_n ?_
          refine wpIn_region_lit ?_
          refine x_run tab hk (k := 2) (lv := []) (ks := [0, 4, 42, 43, 44]) (e' := [(0, .int .i64 p0), (4, .slice (some ⟨bx10, 0, none⟩) (([(⟨4352, 4447⟩ : T45), (⟨11904, 12350⟩ : T45), (⟨12353, 13311⟩ : T45), (⟨13312, 19903⟩ : T45), (⟨19968, 40959⟩ : T45), (⟨40960, 42191⟩ : T45), (⟨44032, 55203⟩ : T45), (⟨63744, 64255⟩ : T45), (⟨65072, 65135⟩ : T45), (⟨65280, 65376⟩ : T45), (⟨65504, 65510⟩ : T45), (⟨127744, 128591⟩ : T45), (⟨129280, 129535⟩ : T45), (⟨131072, 262141⟩ : T45)] : List T45)).length 14), (42, .slice (some ⟨bx4, 0, none⟩) (([(⟨127, 159⟩ : T45), (⟨768, 879⟩ : T45), (⟨6832, 6911⟩ : T45), (⟨7616, 7679⟩ : T45), (⟨8203, 8207⟩ : T45), (⟨8400, 8447⟩ : T45), (⟨55296, 57343⟩ : T45), (⟨65024, 65039⟩ : T45), (⟨65056, 65071⟩ : T45), (⟨65279, 65279⟩ : T45), (⟨917760, 917999⟩ : T45)] : List T45)).length 11), (43, .int .i64 ((([(⟨127, 159⟩ : T45), (⟨768, 879⟩ : T45), (⟨6832, 6911⟩ : T45), (⟨7616, 7679⟩ : T45), (⟨8203, 8207⟩ : T45), (⟨8400, 8447⟩ : T45), (⟨55296, 57343⟩ : T45), (⟨65024, 65039⟩ : T45), (⟨65056, 65071⟩ : T45), (⟨65279, 65279⟩ : T45), (⟨917760, 917999⟩ : T45)] : List T45)).length : Int)), (44, .int .i64 (IntKind.wrap .i64 (x181 + 1)))]) rfl trivial fun a hk => ?_
          refine wpListIn_nil ?_
          refine then_n ?_
          exact ⟨k195, Nat.le_refl _, o206, (IntKind.wrap .i64 (x181 + 1)), (by exact Kn.pick (ks := [0, 4, 42, 43, 44]) hk rfl), hs, f12, f6, (hlp197 ▸ H)⟩
        · rw [b209] at hk H
          replace H := bifT H
          refine x_if hk (b := true) rfl ?_
          refine (show Code.wpIn _ _ _ _ _ _ _ from ?_)
          refine x_seq ?_
          refine wpIn_region_lit ?_
          refine x_run tab hk (k := 1) (lv := []) (ks := [2]) (e' := [(2, .int .i64 0)]) rfl trivial fun a hk => ?_
          refine wpListIn_nil ?_
          refine then_n ?_
          refine wpIn_ret ?_
          refine blk_r ?_
          refine then_r ?_
          refine then_r ?_
          refine blk_r ?_
          refine then_r ?_
          obtain rfl := Option.some.inj H
          exact x_retG hk (rs := [.tmp 2]) (vs := [.int .i64 0]) rfl ⟨rfl, trivial⟩ ⟨fun b_ => if b_ < w.heap.size then o b_ else (fun _ => 0) (o206 b_), rfl, hs.close0 o (fun _ => 0)⟩
  refine x_seq ?_
  refine wpIn_region_lit ?_
  refine x_run tab hk (k := 3) (lv := []) (ks := [0, 3, 4, 38]) (e' := [(0, .int .i64 p0), (3, .slice (some ⟨bx4, 0, none⟩) (([(⟨127, 159⟩ : T45), (⟨768, 879⟩ : T45), (⟨6832, 6911⟩ : T45), (⟨7616, 7679⟩ : T45), (⟨8203, 8207⟩ : T45), (⟨8400, 8447⟩ : T45), (⟨55296, 57343⟩ : T45), (⟨65024, 65039⟩ : T45), (⟨65056, 65071⟩ : T45), (⟨65279, 65279⟩ : T45), (⟨917760, 917999⟩ : T45)] : List T45)).length 11), (4, .slice (some ⟨bx10, 0, none⟩) (([(⟨4352, 4447⟩ : T45), (⟨11904, 12350⟩ : T45), (⟨12353, 13311⟩ : T45), (⟨13312, 19903⟩ : T45), (⟨19968, 40959⟩ : T45), (⟨40960, 42191⟩ : T45), (⟨44032, 55203⟩ : T45), (⟨63744, 64255⟩ : T45), (⟨65072, 65135⟩ : T45), (⟨65280, 65376⟩ : T45), (⟨65504, 65510⟩ : T45), (⟨127744, 128591⟩ : T45), (⟨129280, 129535⟩ : T45), (⟨131072, 262141⟩ : T45)] : List T45)).length 14), (38, .bool (decide (p0 < (32 : Int))))]) rfl trivial fun a hk => ?_
  cases b210 : (decide (p0 < (32 : Int)))
  · rw [b210] at hk H
    replace H := bifF H
    refine x_run tab hk (k := 3) (lv := []) (ks := [0, 3, 4, 41]) (e' := [(0, .int .i64 p0), (3, .slice (some ⟨bx4, 0, none⟩) (([(⟨127, 159⟩ : T45), (⟨768, 879⟩ : T45), (⟨6832, 6911⟩ : T45), (⟨7616, 7679⟩ : T45), (⟨8203, 8207⟩ : T45), (⟨8400, 8447⟩ : T45), (⟨55296, 57343⟩ : T45), (⟨65024, 65039⟩ : T45), (⟨65056, 65071⟩ : T45), (⟨65279, 65279⟩ : T45), (⟨917760, 917999⟩ : T45)] : List T45)).length 11), (4, .slice (some ⟨bx10, 0, none⟩) (([(⟨4352, 4447⟩ : T45), (⟨11904, 12350⟩ : T45), (⟨12353, 13311⟩ : T45), (⟨13312, 19903⟩ : T45), (⟨19968, 40959⟩ : T45), (⟨40960, 42191⟩ : T45), (⟨44032, 55203⟩ : T45), (⟨63744, 64255⟩ : T45), (⟨65072, 65135⟩ : T45), (⟨65280, 65376⟩ : T45), (⟨65504, 65510⟩ : T45), (⟨127744, 128591⟩ : T45), (⟨129280, 129535⟩ : T45), (⟨131072, 262141⟩ : T45)] : List T45)).length 14), (41, .bool (decide (p0 > (1114111 : Int))))]) rfl trivial fun a hk => ?_
    refine wpListIn_nil ?_
    refine then_n ?_
    cases b211 : (decide (p0 > (1114111 : Int)))
    · rw [b211] at hk H
      replace H := bifF H
      refine x_if hk (b := false) rfl ?_
      refine (show Code.wpIn _ _ _ _ _ _ _ from ?_)
      refine wpIn_skip ?_
      refine then_n ?_
      exact ⟨(fun b_ => (fun l_ => if l_ = 1 then 3 else if l_ = 2 then 4 else l_) (o8 b_)), (by exact Kn.pick (ks := [0, 3, 4]) hk rfl), (hs.relab0 (fun l_ => if l_ = 1 then 3 else if l_ = 2 then 4 else l_) rfl), (f12.relab (fun l_ => if l_ = 1 then 3 else if l_ = 2 then 4 else l_) rfl), (f6.relab (fun l_ => if l_ = 1 then 3 else if l_ = 2 then 4 else l_) rfl), H⟩
    · rw [b211] at hk H
      replace H := bifT H
      refine x_if hk (b := true) rfl ?_
      refine (show Code.wpIn _ _ _ _ _ _ _ from ?_)
      refine x_seq ?_
      refine wpIn_region_lit ?_
      refine x_run tab hk (k := 1) (lv := []) (ks := [2]) (e' := [(2, .int .i64 0)]) rfl trivial fun a hk => ?_
      refine wpListIn_nil ?_
      refine then_n ?_
      refine wpIn_ret ?_
      refine then_r ?_
      obtain rfl := Option.some.inj H
      exact x_retG hk (rs := [.tmp 2]) (vs := [.int .i64 0]) rfl ⟨rfl, trivial⟩ ⟨fun b_ => if b_ < w.heap.size then o b_ else (fun _ => 0) (o8 b_), rfl, hs.close0 o (fun _ => 0)⟩
  · rw [b210] at hk H
    replace H := bifT H
    refine x_run tab hk (k := 3) (lv := []) (ks := [0, 3, 4, 41]) (e' := [(0, .int .i64 p0), (3, .slice (some ⟨bx4, 0, none⟩) (([(⟨127, 159⟩ : T45), (⟨768, 879⟩ : T45), (⟨6832, 6911⟩ : T45), (⟨7616, 7679⟩ : T45), (⟨8203, 8207⟩ : T45), (⟨8400, 8447⟩ : T45), (⟨55296, 57343⟩ : T45), (⟨65024, 65039⟩ : T45), (⟨65056, 65071⟩ : T45), (⟨65279, 65279⟩ : T45), (⟨917760, 917999⟩ : T45)] : List T45)).length 11), (4, .slice (some ⟨bx10, 0, none⟩) (([(⟨4352, 4447⟩ : T45), (⟨11904, 12350⟩ : T45), (⟨12353, 13311⟩ : T45), (⟨13312, 19903⟩ : T45), (⟨19968, 40959⟩ : T45), (⟨40960, 42191⟩ : T45), (⟨44032, 55203⟩ : T45), (⟨63744, 64255⟩ : T45), (⟨65072, 65135⟩ : T45), (⟨65280, 65376⟩ : T45), (⟨65504, 65510⟩ : T45), (⟨127744, 128591⟩ : T45), (⟨129280, 129535⟩ : T45), (⟨131072, 262141⟩ : T45)] : List T45)).length 14), (41, .bool true)]) rfl trivial fun a hk => ?_
    refine wpListIn_nil ?_
    refine then_n ?_
    refine x_if hk (b := true) rfl ?_
    refine (show Code.wpIn _ _ _ _ _ _ _ from ?_)
    refine x_seq ?_
    refine wpIn_region_lit ?_
    refine x_run tab hk (k := 1) (lv := []) (ks := [2]) (e' := [(2, .int .i64 0)]) rfl trivial fun a hk => ?_
    refine wpListIn_nil ?_
    refine then_n ?_
    refine wpIn_ret ?_
    refine then_r ?_
    obtain rfl := Option.some.inj H
    exact x_retG hk (rs := [.tmp 2]) (vs := [.int .i64 0]) rfl ⟨rfl, trivial⟩ ⟨fun b_ => if b_ < w.heap.size then o b_ else (fun _ => 0) (o8 b_), rfl, hs.close0 o (fun _ => 0)⟩

/-! tidewrack/flow.Count -/
theorem flow_Count_calls (K : Nat) (Ap0 : Option Addr) (cp0 : Nat) (p0 : List T24) (p1 : Int) (w : World) (o : Nat → Nat) (Lg0 : Nat) (hg0 : Ft (RdC ET68 (some ⟨0, 0, none⟩) glob0) w o Lg0) (Lg1 : Nat) (hg1 : Ft (RdC ET68 (some ⟨1, 0, none⟩) glob1) w o Lg1) (Lp0 : Nat) (hp0 : Ft (RdC ET24 Ap0 p0) w o Lp0) (hcp0 : (p0).length ≤ cp0) (hd0 : ([Lp0] : List Nat).Nodup) (hd1 : Lg0 ∉ [Lp0]) (hd2 : Lg1 ∉ [Lp0]) (r : Int) (H : flow_Count K p0 p1 = some r) :
    Calls Tryd.prog 10 #[.slice Ap0 (p0).length cp0, .int .i64 p1] w (Ret fun v_ w' => ∃ o' : Nat → Nat, v_ = .int .i64 r ∧ St [] w o w' o') := by
  refine x_enterQ (vs := [.slice Ap0 (p0).length cp0, .int .i64 p1]) Tryd.func10 rfl rfl rfl fun a hk => ?_
  obtain ⟨oi, hs0, h0, h1, hob, hoz, hoa⟩ := St.startM2 w o (m := 1) hd0 rfl
  have hs := hs0 []
  have fg0 := h0 _ _ hd1 hg0
  have fg1 := h0 _ _ hd2 hg1
  have f900000 := h1 0 1 hp0 rfl rfl
  have fxm : Ft (MK []) w oi 2 := Ft.of_all (fun _ => MK.nil _) _ _ _
  clear h0 h1 hs0
  rw [flow_Count] at H
  refine x_seq ?_
  refine wpIn_region_lit ?_
  refine x_run tab hk (k := 1) (lv := []) (ks := [0, 1]) (e' := [(0, .slice Ap0 (p0).length cp0), (1, .int .i64 p1)]) rfl trivial fun a hk => ?_
  refine wpListIn_nil ?_
  refine then_n ?_
  refine x_seq ?_
  refine wpIn_region_lit ?_
  refine x_op hk rfl ?_
  refine op_alloc (o := oi) tab (t := 3) (cs := [.int .i64 0]) rfl rfl 3 fun bx4 w1 o2 st3 f5 => ?_
  replace f900000 := f900000.st st3 (by decide)
  replace fg0 := fg0.st st3 (by decide)
  replace fg1 := fg1.st st3 (by decide)
  replace fxm := fxm.st st3 (by decide)
  replace hs := hs.locQ st3 hob rfl
  have hk := hk.put 5 (.pointer (some ⟨bx4, 0, none⟩)) rfl
  refine x_op hk rfl ?_
  refine op_store tab hk (t := 3) (v := .int .i64 0) (b := bx4) (k := 0) (cs' := [.int .i64 0]) rfl rfl rfl rfl rfl rfl f5 rfl rfl fun w6 o7 st8 f5_ => ?_
  replace f900000 := f900000.st st8 (by decide)
  replace fg0 := fg0.st st8 (by decide)
  replace fg1 := fg1.st st8 (by decide)
  replace fxm := fxm.st st8 (by decide)
  replace hs := hs.locQ st8 hob rfl
  replace f5 := f5_
  refine wpListIn_nil ?_
  refine then_n ?_
  refine x_mid (fun a_ w_ => ∃ o66 : Nat → Nat, ∃ ds67 : List Deferred, ∃ x68 : Int, KnD 13 ds67 a_ [(5, .pointer (some ⟨bx4, 0, none⟩))] ∧ St [] w oi w_ o66 ∧ Ft (Bx bx4 3 [.int .i64 x68]) w_ o66 10 ∧ Ft (RdC ET68 (some ⟨0, 0, none⟩) glob0) w_ o66 0 ∧ Ft (RdC ET68 (some ⟨1, 0, none⟩) glob1) w_ o66 0 ∧ Ft (MK ds67) w_ o66 2 ∧ flow_Count_j1 x68 = some r) ?_ ?_
  rotate_left
  · rintro a w69 ⟨o66, ds67, x68, hk, hs, f5, fg0, fg1, fxm, H⟩
    rw [flow_Count_j1] at H
    refine x_seq ?_
    refine wpIn_region_lit ?_
    refine x_run tab hk (k := 2) (lv := [.int .i64 x68]) (ks := [4]) (e' := [(4, .int .i64 x68)]) rfl ⟨(load1 tab rfl ((Bx.cell f5.now 0).trans rfl)), trivial⟩ fun a hk => ?_
    refine wpListIn_nil ?_
    refine then_n ?_
    refine wpIn_ret ?_
    refine x_retQ hk fxm fun w70 a st71 hk => ?_
    replace fg0 := fg0.st st71 (by decide)
    replace fg1 := fg1.st st71 (by decide)
    replace hs := hs.locQ st71 hob rfl
    obtain rfl := Option.some.inj H
    exact x_retG hk (rs := [.tmp 4]) (vs := [.int .i64 x68]) rfl ⟨rfl, trivial⟩ ⟨fun b_ => if b_ < w.heap.size then o b_ else (fun _ => 0) (o66 b_), rfl, hs.closeQ (Lm := []) (Sh := [Lp0]) hoa rfl (fun _ => 0)⟩
  refine x_seq ?_
  refine wpIn_region_lit ?_
  refine x_run tab hk (k := 2) (lv := []) (ks := [5, 6, 7]) (e' := [(5, .pointer (some ⟨bx4, 0, none⟩)), (6, .slice Ap0 (p0).length cp0), (7, .int .i64 p1)]) rfl trivial fun a hk => ?_
  refine x_op hk rfl ?_
  obtain ⟨t75, hc76, H⟩ := bindS H
  refine op_call hk ent_21 (vs := [.slice Ap0 (p0).length cp0, .int .i64 p1]) rfl (flow_rows_calls Ap0 cp0 p0 p1 _ o7 0 fg0 0 fg1 _ f900000 hcp0 11 12  _ hc76) ?_
  rintro _ w77 ⟨o78, bx80, bx82, rfl, st79, f81, f83⟩
  replace f5 := f5.st st79 (by decide)
  replace f900000 := f900000.st st79 (by decide)
  replace fg0 := fg0.st st79 (by decide)
  replace fg1 := fg1.st st79 (by decide)
  replace fxm := fxm.st st79 (by decide)
  replace hs := hs.locQ st79 hob rfl
  have hk := hk.put 8 (.func (.func 28) #[] #[.pointer (some ⟨bx80, 0, none⟩), .pointer (some ⟨bx82, 0, none⟩)]) rfl
  refine wpListIn_nil ?_
  refine then_n ?_
  refine wpIn_block ?_
  obtain ⟨ys84, hy85, H⟩ := bindS H
  refine x_range 2 13 14 [3] hk rfl ent_28 (flow_rows_1_iter K bx80 t75 bx82 Ap0 cp0 p0 _ _ 0 fg0 0 fg1 11 f81 12 f83 1 f900000 hcp0 (by decide) (by decide) (by decide) (by decide) (by decide) (by decide) (by decide) (by decide) _ hy85) fxm (by rintro _ _ _ ⟨_, _, rfl, _⟩; rfl) rfl rfl (fun rr_ w_ o105 => ∃ x106 : Int, St [] w oi w_ o105 ∧ Ft (Bx bx4 3 [.int .i64 x106]) w_ o105 3 ∧ Ft (RdC ET68 (some ⟨0, 0, none⟩) glob0) w_ o105 0 ∧ Ft (RdC ET68 (some ⟨1, 0, none⟩) glob1) w_ o105 0 ∧ flow_Count_r2 rr_ x106 = some r) (fun c_ w_ o112 => False) ?_ ?_ ⟨0, hs, f5, fg0, fg1, H⟩ ?_ ?_ ?_
  · rintro rr_ w_ _ _ _ ⟨x106, hs, f5, fg0, fg1, H⟩ st_
    exact ⟨x106, hs.locQ st_ hob rfl, f5.st st_ (by decide), fg0.st st_ (by decide), fg1.st st_ (by decide), H⟩
  · exact fun _ _ _ _ _ h_ _ => h_.elim
  · rintro R0_ R1_ lr_ x86 vs_ rest87 w88 o89 ⟨x106, hsO, f5, fg0, fg1, H⟩ hE fxr a hk
    obtain ⟨A93, c94, rfl, hc96, f95⟩ := evc_row hE
    obtain ⟨o90, hs0, hfl, hbB, hoi⟩ := St.startB w88 o89 15
    have hs := hs0 [13, 3]
    replace f5 := hfl f5 rfl
    replace f95 := hfl f95 rfl
    replace fg0 := hfl fg0 rfl
    replace fg1 := hfl fg1 rfl
    replace fxr := hfl fxr rfl
    replace hk : Kn 13 a [(5, .pointer (some ⟨bx4, 0, none⟩)), (9, .slice A93 (x86).length c94)] := Kn.pick (ks := [5, 9]) hk rfl
    rw [flow_Count_r2] at H
    obtain ⟨lp91, hlp92⟩ : ∃ lp_, lp_ = flow_Count_r2 rest87 := ⟨_, rfl⟩
    rw [← hlp92] at H
    refine wpIn_skip ?_
    refine then_n ?_
    refine ⟨_, fxr, fun w115 st116 fxr => ?_⟩
    replace f5 := f5.st st116 (by decide)
    replace f95 := f95.st st116 (by decide)
    replace fg0 := fg0.st st116 (by decide)
    replace fg1 := fg1.st st116 (by decide)
    replace hs := hs.locB st116 rfl hbB
    refine wpIn_block ?_
    refine wpIn_region_lit ?_
    refine x_run tab hk (k := 2) (lv := [.int .i64 x106]) (ks := [5, 11]) (e' := [(5, .pointer (some ⟨bx4, 0, none⟩)), (11, .int .i64 (IntKind.wrap .i64 (x106 + 1)))]) rfl ⟨(load1 tab rfl ((Bx.cell f5.now 0).trans rfl)), trivial⟩ fun a hk => ?_
    refine x_op hk rfl ?_
    refine op_store tab hk (t := 3) (v := .int .i64 (IntKind.wrap .i64 (x106 + 1))) (b := bx4) (k := 0) (cs' := [.int .i64 (IntKind.wrap .i64 (x106 + 1))]) rfl rfl rfl rfl rfl rfl f5 rfl rfl fun w117 o118 st119 f5_ => ?_
    replace fg0 := fg0.st st119 (by decide)
    replace fg1 := fg1.st st119 (by decide)
    replace fxr := fxr.st st119 (by decide)
    replace hs := hs.locB st119 rfl hbB
    replace f5 := f5_
    refine wpListIn_nil ?_
    refine blk_n ?_
    have hq120 := hs.closeB hoi hbB rfl (fun l_ => if l_ = 3 then 3 else 0)
    exact ⟨_, hq120, fxr.now, ⟨(IntKind.wrap .i64 (x106 + 1)), (hsO.locQ hq120 hob rfl), (hs.closeM_ft (o := o89) (ρ := (fun l_ => if l_ = 3 then 3 else 0)) f5 (lab_atB hoi rfl) rfl), (hs.closeM_ft (o := o89) (ρ := (fun l_ => if l_ = 3 then 3 else 0)) fg0 (lab_atB hoi rfl) rfl), (hs.closeM_ft (o := o89) (ρ := (fun l_ => if l_ = 3 then 3 else 0)) fg1 (lab_atB hoi rfl) rfl), (hlp92 ▸ H)⟩⟩
  · rintro ds114 w113 o105 a hk fxm ⟨x106, hs, f5, fg0, fg1, H⟩
    rw [flow_Count_r2] at H
    refine blk_n ?_
    refine then_n ?_
    exact ⟨(fun b_ => (fun l_ => if l_ = 3 then 10 else l_) (o105 b_)), ds114, x106, (by exact Kn.pick (ks := [5]) hk rfl), (hs.relabM hob (fun l_ => if l_ = 3 then 10 else l_) (by decide)), (f5.relab (fun l_ => if l_ = 3 then 10 else l_) rfl), (fg0.relab (fun l_ => if l_ = 3 then 10 else l_) rfl), (fg1.relab (fun l_ => if l_ = 3 then 10 else l_) rfl), (fxm.relab (fun l_ => if l_ = 3 then 10 else l_) rfl), H⟩
  · exact fun _ _ _ _ _ _ _ h_ => h_.elim

/-! tidewrack/tidewracklaw15.FlowCounts -/
theorem tidewracklaw15_FlowCounts_calls (K : Nat) (Ap0 : Option Addr) (cp0 : Nat) (p0 : List T24) (p1 : Int) (w : World) (o : Nat → Nat) (Lg0 : Nat) (hg0 : Ft (RdC ET68 (some ⟨0, 0, none⟩) glob0) w o Lg0) (Lg1 : Nat) (hg1 : Ft (RdC ET68 (some ⟨1, 0, none⟩) glob1) w o Lg1) (Lp0 : Nat) (hp0 : Ft (RdC ET24 Ap0 p0) w o Lp0) (hcp0 : (p0).length ≤ cp0)  (r : Bool) (H : tidewracklaw15_FlowCounts K p0 p1 = some r) :
    Calls Tryd.prog 3 #[.slice Ap0 (p0).length cp0, .int .i64 p1] w (Ret fun v_ w' => ∃ o' : Nat → Nat, v_ = .bool r ∧ St [] w o w' o') := by
  refine x_enter (vs := [.slice Ap0 (p0).length cp0, .int .i64 p1]) Tryd.func3 rfl rfl rfl fun a hk => ?_
  obtain ⟨o0, hs, h0⟩ := St.start w o
  have fg0 := h0 _ _ hg0
  have fg1 := h0 _ _ hg1
  have f900000 := h0 _ _ hp0
  clear h0
  rw [tidewracklaw15_FlowCounts] at H
  refine x_seq ?_
  refine wpIn_region_lit ?_
  refine x_run tab hk (k := 1) (lv := []) (ks := [0, 1]) (e' := [(0, .slice Ap0 (p0).length cp0), (1, .int .i64 p1)]) rfl trivial fun a hk => ?_
  refine wpListIn_nil ?_
  refine then_n ?_
  refine x_seq ?_
  refine x_seq ?_
  refine wpIn_region_lit ?_
  refine x_op hk rfl ?_
  obtain ⟨t4, hc5, H⟩ := bindS H
  refine op_call hk ent_8 (vs := []) rfl (tidewracklaw15_awake_calls K  _ o0 0 fg0 0 fg1   _ hc5) ?_
  rintro _ w6 ⟨o7, rfl, st8⟩
  replace f900000 := f900000.st st8 (by decide)
  replace fg0 := fg0.st st8 (by decide)
  replace fg1 := fg1.st st8 (by decide)
  replace hs := hs.loc0 st8 (by decide)
  have hk := hk.put 9 (.bool t4) rfl
  refine x_run tab hk (k := 1) (lv := []) (ks := [0, 1, 10]) (e' := [(0, .slice Ap0 (p0).length cp0), (1, .int .i64 p1), (10, .bool (!t4))]) rfl trivial fun a hk => ?_
  refine wpListIn_nil ?_
  refine then_n ?_
  cases b9 : (!t4)
  · rw [b9] at hk H
    replace H := bifF H
    refine x_if hk (b := false) rfl ?_
    refine (show Code.wpIn _ _ _ _ _ _ _ from ?_)
    refine wpIn_skip ?_
    refine then_n ?_
    refine x_seq ?_
    refine wpIn_region_lit ?_
    refine x_op hk rfl ?_
    refine op_slice (o := o7) tab hk (vs := []) (cs := []) rfl rfl rfl rfl rfl rfl rfl rfl rfl 1 fun bx13 w10 o11 st12 f14 => ?_
    replace f900000 := f900000.st st12 (by decide)
    replace fg0 := fg0.st st12 (by decide)
    replace fg1 := fg1.st st12 (by decide)
    replace hs := hs.loc0 st12 (by decide)
    have f15 : Ft (Own ET24 25 (.slice (some ⟨bx13, 0, none⟩) (([] : List T24)).length 0) ([] : List T24)) w10 o11 1 := f14.imp fun _ h_ => Own.of_box h_ rfl (by simp)
    have hk := hk.put 11 (.slice (some ⟨bx13, 0, none⟩) (([] : List T24)).length 0) rfl
    obtain ⟨q16, H⟩ := ifS H
    obtain ⟨q17, H⟩ := ifS H
    obtain ⟨A18, c19, ak21, f20, hc22⟩ := ask_cut (P := Tryd.prog) tab (t := 22) rfl rfl f900000 hcp0 none (some (.int .i64 (mnI ((p0).length : Int) 60))) rfl ⟨q16, (by have := q17; have := hcp0; omega), trivial⟩ (by have := q16; have := q17; omega) (by have := q16; have := q17; omega)
    refine x_run tab hk (k := 5) (lv := [.slice A18 ((List.drop 0 (List.take (Int.toNat (mnI ((p0).length : Int) 60)) p0))).length c19]) (ks := [1, 11, 16]) (e' := [(1, .int .i64 p1), (11, .slice (some ⟨bx13, 0, none⟩) (([] : List T24)).length 0), (16, .slice A18 ((List.drop 0 (List.take (Int.toNat (mnI ((p0).length : Int) 60)) p0))).length c19)]) rfl ⟨(ak21 rfl rfl rfl _), trivial⟩ fun a hk => ?_
    refine x_op hk rfl ?_
    obtain ⟨q26, H⟩ := ifS H
    refine op_append (o := o11) (E := ET24) (xs := ([] : List T24)) (ys := (List.drop 0 (List.take (Int.toNat (mnI ((p0).length : Int) 60)) p0))) tab hk rfl rfl rfl rfl rfl rfl rfl f15 f20.now q26 fun A27 c28 w23 o24 st25 f29 hc30 => ?_
    replace f20 := f20.st st25 (by decide)
    replace fg0 := fg0.st st25 (by decide)
    replace fg1 := fg1.st st25 (by decide)
    replace hs := hs.loc0 st25 (by decide)
    have hk := hk.put 17 (.slice A27 ((([] : List T24) ++ (List.drop 0 (List.take (Int.toNat (mnI ((p0).length : Int) 60)) p0)))).length c28) rfl
    refine x_run tab hk (k := 1) (lv := []) (ks := [0, 1]) (e' := [(0, .slice A27 ((([] : List T24) ++ (List.drop 0 (List.take (Int.toNat (mnI ((p0).length : Int) 60)) p0)))).length c28), (1, .int .i64 p1)]) rfl trivial fun a hk => ?_
    refine wpListIn_nil ?_
    refine then_n ?_
    refine x_seq ?_
    refine wpIn_region_lit ?_
    refine x_run tab hk (k := 1) (lv := []) (ks := [0, 1, 5]) (e' := [(0, .slice A27 ((([] : List T24) ++ (List.drop 0 (List.take (Int.toNat (mnI ((p0).length : Int) 60)) p0)))).length c28), (1, .int .i64 p1), (5, .int .i64 0)]) rfl trivial fun a hk => ?_
    refine wpListIn_nil ?_
    refine then_n ?_
    refine x_mid (fun a_ w_ => ∃ o105 : Nat → Nat, ∃ x106 : Int, Kn 64 a_ [(0, .slice A27 ((([] : List T24) ++ (List.drop 0 (List.take (Int.toNat (mnI ((p0).length : Int) 60)) p0)))).length c28), (1, .int .i64 p1), (5, .int .i64 x106)] ∧ St [] w (fun _ => 0) w_ o105 ∧ Ft (Own ET24 25 (.slice A27 ((([] : List T24) ++ (List.drop 0 (List.take (Int.toNat (mnI ((p0).length : Int) 60)) p0)))).length c28) (([] : List T24) ++ (List.drop 0 (List.take (Int.toNat (mnI ((p0).length : Int) 60)) p0)))) w_ o105 8 ∧ Ft (RdC ET68 (some ⟨0, 0, none⟩) glob0) w_ o105 0 ∧ Ft (RdC ET68 (some ⟨1, 0, none⟩) glob1) w_ o105 0 ∧ tidewracklaw15_FlowCounts_j1 K p0 p1 x106 = some r) ?_ ?_
    rotate_left
    · rintro a w107 ⟨o105, x106, hk, hs, f29, fg0, fg1, H⟩
      rw [tidewracklaw15_FlowCounts_j1] at H
      refine x_seq ?_
      refine wpIn_region_lit ?_
      refine x_run tab hk (k := 2) (lv := []) (ks := [0, 1, 5, 31, 32]) (e' := [(0, .slice A27 ((([] : List T24) ++ (List.drop 0 (List.take (Int.toNat (mnI ((p0).length : Int) 60)) p0)))).length c28), (1, .int .i64 p1), (5, .int .i64 x106), (31, .slice A27 ((([] : List T24) ++ (List.drop 0 (List.take (Int.toNat (mnI ((p0).length : Int) 60)) p0)))).length c28), (32, .int .i64 p1)]) rfl trivial fun a hk => ?_
      refine x_op hk rfl ?_
      obtain ⟨t111, hc112, H⟩ := bindS H
      refine op_call hk ent_10 (vs := [.slice A27 ((([] : List T24) ++ (List.drop 0 (List.take (Int.toNat (mnI ((p0).length : Int) 60)) p0)))).length c28, .int .i64 p1]) rfl (flow_Count_calls K A27 c28 (([] : List T24) ++ (List.drop 0 (List.take (Int.toNat (mnI ((p0).length : Int) 60)) p0))) p1 _ o105 0 fg0 0 fg1 8 (f29.imp fun _ h_ => Own.rd h_) hc30 (by decide) (by decide) (by decide)   _ hc112) ?_
      rintro _ w113 ⟨o114, rfl, st115⟩
      replace f29 := f29.st st115 (by decide)
      replace fg0 := fg0.st st115 (by decide)
      replace fg1 := fg1.st st115 (by decide)
      replace hs := hs.loc0 st115 (by decide)
      have hk := hk.put 33 (.int .i64 t111) rfl
      refine x_run tab hk (k := 1) (lv := []) (ks := [0, 1, 5, 8]) (e' := [(0, .slice A27 ((([] : List T24) ++ (List.drop 0 (List.take (Int.toNat (mnI ((p0).length : Int) 60)) p0)))).length c28), (1, .int .i64 p1), (5, .int .i64 x106), (8, .int .i64 t111)]) rfl trivial fun a hk => ?_
      refine wpListIn_nil ?_
      refine then_n ?_
      refine x_seq ?_
      refine wpIn_region_lit ?_
      refine x_run tab hk (k := 4) (lv := []) (ks := [0, 1, 5, 8]) (e' := [(0, .slice A27 ((([] : List T24) ++ (List.drop 0 (List.take (Int.toNat (mnI ((p0).length : Int) 60)) p0)))).length c28), (1, .int .i64 (mxI 2 (mnI p1 1000))), (5, .int .i64 x106), (8, .int .i64 t111)]) rfl trivial fun a hk => ?_
      refine wpListIn_nil ?_
      refine then_n ?_
      refine x_seq ?_
      refine wpIn_region_lit ?_
      obtain ⟨q116, H⟩ := ifS H
      refine x_run tab hk (k := 9) (lv := []) (ks := [0, 1, 5, 8, 45]) (e' := [(0, .slice A27 ((([] : List T24) ++ (List.drop 0 (List.take (Int.toNat (mnI ((p0).length : Int) 60)) p0)))).length c28), (1, .int .i64 (mxI 2 (mnI p1 1000))), (5, .int .i64 x106), (8, .int .i64 t111), (45, .bool (decide (t111 ≥ (IntKind.wrap .i64 (Int.tdiv (IntKind.wrap .i64 ((IntKind.wrap .i64 (x106 + (mxI 2 (mnI p1 1000)))) - 1)) (mxI 2 (mnI p1 1000)))))))]) rfl ⟨q116, trivial⟩ fun a hk => ?_
      cases b117 : (decide (t111 ≥ (IntKind.wrap .i64 (Int.tdiv (IntKind.wrap .i64 ((IntKind.wrap .i64 (x106 + (mxI 2 (mnI p1 1000)))) - 1)) (mxI 2 (mnI p1 1000))))))
      · rw [b117] at hk H
        replace H := bifF H
        refine x_run tab hk (k := 10) (lv := []) (ks := [1, 5, 8, 55]) (e' := [(1, .int .i64 (mxI 2 (mnI p1 1000))), (5, .int .i64 x106), (8, .int .i64 t111), (55, .bool false)]) rfl trivial fun a hk => ?_
        refine x_run tab hk (k := 9) (lv := []) (ks := [4]) (e' := [(4, .bool false)]) rfl trivial fun a hk => ?_
        refine wpListIn_nil ?_
        refine then_n ?_
        refine wpIn_ret ?_
        obtain rfl := Option.some.inj H
        exact x_retG hk (rs := [.tmp 4]) (vs := [.bool false]) rfl ⟨rfl, trivial⟩ ⟨fun b_ => if b_ < w.heap.size then o b_ else (fun _ => 0) (o114 b_), rfl, hs.close0 o (fun _ => 0)⟩
      · rw [b117] at hk H
        replace H := bifT H
        refine x_run tab hk (k := 7) (lv := []) (ks := [1, 5, 8, 52]) (e' := [(1, .int .i64 (mxI 2 (mnI p1 1000))), (5, .int .i64 x106), (8, .int .i64 t111), (52, .bool (decide (t111 ≤ (mxI 1 (((([] : List T24) ++ (List.drop 0 (List.take (Int.toNat (mnI ((p0).length : Int) 60)) p0)))).length : Int)))))]) rfl trivial fun a hk => ?_
        cases b118 : (decide (t111 ≤ (mxI 1 (((([] : List T24) ++ (List.drop 0 (List.take (Int.toNat (mnI ((p0).length : Int) 60)) p0)))).length : Int))))
        · rw [b118] at hk H
          replace H := bifF H
          refine x_run tab hk (k := 10) (lv := []) (ks := [56, 62]) (e' := [(56, .bool false), (62, undef)]) rfl trivial fun a hk => ?_
          refine x_run tab hk (k := 2) (lv := []) (ks := [4]) (e' := [(4, .bool false)]) rfl trivial fun a hk => ?_
          refine wpListIn_nil ?_
          refine then_n ?_
          refine wpIn_ret ?_
          obtain rfl := Option.some.inj H
          exact x_retG hk (rs := [.tmp 4]) (vs := [.bool false]) rfl ⟨rfl, trivial⟩ ⟨fun b_ => if b_ < w.heap.size then o b_ else (fun _ => 0) (o114 b_), rfl, hs.close0 o (fun _ => 0)⟩
        · rw [b118] at hk H
          replace H := bifT H
          refine x_run tab hk (k := 4) (lv := []) (ks := [1, 5, 8, 56]) (e' := [(1, .int .i64 (mxI 2 (mnI p1 1000))), (5, .int .i64 x106), (8, .int .i64 t111), (56, .bool (decide (t111 ≥ (1 : Int))))]) rfl trivial fun a hk => ?_
          cases b119 : (decide (t111 ≥ (1 : Int)))
          · rw [b119] at hk H
            replace H := bifF H
            refine x_run tab hk (k := 8) (lv := []) (ks := [4]) (e' := [(4, .bool false)]) rfl trivial fun a hk => ?_
            refine wpListIn_nil ?_
            refine then_n ?_
            refine wpIn_ret ?_
            obtain rfl := Option.some.inj H
            exact x_retG hk (rs := [.tmp 4]) (vs := [.bool false]) rfl ⟨rfl, trivial⟩ ⟨fun b_ => if b_ < w.heap.size then o b_ else (fun _ => 0) (o114 b_), rfl, hs.close0 o (fun _ => 0)⟩
          · rw [b119] at hk H
            replace H := bifT H
            refine x_run tab hk (k := 8) (lv := []) (ks := [4]) (e' := [(4, .bool ((decide (x106 > (mxI 2 (mnI p1 1000)))) == (decide (t111 > (1 : Int)))))]) rfl trivial fun a hk => ?_
            refine wpListIn_nil ?_
            refine then_n ?_
            refine wpIn_ret ?_
            obtain rfl := Option.some.inj H
            exact x_retG hk (rs := [.tmp 4]) (vs := [.bool ((decide (x106 > (mxI 2 (mnI p1 1000)))) == (decide (t111 > (1 : Int))))]) rfl ⟨rfl, trivial⟩ ⟨fun b_ => if b_ < w.heap.size then o b_ else (fun _ => 0) (o114 b_), rfl, hs.close0 o (fun _ => 0)⟩
    refine x_seq ?_
    refine wpIn_region_lit ?_
    refine x_run tab hk (k := 3) (lv := []) (ks := [0, 1, 5, 18, 19, 20]) (e' := [(0, .slice A27 ((([] : List T24) ++ (List.drop 0 (List.take (Int.toNat (mnI ((p0).length : Int) 60)) p0)))).length c28), (1, .int .i64 p1), (5, .int .i64 0), (18, .slice A27 ((([] : List T24) ++ (List.drop 0 (List.take (Int.toNat (mnI ((p0).length : Int) 60)) p0)))).length c28), (19, .int .i64 (((([] : List T24) ++ (List.drop 0 (List.take (Int.toNat (mnI ((p0).length : Int) 60)) p0)))).length : Int)), (20, .int .i64 0)]) rfl trivial fun a hk => ?_
    refine wpListIn_nil ?_
    refine then_n ?_
    refine wpIn_block ?_
    refine x_loop (fun j_ a_ w_ => ∃ o143 : Nat → Nat, ∃ x144 : Int, ∃ x145 : Int, Kn 64 a_ [(0, .slice A27 ((([] : List T24) ++ (List.drop 0 (List.take (Int.toNat (mnI ((p0).length : Int) 60)) p0)))).length c28), (1, .int .i64 p1), (5, .int .i64 x144), (18, .slice A27 ((([] : List T24) ++ (List.drop 0 (List.take (Int.toNat (mnI ((p0).length : Int) 60)) p0)))).length c28), (19, .int .i64 (((([] : List T24) ++ (List.drop 0 (List.take (Int.toNat (mnI ((p0).length : Int) 60)) p0)))).length : Int)), (20, .int .i64 x145)] ∧ St [] w (fun _ => 0) w_ o143 ∧ Ft (Own ET24 25 (.slice A27 ((([] : List T24) ++ (List.drop 0 (List.take (Int.toNat (mnI ((p0).length : Int) 60)) p0)))).length c28) (([] : List T24) ++ (List.drop 0 (List.take (Int.toNat (mnI ((p0).length : Int) 60)) p0)))) w_ o143 12 ∧ Ft (RdC ET68 (some ⟨0, 0, none⟩) glob0) w_ o143 0 ∧ Ft (RdC ET68 (some ⟨1, 0, none⟩) glob1) w_ o143 0 ∧ tidewracklaw15_FlowCounts_l2 K p0 p1 j_ x144 x145 = some r) (k := K) ⟨(fun b_ => (fun l_ => if l_ = 1 then 12 else l_) (o24 b_)), 0, 0, (by exact Kn.pick (ks := [0, 1, 5, 18, 19, 20]) hk rfl), (hs.relab0 (fun l_ => if l_ = 1 then 12 else l_) rfl), (f29.relab (fun l_ => if l_ = 1 then 12 else l_) rfl), (fg0.relab (fun l_ => if l_ = 1 then 12 else l_) rfl), (fg1.relab (fun l_ => if l_ = 1 then 12 else l_) rfl), H⟩ (by rintro _ _ ⟨_, _, _, _, _, _, _, _, H_⟩; exact absurd (show (none : Option Bool) = some r from H_) (by simp)) ?_
    rintro k166 a w165 ⟨o143, x144, x145, hk, hs, f29, fg0, fg1, H⟩
    rw [tidewracklaw15_FlowCounts_l2] at H
    obtain ⟨lp167, hlp168⟩ : ∃ lp_, lp_ = tidewracklaw15_FlowCounts_l2 K p0 p1 k166 := ⟨_, rfl⟩
    rw [← hlp168] at H
    refine x_seq ?_
    refine wpIn_region_lit ?_
    refine x_run tab hk (k := 1) (lv := []) (ks := [0, 1, 5, 18, 19, 20, 21]) (e' := [(0, .slice A27 ((([] : List T24) ++ (List.drop 0 (List.take (Int.toNat (mnI ((p0).length : Int) 60)) p0)))).length c28), (1, .int .i64 p1), (5, .int .i64 x144), (18, .slice A27 ((([] : List T24) ++ (List.drop 0 (List.take (Int.toNat (mnI ((p0).length : Int) 60)) p0)))).length c28), (19, .int .i64 (((([] : List T24) ++ (List.drop 0 (List.take (Int.toNat (mnI ((p0).length : Int) 60)) p0)))).length : Int)), (20, .int .i64 x145), (21, .bool (decide (x145 < (((([] : List T24) ++ (List.drop 0 (List.take (Int.toNat (mnI ((p0).length : Int) 60)) p0)))).length : Int))))]) rfl trivial fun a hk => ?_
    refine wpListIn_nil ?_
    refine then_n ?_
    refine x_seq ?_
    cases b169 : (decide (x145 < (((([] : List T24) ++ (List.drop 0 (List.take (Int.toNat (mnI ((p0).length : Int) 60)) p0)))).length : Int)))
    · rw [b169] at hk H
      replace H := bifF H
      refine x_if hk (b := false) rfl ?_
      refine (show Code.wpIn _ _ _ _ _ _ _ from ?_)
      refine wpIn_exit ?_
      refine then_x ?_
      refine then_x ?_
      refine blk_x ?_
      refine then_n ?_
      exact ⟨(fun b_ => (fun l_ => if l_ = 12 then 8 else l_) (o143 b_)), x144, (by exact Kn.pick (ks := [0, 1, 5]) hk rfl), (hs.relab0 (fun l_ => if l_ = 12 then 8 else l_) rfl), (f29.relab (fun l_ => if l_ = 12 then 8 else l_) rfl), (fg0.relab (fun l_ => if l_ = 12 then 8 else l_) rfl), (fg1.relab (fun l_ => if l_ = 12 then 8 else l_) rfl), H⟩
    · rw [b169] at hk H
      replace H := bifT H
      refine x_if hk (b := true) rfl ?_
      refine (show Code.wpIn _ _ _ _ _ _ _ from ?_)
      refine wpIn_skip ?_
      refine then_n ?_
      refine x_seq ?_
      refine wpIn_block ?_
      refine x_seq ?_
      refine wpIn_region_lit ?_
      obtain ⟨q170, H⟩ := ifS H
      obtain ⟨ad171, hAad171⟩ := RdC.addr (Own.rd f29.now) q170
      have hk_C := hk
      have f29_C := f29
      have fg0_C := fg0
      have fg1_C := fg1
      subst hAad171
      have hk := hk_C
      clear hk_C
      have f29 := f29_C
      clear f29_C
      have fg0 := fg0_C
      clear fg0_C
      have fg1 := fg1_C
      clear fg1_C
      refine x_run tab hk (k := 2) (lv := [.agg #[.int .i32 ((rdD zT24 (([] : List T24) ++ (List.drop 0 (List.take (Int.toNat (mnI ((p0).length : Int) 60)) p0))) x145).Rune), .int .i64 ((rdD zT24 (([] : List T24) ++ (List.drop 0 (List.take (Int.toNat (mnI ((p0).length : Int) 60)) p0))) x145).Style)]]) (ks := [0, 1, 5, 18, 19, 20, 23]) (e' := [(0, .slice (some ad171) ((([] : List T24) ++ (List.drop 0 (List.take (Int.toNat (mnI ((p0).length : Int) 60)) p0)))).length c28), (1, .int .i64 p1), (5, .int .i64 x144), (18, .slice (some ad171) ((([] : List T24) ++ (List.drop 0 (List.take (Int.toNat (mnI ((p0).length : Int) 60)) p0)))).length c28), (19, .int .i64 (((([] : List T24) ++ (List.drop 0 (List.take (Int.toNat (mnI ((p0).length : Int) 60)) p0)))).length : Int)), (20, .int .i64 x145), (23, .agg #[.int .i32 ((rdD zT24 (([] : List T24) ++ (List.drop 0 (List.take (Int.toNat (mnI ((p0).length : Int) 60)) p0))) x145).Rune), .int .i64 ((rdD zT24 (([] : List T24) ++ (List.drop 0 (List.take (Int.toNat (mnI ((p0).length : Int) 60)) p0))) x145).Style)])]) rfl ⟨q170, (load_elem (E := ET24) (i := x145) (dx := zT24) tab rfl rfl (Own.rd f29.now) q170), trivial⟩ fun a hk => ?_
      refine x_op hk rfl ?_
      refine op_alloc (o := o143) tab (t := 25) (cs := [.int .i32 0, .int .i64 0]) rfl rfl 14 fun bx175 w172 o173 st174 f176 => ?_
      replace f29 := f29.st st174 (by decide)
      replace fg0 := fg0.st st174 (by decide)
      replace fg1 := fg1.st st174 (by decide)
      replace hs := hs.loc0 st174 (by decide)
      have hk := hk.put 7 (.pointer (some ⟨bx175, 0, none⟩)) rfl
      refine x_op hk rfl ?_
      refine op_store tab hk (t := 25) (v := .agg #[.int .i32 ((rdD zT24 (([] : List T24) ++ (List.drop 0 (List.take (Int.toNat (mnI ((p0).length : Int) 60)) p0))) x145).Rune), .int .i64 ((rdD zT24 (([] : List T24) ++ (List.drop 0 (List.take (Int.toNat (mnI ((p0).length : Int) 60)) p0))) x145).Style)]) (b := bx175) (k := 0) (cs' := [.int .i32 ((rdD zT24 (([] : List T24) ++ (List.drop 0 (List.take (Int.toNat (mnI ((p0).length : Int) 60)) p0))) x145).Rune), .int .i64 ((rdD zT24 (([] : List T24) ++ (List.drop 0 (List.take (Int.toNat (mnI ((p0).length : Int) 60)) p0))) x145).Style)]) rfl rfl rfl rfl rfl rfl f176 rfl rfl fun w177 o178 st179 f176_ => ?_
      replace f29 := f29.st st179 (by decide)
      replace fg0 := fg0.st st179 (by decide)
      replace fg1 := fg1.st st179 (by decide)
      replace hs := hs.loc0 st179 (by decide)
      replace f176 := f176_
      refine wpListIn_nil ?_
      refine then_n ?_
      refine wpIn_region_lit ?_
      refine x_run tab hk (k := 4) (lv := [.int .i32 ((rdD zT24 (([] : List T24) ++ (List.drop 0 (List.take (Int.toNat (mnI ((p0).length : Int) 60)) p0))) x145).Rune)]) (ks := [0, 1, 18, 19, 20, 24, 27]) (e' := [(0, .slice (some ad171) ((([] : List T24) ++ (List.drop 0 (List.take (Int.toNat (mnI ((p0).length : Int) 60)) p0)))).length c28), (1, .int .i64 p1), (18, .slice (some ad171) ((([] : List T24) ++ (List.drop 0 (List.take (Int.toNat (mnI ((p0).length : Int) 60)) p0)))).length c28), (19, .int .i64 (((([] : List T24) ++ (List.drop 0 (List.take (Int.toNat (mnI ((p0).length : Int) 60)) p0)))).length : Int)), (20, .int .i64 x145), (24, .int .i64 x144), (27, .int .i64 (IntKind.wrap .i64 ((rdD zT24 (([] : List T24) ++ (List.drop 0 (List.take (Int.toNat (mnI ((p0).length : Int) 60)) p0))) x145).Rune)))]) rfl ⟨(load1 tab rfl ((Bx.cell f176.now 0).trans rfl)), trivial⟩ fun a hk => ?_
      refine x_op hk rfl ?_
      obtain ⟨t183, hc184, H⟩ := bindS H
      refine op_call hk ent_9 (vs := [.int .i64 (IntKind.wrap .i64 ((rdD zT24 (([] : List T24) ++ (List.drop 0 (List.take (Int.toNat (mnI ((p0).length : Int) 60)) p0))) x145).Rune))]) rfl (tidewrackref06_Of_calls K (IntKind.wrap .i64 ((rdD zT24 (([] : List T24) ++ (List.drop 0 (List.take (Int.toNat (mnI ((p0).length : Int) 60)) p0))) x145).Rune)) _ o178    _ hc184) ?_
      rintro _ w185 ⟨o186, rfl, st187⟩
      replace f29 := f29.st st187 (by decide)
      replace fg0 := fg0.st st187 (by decide)
      replace fg1 := fg1.st st187 (by decide)
      replace hs := hs.loc0 st187 (by decide)
      have hk := hk.put 28 (.int .i64 t183) rfl
      refine x_run tab hk (k := 2) (lv := []) (ks := [0, 1, 5, 18, 19, 20]) (e' := [(0, .slice (some ad171) ((([] : List T24) ++ (List.drop 0 (List.take (Int.toNat (mnI ((p0).length : Int) 60)) p0)))).length c28), (1, .int .i64 p1), (5, .int .i64 (IntKind.wrap .i64 (x144 + t183))), (18, .slice (some ad171) ((([] : List T24) ++ (List.drop 0 (List.take (Int.toNat (mnI ((p0).length : Int) 60)) p0)))).length c28), (19, .int .i64 (((([] : List T24) ++ (List.drop 0 (List.take (Int.toNat (mnI ((p0).length : Int) 60)) p0)))).length : Int)), (20, .int .i64 x145)]) rfl trivial fun a hk => ?_
      refine wpListIn_nil ?_
      refine blk_n ?_
      refine then_n ?_
      refine wpIn_region_lit ?_
      refine x_run tab hk (k := 2) (lv := []) (ks := [0, 1, 5, 18, 19, 20]) (e' := [(0, .slice (some ad171) ((([] : List T24) ++ (List.drop 0 (List.take (Int.toNat (mnI ((p0).length : Int) 60)) p0)))).length c28), (1, .int .i64 p1), (5, .int .i64 (IntKind.wrap .i64 (x144 + t183))), (18, .slice (some ad171) ((([] : List T24) ++ (List.drop 0 (List.take (Int.toNat (mnI ((p0).length : Int) 60)) p0)))).length c28), (19, .int .i64 (((([] : List T24) ++ (List.drop 0 (List.take (Int.toNat (mnI ((p0).length : Int) 60)) p0)))).length : Int)), (20, .int .i64 (IntKind.wrap .i64 (x145 + 1)))]) rfl trivial fun a hk => ?_
      refine wpListIn_nil ?_
      refine then_n ?_
      exact ⟨k166, Nat.le_refl _, o186, (IntKind.wrap .i64 (x144 + t183)), (IntKind.wrap .i64 (x145 + 1)), (by exact Kn.pick (ks := [0, 1, 5, 18, 19, 20]) hk rfl), hs, f29, fg0, fg1, (hlp168 ▸ H)⟩
  · rw [b9] at hk H
    replace H := bifT H
    refine x_if hk (b := true) rfl ?_
    refine (show Code.wpIn _ _ _ _ _ _ _ from ?_)
    refine x_seq ?_
    refine wpIn_region_lit ?_
    refine x_run tab hk (k := 1) (lv := []) (ks := [4]) (e' := [(4, .bool false)]) rfl trivial fun a hk => ?_
    refine wpListIn_nil ?_
    refine then_n ?_
    refine wpIn_ret ?_
    refine then_r ?_
    obtain rfl := Option.some.inj H
    exact x_retG hk (rs := [.tmp 4]) (vs := [.bool false]) rfl ⟨rfl, trivial⟩ ⟨fun b_ => if b_ < w.heap.size then o b_ else (fun _ => 0) (o7 b_), rfl, hs.close0 o (fun _ => 0)⟩

end Go.Proofs.YteghllmaknenlaaDoor
