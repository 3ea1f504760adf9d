/- Walks, printed by an own program: the machine's calls compute the plain functions. -/
import Derived.Test.YteghllmaknenlaaDoorW1
set_option linter.unusedVariables false
set_option linter.unusedSimpArgs false
namespace Go.Proofs.YteghllmaknenlaaDoor
open Go Go.Proofs.XC
/-! tidewrack/tidewracklaw14.Told -/
theorem tidewracklaw14_Told_calls (K : Nat) (Ap0 : Option Addr) (cp0 : Nat) (p0 : List T24) (w : World) (o : Nat → Nat) (Lp0 : Nat) (hp0 : Ft (RdC ET24 Ap0 p0) w o Lp0) (hcp0 : (p0).length ≤ cp0)  (R0 : Nat) (r : List T49) (H : tidewracklaw14_Told K p0 = some r) :
    Calls Tryd.prog 11 #[.slice Ap0 (p0).length cp0] w (Ret fun v_ w' => ∃ o' : Nat → Nat, ∃ A0 : Option Addr, ∃ c0 : Nat, v_ = .slice A0 (r).length c0 ∧ St [] w o w' o' ∧ Ft (Own ET49 50 (.slice A0 (r).length c0) r) w' o' R0 ∧ (r).length ≤ c0) := by
  refine x_enter (vs := [.slice Ap0 (p0).length cp0]) Tryd.func11 rfl rfl rfl fun a hk => ?_
  obtain ⟨o0, hs, h0⟩ := St.start w o
  have f900000 := h0 _ _ hp0
  clear h0
  rw [tidewracklaw14_Told] at H
  refine x_seq ?_
  refine wpIn_region_lit ?_
  refine x_run tab hk (k := 1) (lv := []) (ks := [0]) (e' := [(0, .slice Ap0 (p0).length cp0)]) rfl trivial fun a hk => ?_
  refine wpListIn_nil ?_
  refine then_n ?_
  refine x_seq ?_
  refine wpIn_region_lit ?_
  refine x_run tab hk (k := 1) (lv := []) (ks := [0, 3]) (e' := [(0, .slice Ap0 (p0).length cp0), (3, .slice none 0 0)]) rfl trivial fun a hk => ?_
  refine wpListIn_nil ?_
  refine then_n ?_
  refine x_mid (fun a_ w_ => ∃ o100 : Nat → Nat, ∃ A101 : Option Addr, ∃ c102 : Nat, ∃ l103 : List T49, Kn 23 a_ [(3, .slice A101 (l103).length c102)] ∧ St [] w (fun _ => 0) w_ o100 ∧ Ft (Own ET49 50 (.slice A101 (l103).length c102) l103) w_ o100 10 ∧ (l103).length ≤ c102 ∧ tidewracklaw14_Told_j1 l103 = some r) ?_ ?_
  rotate_left
  · rintro a w106 ⟨o100, A101, c102, l103, hk, hs, f104, hc105, H⟩
    rw [tidewracklaw14_Told_j1] at H
    refine x_seq ?_
    refine wpIn_region_lit ?_
    refine x_run tab hk (k := 2) (lv := []) (ks := [2]) (e' := [(2, .slice A101 (l103).length c102)]) rfl trivial fun a hk => ?_
    refine wpListIn_nil ?_
    refine then_n ?_
    refine wpIn_ret ?_
    obtain rfl := Option.some.inj H
    exact x_retG hk (rs := [.tmp 2]) (vs := [.slice A101 (l103).length c102]) rfl ⟨rfl, trivial⟩ ⟨fun b_ => if b_ < w.heap.size then o b_ else (fun _ => R0) (o100 b_), A101, c102, rfl, hs.close0 o (fun _ => R0), hs.close_ft (o := o) (ρ := fun _ => R0) f104 (by decide) rfl, hc105⟩
  refine x_seq ?_
  refine wpIn_region_lit ?_
  refine x_run tab hk (k := 3) (lv := []) (ks := [3, 6, 7, 8]) (e' := [(3, .slice none 0 0), (6, .slice Ap0 (p0).length cp0), (7, .int .i64 ((p0).length : Int)), (8, .int .i64 0)]) rfl trivial fun a hk => ?_
  refine wpListIn_nil ?_
  refine then_n ?_
  refine wpIn_block ?_
  refine x_loop (fun j_ a_ w_ => ∃ o135 : Nat → Nat, ∃ A136 : Option Addr, ∃ c137 : Nat, ∃ l138 : List T49, ∃ x141 : Int, Kn 23 a_ [(3, .slice A136 (l138).length c137), (6, .slice Ap0 (p0).length cp0), (7, .int .i64 ((p0).length : Int)), (8, .int .i64 x141)] ∧ St [] w (fun _ => 0) w_ o135 ∧ Ft (Own ET49 50 (.slice A136 (l138).length c137) l138) w_ o135 14 ∧ Ft (RdC ET24 Ap0 p0) w_ o135 0 ∧ (l138).length ≤ c137 ∧ tidewracklaw14_Told_l2 p0 j_ l138 x141 = some r) (k := K) ⟨o0, none, 0, ([] : List T49), 0, (by exact Kn.pick (ks := [3, 6, 7, 8]) hk rfl), hs, (Ft.of_all (fun _ => Own.nil _ _ _) _ _ _), f900000, (by simp), H⟩ (by rintro _ _ ⟨_, _, _, _, _, _, _, _, _, _, H_⟩; exact absurd (show (none : Option (List T49)) = some r from H_) (by simp)) ?_
  rintro k168 a w167 ⟨o135, A136, c137, l138, x141, hk, hs, f139, f900000, hc140, H⟩
  rw [tidewracklaw14_Told_l2] at H
  obtain ⟨lp169, hlp170⟩ : ∃ lp_, lp_ = tidewracklaw14_Told_l2 p0 k168 := ⟨_, rfl⟩
  rw [← hlp170] at H
  refine x_seq ?_
  refine wpIn_region_lit ?_
  refine x_run tab hk (k := 1) (lv := []) (ks := [3, 6, 7, 8, 9]) (e' := [(3, .slice A136 (l138).length c137), (6, .slice Ap0 (p0).length cp0), (7, .int .i64 ((p0).length : Int)), (8, .int .i64 x141), (9, .bool (decide (x141 < ((p0).length : Int))))]) rfl trivial fun a hk => ?_
  refine wpListIn_nil ?_
  refine then_n ?_
  refine x_seq ?_
  cases b171 : (decide (x141 < ((p0).length : Int)))
  · rw [b171] at hk H
    replace H := bifF H
    refine x_if hk (b := false) rfl ?_
    refine (show Code.wpIn _ _ _ _ _ _ _ from ?_)
    refine wpIn_exit ?_
    refine then_x ?_
    refine then_x ?_
    refine blk_x ?_
    refine then_n ?_
    exact ⟨(fun b_ => (fun l_ => if l_ = 14 then 10 else l_) (o135 b_)), A136, c137, l138, (by exact Kn.pick (ks := [3]) hk rfl), (hs.relab0 (fun l_ => if l_ = 14 then 10 else l_) rfl), (f139.relab (fun l_ => if l_ = 14 then 10 else l_) rfl), hc140, H⟩
  · rw [b171] at hk H
    replace H := bifT H
    refine x_if hk (b := true) rfl ?_
    refine (show Code.wpIn _ _ _ _ _ _ _ from ?_)
    refine wpIn_skip ?_
    refine then_n ?_
    refine x_seq ?_
    refine wpIn_block ?_
    refine x_seq ?_
    refine wpIn_region_lit ?_
    obtain ⟨q172, H⟩ := ifS H
    obtain ⟨ad173, hAad173⟩ := RdC.addr f900000.now q172
    have hk_C := hk
    have f139_C := f139
    have f900000_C := f900000
    subst hAad173
    have hk := hk_C
    clear hk_C
    have f139 := f139_C
    clear f139_C
    have f900000 := f900000_C
    clear f900000_C
    refine x_run tab hk (k := 2) (lv := [.agg #[.int .i32 ((rdD zT24 p0 x141).Rune), .int .i64 ((rdD zT24 p0 x141).Style)]]) (ks := [3, 6, 7, 8, 11]) (e' := [(3, .slice A136 (l138).length c137), (6, .slice (some ad173) (p0).length cp0), (7, .int .i64 ((p0).length : Int)), (8, .int .i64 x141), (11, .agg #[.int .i32 ((rdD zT24 p0 x141).Rune), .int .i64 ((rdD zT24 p0 x141).Style)])]) rfl ⟨q172, (load_elem (E := ET24) (i := x141) (dx := zT24) tab rfl rfl f900000.now q172), trivial⟩ fun a hk => ?_
    refine x_op hk rfl ?_
    refine op_alloc (o := o135) tab (t := 25) (cs := [.int .i32 0, .int .i64 0]) rfl rfl 17 fun bx177 w174 o175 st176 f178 => ?_
    replace f139 := f139.st st176 (by decide)
    replace f900000 := f900000.st st176 (by decide)
    replace hs := hs.loc0 st176 (by decide)
    have hk := hk.put 5 (.pointer (some ⟨bx177, 0, none⟩)) rfl
    refine x_op hk rfl ?_
    refine op_store tab hk (t := 25) (v := .agg #[.int .i32 ((rdD zT24 p0 x141).Rune), .int .i64 ((rdD zT24 p0 x141).Style)]) (b := bx177) (k := 0) (cs' := [.int .i32 ((rdD zT24 p0 x141).Rune), .int .i64 ((rdD zT24 p0 x141).Style)]) rfl rfl rfl rfl rfl rfl f178 rfl rfl fun w179 o180 st181 f178_ => ?_
    replace f139 := f139.st st181 (by decide)
    replace f900000 := f900000.st st181 (by decide)
    replace hs := hs.loc0 st181 (by decide)
    replace f178 := f178_
    refine wpListIn_nil ?_
    refine then_n ?_
    refine wpIn_region_lit ?_
    refine x_run tab hk (k := 7) (lv := [.int .i32 ((rdD zT24 p0 x141).Rune), .int .i64 ((rdD zT24 p0 x141).Style)]) (ks := [6, 7, 8, 12, 18]) (e' := [(6, .slice (some ad173) (p0).length cp0), (7, .int .i64 ((p0).length : Int)), (8, .int .i64 x141), (12, .slice A136 (l138).length c137), (18, .agg #[.int .i64 (IntKind.wrap .i64 ((rdD zT24 p0 x141).Rune)), .int .i64 ((rdD zT24 p0 x141).Style)])]) rfl ⟨(load1 tab rfl ((Bx.cell f178.now 0).trans rfl)), (load1 tab rfl ((Bx.cell f178.now 1).trans rfl)), trivial⟩ fun a hk => ?_
    refine x_op hk rfl ?_
    refine op_slice (o := o180) tab hk (vs := [.agg #[.int .i64 (IntKind.wrap .i64 ((rdD zT24 p0 x141).Rune)), .int .i64 ((rdD zT24 p0 x141).Style)]]) (cs := [.int .i64 (IntKind.wrap .i64 ((rdD zT24 p0 x141).Rune)), .int .i64 ((rdD zT24 p0 x141).Style)]) rfl rfl rfl rfl rfl rfl rfl rfl rfl 18 fun bx185 w182 o183 st184 f186 => ?_
    replace f139 := f139.st st184 (by decide)
    replace f900000 := f900000.st st184 (by decide)
    replace hs := hs.loc0 st184 (by decide)
    have f187 : Ft (Own ET49 50 (.slice (some ⟨bx185, 0, none⟩) (([(⟨(IntKind.wrap .i64 ((rdD zT24 p0 x141).Rune)), (rdD zT24 p0 x141).Style⟩ : T49)] : List T49)).length 1) ([(⟨(IntKind.wrap .i64 ((rdD zT24 p0 x141).Rune)), (rdD zT24 p0 x141).Style⟩ : T49)] : List T49)) w182 o183 18 := f186.imp fun _ h_ => Own.of_box h_ rfl (by simp)
    have hk := hk.put 19 (.slice (some ⟨bx185, 0, none⟩) (([(⟨(IntKind.wrap .i64 ((rdD zT24 p0 x141).Rune)), (rdD zT24 p0 x141).Style⟩ : T49)] : List T49)).length 1) rfl
    refine x_op hk rfl ?_
    obtain ⟨q191, H⟩ := ifS H
    refine op_append (o := o183) (E := ET49) (xs := l138) (ys := ([(⟨(IntKind.wrap .i64 ((rdD zT24 p0 x141).Rune)), (rdD zT24 p0 x141).Style⟩ : T49)] : List T49)) tab hk rfl rfl rfl rfl rfl rfl rfl f139 (Own.rd f187.now) q191 fun A192 c193 w188 o189 st190 f194 hc195 => ?_
    replace f187 := f187.st st190 (by decide)
    replace f900000 := f900000.st st190 (by decide)
    replace hs := hs.loc0 st190 (by decide)
    have hk := hk.put 20 (.slice A192 ((l138 ++ ([(⟨(IntKind.wrap .i64 ((rdD zT24 p0 x141).Rune)), (rdD zT24 p0 x141).Style⟩ : T49)] : List T49))).length c193) rfl
    refine x_run tab hk (k := 1) (lv := []) (ks := [3, 6, 7, 8]) (e' := [(3, .slice A192 ((l138 ++ ([(⟨(IntKind.wrap .i64 ((rdD zT24 p0 x141).Rune)), (rdD zT24 p0 x141).Style⟩ : T49)] : List T49))).length c193), (6, .slice (some ad173) (p0).length cp0), (7, .int .i64 ((p0).length : Int)), (8, .int .i64 x141)]) rfl trivial fun a hk => ?_
    refine wpListIn_nil ?_
    refine blk_n ?_
    refine then_n ?_
    refine wpIn_region_lit ?_
    refine x_run tab hk (k := 2) (lv := []) (ks := [3, 6, 7, 8]) (e' := [(3, .slice A192 ((l138 ++ ([(⟨(IntKind.wrap .i64 ((rdD zT24 p0 x141).Rune)), (rdD zT24 p0 x141).Style⟩ : T49)] : List T49))).length c193), (6, .slice (some ad173) (p0).length cp0), (7, .int .i64 ((p0).length : Int)), (8, .int .i64 (IntKind.wrap .i64 (x141 + 1)))]) rfl trivial fun a hk => ?_
    refine wpListIn_nil ?_
    refine then_n ?_
    exact ⟨k168, Nat.le_refl _, o189, A192, c193, (l138 ++ ([(⟨(IntKind.wrap .i64 ((rdD zT24 p0 x141).Rune)), (rdD zT24 p0 x141).Style⟩ : T49)] : List T49)), (IntKind.wrap .i64 (x141 + 1)), (by exact Kn.pick (ks := [3, 6, 7, 8]) hk rfl), hs, f194, f900000, hc195, (hlp170 ▸ H)⟩

/-! tidewrack/wide.Sum -/
theorem wide_Sum_calls (K : Nat) (Ap0 : Option Addr) (cp0 : Nat) (p0 : List Int) (w : World) (o : Nat → Nat) (Lg0 : Nat) (hg0 : Ft (RdC ET68 (some ⟨0, 0, none⟩) glob0) w o Lg0) (Lg1 : Nat) (hg1 : Ft (RdC ET68 (some ⟨1, 0, none⟩) glob1) w o Lg1) (Lp0 : Nat) (hp0 : Ft (RdC (encInt .i32) Ap0 p0) w o Lp0) (hcp0 : (p0).length ≤ cp0)  (r : Int) (H : wide_Sum K p0 = some r) :
    Calls Tryd.prog 23 #[.slice Ap0 (p0).length cp0] w (Ret fun v_ w' => ∃ o' : Nat → Nat, v_ = .int .i64 r ∧ St [] w o w' o') := by
  refine x_enterQ (vs := [.slice Ap0 (p0).length cp0]) Tryd.func23 rfl rfl rfl fun a hk => ?_
  obtain ⟨o0, hs, h0⟩ := St.start w o
  have fg0 := h0 _ _ hg0
  have fg1 := h0 _ _ hg1
  have f900000 := h0 _ _ hp0
  have fxm : Ft (MK []) w o0 1 := Ft.of_all (fun _ => MK.nil _) _ _ _
  clear h0
  rw [wide_Sum] at H
  refine x_seq ?_
  refine wpIn_region_lit ?_
  refine x_run tab hk (k := 1) (lv := []) (ks := [0]) (e' := [(0, .slice Ap0 (p0).length cp0)]) rfl trivial fun a hk => ?_
  refine wpListIn_nil ?_
  refine then_n ?_
  refine x_seq ?_
  refine wpIn_region_lit ?_
  refine x_op hk rfl ?_
  refine op_alloc (o := o0) tab (t := 3) (cs := [.int .i64 0]) rfl rfl 2 fun bx4 w1 o2 st3 f5 => ?_
  replace f900000 := f900000.st st3 (by decide)
  replace fg0 := fg0.st st3 (by decide)
  replace fg1 := fg1.st st3 (by decide)
  replace fxm := fxm.st st3 (by decide)
  replace hs := hs.loc0 st3 (by decide)
  have hk := hk.put 3 (.pointer (some ⟨bx4, 0, none⟩)) rfl
  refine x_op hk rfl ?_
  refine op_store tab hk (t := 3) (v := .int .i64 0) (b := bx4) (k := 0) (cs' := [.int .i64 0]) rfl rfl rfl rfl rfl rfl f5 rfl rfl fun w6 o7 st8 f5_ => ?_
  replace f900000 := f900000.st st8 (by decide)
  replace fg0 := fg0.st st8 (by decide)
  replace fg1 := fg1.st st8 (by decide)
  replace fxm := fxm.st st8 (by decide)
  replace hs := hs.loc0 st8 (by decide)
  replace f5 := f5_
  refine wpListIn_nil ?_
  refine then_n ?_
  refine x_mid (fun a_ w_ => ∃ o64 : Nat → Nat, ∃ ds65 : List Deferred, ∃ x66 : Int, KnD 12 ds65 a_ [(3, .pointer (some ⟨bx4, 0, none⟩))] ∧ St [] w (fun _ => 0) w_ o64 ∧ Ft (Bx bx4 3 [.int .i64 x66]) w_ o64 8 ∧ Ft (RdC ET68 (some ⟨0, 0, none⟩) glob0) w_ o64 0 ∧ Ft (RdC ET68 (some ⟨1, 0, none⟩) glob1) w_ o64 0 ∧ Ft (MK ds65) w_ o64 1 ∧ wide_Sum_j1 x66 = some r) ?_ ?_
  rotate_left
  · rintro a w67 ⟨o64, ds65, x66, hk, hs, f5, fg0, fg1, fxm, H⟩
    rw [wide_Sum_j1] at H
    refine x_seq ?_
    refine wpIn_region_lit ?_
    refine x_run tab hk (k := 2) (lv := [.int .i64 x66]) (ks := [2]) (e' := [(2, .int .i64 x66)]) rfl ⟨(load1 tab rfl ((Bx.cell f5.now 0).trans rfl)), trivial⟩ fun a hk => ?_
    refine wpListIn_nil ?_
    refine then_n ?_
    refine wpIn_ret ?_
    refine x_retQ hk fxm fun w68 a st69 hk => ?_
    replace fg0 := fg0.st st69 (by decide)
    replace fg1 := fg1.st st69 (by decide)
    replace hs := hs.loc0 st69 (by decide)
    obtain rfl := Option.some.inj H
    exact x_retG hk (rs := [.tmp 2]) (vs := [.int .i64 x66]) rfl ⟨rfl, trivial⟩ ⟨fun b_ => if b_ < w.heap.size then o b_ else (fun _ => 0) (o64 b_), rfl, hs.close0 o (fun _ => 0)⟩
  refine x_seq ?_
  refine wpIn_region_lit ?_
  refine x_run tab hk (k := 1) (lv := []) (ks := [3, 6]) (e' := [(3, .pointer (some ⟨bx4, 0, none⟩)), (6, .slice Ap0 (p0).length cp0)]) rfl trivial fun a hk => ?_
  refine x_op hk rfl ?_
  obtain ⟨t73, hc74, H⟩ := bindS H
  refine op_call hk ent_30 (vs := [.slice Ap0 (p0).length cp0]) rfl (wide_columns_calls Ap0 cp0 p0 _ o7 0 fg0 0 fg1 _ f900000 hcp0 9  _ hc74) ?_
  rintro _ w75 ⟨o76, bx78, rfl, st77, f79⟩
  replace f5 := f5.st st77 (by decide)
  replace f900000 := f900000.st st77 (by decide)
  replace fg0 := fg0.st st77 (by decide)
  replace fg1 := fg1.st st77 (by decide)
  replace fxm := fxm.st st77 (by decide)
  replace hs := hs.loc0 st77 (by decide)
  have hk := hk.put 7 (.func (.func 32) #[] #[.pointer (some ⟨bx78, 0, none⟩)]) rfl
  refine wpListIn_nil ?_
  refine then_n ?_
  refine wpIn_block ?_
  obtain ⟨ys80, hy81, H⟩ := bindS H
  refine x_range 1 10 11 [2] hk rfl ent_32 (wide_columns_1_iter K bx78 Ap0 cp0 p0 _ _ 0 fg0 0 fg1 9 f79 0 f900000 hcp0 (by decide) (by decide) (by decide) (by decide) (by decide) _ hy81) fxm (fun _ _ _ h_ => by subst h_; rfl) rfl rfl (fun rr_ w_ o101 => ∃ x102 : Int, St [] w (fun _ => 0) w_ o101 ∧ Ft (Bx bx4 3 [.int .i64 x102]) w_ o101 2 ∧ Ft (RdC ET68 (some ⟨0, 0, none⟩) glob0) w_ o101 0 ∧ Ft (RdC ET68 (some ⟨1, 0, none⟩) glob1) w_ o101 0 ∧ wide_Sum_r2 rr_ x102 = some r) (fun c_ w_ o108 => False) ?_ ?_ ⟨0, hs, f5, fg0, fg1, H⟩ ?_ ?_ ?_
  · rintro rr_ w_ _ _ _ ⟨x102, hs, f5, fg0, fg1, H⟩ st_
    exact ⟨x102, hs.loc0 st_ (by decide), f5.st st_ (by decide), fg0.st st_ (by decide), fg1.st st_ (by decide), H⟩
  · exact fun _ _ _ _ _ h_ _ => h_.elim
  · rintro R0_ R1_ lr_ x82 vs_ rest83 w84 o85 ⟨x102, hsO, f5, fg0, fg1, H⟩ hE fxr a hk
    obtain rfl : vs_ = [.int .i64 x82.1, .int .i64 x82.2] := hE w84
    obtain ⟨o86, hs0, hfl, hbB, hoi⟩ := St.startB w84 o85 12
    have hs := hs0 [10, 2]
    replace f5 := hfl f5 rfl
    replace fg0 := hfl fg0 rfl
    replace fg1 := hfl fg1 rfl
    replace fxr := hfl fxr rfl
    replace hk : Kn 12 a [(3, .pointer (some ⟨bx4, 0, none⟩)), (8, .int .i64 x82.1), (9, .int .i64 x82.2)] := Kn.pick (ks := [3, 8, 9]) hk rfl
    rw [wide_Sum_r2] at H
    obtain ⟨lp87, hlp88⟩ : ∃ lp_, lp_ = wide_Sum_r2 rest83 := ⟨_, rfl⟩
    rw [← hlp88] at H
    refine wpIn_region_lit ?_
    refine x_run tab hk (k := 1) (lv := []) (ks := [3, 5]) (e' := [(3, .pointer (some ⟨bx4, 0, none⟩)), (5, .int .i64 x82.2)]) rfl trivial fun a hk => ?_
    refine wpListIn_nil ?_
    refine then_n ?_
    refine ⟨_, fxr, fun w111 st112 fxr => ?_⟩
    replace f5 := f5.st st112 (by decide)
    replace fg0 := fg0.st st112 (by decide)
    replace fg1 := fg1.st st112 (by decide)
    replace hs := hs.locB st112 rfl hbB
    refine wpIn_block ?_
    refine wpIn_region_lit ?_
    refine x_run tab hk (k := 1) (lv := []) (ks := [3, 10]) (e' := [(3, .pointer (some ⟨bx4, 0, none⟩)), (10, .int .i64 x82.2)]) rfl trivial fun a hk => ?_
    refine x_op hk rfl ?_
    refine op_store tab hk (t := 3) (v := .int .i64 x82.2) (b := bx4) (k := 0) (cs' := [.int .i64 x82.2]) rfl rfl rfl rfl rfl rfl f5 rfl rfl fun w113 o114 st115 f5_ => ?_
    replace fg0 := fg0.st st115 (by decide)
    replace fg1 := fg1.st st115 (by decide)
    replace fxr := fxr.st st115 (by decide)
    replace hs := hs.locB st115 rfl hbB
    replace f5 := f5_
    refine wpListIn_nil ?_
    refine blk_n ?_
    have hq116 := hs.closeB hoi hbB rfl (fun l_ => if l_ = 2 then 2 else 0)
    exact ⟨_, hq116, fxr.now, ⟨x82.2, (hsO.loc0 hq116 (by decide)), (hs.closeM_ft (o := o85) (ρ := (fun l_ => if l_ = 2 then 2 else 0)) f5 (lab_atB hoi rfl) rfl), (hs.closeM_ft (o := o85) (ρ := (fun l_ => if l_ = 2 then 2 else 0)) fg0 (lab_atB hoi rfl) rfl), (hs.closeM_ft (o := o85) (ρ := (fun l_ => if l_ = 2 then 2 else 0)) fg1 (lab_atB hoi rfl) rfl), (hlp88 ▸ H)⟩⟩
  · rintro ds110 w109 o101 a hk fxm ⟨x102, hs, f5, fg0, fg1, H⟩
    rw [wide_Sum_r2] at H
    refine blk_n ?_
    refine then_n ?_
    exact ⟨(fun b_ => (fun l_ => if l_ = 2 then 8 else l_) (o101 b_)), ds110, x102, (by exact Kn.pick (ks := [3]) hk rfl), (hs.relab0 (fun l_ => if l_ = 2 then 8 else l_) rfl), (f5.relab (fun l_ => if l_ = 2 then 8 else l_) rfl), (fg0.relab (fun l_ => if l_ = 2 then 8 else l_) rfl), (fg1.relab (fun l_ => if l_ = 2 then 8 else l_) rfl), (fxm.relab (fun l_ => if l_ = 2 then 8 else l_) rfl), H⟩
  · exact fun _ _ _ _ _ _ _ h_ => h_.elim

/-! tidewrack/flow.At -/
theorem flow_At_calls (K : Nat) (Ap0 : Option Addr) (cp0 : Nat) (p0 : List T24) (p1 : Int) (p2 : Int) (w : World) (o : Nat → Nat) (Lg0 : Nat) (hg0 : Ft (RdC ET68 (some ⟨0, 0, none⟩) glob0) w o Lg0) (Lg1 : Nat) (hg1 : Ft (RdC ET68 (some ⟨1, 0, none⟩) glob1) w o Lg1) (Lp0 : Nat) (hp0 : Ft (RdC ET24 Ap0 p0) w o Lp0) (hcp0 : (p0).length ≤ cp0) (hd0 : ([Lp0] : List Nat).Nodup) (hd1 : Lg0 ∉ [Lp0]) (hd2 : Lg1 ∉ [Lp0]) (r : Int × Int) (H : flow_At K p0 p1 p2 = some r) :
    Calls Tryd.prog 13 #[.slice Ap0 (p0).length cp0, .int .i64 p1, .int .i64 p2] w (Ret fun v_ w' => ∃ o' : Nat → Nat, v_ = .tuple #[.int .i64 r.1, .int .i64 r.2] ∧ St [] w o w' o') := by
  refine x_enterQ (vs := [.slice Ap0 (p0).length cp0, .int .i64 p1, .int .i64 p2]) Tryd.func13 rfl rfl rfl fun a hk => ?_
  obtain ⟨oi, hs0, h0, h1, hob, hoz, hoa⟩ := St.startM2 w o (m := 1) hd0 rfl
  have hs := hs0 []
  have fg0 := h0 _ _ hd1 hg0
  have fg1 := h0 _ _ hd2 hg1
  have f900000 := h1 0 1 hp0 rfl rfl
  have fxm : Ft (MK []) w oi 2 := Ft.of_all (fun _ => MK.nil _) _ _ _
  clear h0 h1 hs0
  rw [flow_At] at H
  refine x_seq ?_
  refine wpIn_region_lit ?_
  refine x_op hk rfl ?_
  refine op_box (o := oi) (t := 3) (v := .int .i64 p2) (cs := [.int .i64 p2]) hk rfl rfl 3 fun bx4 w1 o2 st3 f5 => ?_
  replace f900000 := f900000.st st3 (by decide)
  replace fg0 := fg0.st st3 (by decide)
  replace fg1 := fg1.st st3 (by decide)
  replace fxm := fxm.st st3 (by decide)
  replace hs := hs.locQ st3 hob rfl
  have hk := hk.put 5 (.pointer (some ⟨bx4, 0, none⟩)) rfl
  refine x_op hk rfl ?_
  refine op_alloc (o := o2) tab (t := 3) (cs := [.int .i64 0]) rfl rfl 4 fun bx9 w6 o7 st8 f10 => ?_
  replace f5 := f5.st st8 (by decide)
  replace f900000 := f900000.st st8 (by decide)
  replace fg0 := fg0.st st8 (by decide)
  replace fg1 := fg1.st st8 (by decide)
  replace fxm := fxm.st st8 (by decide)
  replace hs := hs.locQ st8 hob rfl
  have hk := hk.put 6 (.pointer (some ⟨bx9, 0, none⟩)) rfl
  refine x_op hk rfl ?_
  refine op_alloc (o := o7) tab (t := 3) (cs := [.int .i64 0]) rfl rfl 5 fun bx14 w11 o12 st13 f15 => ?_
  replace f10 := f10.st st13 (by decide)
  replace f5 := f5.st st13 (by decide)
  replace f900000 := f900000.st st13 (by decide)
  replace fg0 := fg0.st st13 (by decide)
  replace fg1 := fg1.st st13 (by decide)
  replace fxm := fxm.st st13 (by decide)
  replace hs := hs.locQ st13 hob rfl
  have hk := hk.put 7 (.pointer (some ⟨bx14, 0, none⟩)) rfl
  refine wpListIn_nil ?_
  refine then_n ?_
  refine x_mid (fun a_ w_ => ∃ o43 : Nat → Nat, ∃ ds44 : List Deferred, KnD 38 ds44 a_ [(0, .slice Ap0 (p0).length cp0), (1, .int .i64 p1), (5, .pointer (some ⟨bx4, 0, none⟩)), (6, .pointer (some ⟨bx9, 0, none⟩)), (7, .pointer (some ⟨bx14, 0, none⟩))] ∧ St [] w oi w_ o43 ∧ Ft (Bx bx9 3 [.int .i64 0]) w_ o43 10 ∧ Ft (Bx bx14 3 [.int .i64 0]) w_ o43 11 ∧ Ft (Bx bx4 3 [.int .i64 p2]) w_ o43 9 ∧ Ft (RdC ET24 Ap0 p0) w_ o43 1 ∧ Ft (RdC ET68 (some ⟨0, 0, none⟩) glob0) w_ o43 0 ∧ Ft (RdC ET68 (some ⟨1, 0, none⟩) glob1) w_ o43 0 ∧ Ft (MK ds44) w_ o43 2 ∧ flow_At_j1 K p0 p1 p2 = some r) ?_ ?_
  rotate_left
  · rintro a w45 ⟨o43, ds44, hk, hs, f10, f15, f5, f900000, fg0, fg1, fxm, H⟩
    rw [flow_At_j1] at H
    refine x_seq ?_
    refine wpIn_region_lit ?_
    refine x_op hk rfl ?_
    refine op_alloc (o := o43) tab (t := 3) (cs := [.int .i64 0]) rfl rfl 12 fun bx49 w46 o47 st48 f50 => ?_
    replace f10 := f10.st st48 (by decide)
    replace f15 := f15.st st48 (by decide)
    replace f5 := f5.st st48 (by decide)
    replace f900000 := f900000.st st48 (by decide)
    replace fg0 := fg0.st st48 (by decide)
    replace fg1 := fg1.st st48 (by decide)
    replace fxm := fxm.st st48 (by decide)
    replace hs := hs.locQ st48 hob rfl
    have hk := hk.put 8 (.pointer (some ⟨bx49, 0, none⟩)) rfl
    refine x_op hk rfl ?_
    refine op_store tab hk (t := 3) (v := .int .i64 0) (b := bx49) (k := 0) (cs' := [.int .i64 0]) rfl rfl rfl rfl rfl rfl f50 rfl rfl fun w51 o52 st53 f50_ => ?_
    replace f10 := f10.st st53 (by decide)
    replace f15 := f15.st st53 (by decide)
    replace f5 := f5.st st53 (by decide)
    replace f900000 := f900000.st st53 (by decide)
    replace fg0 := fg0.st st53 (by decide)
    replace fg1 := fg1.st st53 (by decide)
    replace fxm := fxm.st st53 (by decide)
    replace hs := hs.locQ st53 hob rfl
    replace f50 := f50_
    refine wpListIn_nil ?_
    refine then_n ?_
    refine x_mid (fun a_ w_ => ∃ o427 : Nat → Nat, ∃ ds428 : List Deferred, KnD 38 ds428 a_ [(6, .pointer (some ⟨bx9, 0, none⟩)), (7, .pointer (some ⟨bx14, 0, none⟩))] ∧ St [] w oi w_ o427 ∧ Ft (Bx bx9 3 [.int .i64 0]) w_ o427 28 ∧ Ft (Bx bx14 3 [.int .i64 0]) w_ o427 29 ∧ Ft (RdC ET68 (some ⟨0, 0, none⟩) glob0) w_ o427 0 ∧ Ft (RdC ET68 (some ⟨1, 0, none⟩) glob1) w_ o427 0 ∧ Ft (MK ds428) w_ o427 2 ∧ flow_At_j2 = some r) ?_ ?_
    rotate_left
    · rintro a w429 ⟨o427, ds428, hk, hs, f10, f15, fg0, fg1, fxm, H⟩
      rw [flow_At_j2] at H
      refine x_seq ?_
      refine wpIn_region_lit ?_
      refine x_op hk rfl ?_
      refine op_store tab hk (t := 3) (v := .int .i64 0) (b := bx9) (k := 0) (cs' := [.int .i64 0]) rfl rfl rfl rfl rfl rfl f10 rfl rfl fun w430 o431 st432 f10_ => ?_
      replace f15 := f15.st st432 (by decide)
      replace fg0 := fg0.st st432 (by decide)
      replace fg1 := fg1.st st432 (by decide)
      replace fxm := fxm.st st432 (by decide)
      replace hs := hs.locQ st432 hob rfl
      replace f10 := f10_
      refine x_op hk rfl ?_
      refine op_store tab hk (t := 3) (v := .int .i64 0) (b := bx14) (k := 0) (cs' := [.int .i64 0]) rfl rfl rfl rfl rfl rfl f15 rfl rfl fun w433 o434 st435 f15_ => ?_
      replace f10 := f10.st st435 (by decide)
      replace fg0 := fg0.st st435 (by decide)
      replace fg1 := fg1.st st435 (by decide)
      replace fxm := fxm.st st435 (by decide)
      replace hs := hs.locQ st435 hob rfl
      replace f15 := f15_
      refine wpListIn_nil ?_
      refine then_n ?_
      refine wpIn_ret ?_
      refine x_retQ hk fxm fun w436 a st437 hk => ?_
      replace f10 := f10.st st437 (by decide)
      replace f15 := f15.st st437 (by decide)
      replace fg0 := fg0.st st437 (by decide)
      replace fg1 := fg1.st st437 (by decide)
      replace hs := hs.locQ st437 hob rfl
      obtain rfl := Option.some.inj H
      exact x_retG hk (rs := [.cell 6 3, .cell 7 3]) (vs := [.int .i64 0, .int .i64 0]) rfl ⟨⟨_, rfl, load1 tab rfl ((Bx.cell f10.now 0).trans rfl)⟩, ⟨_, rfl, load1 tab rfl ((Bx.cell f15.now 0).trans rfl)⟩, trivial⟩ ⟨fun b_ => if b_ < w.heap.size then o b_ else (fun _ => 0) (o434 b_), rfl, hs.closeQ (Lm := []) (Sh := [Lp0]) hoa rfl (fun _ => 0)⟩
    refine x_seq ?_
    refine wpIn_region_lit ?_
    refine x_run tab hk (k := 2) (lv := []) (ks := [5, 6, 7, 8, 18, 19]) (e' := [(5, .pointer (some ⟨bx4, 0, none⟩)), (6, .pointer (some ⟨bx9, 0, none⟩)), (7, .pointer (some ⟨bx14, 0, none⟩)), (8, .pointer (some ⟨bx49, 0, none⟩)), (18, .slice Ap0 (p0).length cp0), (19, .int .i64 p1)]) rfl trivial fun a hk => ?_
    refine x_op hk rfl ?_
    obtain ⟨t441, hc442, H⟩ := bindS H
    refine op_call hk ent_21 (vs := [.slice Ap0 (p0).length cp0, .int .i64 p1]) rfl (flow_rows_calls Ap0 cp0 p0 p1 _ o52 0 fg0 0 fg1 _ f900000 hcp0 30 31  _ hc442) ?_
    rintro _ w443 ⟨o444, bx446, bx448, rfl, st445, f447, f449⟩
    replace f10 := f10.st st445 (by decide)
    replace f15 := f15.st st445 (by decide)
    replace f5 := f5.st st445 (by decide)
    replace f50 := f50.st st445 (by decide)
    replace f900000 := f900000.st st445 (by decide)
    replace fg0 := fg0.st st445 (by decide)
    replace fg1 := fg1.st st445 (by decide)
    replace fxm := fxm.st st445 (by decide)
    replace hs := hs.locQ st445 hob rfl
    have hk := hk.put 20 (.func (.func 28) #[] #[.pointer (some ⟨bx446, 0, none⟩), .pointer (some ⟨bx448, 0, none⟩)]) rfl
    refine wpListIn_nil ?_
    refine then_n ?_
    refine wpIn_block ?_
    obtain ⟨ys450, hy451, H⟩ := bindS H
    refine x_range 2 32 33 [9, 10, 11, 12] hk rfl ent_28 (flow_rows_1_iter K bx446 t441 bx448 Ap0 cp0 p0 _ _ 0 fg0 0 fg1 30 f447 31 f449 1 f900000 hcp0 (by decide) (by decide) (by decide) (by decide) (by decide) (by decide) (by decide) (by decide) _ hy451) fxm (by rintro _ _ _ ⟨_, _, rfl, _⟩; rfl) rfl rfl (fun rr_ w_ o573 => ∃ x574 : Int, ∃ x575 : Int, St [] w oi w_ o573 ∧ Ft (Bx bx9 3 [.int .i64 0]) w_ o573 10 ∧ Ft (Bx bx14 3 [.int .i64 0]) w_ o573 11 ∧ Ft (Bx bx4 3 [.int .i64 x574]) w_ o573 9 ∧ Ft (Bx bx49 3 [.int .i64 x575]) w_ o573 12 ∧ Ft (RdC ET68 (some ⟨0, 0, none⟩) glob0) w_ o573 0 ∧ Ft (RdC ET68 (some ⟨1, 0, none⟩) glob1) w_ o573 0 ∧ flow_At_r3 K rr_ x574 x575 = some r) (fun c_ w_ o683 => (c_ = .ret ∧ ∃ x694 : Int, ∃ x695 : Int, St [] w oi w_ o683 ∧ Ft (Bx bx9 3 [.int .i64 x694]) w_ o683 10 ∧ Ft (Bx bx14 3 [.int .i64 x695]) w_ o683 11 ∧ Ft (RdC ET68 (some ⟨0, 0, none⟩) glob0) w_ o683 0 ∧ Ft (RdC ET68 (some ⟨1, 0, none⟩) glob1) w_ o683 0 ∧ flow_At_x4 x694 x695 = some r) ∨ (False)) ?_ ?_ ⟨p2, 0, hs, f10, f15, f5, f50, fg0, fg1, H⟩ ?_ ?_ ?_
    · rintro rr_ w_ _ _ _ ⟨x574, x575, hs, f10, f15, f5, f50, fg0, fg1, H⟩ st_
      exact ⟨x574, x575, hs.locQ st_ hob rfl, f10.st st_ (by decide), f15.st st_ (by decide), f5.st st_ (by decide), f50.st st_ (by decide), fg0.st st_ (by decide), fg1.st st_ (by decide), H⟩
    · rintro c_ w_ _ _ _ (⟨hc_, x694, x695, hs, f10, f15, fg0, fg1, H⟩ | hc_) st_
      · exact (Or.inl ⟨hc_, ⟨x694, x695, hs.locQ st_ hob rfl, f10.st st_ (by decide), f15.st st_ (by decide), fg0.st st_ (by decide), fg1.st st_ (by decide), H⟩⟩)
      · exact hc_.elim
    · rintro R0_ R1_ lr_ x452 vs_ rest453 w454 o455 ⟨x574, x575, hsO, f10, f15, f5, f50, fg0, fg1, H⟩ hE fxr a hk
      obtain ⟨A459, c460, rfl, hc462, f461⟩ := evc_row hE
      obtain ⟨o456, hs0, hfl, hbB, hoi⟩ := St.startB w454 o455 37
      have hs := hs0 [32, 9, 10, 11, 12]
      replace f10 := hfl f10 rfl
      replace f15 := hfl f15 rfl
      replace f461 := hfl f461 rfl
      replace f5 := hfl f5 rfl
      replace f50 := hfl f50 rfl
      replace fg0 := hfl fg0 rfl
      replace fg1 := hfl fg1 rfl
      replace fxr := hfl fxr rfl
      replace hk : Kn 38 a [(5, .pointer (some ⟨bx4, 0, none⟩)), (6, .pointer (some ⟨bx9, 0, none⟩)), (7, .pointer (some ⟨bx14, 0, none⟩)), (8, .pointer (some ⟨bx49, 0, none⟩)), (21, .slice A459 (x452).length c460)] := Kn.pick (ks := [5, 6, 7, 8, 21]) hk rfl
      rw [flow_At_r3] at H
      obtain ⟨lp457, hlp458⟩ : ∃ lp_, lp_ = flow_At_r3 K rest453 := ⟨_, rfl⟩
      rw [← hlp458] at H
      refine wpIn_region_lit ?_
      refine x_run tab hk (k := 1) (lv := []) (ks := [5, 6, 7, 8, 9]) (e' := [(5, .pointer (some ⟨bx4, 0, none⟩)), (6, .pointer (some ⟨bx9, 0, none⟩)), (7, .pointer (some ⟨bx14, 0, none⟩)), (8, .pointer (some ⟨bx49, 0, none⟩)), (9, .slice A459 (x452).length c460)]) rfl trivial fun a hk => ?_
      refine wpListIn_nil ?_
      refine then_n ?_
      refine ⟨_, fxr, fun w698 st699 fxr => ?_⟩
      replace f10 := f10.st st699 (by decide)
      replace f15 := f15.st st699 (by decide)
      replace f461 := f461.st st699 (by decide)
      replace f5 := f5.st st699 (by decide)
      replace f50 := f50.st st699 (by decide)
      replace fg0 := fg0.st st699 (by decide)
      replace fg1 := fg1.st st699 (by decide)
      replace hs := hs.locB st699 rfl hbB
      refine wpIn_block ?_
      refine x_seq ?_
      refine x_seq ?_
      refine wpIn_region_lit ?_
      refine x_run tab hk (k := 4) (lv := [.int .i64 x574]) (ks := [5, 6, 7, 8, 9, 25]) (e' := [(5, .pointer (some ⟨bx4, 0, none⟩)), (6, .pointer (some ⟨bx9, 0, none⟩)), (7, .pointer (some ⟨bx14, 0, none⟩)), (8, .pointer (some ⟨bx49, 0, none⟩)), (9, .slice A459 (x452).length c460), (25, .bool (decide (x574 < ((x452).length : Int))))]) rfl ⟨(load1 tab rfl ((Bx.cell f5.now 0).trans rfl)), trivial⟩ fun a hk => ?_
      refine wpListIn_nil ?_
      refine then_n ?_
      cases b700 : (decide (x574 < ((x452).length : Int)))
      · rw [b700] at hk H
        replace H := bifF H
        refine x_if hk (b := false) rfl ?_
        refine (show Code.wpIn _ _ _ _ _ _ _ from ?_)
        refine wpIn_skip ?_
        refine then_n ?_
        refine x_seq ?_
        refine wpIn_region_lit ?_
        refine x_run tab hk (k := 4) (lv := [.int .i64 x574]) (ks := [5, 6, 7, 8, 35]) (e' := [(5, .pointer (some ⟨bx4, 0, none⟩)), (6, .pointer (some ⟨bx9, 0, none⟩)), (7, .pointer (some ⟨bx14, 0, none⟩)), (8, .pointer (some ⟨bx49, 0, none⟩)), (35, .int .i64 (IntKind.wrap .i64 (x574 - ((x452).length : Int))))]) rfl ⟨(load1 tab rfl ((Bx.cell f5.now 0).trans rfl)), trivial⟩ fun a hk => ?_
        refine x_op hk rfl ?_
        refine op_store tab hk (t := 3) (v := .int .i64 (IntKind.wrap .i64 (x574 - ((x452).length : Int)))) (b := bx4) (k := 0) (cs' := [.int .i64 (IntKind.wrap .i64 (x574 - ((x452).length : Int)))]) rfl rfl rfl rfl rfl rfl f5 rfl rfl fun w701 o702 st703 f5_ => ?_
        replace f10 := f10.st st703 (by decide)
        replace f15 := f15.st st703 (by decide)
        replace f50 := f50.st st703 (by decide)
        replace fg0 := fg0.st st703 (by decide)
        replace fg1 := fg1.st st703 (by decide)
        replace fxr := fxr.st st703 (by decide)
        replace hs := hs.locB st703 rfl hbB
        replace f5 := f5_
        refine wpListIn_nil ?_
        refine then_n ?_
        refine wpIn_region_lit ?_
        refine x_run tab hk (k := 2) (lv := [.int .i64 x575]) (ks := [5, 6, 7, 8, 37]) (e' := [(5, .pointer (some ⟨bx4, 0, none⟩)), (6, .pointer (some ⟨bx9, 0, none⟩)), (7, .pointer (some ⟨bx14, 0, none⟩)), (8, .pointer (some ⟨bx49, 0, none⟩)), (37, .int .i64 (IntKind.wrap .i64 (x575 + 1)))]) rfl ⟨(load1 tab rfl ((Bx.cell f50.now 0).trans rfl)), trivial⟩ fun a hk => ?_
        refine x_op hk rfl ?_
        refine op_store tab hk (t := 3) (v := .int .i64 (IntKind.wrap .i64 (x575 + 1))) (b := bx49) (k := 0) (cs' := [.int .i64 (IntKind.wrap .i64 (x575 + 1))]) rfl rfl rfl rfl rfl rfl f50 rfl rfl fun w704 o705 st706 f50_ => ?_
        replace f10 := f10.st st706 (by decide)
        replace f15 := f15.st st706 (by decide)
        replace f5 := f5.st st706 (by decide)
        replace fg0 := fg0.st st706 (by decide)
        replace fg1 := fg1.st st706 (by decide)
        replace fxr := fxr.st st706 (by decide)
        replace hs := hs.locB st706 rfl hbB
        replace f50 := f50_
        refine wpListIn_nil ?_
        refine blk_n ?_
        have hq707 := hs.closeB hoi hbB rfl (fun l_ => if l_ = 9 then 9 else if l_ = 10 then 10 else if l_ = 11 then 11 else if l_ = 12 then 12 else 0)
        exact ⟨_, hq707, fxr.now, ⟨(IntKind.wrap .i64 (x574 - ((x452).length : Int))), (IntKind.wrap .i64 (x575 + 1)), (hsO.locQ hq707 hob rfl), (hs.closeM_ft (o := o455) (ρ := (fun l_ => if l_ = 9 then 9 else if l_ = 10 then 10 else if l_ = 11 then 11 else if l_ = 12 then 12 else 0)) f10 (lab_atB hoi rfl) rfl), (hs.closeM_ft (o := o455) (ρ := (fun l_ => if l_ = 9 then 9 else if l_ = 10 then 10 else if l_ = 11 then 11 else if l_ = 12 then 12 else 0)) f15 (lab_atB hoi rfl) rfl), (hs.closeM_ft (o := o455) (ρ := (fun l_ => if l_ = 9 then 9 else if l_ = 10 then 10 else if l_ = 11 then 11 else if l_ = 12 then 12 else 0)) f5 (lab_atB hoi rfl) rfl), (hs.closeM_ft (o := o455) (ρ := (fun l_ => if l_ = 9 then 9 else if l_ = 10 then 10 else if l_ = 11 then 11 else if l_ = 12 then 12 else 0)) f50 (lab_atB hoi rfl) rfl), (hs.closeM_ft (o := o455) (ρ := (fun l_ => if l_ = 9 then 9 else if l_ = 10 then 10 else if l_ = 11 then 11 else if l_ = 12 then 12 else 0)) fg0 (lab_atB hoi rfl) rfl), (hs.closeM_ft (o := o455) (ρ := (fun l_ => if l_ = 9 then 9 else if l_ = 10 then 10 else if l_ = 11 then 11 else if l_ = 12 then 12 else 0)) fg1 (lab_atB hoi rfl) rfl), (hlp458 ▸ H)⟩⟩
      · rw [b700] at hk H
        replace H := bifT H
        refine x_if hk (b := true) rfl ?_
        refine (show Code.wpIn _ _ _ _ _ _ _ from ?_)
        refine x_seq ?_
        refine xd_begin (o := o456) (fun W_ => (Bx bx4 3 [.int .i64 x574]) W_ ∧ (Bx bx49 3 [.int .i64 x575]) W_ ∧ True) mixed rfl rfl fun w771 st772 => ?_
        replace f10 := f10.st st772 (by decide)
        replace f15 := f15.st st772 (by decide)
        replace f461 := f461.st st772 (by decide)
        replace f5 := f5.st st772 (by decide)
        replace f50 := f50.st st772 (by decide)
        replace fg0 := fg0.st st772 (by decide)
        replace fg1 := fg1.st st772 (by decide)
        replace fxr := fxr.st st772 (by decide)
        replace hs := hs.locB st772 rfl hbB
        obtain ⟨q773, H⟩ := ifS H
        obtain ⟨q774, H⟩ := ifS H
        obtain ⟨A775, c776, ak778, f777, hc779⟩ := ask_cut (P := Tryd.prog) tab (t := 22) rfl rfl f461 hc462 none (some (.int .i64 x574)) rfl ⟨q773, (by have := q774; have := hc462; omega), trivial⟩ (by have := q773; have := q774; omega) (by have := q773; have := q774; omega)
        refine xd_take tab hk (k := 4) (is := [0, 1, 2, 3]) (ls' := #[true, true, true, true, false, false, false, false]) (lv := [.int .i64 x575, .int .i64 x574, .slice A775 ((List.drop 0 (List.take (Int.toNat x574) x452))).length c776]) (ks := [6, 7, 26, 29]) (e' := [(6, .pointer (some ⟨bx9, 0, none⟩)), (7, .pointer (some ⟨bx14, 0, none⟩)), (26, .int .i64 x575), (29, .slice A775 ((List.drop 0 (List.take (Int.toNat x574) x452))).length c776)]) (by kernel_rfl) rfl rfl (by kernel_rfl) (np_then (np_then (np_blk np_RQ))) ⟨f5.now, f50.now, trivial⟩ (fun W_ hS => ⟨(load1 tab rfl ((Bx.cell hS.2.1 0).trans rfl)), (load1 tab rfl ((Bx.cell hS.1 0).trans rfl)), (ak778 rfl rfl rfl _), trivial⟩) fun a hk => ?_
        refine xd_op hk (i := 4) (by kernel_rfl) rfl rfl ?_
        obtain ⟨t783, hc784, H⟩ := bindS H
        refine op_call hk ent_24 (vs := [.slice A775 ((List.drop 0 (List.take (Int.toNat x574) x452))).length c776]) rfl (flow_runes_calls K A775 c776 (List.drop 0 (List.take (Int.toNat x574) x452)) _ o456 _ f777 hc779 44  _ hc784) ?_
        rintro _ w785 ⟨o786, A788, c789, rfl, st787, f790, hc791⟩
        replace f10 := f10.st st787 (by decide)
        replace f15 := f15.st st787 (by decide)
        replace f461 := f461.st st787 (by decide)
        replace f5 := f5.st st787 (by decide)
        replace f50 := f50.st st787 (by decide)
        replace f777 := f777.st st787 (by decide)
        replace fg0 := fg0.st st787 (by decide)
        replace fg1 := fg1.st st787 (by decide)
        replace fxr := fxr.st st787 (by decide)
        replace hs := hs.locB st787 rfl hbB
        have hk := hk.put 30 (.slice A788 (t783).length c789) rfl
        refine ⟨.inr ⟨f5.now, f50.now, trivial⟩, ?_⟩
        refine xd_op hk (i := 5) (by kernel_rfl) rfl rfl ?_
        obtain ⟨t795, hc796, H⟩ := bindS H
        refine op_call hk ent_23 (vs := [.slice A788 (t783).length c789]) rfl (wide_Sum_calls K A788 c789 t783 _ o786 0 fg0 0 fg1 _ (f790.imp fun _ h_ => Own.rd h_) hc791   _ hc796) ?_
        rintro _ w797 ⟨o798, rfl, st799⟩
        replace f10 := f10.st st799 (by decide)
        replace f15 := f15.st st799 (by decide)
        replace f461 := f461.st st799 (by decide)
        replace f5 := f5.st st799 (by decide)
        replace f50 := f50.st st799 (by decide)
        replace f777 := f777.st st799 (by decide)
        replace f790 := f790.st st799 (by decide)
        replace fg0 := fg0.st st799 (by decide)
        replace fg1 := fg1.st st799 (by decide)
        replace fxr := fxr.st st799 (by decide)
        replace hs := hs.locB st799 rfl hbB
        have hk := hk.put 31 (.int .i64 t795) rfl
        refine ⟨.inr ⟨f5.now, f50.now, trivial⟩, ?_⟩
        refine xd_op hk (i := 6) (by kernel_rfl) rfl rfl ?_
        refine op_store tab hk (t := 3) (v := .int .i64 x575) (b := bx9) (k := 0) (cs' := [.int .i64 x575]) rfl rfl rfl rfl rfl rfl f10 rfl rfl fun w800 o801 st802 f10_ => ?_
        replace f15 := f15.st st802 (by decide)
        replace f461 := f461.st st802 (by decide)
        replace f5 := f5.st st802 (by decide)
        replace f50 := f50.st st802 (by decide)
        replace f777 := f777.st st802 (by decide)
        replace f790 := f790.st st802 (by decide)
        replace fg0 := fg0.st st802 (by decide)
        replace fg1 := fg1.st st802 (by decide)
        replace fxr := fxr.st st802 (by decide)
        replace hs := hs.locB st802 rfl hbB
        replace f10 := f10_
        refine ⟨.inr ⟨f5.now, f50.now, trivial⟩, ?_⟩
        refine xd_op hk (i := 7) (by kernel_rfl) rfl rfl ?_
        refine op_store tab hk (t := 3) (v := .int .i64 t795) (b := bx14) (k := 0) (cs' := [.int .i64 t795]) rfl rfl rfl rfl rfl rfl f15 rfl rfl fun w803 o804 st805 f15_ => ?_
        replace f10 := f10.st st805 (by decide)
        replace f461 := f461.st st805 (by decide)
        replace f5 := f5.st st805 (by decide)
        replace f50 := f50.st st805 (by decide)
        replace f777 := f777.st st805 (by decide)
        replace f790 := f790.st st805 (by decide)
        replace fg0 := fg0.st st805 (by decide)
        replace fg1 := fg1.st st805 (by decide)
        replace fxr := fxr.st st805 (by decide)
        replace hs := hs.locB st805 rfl hbB
        replace f15 := f15_
        refine ⟨.inl (by kernel_rfl), ?_⟩
        refine xd_done (by kernel_rfl) ?_
        refine then_n ?_
        refine wpIn_ret ?_
        refine then_r ?_
        refine blk_r ?_
        have hq806 := hs.closeB hoi hbB rfl (fun l_ => if l_ = 10 then 10 else if l_ = 11 then 11 else 0)
        exact ⟨_, hq806, fxr.now, Or.inl ⟨rfl, ⟨x575, t795, (hsO.locQ hq806 hob rfl), (hs.closeM_ft (o := o455) (ρ := (fun l_ => if l_ = 10 then 10 else if l_ = 11 then 11 else 0)) f10 (lab_atB hoi rfl) rfl), (hs.closeM_ft (o := o455) (ρ := (fun l_ => if l_ = 10 then 10 else if l_ = 11 then 11 else 0)) f15 (lab_atB hoi rfl) rfl), (hs.closeM_ft (o := o455) (ρ := (fun l_ => if l_ = 10 then 10 else if l_ = 11 then 11 else 0)) fg0 (lab_atB hoi rfl) rfl), (hs.closeM_ft (o := o455) (ρ := (fun l_ => if l_ = 10 then 10 else if l_ = 11 then 11 else 0)) fg1 (lab_atB hoi rfl) rfl), H⟩⟩⟩
    · rintro ds685 w684 o573 a hk fxm ⟨x574, x575, hs, f10, f15, f5, f50, fg0, fg1, H⟩
      rw [flow_At_r3] at H
      refine blk_n ?_
      refine then_n ?_
      exact ⟨(fun b_ => (fun l_ => if l_ = 10 then 28 else if l_ = 11 then 29 else l_) (o573 b_)), ds685, (by exact Kn.pick (ks := [6, 7]) hk rfl), (hs.relabM hob (fun l_ => if l_ = 10 then 28 else if l_ = 11 then 29 else l_) (by decide)), (f10.relab (fun l_ => if l_ = 10 then 28 else if l_ = 11 then 29 else l_) rfl), (f15.relab (fun l_ => if l_ = 10 then 28 else if l_ = 11 then 29 else l_) rfl), (fg0.relab (fun l_ => if l_ = 10 then 28 else if l_ = 11 then 29 else l_) rfl), (fg1.relab (fun l_ => if l_ = 10 then 28 else if l_ = 11 then 29 else l_) rfl), (fxm.relab (fun l_ => if l_ = 10 then 28 else if l_ = 11 then 29 else l_) rfl), H⟩
    · rintro c_ ds685 w684 o683 a hk fxm (⟨rfl, x694, x695, hs, f10, f15, fg0, fg1, H⟩ | hc_)
      · rw [flow_At_x4] at H
        refine wpIn_ret ?_
        refine blk_r ?_
        refine then_r ?_
        refine x_retQ hk fxm fun w696 a st697 hk => ?_
        replace f10 := f10.st st697 (by decide)
        replace f15 := f15.st st697 (by decide)
        replace fg0 := fg0.st st697 (by decide)
        replace fg1 := fg1.st st697 (by decide)
        replace hs := hs.locQ st697 hob rfl
        obtain rfl := Option.some.inj H
        exact x_retG hk (rs := [.cell 6 3, .cell 7 3]) (vs := [.int .i64 x694, .int .i64 x695]) rfl ⟨⟨_, rfl, load1 tab rfl ((Bx.cell f10.now 0).trans rfl)⟩, ⟨_, rfl, load1 tab rfl ((Bx.cell f15.now 0).trans rfl)⟩, trivial⟩ ⟨fun b_ => if b_ < w.heap.size then o b_ else (fun _ => 0) (o683 b_), rfl, hs.closeQ (Lm := []) (Sh := [Lp0]) hoa rfl (fun _ => 0)⟩
      · exact hc_.elim
  refine x_mid (fun a_ w_ => ∃ o816 : Nat → Nat, ∃ ds817 : List Deferred, ∃ x818 : Bool, KnD 38 ds817 a_ [(0, .slice Ap0 (p0).length cp0), (1, .int .i64 p1), (5, .pointer (some ⟨bx4, 0, none⟩)), (6, .pointer (some ⟨bx9, 0, none⟩)), (7, .pointer (some ⟨bx14, 0, none⟩)), (17, .bool x818)] ∧ St [] w oi w_ o816 ∧ Ft (Bx bx9 3 [.int .i64 0]) w_ o816 46 ∧ Ft (Bx bx14 3 [.int .i64 0]) w_ o816 47 ∧ Ft (Bx bx4 3 [.int .i64 p2]) w_ o816 45 ∧ Ft (RdC ET24 Ap0 p0) w_ o816 1 ∧ Ft (RdC ET68 (some ⟨0, 0, none⟩) glob0) w_ o816 0 ∧ Ft (RdC ET68 (some ⟨1, 0, none⟩) glob1) w_ o816 0 ∧ Ft (MK ds817) w_ o816 2 ∧ flow_At_j5 K p0 p1 p2 x818 = some r) ?_ ?_
  rotate_left
  · rintro a w819 ⟨o816, ds817, x818, hk, hs, f10, f15, f5, f900000, fg0, fg1, fxm, H⟩
    rw [flow_At_j5] at H
    cases b820 : x818
    · rw [b820] at hk H
      replace H := bifF H
      refine x_if hk (b := false) rfl ?_
      refine (show Code.wpIn _ _ _ _ _ _ _ from ?_)
      refine wpIn_skip ?_
      refine then_n ?_
      exact ⟨(fun b_ => (fun l_ => if l_ = 45 then 9 else if l_ = 46 then 10 else if l_ = 47 then 11 else l_) (o816 b_)), ds817, (by exact Kn.pick (ks := [0, 1, 5, 6, 7]) hk rfl), (hs.relabM hob (fun l_ => if l_ = 45 then 9 else if l_ = 46 then 10 else if l_ = 47 then 11 else l_) (by decide)), (f10.relab (fun l_ => if l_ = 45 then 9 else if l_ = 46 then 10 else if l_ = 47 then 11 else l_) rfl), (f15.relab (fun l_ => if l_ = 45 then 9 else if l_ = 46 then 10 else if l_ = 47 then 11 else l_) rfl), (f5.relab (fun l_ => if l_ = 45 then 9 else if l_ = 46 then 10 else if l_ = 47 then 11 else l_) rfl), (f900000.relab (fun l_ => if l_ = 45 then 9 else if l_ = 46 then 10 else if l_ = 47 then 11 else l_) rfl), (fg0.relab (fun l_ => if l_ = 45 then 9 else if l_ = 46 then 10 else if l_ = 47 then 11 else l_) rfl), (fg1.relab (fun l_ => if l_ = 45 then 9 else if l_ = 46 then 10 else if l_ = 47 then 11 else l_) rfl), (fxm.relab (fun l_ => if l_ = 45 then 9 else if l_ = 46 then 10 else if l_ = 47 then 11 else l_) rfl), H⟩
    · rw [b820] at hk H
      replace H := bifT H
      refine x_if hk (b := true) rfl ?_
      refine (show Code.wpIn _ _ _ _ _ _ _ from ?_)
      refine x_seq ?_
      refine wpIn_region_lit ?_
      refine x_op hk rfl ?_
      refine op_store tab hk (t := 3) (v := .int .i64 0) (b := bx9) (k := 0) (cs' := [.int .i64 0]) rfl rfl rfl rfl rfl rfl f10 rfl rfl fun w821 o822 st823 f10_ => ?_
      replace f15 := f15.st st823 (by decide)
      replace f5 := f5.st st823 (by decide)
      replace f900000 := f900000.st st823 (by decide)
      replace fg0 := fg0.st st823 (by decide)
      replace fg1 := fg1.st st823 (by decide)
      replace fxm := fxm.st st823 (by decide)
      replace hs := hs.locQ st823 hob rfl
      replace f10 := f10_
      refine x_op hk rfl ?_
      refine op_store tab hk (t := 3) (v := .int .i64 0) (b := bx14) (k := 0) (cs' := [.int .i64 0]) rfl rfl rfl rfl rfl rfl f15 rfl rfl fun w824 o825 st826 f15_ => ?_
      replace f10 := f10.st st826 (by decide)
      replace f5 := f5.st st826 (by decide)
      replace f900000 := f900000.st st826 (by decide)
      replace fg0 := fg0.st st826 (by decide)
      replace fg1 := fg1.st st826 (by decide)
      replace fxm := fxm.st st826 (by decide)
      replace hs := hs.locQ st826 hob rfl
      replace f15 := f15_
      refine wpListIn_nil ?_
      refine then_n ?_
      refine wpIn_ret ?_
      refine then_r ?_
      refine x_retQ hk fxm fun w827 a st828 hk => ?_
      replace f10 := f10.st st828 (by decide)
      replace f15 := f15.st st828 (by decide)
      replace f5 := f5.st st828 (by decide)
      replace f900000 := f900000.st st828 (by decide)
      replace fg0 := fg0.st st828 (by decide)
      replace fg1 := fg1.st st828 (by decide)
      replace hs := hs.locQ st828 hob rfl
      obtain rfl := Option.some.inj H
      exact x_retG hk (rs := [.cell 6 3, .cell 7 3]) (vs := [.int .i64 0, .int .i64 0]) rfl ⟨⟨_, rfl, load1 tab rfl ((Bx.cell f10.now 0).trans rfl)⟩, ⟨_, rfl, load1 tab rfl ((Bx.cell f15.now 0).trans rfl)⟩, trivial⟩ ⟨fun b_ => if b_ < w.heap.size then o b_ else (fun _ => 0) (o825 b_), rfl, hs.closeQ (Lm := []) (Sh := [Lp0]) hoa rfl (fun _ => 0)⟩
  refine wpIn_region_lit ?_
  refine x_run tab hk (k := 3) (lv := [.int .i64 p2]) (ks := [0, 1, 5, 6, 7, 12]) (e' := [(0, .slice Ap0 (p0).length cp0), (1, .int .i64 p1), (5, .pointer (some ⟨bx4, 0, none⟩)), (6, .pointer (some ⟨bx9, 0, none⟩)), (7, .pointer (some ⟨bx14, 0, none⟩)), (12, .bool (decide (p2 < (0 : Int))))]) rfl ⟨(load1 tab rfl ((Bx.cell f5.now 0).trans rfl)), trivial⟩ fun a hk => ?_
  cases b829 : (decide (p2 < (0 : Int)))
  · rw [b829] at hk H
    replace H := bifF H
    refine x_run tab hk (k := 5) (lv := [.int .i64 p2]) (ks := [0, 1, 5, 6, 7, 17]) (e' := [(0, .slice Ap0 (p0).length cp0), (1, .int .i64 p1), (5, .pointer (some ⟨bx4, 0, none⟩)), (6, .pointer (some ⟨bx9, 0, none⟩)), (7, .pointer (some ⟨bx14, 0, none⟩)), (17, .bool (decide (p2 ≥ ((p0).length : Int))))]) rfl ⟨(load1 tab rfl ((Bx.cell f5.now 0).trans rfl)), trivial⟩ fun a hk => ?_
    refine wpListIn_nil ?_
    refine then_n ?_
    exact ⟨(fun b_ => (fun l_ => if l_ = 3 then 45 else if l_ = 4 then 46 else if l_ = 5 then 47 else l_) (o12 b_)), [], (decide (p2 ≥ ((p0).length : Int))), (by exact Kn.pick (ks := [0, 1, 5, 6, 7, 17]) hk rfl), (hs.relabM hob (fun l_ => if l_ = 3 then 45 else if l_ = 4 then 46 else if l_ = 5 then 47 else l_) (by decide)), (f10.relab (fun l_ => if l_ = 3 then 45 else if l_ = 4 then 46 else if l_ = 5 then 47 else l_) rfl), (f15.relab (fun l_ => if l_ = 3 then 45 else if l_ = 4 then 46 else if l_ = 5 then 47 else l_) rfl), (f5.relab (fun l_ => if l_ = 3 then 45 else if l_ = 4 then 46 else if l_ = 5 then 47 else l_) rfl), (f900000.relab (fun l_ => if l_ = 3 then 45 else if l_ = 4 then 46 else if l_ = 5 then 47 else l_) rfl), (fg0.relab (fun l_ => if l_ = 3 then 45 else if l_ = 4 then 46 else if l_ = 5 then 47 else l_) rfl), (fg1.relab (fun l_ => if l_ = 3 then 45 else if l_ = 4 then 46 else if l_ = 5 then 47 else l_) rfl), (fxm.relab (fun l_ => if l_ = 3 then 45 else if l_ = 4 then 46 else if l_ = 5 then 47 else l_) rfl), H⟩
  · rw [b829] at hk H
    replace H := bifT H
    refine x_run tab hk (k := 5) (lv := []) (ks := [0, 1, 5, 6, 7, 17]) (e' := [(0, .slice Ap0 (p0).length cp0), (1, .int .i64 p1), (5, .pointer (some ⟨bx4, 0, none⟩)), (6, .pointer (some ⟨bx9, 0, none⟩)), (7, .pointer (some ⟨bx14, 0, none⟩)), (17, .bool true)]) rfl trivial fun a hk => ?_
    refine wpListIn_nil ?_
    refine then_n ?_
    exact ⟨(fun b_ => (fun l_ => if l_ = 3 then 45 else if l_ = 4 then 46 else if l_ = 5 then 47 else l_) (o12 b_)), [], true, (by exact Kn.pick (ks := [0, 1, 5, 6, 7, 17]) hk rfl), (hs.relabM hob (fun l_ => if l_ = 3 then 45 else if l_ = 4 then 46 else if l_ = 5 then 47 else l_) (by decide)), (f10.relab (fun l_ => if l_ = 3 then 45 else if l_ = 4 then 46 else if l_ = 5 then 47 else l_) rfl), (f15.relab (fun l_ => if l_ = 3 then 45 else if l_ = 4 then 46 else if l_ = 5 then 47 else l_) rfl), (f5.relab (fun l_ => if l_ = 3 then 45 else if l_ = 4 then 46 else if l_ = 5 then 47 else l_) rfl), (f900000.relab (fun l_ => if l_ = 3 then 45 else if l_ = 4 then 46 else if l_ = 5 then 47 else l_) rfl), (fg0.relab (fun l_ => if l_ = 3 then 45 else if l_ = 4 then 46 else if l_ = 5 then 47 else l_) rfl), (fg1.relab (fun l_ => if l_ = 3 then 45 else if l_ = 4 then 46 else if l_ = 5 then 47 else l_) rfl), (fxm.relab (fun l_ => if l_ = 3 then 45 else if l_ = 4 then 46 else if l_ = 5 then 47 else l_) rfl), H⟩

/-! tidewrack/tidewrackref15.Cut -/
theorem tidewrackref15_Cut_calls (K : Nat) (Ap0 : Option Addr) (cp0 : Nat) (p0 : List T49) (p1 : Int) (w : World) (o : Nat → Nat) (LF : Nat) (Lp0 : Nat) (hp0 : Ft (RdC ET49 Ap0 p0) w o Lp0) (hcp0 : (p0).length ≤ cp0) (hd0 : ([LF] : List Nat).Nodup) (hd1 : Lp0 ∉ [LF]) (R0 : Nat) (r : List (List T49)) (H : tidewrackref15_Cut K p0 p1 = some r) :
    Calls Tryd.prog 16 #[.slice Ap0 (p0).length cp0, .int .i64 p1] w (Ret fun v_ w' => ∃ o' : Nat → Nat, ∃ A0 : Option Addr, ∃ c0 : Nat, v_ = .slice A0 (r).length c0 ∧ St [] w o w' o' ∧ NOwn (dRows ET49) 30 A0 c0 r w' o' R0 LF ∧ (r).length ≤ c0) := by
  refine x_enter (vs := [.slice Ap0 (p0).length cp0, .int .i64 p1]) Tryd.func16 rfl rfl rfl fun a hk => ?_
  obtain ⟨oi, hs0, h0, h1, hob, hoz, hoa⟩ := St.startM2 w o (m := 1) hd0 rfl
  have hs := hs0 []
  have f900000 := h0 _ _ hd1 hp0
  clear h0 h1 hs0
  rw [tidewrackref15_Cut] at H
  refine x_seq ?_
  refine wpIn_region_lit ?_
  refine x_run tab hk (k := 1) (lv := []) (ks := [0, 1]) (e' := [(0, .slice Ap0 (p0).length cp0), (1, .int .i64 p1)]) rfl trivial fun a hk => ?_
  refine wpListIn_nil ?_
  refine then_n ?_
  refine x_seq ?_
  refine wpIn_region_lit ?_
  refine x_run tab hk (k := 4) (lv := []) (ks := [0, 1]) (e' := [(0, .slice Ap0 (p0).length cp0), (1, .int .i64 (mxI 2 (mnI p1 1000)))]) rfl trivial fun a hk => ?_
  refine wpListIn_nil ?_
  refine then_n ?_
  refine x_seq ?_
  refine wpIn_region_lit ?_
  refine x_op hk rfl ?_
  refine op_slice (o := oi) tab hk (vs := []) (cs := []) rfl rfl rfl rfl rfl rfl rfl rfl rfl 3 fun bx4 w1 o2 st3 f5 => ?_
  replace f900000 := f900000.st st3 (by decide)
  replace hs := hs.locQ st3 hob rfl
  have f6 : Ft (Own ET49 50 (.slice (some ⟨bx4, 0, none⟩) (([] : List T49)).length 0) ([] : List T49)) w1 o2 3 := f5.imp fun _ h_ => Own.of_box h_ rfl (by simp)
  have hk := hk.put 14 (.slice (some ⟨bx4, 0, none⟩) (([] : List T49)).length 0) rfl
  refine x_op hk rfl ?_
  obtain ⟨o10, hR11⟩ := relab_ex o2 (fun l_ => if l_ = 2 then 1 else if l_ = 3 then 2 else l_)
  replace hs : St [] w oi w1 o10 := by rw [hR11]; exact (hs.relabM hob (fun l_ => if l_ = 2 then 1 else if l_ = 3 then 2 else l_) (by decide))
  replace f6 : Ft (Own ET49 50 (.slice (some ⟨bx4, 0, none⟩) (([] : List T49)).length 0) ([] : List T49)) w1 o10 2 := by rw [hR11]; exact f6.relab (fun l_ => if l_ = 2 then 1 else if l_ = 3 then 2 else l_) rfl
  replace f900000 : Ft (RdC ET49 Ap0 p0) w1 o10 0 := by rw [hR11]; exact f900000.relab (fun l_ => if l_ = 2 then 1 else if l_ = 3 then 2 else l_) rfl
  refine op_slice (o := o10) tab hk (vs := [.slice (some ⟨bx4, 0, none⟩) (([] : List T49)).length 0]) (cs := [.slice (some ⟨bx4, 0, none⟩) (([] : List T49)).length 0]) rfl rfl rfl rfl rfl rfl rfl rfl rfl 4 fun bx12 w7 o8 st9 f13 => ?_
  replace f6 := f6.st st9 (by decide)
  replace f900000 := f900000.st st9 (by decide)
  replace hs := hs.locQ st9 hob rfl
  have f14 : NLast ET49 30 50 (some ⟨bx12, 0, none⟩) 1 ([([] : List T49)] : List (List T49)) w7 o8 4 1 2 := NLast.lit f13 ⟨(some ⟨bx4, 0, none⟩), 0, ([] : List T49)⟩ rfl f6 _
  have hk := hk.put 15 (.slice (some ⟨bx12, 0, none⟩) (([([] : List T49)] : List (List T49))).length 1) rfl
  refine x_run tab hk (k := 1) (lv := []) (ks := [0, 1, 5]) (e' := [(0, .slice Ap0 (p0).length cp0), (1, .int .i64 (mxI 2 (mnI p1 1000))), (5, .slice (some ⟨bx12, 0, none⟩) (([([] : List T49)] : List (List T49))).length 1)]) rfl trivial fun a hk => ?_
  refine wpListIn_nil ?_
  refine then_n ?_
  refine x_seq ?_
  refine wpIn_region_lit ?_
  refine x_run tab hk (k := 1) (lv := []) (ks := [0, 1, 5, 6]) (e' := [(0, .slice Ap0 (p0).length cp0), (1, .int .i64 (mxI 2 (mnI p1 1000))), (5, .slice (some ⟨bx12, 0, none⟩) (([([] : List T49)] : List (List T49))).length 1), (6, .int .i64 0)]) rfl trivial fun a hk => ?_
  refine wpListIn_nil ?_
  refine then_n ?_
  refine x_mid (fun a_ w_ => ∃ o542 : Nat → Nat, ∃ A543 : Option Addr, ∃ c544 : Nat, ∃ l545 : List (List T49), Kn 52 a_ [(5, .slice A543 (l545).length c544)] ∧ St [] w oi w_ o542 ∧ NLast ET49 30 50 A543 c544 l545 w_ o542 40 1 2 ∧ (l545).length ≤ c544 ∧ tidewrackref15_Cut_j1 l545 = some r) ?_ ?_
  rotate_left
  · rintro a w548 ⟨o542, A543, c544, l545, hk, hs, f546, hc547, H⟩
    rw [tidewrackref15_Cut_j1] at H
    refine x_seq ?_
    refine wpIn_region_lit ?_
    refine x_run tab hk (k := 2) (lv := []) (ks := [4]) (e' := [(4, .slice A543 (l545).length c544)]) rfl trivial fun a hk => ?_
    refine wpListIn_nil ?_
    refine then_n ?_
    refine wpIn_ret ?_
    obtain ⟨o549, hR550⟩ := relab_ex o542 (fun l_ => if l_ = 2 then 1 else l_)
    replace hs : St [] w oi w548 o549 := by rw [hR550]; exact (hs.relabM hob (fun l_ => if l_ = 2 then 1 else l_) (by decide))
    replace f546 : NOwn (dRows ET49) 30 A543 c544 l545 w548 o549 40 1 := by rw [hR550]; exact NLast.freeze (NLast.relab f546 (fun l_ => if l_ = 2 then 1 else l_) rfl)
    obtain rfl := Option.some.inj H
    exact x_retG hk (rs := [.tmp 4]) (vs := [.slice A543 (l545).length c544]) rfl ⟨rfl, trivial⟩ ⟨fun b_ => if b_ < w.heap.size then o b_ else (fun l_ => if l_ = 1 then LF else if l_ = 40 then R0 else 0) (o549 b_), A543, c544, rfl, hs.closeF (Lm := []) (Sh := []) hoa rfl (fun l_ => if l_ = 1 then LF else if l_ = 40 then R0 else 0), f546.conv (fun _ h_ => hs.closeM_ft (o := o) (ρ := fun l_ => if l_ = 1 then LF else if l_ = 40 then R0 else 0) h_ (lab_none hob rfl) rfl) (fun _ h_ => hs.closeM_ft (o := o) (ρ := fun l_ => if l_ = 1 then LF else if l_ = 40 then R0 else 0) h_ (lab_at hoa (i := 0) rfl) rfl), hc547⟩
  refine x_seq ?_
  refine wpIn_region_lit ?_
  refine x_run tab hk (k := 3) (lv := []) (ks := [1, 5, 6, 16, 17, 18]) (e' := [(1, .int .i64 (mxI 2 (mnI p1 1000))), (5, .slice (some ⟨bx12, 0, none⟩) (([([] : List T49)] : List (List T49))).length 1), (6, .int .i64 0), (16, .slice Ap0 (p0).length cp0), (17, .int .i64 ((p0).length : Int)), (18, .int .i64 0)]) rfl trivial fun a hk => ?_
  refine wpListIn_nil ?_
  refine then_n ?_
  refine wpIn_block ?_
  refine x_loop (fun j_ a_ w_ => ∃ o720 : Nat → Nat, ∃ A721 : Option Addr, ∃ c722 : Nat, ∃ l723 : List (List T49), ∃ x726 : Int, ∃ x727 : Int, Kn 52 a_ [(1, .int .i64 (mxI 2 (mnI p1 1000))), (5, .slice A721 (l723).length c722), (6, .int .i64 x726), (16, .slice Ap0 (p0).length cp0), (17, .int .i64 ((p0).length : Int)), (18, .int .i64 x727)] ∧ St [] w oi w_ o720 ∧ NLast ET49 30 50 A721 c722 l723 w_ o720 53 1 2 ∧ Ft (RdC ET49 Ap0 p0) w_ o720 0 ∧ (l723).length ≤ c722 ∧ tidewrackref15_Cut_l2 K p0 p1 j_ l723 x726 x727 = some r) (k := K) ⟨(fun b_ => (fun l_ => if l_ = 4 then 53 else l_) (o8 b_)), (some ⟨bx12, 0, none⟩), 1, ([([] : List T49)] : List (List T49)), 0, 0, (by exact Kn.pick (ks := [1, 5, 6, 16, 17, 18]) hk rfl), (hs.relabM hob (fun l_ => if l_ = 4 then 53 else l_) (by decide)), (f14.relab (fun l_ => if l_ = 4 then 53 else l_) rfl), (f900000.relab (fun l_ => if l_ = 4 then 53 else l_) rfl), (Nat.le_refl _), H⟩ (by rintro _ _ ⟨_, _, _, _, _, _, _, _, _, _, _, H_⟩; exact absurd (show (none : Option (List (List T49))) = some r from H_) (by simp)) ?_
  rintro k897 a w896 ⟨o720, A721, c722, l723, x726, x727, hk, hs, f724, f900000, hc725, H⟩
  rw [tidewrackref15_Cut_l2] at H
  obtain ⟨lp898, hlp899⟩ : ∃ lp_, lp_ = tidewrackref15_Cut_l2 K p0 p1 k897 := ⟨_, rfl⟩
  rw [← hlp899] at H
  refine x_seq ?_
  refine wpIn_region_lit ?_
  refine x_run tab hk (k := 1) (lv := []) (ks := [1, 5, 6, 16, 17, 18, 19]) (e' := [(1, .int .i64 (mxI 2 (mnI p1 1000))), (5, .slice A721 (l723).length c722), (6, .int .i64 x726), (16, .slice Ap0 (p0).length cp0), (17, .int .i64 ((p0).length : Int)), (18, .int .i64 x727), (19, .bool (decide (x727 < ((p0).length : Int))))]) rfl trivial fun a hk => ?_
  refine wpListIn_nil ?_
  refine then_n ?_
  refine x_seq ?_
  cases b900 : (decide (x727 < ((p0).length : Int)))
  · rw [b900] at hk H
    replace H := bifF H
    refine x_if hk (b := false) rfl ?_
    refine (show Code.wpIn _ _ _ _ _ _ _ from ?_)
    refine wpIn_exit ?_
    refine then_x ?_
    refine then_x ?_
    refine blk_x ?_
    refine then_n ?_
    exact ⟨(fun b_ => (fun l_ => if l_ = 53 then 40 else l_) (o720 b_)), A721, c722, l723, (by exact Kn.pick (ks := [5]) hk rfl), (hs.relabM hob (fun l_ => if l_ = 53 then 40 else l_) (by decide)), (f724.relab (fun l_ => if l_ = 53 then 40 else l_) rfl), hc725, H⟩
  · rw [b900] at hk H
    replace H := bifT H
    refine x_if hk (b := true) rfl ?_
    refine (show Code.wpIn _ _ _ _ _ _ _ from ?_)
    refine wpIn_skip ?_
    refine then_n ?_
    refine x_seq ?_
    refine wpIn_block ?_
    refine x_seq ?_
    refine wpIn_region_lit ?_
    obtain ⟨q901, H⟩ := ifS H
    obtain ⟨ad902, hAad902⟩ := RdC.addr f900000.now q901
    have hk_C := hk
    have f724_C := f724
    have f900000_C := f900000
    subst hAad902
    have hk := hk_C
    clear hk_C
    have f724 := f724_C
    clear f724_C
    have f900000 := f900000_C
    clear f900000_C
    refine x_run tab hk (k := 2) (lv := [.agg #[.int .i64 ((rdD zT49 p0 x727).Rune), .int .i64 ((rdD zT49 p0 x727).Style)]]) (ks := [1, 5, 6, 16, 17, 18, 21]) (e' := [(1, .int .i64 (mxI 2 (mnI p1 1000))), (5, .slice A721 (l723).length c722), (6, .int .i64 x726), (16, .slice (some ad902) (p0).length cp0), (17, .int .i64 ((p0).length : Int)), (18, .int .i64 x727), (21, .agg #[.int .i64 ((rdD zT49 p0 x727).Rune), .int .i64 ((rdD zT49 p0 x727).Style)])]) rfl ⟨q901, (load_elem (E := ET49) (i := x727) (dx := zT49) tab rfl rfl f900000.now q901), trivial⟩ fun a hk => ?_
    refine x_op hk rfl ?_
    refine op_alloc (o := o720) tab (t := 50) (cs := [.int .i64 0, .int .i64 0]) rfl rfl 65 fun bx906 w903 o904 st905 f907 => ?_
    replace f724 := f724.st st905 (by decide)
    replace f900000 := f900000.st st905 (by decide)
    replace hs := hs.locQ st905 hob rfl
    have hk := hk.put 8 (.pointer (some ⟨bx906, 0, none⟩)) rfl
    refine x_op hk rfl ?_
    refine op_store tab hk (t := 50) (v := .agg #[.int .i64 ((rdD zT49 p0 x727).Rune), .int .i64 ((rdD zT49 p0 x727).Style)]) (b := bx906) (k := 0) (cs' := [.int .i64 ((rdD zT49 p0 x727).Rune), .int .i64 ((rdD zT49 p0 x727).Style)]) rfl rfl rfl rfl rfl rfl f907 rfl rfl fun w908 o909 st910 f907_ => ?_
    replace f724 := f724.st st910 (by decide)
    replace f900000 := f900000.st st910 (by decide)
    replace hs := hs.locQ st910 hob rfl
    replace f907 := f907_
    refine wpListIn_nil ?_
    refine then_n ?_
    refine x_seq ?_
    refine wpIn_region_lit ?_
    refine x_run tab hk (k := 2) (lv := [.int .i64 ((rdD zT49 p0 x727).Rune)]) (ks := [1, 5, 6, 8, 16, 17, 18, 23]) (e' := [(1, .int .i64 (mxI 2 (mnI p1 1000))), (5, .slice A721 (l723).length c722), (6, .int .i64 x726), (8, .pointer (some ⟨bx906, 0, none⟩)), (16, .slice (some ad902) (p0).length cp0), (17, .int .i64 ((p0).length : Int)), (18, .int .i64 x727), (23, .int .i64 ((rdD zT49 p0 x727).Rune))]) rfl ⟨(load1 tab rfl ((Bx.cell f907.now 0).trans rfl)), trivial⟩ fun a hk => ?_
    refine x_op hk rfl ?_
    obtain ⟨t914, hc915, H⟩ := bindS H
    refine op_call hk ent_9 (vs := [.int .i64 ((rdD zT49 p0 x727).Rune)]) rfl (tidewrackref06_Of_calls K ((rdD zT49 p0 x727).Rune) _ o909    _ hc915) ?_
    rintro _ w916 ⟨o917, rfl, st918⟩
    replace f724 := f724.st st918 (by decide)
    replace f900000 := f900000.st st918 (by decide)
    replace f907 := f907.st st918 (by decide)
    replace hs := hs.locQ st918 hob rfl
    have hk := hk.put 24 (.int .i64 t914) rfl
    refine x_run tab hk (k := 1) (lv := []) (ks := [1, 5, 6, 8, 9, 16, 17, 18]) (e' := [(1, .int .i64 (mxI 2 (mnI p1 1000))), (5, .slice A721 (l723).length c722), (6, .int .i64 x726), (8, .pointer (some ⟨bx906, 0, none⟩)), (9, .int .i64 t914), (16, .slice (some ad902) (p0).length cp0), (17, .int .i64 ((p0).length : Int)), (18, .int .i64 x727)]) rfl trivial fun a hk => ?_
    refine wpListIn_nil ?_
    refine then_n ?_
    refine x_mid (fun a_ w_ => ∃ o953 : Nat → Nat, ∃ A954 : Option Addr, ∃ c955 : Nat, ∃ l956 : List (List T49), ∃ x959 : Int, Kn 52 a_ [(1, .int .i64 (mxI 2 (mnI p1 1000))), (5, .slice A954 (l956).length c955), (6, .int .i64 x959), (8, .pointer (some ⟨bx906, 0, none⟩)), (9, .int .i64 t914), (16, .slice (some ad902) (p0).length cp0), (17, .int .i64 ((p0).length : Int)), (18, .int .i64 x727)] ∧ St [] w oi w_ o953 ∧ Ft (RdC ET49 (some ad902) p0) w_ o953 0 ∧ Ft (Bx bx906 50 [.int .i64 ((rdD zT49 p0 x727).Rune), .int .i64 ((rdD zT49 p0 x727).Style)]) w_ o953 69 ∧ NLast ET49 30 50 A954 c955 l956 w_ o953 68 1 2 ∧ (l956).length ≤ c955 ∧ tidewrackref15_Cut_j3 p0 x727 lp898 t914 l956 x959 = some r) ?_ ?_
    rotate_left
    · rintro a w960 ⟨o953, A954, c955, l956, x959, hk, hs, f900000, f907, f957, hc958, H⟩
      rw [tidewrackref15_Cut_j3] at H
      refine x_seq ?_
      refine wpIn_region_lit ?_
      refine x_run tab hk (k := 4) (lv := []) (ks := [1, 5, 6, 8, 16, 17, 18]) (e' := [(1, .int .i64 (mxI 2 (mnI p1 1000))), (5, .slice A954 (l956).length c955), (6, .int .i64 (IntKind.wrap .i64 (x959 + t914))), (8, .pointer (some ⟨bx906, 0, none⟩)), (16, .slice (some ad902) (p0).length cp0), (17, .int .i64 ((p0).length : Int)), (18, .int .i64 x727)]) rfl trivial fun a hk => ?_
      refine wpListIn_nil ?_
      refine then_n ?_
      refine x_seq ?_
      refine wpIn_region_lit ?_
      refine x_run tab hk (k := 4) (lv := []) (ks := [1, 5, 6, 8, 10, 16, 17, 18]) (e' := [(1, .int .i64 (mxI 2 (mnI p1 1000))), (5, .slice A954 (l956).length c955), (6, .int .i64 (IntKind.wrap .i64 (x959 + t914))), (8, .pointer (some ⟨bx906, 0, none⟩)), (10, .int .i64 (IntKind.wrap .i64 (((l956).length : Int) - 1))), (16, .slice (some ad902) (p0).length cp0), (17, .int .i64 ((p0).length : Int)), (18, .int .i64 x727)]) rfl trivial fun a hk => ?_
      refine wpListIn_nil ?_
      refine then_n ?_
      obtain ⟨q983, H⟩ := ifS H
      obtain ⟨ad984, hAad984⟩ := NLast.addr f957
      have hk_C := hk
      have f900000_C := f900000
      have f907_C := f907
      have f957_C := f957
      subst hAad984
      have hk := hk_C
      clear hk_C
      have f900000 := f900000_C
      clear f900000_C
      have f907 := f907_C
      clear f907_C
      have f957 := f957_C
      clear f957_C
      obtain ⟨A985, c986, f987, f988, hc989, f990⟩ := NLast.open f957 (P := Tryd.prog) tab (t := 30) rfl (i := (IntKind.wrap .i64 (((l956).length : Int) - 1))) (NLast.ix f957 rfl)
      replace f957 := f990
      obtain ⟨q1000, H⟩ := ifS H
      refine xd_begin (o := o953) (fun W_ => (Bx bx906 50 [.int .i64 ((rdD zT49 p0 x727).Rune), .int .i64 ((rdD zT49 p0 x727).Style)]) W_ ∧ (fun W => LoadIs Tryd.prog 30 (ad984.add (Int.toNat (IntKind.wrap .i64 (((l956).length : Int) - 1)) * 1)) (.slice A985 (rdD [] l956 (IntKind.wrap .i64 (((l956).length : Int) - 1))).length c986) W) W_ ∧ True) mixed rfl rfl fun w1026 st1027 => ?_
      replace f900000 := f900000.st st1027 (by decide)
      replace f907 := f907.st st1027 (by decide)
      replace f957 := f957.st st1027 (by decide)
      replace f987 := f987.st st1027 (by decide)
      replace f988 := f988.st st1027 (by decide)
      replace hs := hs.locQ st1027 hob rfl
      refine xd_take tab hk (k := 4) (is := [0, 1, 2, 3, 4, 5, 6]) (ls' := #[true, true, true, true, true, true, true, false, false, false, false]) (lv := [.slice A985 ((rdD [] l956 (IntKind.wrap .i64 (((l956).length : Int) - 1)))).length c986, .agg #[.int .i64 ((rdD zT49 p0 x727).Rune), .int .i64 ((rdD zT49 p0 x727).Style)]]) (ks := [1, 5, 6, 16, 17, 18, 40, 41, 45, 46]) (e' := [(1, .int .i64 (mxI 2 (mnI p1 1000))), (5, .slice (some ad984) (l956).length c955), (6, .int .i64 (IntKind.wrap .i64 (x959 + t914))), (16, .slice (some ad902) (p0).length cp0), (17, .int .i64 ((p0).length : Int)), (18, .int .i64 x727), (40, .slice (some ad984) (l956).length c955), (41, .int .i64 (IntKind.wrap .i64 (((l956).length : Int) - 1))), (45, .slice A985 ((rdD [] l956 (IntKind.wrap .i64 (((l956).length : Int) - 1)))).length c986), (46, .agg #[.int .i64 ((rdD zT49 p0 x727).Rune), .int .i64 ((rdD zT49 p0 x727).Style)])]) (by kernel_rfl) rfl rfl (by kernel_rfl) (np_blk (np_then (np_then (np_blk (np_then np_body))))) ⟨f907.now, f987.now, trivial⟩ (fun W_ hS => ⟨q983, hS.2.1, (load_box tab rfl rfl hS.1 (k := 0) rfl rfl), trivial⟩) fun a hk => ?_
      refine xd_op hk (i := 7) (by kernel_rfl) rfl rfl ?_
      refine op_slice (o := o953) tab hk (vs := [.agg #[.int .i64 ((rdD zT49 p0 x727).Rune), .int .i64 ((rdD zT49 p0 x727).Style)]]) (cs := [.int .i64 ((rdD zT49 p0 x727).Rune), .int .i64 ((rdD zT49 p0 x727).Style)]) rfl rfl rfl rfl rfl rfl rfl rfl rfl 73 fun bx1031 w1028 o1029 st1030 f1032 => ?_
      replace f900000 := f900000.st st1030 (by decide)
      replace f907 := f907.st st1030 (by decide)
      replace f957 := f957.st st1030 (by decide)
      replace f987 := f987.st st1030 (by decide)
      replace f988 := f988.st st1030 (by decide)
      replace hs := hs.locQ st1030 hob rfl
      have f1033 : Ft (Own ET49 50 (.slice (some ⟨bx1031, 0, none⟩) (([(rdD zT49 p0 x727)] : List T49)).length 1) ([(rdD zT49 p0 x727)] : List T49)) w1028 o1029 73 := f1032.imp fun _ h_ => Own.of_box h_ rfl (by simp)
      have hk := hk.put 47 (.slice (some ⟨bx1031, 0, none⟩) (([(rdD zT49 p0 x727)] : List T49)).length 1) rfl
      refine ⟨.inr ⟨f907.now, f987.now, trivial⟩, ?_⟩
      refine xd_op hk (i := 8) (by kernel_rfl) rfl rfl ?_
      refine op_append (o := o1029) (E := ET49) (xs := (rdD [] l956 (IntKind.wrap .i64 (((l956).length : Int) - 1)))) (ys := ([(rdD zT49 p0 x727)] : List T49)) tab hk rfl rfl rfl rfl rfl rfl rfl f988 (Own.rd f1033.now) q1000 fun A1037 c1038 w1034 o1035 st1036 f1039 hc1040 => ?_
      replace f1033 := f1033.st st1036 (by decide)
      replace f900000 := f900000.st st1036 (by decide)
      replace f907 := f907.st st1036 (by decide)
      replace f957 := f957.st st1036 (by decide)
      replace f987 := f987.st st1036 (by decide)
      replace hs := hs.locQ st1036 hob rfl
      have hk := hk.put 48 (.slice A1037 (((rdD [] l956 (IntKind.wrap .i64 (((l956).length : Int) - 1))) ++ ([(rdD zT49 p0 x727)] : List T49))).length c1038) rfl
      refine ⟨.inr ⟨f907.now, f987.now, trivial⟩, ?_⟩
      refine xd_take tab hk (k := 1) (is := [9]) (ls' := #[true, true, true, true, true, true, true, true, true, true, false]) (lv := []) (ks := [1, 5, 6, 16, 17, 18, 48, 49]) (e' := [(1, .int .i64 (mxI 2 (mnI p1 1000))), (5, .slice (some ad984) (l956).length c955), (6, .int .i64 (IntKind.wrap .i64 (x959 + t914))), (16, .slice (some ad902) (p0).length cp0), (17, .int .i64 ((p0).length : Int)), (18, .int .i64 x727), (48, .slice A1037 (((rdD [] l956 (IntKind.wrap .i64 (((l956).length : Int) - 1))) ++ ([(rdD zT49 p0 x727)] : List T49))).length c1038), (49, .pointer (some (ad984.add (Int.toNat (IntKind.wrap .i64 (((l956).length : Int) - 1)) * 1))))]) (by kernel_rfl) rfl rfl (by kernel_rfl) (np_blk (np_then (np_then (np_blk (np_then np_body))))) ⟨f907.now, f987.now, trivial⟩ (fun W_ hS => ⟨q983, trivial⟩) fun a hk => ?_
      refine xd_op hk (i := 10) (by kernel_rfl) rfl rfl ?_
      refine op_storeLast tab hk (i := (IntKind.wrap .i64 (((l956).length : Int) - 1))) (ys := ((rdD [] l956 (IntKind.wrap .i64 (((l956).length : Int) - 1))) ++ ([(rdD zT49 p0 x727)] : List T49))) rfl rfl rfl f957 f1039 (NHole.ix f957 rfl) (by decide) fun w1041 o1042 st1043 f957_ => ?_
      replace f1033 := f1033.st st1043 (by decide)
      replace f900000 := f900000.st st1043 (by decide)
      replace f907 := f907.st st1043 (by decide)
      replace hs := hs.locQ st1043 hob rfl
      replace f957 := f957_
      have hl1044 : (List.set l956 (Int.toNat (IntKind.wrap .i64 (((l956).length : Int) - 1))) ((rdD [] l956 (IntKind.wrap .i64 (((l956).length : Int) - 1))) ++ ([(rdD zT49 p0 x727)] : List T49))).length = (l956).length := List.length_set
      replace hk := Kn.re hk [1, 5, 6, 16, 17, 18] (e2 := [(1, .int .i64 (mxI 2 (mnI p1 1000))), (5, .slice (some ad984) ((List.set l956 (Int.toNat (IntKind.wrap .i64 (((l956).length : Int) - 1))) ((rdD [] l956 (IntKind.wrap .i64 (((l956).length : Int) - 1))) ++ ([(rdD zT49 p0 x727)] : List T49)))).length c955), (6, .int .i64 (IntKind.wrap .i64 (x959 + t914))), (16, .slice (some ad902) (p0).length cp0), (17, .int .i64 ((p0).length : Int)), (18, .int .i64 x727)]) rfl (by rw [hl1044])
      refine ⟨.inl (by kernel_rfl), ?_⟩
      refine xd_done (by kernel_rfl) ?_
      refine blk_n ?_
      refine then_n ?_
      refine wpIn_region_lit ?_
      refine x_run tab hk (k := 2) (lv := []) (ks := [1, 5, 6, 16, 17, 18]) (e' := [(1, .int .i64 (mxI 2 (mnI p1 1000))), (5, .slice (some ad984) ((List.set l956 (Int.toNat (IntKind.wrap .i64 (((l956).length : Int) - 1))) ((rdD [] l956 (IntKind.wrap .i64 (((l956).length : Int) - 1))) ++ ([(rdD zT49 p0 x727)] : List T49)))).length c955), (6, .int .i64 (IntKind.wrap .i64 (x959 + t914))), (16, .slice (some ad902) (p0).length cp0), (17, .int .i64 ((p0).length : Int)), (18, .int .i64 (IntKind.wrap .i64 (x727 + 1)))]) rfl trivial fun a hk => ?_
      refine wpListIn_nil ?_
      refine then_n ?_
      exact ⟨k897, Nat.le_refl _, (fun b_ => (fun l_ => if l_ = 68 then 53 else l_) (o1042 b_)), (some ad984), c955, (List.set l956 (Int.toNat (IntKind.wrap .i64 (((l956).length : Int) - 1))) ((rdD [] l956 (IntKind.wrap .i64 (((l956).length : Int) - 1))) ++ ([(rdD zT49 p0 x727)] : List T49))), (IntKind.wrap .i64 (x959 + t914)), (IntKind.wrap .i64 (x727 + 1)), (by exact Kn.pick (ks := [1, 5, 6, 16, 17, 18]) hk rfl), (hs.relabM hob (fun l_ => if l_ = 68 then 53 else l_) (by decide)), (f957.relab (fun l_ => if l_ = 68 then 53 else l_) rfl), (f900000.relab (fun l_ => if l_ = 68 then 53 else l_) rfl), (by rw [List.length_set]; exact hc958), (hlp899 ▸ H)⟩
    refine x_seq ?_
    refine wpIn_region_lit ?_
    refine x_run tab hk (k := 5) (lv := []) (ks := [1, 5, 6, 8, 9, 16, 17, 18, 29]) (e' := [(1, .int .i64 (mxI 2 (mnI p1 1000))), (5, .slice A721 (l723).length c722), (6, .int .i64 x726), (8, .pointer (some ⟨bx906, 0, none⟩)), (9, .int .i64 t914), (16, .slice (some ad902) (p0).length cp0), (17, .int .i64 ((p0).length : Int)), (18, .int .i64 x727), (29, .bool (decide ((IntKind.wrap .i64 (x726 + t914)) > (mxI 2 (mnI p1 1000)))))]) rfl trivial fun a hk => ?_
    refine wpListIn_nil ?_
    refine then_n ?_
    cases b1045 : (decide ((IntKind.wrap .i64 (x726 + t914)) > (mxI 2 (mnI p1 1000))))
    · rw [b1045] at hk H
      replace H := bifF H
      refine x_if hk (b := false) rfl ?_
      refine (show Code.wpIn _ _ _ _ _ _ _ from ?_)
      refine wpIn_skip ?_
      refine then_n ?_
      exact ⟨(fun b_ => (fun l_ => if l_ = 53 then 68 else if l_ = 65 then 69 else l_) (o917 b_)), A721, c722, l723, x726, (by exact Kn.pick (ks := [1, 5, 6, 8, 9, 16, 17, 18]) hk rfl), (hs.relabM hob (fun l_ => if l_ = 53 then 68 else if l_ = 65 then 69 else l_) (by decide)), (f900000.relab (fun l_ => if l_ = 53 then 68 else if l_ = 65 then 69 else l_) rfl), (f907.relab (fun l_ => if l_ = 53 then 68 else if l_ = 65 then 69 else l_) rfl), (f724.relab (fun l_ => if l_ = 53 then 68 else if l_ = 65 then 69 else l_) rfl), hc725, H⟩
    · rw [b1045] at hk H
      replace H := bifT H
      refine x_if hk (b := true) rfl ?_
      refine (show Code.wpIn _ _ _ _ _ _ _ from ?_)
      refine x_seq ?_
      refine wpIn_region_lit ?_
      refine x_run tab hk (k := 1) (lv := []) (ks := [1, 8, 9, 16, 17, 18, 30]) (e' := [(1, .int .i64 (mxI 2 (mnI p1 1000))), (8, .pointer (some ⟨bx906, 0, none⟩)), (9, .int .i64 t914), (16, .slice (some ad902) (p0).length cp0), (17, .int .i64 ((p0).length : Int)), (18, .int .i64 x727), (30, .slice A721 (l723).length c722)]) rfl trivial fun a hk => ?_
      refine x_op hk rfl ?_
      refine op_slice (o := o917) tab hk (vs := []) (cs := []) rfl rfl rfl rfl rfl rfl rfl rfl rfl 74 fun bx1049 w1046 o1047 st1048 f1050 => ?_
      replace f724 := f724.st st1048 (by decide)
      replace f900000 := f900000.st st1048 (by decide)
      replace f907 := f907.st st1048 (by decide)
      replace hs := hs.locQ st1048 hob rfl
      have f1051 : Ft (Own ET49 50 (.slice (some ⟨bx1049, 0, none⟩) (([] : List T49)).length 0) ([] : List T49)) w1046 o1047 74 := f1050.imp fun _ h_ => Own.of_box h_ rfl (by simp)
      have hk := hk.put 31 (.slice (some ⟨bx1049, 0, none⟩) (([] : List T49)).length 0) rfl
      refine x_op hk rfl ?_
      obtain ⟨o1055, hR1056⟩ := relab_ex o1047 (fun l_ => if l_ = 2 then 1 else if l_ = 74 then 2 else l_)
      replace hs : St [] w oi w1046 o1055 := by rw [hR1056]; exact (hs.relabM hob (fun l_ => if l_ = 2 then 1 else if l_ = 74 then 2 else l_) (by decide))
      replace f1051 : Ft (Own ET49 50 (.slice (some ⟨bx1049, 0, none⟩) (([] : List T49)).length 0) ([] : List T49)) w1046 o1055 2 := by rw [hR1056]; exact f1051.relab (fun l_ => if l_ = 2 then 1 else if l_ = 74 then 2 else l_) rfl
      replace f724 : NOwn (dRows ET49) 30 A721 c722 l723 w1046 o1055 53 1 := by rw [hR1056]; exact NLast.freeze (NLast.relab f724 (fun l_ => if l_ = 2 then 1 else if l_ = 74 then 2 else l_) rfl)
      replace f900000 : Ft (RdC ET49 (some ad902) p0) w1046 o1055 0 := by rw [hR1056]; exact f900000.relab (fun l_ => if l_ = 2 then 1 else if l_ = 74 then 2 else l_) rfl
      replace f907 : Ft (Bx bx906 50 [.int .i64 ((rdD zT49 p0 x727).Rune), .int .i64 ((rdD zT49 p0 x727).Style)]) w1046 o1055 65 := by rw [hR1056]; exact f907.relab (fun l_ => if l_ = 2 then 1 else if l_ = 74 then 2 else l_) rfl
      refine op_slice (o := o1055) tab hk (vs := [.slice (some ⟨bx1049, 0, none⟩) (([] : List T49)).length 0]) (cs := [.slice (some ⟨bx1049, 0, none⟩) (([] : List T49)).length 0]) rfl rfl rfl rfl rfl rfl rfl rfl rfl 75 fun bx1057 w1052 o1053 st1054 f1058 => ?_
      replace f1051 := f1051.st st1054 (by decide)
      replace f724 := f724.st st1054 (by decide)
      replace f900000 := f900000.st st1054 (by decide)
      replace f907 := f907.st st1054 (by decide)
      replace hs := hs.locQ st1054 hob rfl
      have f1059 : NLast ET49 30 50 (some ⟨bx1057, 0, none⟩) 1 ([([] : List T49)] : List (List T49)) w1052 o1053 75 1 2 := NLast.lit f1058 ⟨(some ⟨bx1049, 0, none⟩), 0, ([] : List T49)⟩ rfl f1051 _
      have hk := hk.put 32 (.slice (some ⟨bx1057, 0, none⟩) (([([] : List T49)] : List (List T49))).length 1) rfl
      refine x_op hk rfl ?_
      obtain ⟨q1063, H⟩ := ifS H
      refine op_appendLast (o := o1053) (xs := l723) tab hk rfl rfl rfl rfl rfl rfl f724 f1059 (by decide) q1063 fun A1064 c1065 w1060 o1061 st1062 f1066 hc1067 => ?_
      replace f900000 := f900000.st st1062 (by decide)
      replace f907 := f907.st st1062 (by decide)
      replace hs := hs.locQ st1062 hob rfl
      have hk := hk.put 33 (.slice A1064 ((l723 ++ ([([] : List T49)] : List (List T49)))).length c1065) rfl
      refine x_run tab hk (k := 1) (lv := []) (ks := [1, 5, 8, 9, 16, 17, 18]) (e' := [(1, .int .i64 (mxI 2 (mnI p1 1000))), (5, .slice A1064 ((l723 ++ ([([] : List T49)] : List (List T49)))).length c1065), (8, .pointer (some ⟨bx906, 0, none⟩)), (9, .int .i64 t914), (16, .slice (some ad902) (p0).length cp0), (17, .int .i64 ((p0).length : Int)), (18, .int .i64 x727)]) rfl trivial fun a hk => ?_
      refine wpListIn_nil ?_
      refine then_n ?_
      refine wpIn_region_lit ?_
      refine x_run tab hk (k := 1) (lv := []) (ks := [1, 5, 6, 8, 9, 16, 17, 18]) (e' := [(1, .int .i64 (mxI 2 (mnI p1 1000))), (5, .slice A1064 ((l723 ++ ([([] : List T49)] : List (List T49)))).length c1065), (6, .int .i64 0), (8, .pointer (some ⟨bx906, 0, none⟩)), (9, .int .i64 t914), (16, .slice (some ad902) (p0).length cp0), (17, .int .i64 ((p0).length : Int)), (18, .int .i64 x727)]) rfl trivial fun a hk => ?_
      refine wpListIn_nil ?_
      refine then_n ?_
      exact ⟨(fun b_ => (fun l_ => if l_ = 53 then 68 else if l_ = 65 then 69 else l_) (o1061 b_)), A1064, c1065, (l723 ++ ([([] : List T49)] : List (List T49))), 0, (by exact Kn.pick (ks := [1, 5, 6, 8, 9, 16, 17, 18]) hk rfl), (hs.relabM hob (fun l_ => if l_ = 53 then 68 else if l_ = 65 then 69 else l_) (by decide)), (f900000.relab (fun l_ => if l_ = 53 then 68 else if l_ = 65 then 69 else l_) rfl), (f907.relab (fun l_ => if l_ = 53 then 68 else if l_ = 65 then 69 else l_) rfl), (f1066.relab (fun l_ => if l_ = 53 then 68 else if l_ = 65 then 69 else l_) rfl), hc1067, H⟩

/-! tidewrack/tidewrackref15.At -/
theorem tidewrackref15_At_calls (K : Nat) (Ap0 : Option Addr) (cp0 : Nat) (p0 : List T49) (p1 : Int) (p2 : Int) (w : World) (o : Nat → Nat) (Lp0 : Nat) (hp0 : Ft (RdC ET49 Ap0 p0) w o Lp0) (hcp0 : (p0).length ≤ cp0)  (r : Int × Int) (H : tidewrackref15_At K p0 p1 p2 = some r) :
    Calls Tryd.prog 14 #[.slice Ap0 (p0).length cp0, .int .i64 p1, .int .i64 p2] w (Ret fun v_ w' => ∃ o' : Nat → Nat, v_ = .tuple #[.int .i64 r.1, .int .i64 r.2] ∧ St [] w o w' o') := by
  refine x_enter (vs := [.slice Ap0 (p0).length cp0, .int .i64 p1, .int .i64 p2]) Tryd.func14 rfl rfl rfl fun a hk => ?_
  obtain ⟨o0, hs, h0⟩ := St.start w o
  have f900000 := h0 _ _ hp0
  clear h0
  rw [tidewrackref15_At] at H
  refine x_seq ?_
  refine wpIn_region_lit ?_
  refine x_run tab hk (k := 2) (lv := []) (ks := [0, 1, 2]) (e' := [(0, .slice Ap0 (p0).length cp0), (1, .int .i64 p1), (2, .int .i64 p2)]) rfl trivial fun a hk => ?_
  refine wpListIn_nil ?_
  refine then_n ?_
  refine x_mid (fun a_ w_ => ∃ o16 : Nat → Nat, Kn 55 a_ [(0, .slice Ap0 (p0).length cp0), (1, .int .i64 p1), (2, .int .i64 p2)] ∧ St [] w (fun _ => 0) w_ o16 ∧ Ft (RdC ET49 Ap0 p0) w_ o16 0 ∧ tidewrackref15_At_j1 K p0 p1 p2 = some r) ?_ ?_
  rotate_left
  · rintro a w17 ⟨o16, hk, hs, f900000, H⟩
    rw [tidewrackref15_At_j1] at H
    refine x_mid (fun a_ w_ => ∃ o2063 : Nat → Nat, Kn 55 a_ [] ∧ St [] w (fun _ => 0) w_ o2063 ∧ tidewrackref15_At_j2 = some r) ?_ ?_
    rotate_left
    · rintro a w2064 ⟨o2063, hk, hs, H⟩
      rw [tidewrackref15_At_j2] at H
      refine x_seq ?_
      refine wpIn_region_lit ?_
      refine x_run tab hk (k := 2) (lv := []) (ks := [6, 7]) (e' := [(6, .int .i64 0), (7, .int .i64 0)]) rfl trivial fun a hk => ?_
      refine wpListIn_nil ?_
      refine then_n ?_
      refine wpIn_ret ?_
      obtain rfl := Option.some.inj H
      exact x_retG hk (rs := [.tmp 6, .tmp 7]) (vs := [.int .i64 0, .int .i64 0]) rfl ⟨rfl, rfl, trivial⟩ ⟨fun b_ => if b_ < w.heap.size then o b_ else (fun _ => 0) (o2063 b_), rfl, hs.close0 o (fun _ => 0)⟩
    refine x_seq ?_
    refine wpIn_region_lit ?_
    refine x_run tab hk (k := 2) (lv := []) (ks := [2, 21, 22]) (e' := [(2, .int .i64 p2), (21, .slice Ap0 (p0).length cp0), (22, .int .i64 p1)]) rfl trivial fun a hk => ?_
    refine x_op hk rfl ?_
    obtain ⟨t2068, hc2069, H⟩ := bindS H
    refine op_call hk ent_16 (vs := [.slice Ap0 (p0).length cp0, .int .i64 p1]) rfl (tidewrackref15_Cut_calls K Ap0 cp0 p0 p1 _ o16 1 _ f900000 hcp0 (by decide) (by decide) 86  _ hc2069) ?_
    rintro _ w2070 ⟨o2071, A2073, c2074, rfl, st2072, f2075, hc2076⟩
    replace f900000 := f900000.st st2072 (by decide)
    replace hs := hs.loc0 st2072 (by decide)
    have hk := hk.put 23 (.slice A2073 (t2068).length c2074) rfl
    refine x_run tab hk (k := 2) (lv := []) (ks := [2, 23, 24, 25]) (e' := [(2, .int .i64 p2), (23, .slice A2073 (t2068).length c2074), (24, .int .i64 ((t2068).length : Int)), (25, .int .i64 0)]) rfl trivial fun a hk => ?_
    refine wpListIn_nil ?_
    refine then_n ?_
    refine wpIn_block ?_
    refine x_loop (fun j_ a_ w_ => ∃ o2752 : Nat → Nat, ∃ x2753 : Int, ∃ A2754 : Option Addr, ∃ c2755 : Nat, ∃ x2758 : Int, Kn 55 a_ [(2, .int .i64 x2753), (23, .slice A2754 (t2068).length c2755), (24, .int .i64 ((t2068).length : Int)), (25, .int .i64 x2758)] ∧ St [] w (fun _ => 0) w_ o2752 ∧ NOwn (dRows ET49) 30 A2754 c2755 t2068 w_ o2752 115 1 ∧ (t2068).length ≤ c2755 ∧ tidewrackref15_At_l3 K t2068 j_ x2753 x2758 = some r) (k := K) ⟨(fun b_ => (fun l_ => if l_ = 86 then 115 else l_) (o2071 b_)), p2, A2073, c2074, 0, (by exact Kn.pick (ks := [2, 23, 24, 25]) hk rfl), (hs.relab0 (fun l_ => if l_ = 86 then 115 else l_) rfl), (f2075.relab (fun l_ => if l_ = 86 then 115 else l_) rfl), hc2076, H⟩ (by rintro _ _ ⟨_, _, _, _, _, _, _, _, _, H_⟩; exact absurd (show (none : Option (Int × Int)) = some r from H_) (by simp)) ?_
    rintro k3432 a w3431 ⟨o2752, x2753, A2754, c2755, x2758, hk, hs, f2756, hc2757, H⟩
    rw [tidewrackref15_At_l3] at H
    obtain ⟨lp3433, hlp3434⟩ : ∃ lp_, lp_ = tidewrackref15_At_l3 K t2068 k3432 := ⟨_, rfl⟩
    rw [← hlp3434] at H
    refine x_seq ?_
    refine wpIn_region_lit ?_
    refine x_run tab hk (k := 1) (lv := []) (ks := [2, 23, 24, 25, 26]) (e' := [(2, .int .i64 x2753), (23, .slice A2754 (t2068).length c2755), (24, .int .i64 ((t2068).length : Int)), (25, .int .i64 x2758), (26, .bool (decide (x2758 < ((t2068).length : Int))))]) rfl trivial fun a hk => ?_
    refine wpListIn_nil ?_
    refine then_n ?_
    refine x_seq ?_
    cases b3435 : (decide (x2758 < ((t2068).length : Int)))
    · rw [b3435] at hk H
      replace H := bifF H
      refine x_if hk (b := false) rfl ?_
      refine (show Code.wpIn _ _ _ _ _ _ _ from ?_)
      refine wpIn_exit ?_
      refine then_x ?_
      refine then_x ?_
      refine blk_x ?_
      refine then_n ?_
      exact ⟨o2752, (by exact Kn.pick (ks := []) hk rfl), hs, H⟩
    · rw [b3435] at hk H
      replace H := bifT H
      refine x_if hk (b := true) rfl ?_
      refine (show Code.wpIn _ _ _ _ _ _ _ from ?_)
      refine wpIn_skip ?_
      refine then_n ?_
      refine x_mid (fun a_ w_ => ∃ o3773 : Nat → Nat, ∃ A3774 : Option Addr, ∃ c3775 : Nat, Kn 55 a_ [(2, .int .i64 (IntKind.wrap .i64 (x2753 - (((rdD [] t2068 x2758)).length : Int)))), (23, .slice A3774 (t2068).length c3775), (24, .int .i64 ((t2068).length : Int)), (25, .int .i64 x2758)] ∧ St [] w (fun _ => 0) w_ o3773 ∧ NOwn (dRows ET49) 30 A3774 c3775 t2068 w_ o3773 156 1 ∧ (t2068).length ≤ c3775 ∧ tidewrackref15_At_j4 t2068 x2753 x2758 lp3433 = some r) ?_ ?_
      rotate_left
      · rintro a w3778 ⟨o3773, A3774, c3775, hk, hs, f3776, hc3777, H⟩
        rw [tidewrackref15_At_j4] at H
        refine wpIn_region_lit ?_
        refine x_run tab hk (k := 2) (lv := []) (ks := [2, 23, 24, 25]) (e' := [(2, .int .i64 (IntKind.wrap .i64 (x2753 - (((rdD [] t2068 x2758)).length : Int)))), (23, .slice A3774 (t2068).length c3775), (24, .int .i64 ((t2068).length : Int)), (25, .int .i64 (IntKind.wrap .i64 (x2758 + 1)))]) rfl trivial fun a hk => ?_
        refine wpListIn_nil ?_
        refine then_n ?_
        exact ⟨k3432, Nat.le_refl _, (fun b_ => (fun l_ => if l_ = 156 then 115 else l_) (o3773 b_)), (IntKind.wrap .i64 (x2753 - (((rdD [] t2068 x2758)).length : Int))), A3774, c3775, (IntKind.wrap .i64 (x2758 + 1)), (by exact Kn.pick (ks := [2, 23, 24, 25]) hk rfl), (hs.relab0 (fun l_ => if l_ = 156 then 115 else l_) rfl), (f3776.relab (fun l_ => if l_ = 156 then 115 else l_) rfl), hc3777, (hlp3434 ▸ H)⟩
      refine wpIn_block ?_
      refine x_seq ?_
      refine wpIn_region_lit ?_
      obtain ⟨q3779, H⟩ := ifS H
      obtain ⟨ad3780, hAad3780⟩ := NRd.addr f2756.rd q3779
      have hk_C := hk
      have f2756_C := f2756
      subst hAad3780
      have hk := hk_C
      clear hk_C
      have f2756 := f2756_C
      clear f2756_C
      obtain ⟨A3781, c3782, f3783, f3784, hc3785⟩ := NRd.row f2756.rd (P := Tryd.prog) tab (t := 30) rfl (i := x2758) q3779
      refine x_run tab hk (k := 5) (lv := [.slice A3781 ((rdD [] t2068 x2758)).length c3782]) (ks := [2, 8, 9, 23, 24, 25]) (e' := [(2, .int .i64 x2753), (8, .int .i64 x2758), (9, .slice A3781 ((rdD [] t2068 x2758)).length c3782), (23, .slice (some ad3780) (t2068).length c2755), (24, .int .i64 ((t2068).length : Int)), (25, .int .i64 x2758)]) rfl ⟨q3779, f3783.now, trivial⟩ fun a hk => ?_
      refine wpListIn_nil ?_
      refine then_n ?_
      refine x_mid (fun a_ w_ => ∃ o3947 : Nat → Nat, Kn 55 a_ [(2, .int .i64 x2753), (9, .slice A3781 ((rdD [] t2068 x2758)).length c3782), (23, .slice (some ad3780) (t2068).length c2755), (24, .int .i64 ((t2068).length : Int)), (25, .int .i64 x2758)] ∧ St [] w (fun _ => 0) w_ o3947 ∧ NOwn (dRows ET49) 30 (some ad3780) c2755 t2068 w_ o3947 163 1 ∧ Ft (RdC ET49 A3781 (rdD [] t2068 x2758)) w_ o3947 1 ∧ tidewrackref15_At_j5 t2068 x2753 x2758 lp3433 = some r) ?_ ?_
      rotate_left
      · rintro a w3948 ⟨o3947, hk, hs, f2756, f3784, H⟩
        rw [tidewrackref15_At_j5] at H
        refine wpIn_region_lit ?_
        refine x_run tab hk (k := 5) (lv := []) (ks := [2, 23, 24, 25]) (e' := [(2, .int .i64 (IntKind.wrap .i64 (x2753 - (((rdD [] t2068 x2758)).length : Int)))), (23, .slice (some ad3780) (t2068).length c2755), (24, .int .i64 ((t2068).length : Int)), (25, .int .i64 x2758)]) rfl trivial fun a hk => ?_
        refine wpListIn_nil ?_
        refine blk_n ?_
        refine then_n ?_
        exact ⟨(fun b_ => (fun l_ => if l_ = 163 then 156 else l_) (o3947 b_)), (some ad3780), c2755, (by exact Kn.pick (ks := [2, 23, 24, 25]) hk rfl), (hs.relab0 (fun l_ => if l_ = 163 then 156 else l_) rfl), (f2756.relab (fun l_ => if l_ = 163 then 156 else l_) rfl), hc2757, H⟩
      refine x_seq ?_
      refine wpIn_region_lit ?_
      refine x_run tab hk (k := 4) (lv := []) (ks := [2, 8, 9, 23, 24, 25, 33]) (e' := [(2, .int .i64 x2753), (8, .int .i64 x2758), (9, .slice A3781 ((rdD [] t2068 x2758)).length c3782), (23, .slice (some ad3780) (t2068).length c2755), (24, .int .i64 ((t2068).length : Int)), (25, .int .i64 x2758), (33, .bool (decide (x2753 < (((rdD [] t2068 x2758)).length : Int))))]) rfl trivial fun a hk => ?_
      refine wpListIn_nil ?_
      refine then_n ?_
      cases b3949 : (decide (x2753 < (((rdD [] t2068 x2758)).length : Int)))
      · rw [b3949] at hk H
        replace H := bifF H
        refine x_if hk (b := false) rfl ?_
        refine (show Code.wpIn _ _ _ _ _ _ _ from ?_)
        refine wpIn_skip ?_
        refine then_n ?_
        exact ⟨(fun b_ => (fun l_ => if l_ = 115 then 163 else l_) (o2752 b_)), (by exact Kn.pick (ks := [2, 9, 23, 24, 25]) hk rfl), (hs.relab0 (fun l_ => if l_ = 115 then 163 else l_) rfl), (f2756.relab (fun l_ => if l_ = 115 then 163 else l_) rfl), (f3784.relab (fun l_ => if l_ = 115 then 163 else l_) rfl), H⟩
      · rw [b3949] at hk H
        replace H := bifT H
        refine x_if hk (b := true) rfl ?_
        refine (show Code.wpIn _ _ _ _ _ _ _ from ?_)
        refine x_seq ?_
        refine wpIn_region_lit ?_
        refine x_run tab hk (k := 1) (lv := []) (ks := [2, 8, 9, 10]) (e' := [(2, .int .i64 x2753), (8, .int .i64 x2758), (9, .slice A3781 ((rdD [] t2068 x2758)).length c3782), (10, .int .i64 0)]) rfl trivial fun a hk => ?_
        refine wpListIn_nil ?_
        refine then_n ?_
        refine x_mid (fun a_ w_ => ∃ o4030 : Nat → Nat, ∃ x4031 : Int, Kn 55 a_ [(8, .int .i64 x2758), (10, .int .i64 x4031)] ∧ St [] w (fun _ => 0) w_ o4030 ∧ tidewrackref15_At_j6 x2758 x4031 = some r) ?_ ?_
        rotate_left
        · rintro a w4032 ⟨o4030, x4031, hk, hs, H⟩
          rw [tidewrackref15_At_j6] at H
          refine x_seq ?_
          refine wpIn_region_lit ?_
          refine x_run tab hk (k := 4) (lv := []) (ks := [6, 7]) (e' := [(6, .int .i64 x2758), (7, .int .i64 x4031)]) rfl trivial fun a hk => ?_
          refine wpListIn_nil ?_
          refine then_n ?_
          refine wpIn_ret ?_
          refine then_r ?_
          refine blk_r ?_
          refine then_r ?_
          refine then_r ?_
          refine blk_r ?_
          refine then_r ?_
          obtain rfl := Option.some.inj H
          exact x_retG hk (rs := [.tmp 6, .tmp 7]) (vs := [.int .i64 x2758, .int .i64 x4031]) rfl ⟨rfl, rfl, trivial⟩ ⟨fun b_ => if b_ < w.heap.size then o b_ else (fun _ => 0) (o4030 b_), rfl, hs.close0 o (fun _ => 0)⟩
        refine x_seq ?_
        refine wpIn_region_lit ?_
        obtain ⟨q4033, H⟩ := ifS H
        obtain ⟨q4034, H⟩ := ifS H
        obtain ⟨A4035, c4036, ak4038, f4037, hc4039⟩ := ask_cut (P := Tryd.prog) tab (t := 30) rfl rfl f3784 hc3785 none (some (.int .i64 x2753)) rfl ⟨q4033, (by have := q4034; have := hc3785; omega), trivial⟩ (by have := q4033; have := q4034; omega) (by have := q4033; have := q4034; omega)
        refine x_run tab hk (k := 5) (lv := [.slice A4035 ((List.drop 0 (List.take (Int.toNat x2753) (rdD [] t2068 x2758)))).length c4036]) (ks := [8, 10, 36, 37, 38]) (e' := [(8, .int .i64 x2758), (10, .int .i64 0), (36, .slice A4035 ((List.drop 0 (List.take (Int.toNat x2753) (rdD [] t2068 x2758)))).length c4036), (37, .int .i64 (((List.drop 0 (List.take (Int.toNat x2753) (rdD [] t2068 x2758)))).length : Int)), (38, .int .i64 0)]) rfl ⟨(ak4038 rfl rfl rfl _), trivial⟩ fun a hk => ?_
        refine wpListIn_nil ?_
        refine then_n ?_
        refine wpIn_block ?_
        refine x_loop (fun j_ a_ w_ => ∃ o4062 : Nat → Nat, ∃ x4063 : Int, ∃ x4064 : Int, Kn 55 a_ [(8, .int .i64 x2758), (10, .int .i64 x4063), (36, .slice A4035 ((List.drop 0 (List.take (Int.toNat x2753) (rdD [] t2068 x2758)))).length c4036), (37, .int .i64 (((List.drop 0 (List.take (Int.toNat x2753) (rdD [] t2068 x2758)))).length : Int)), (38, .int .i64 x4064)] ∧ St [] w (fun _ => 0) w_ o4062 ∧ Ft (RdC ET49 A4035 (List.drop 0 (List.take (Int.toNat x2753) (rdD [] t2068 x2758)))) w_ o4062 1 ∧ tidewrackref15_At_l7 K t2068 x2753 x2758 j_ x4063 x4064 = some r) (k := K) ⟨o2752, 0, 0, (by exact Kn.pick (ks := [8, 10, 36, 37, 38]) hk rfl), hs, f4037, H⟩ (by rintro _ _ ⟨_, _, _, _, _, _, H_⟩; exact absurd (show (none : Option (Int × Int)) = some r from H_) (by simp)) ?_
        rintro k4085 a w4084 ⟨o4062, x4063, x4064, hk, hs, f4037, H⟩
        rw [tidewrackref15_At_l7] at H
        obtain ⟨lp4086, hlp4087⟩ : ∃ lp_, lp_ = tidewrackref15_At_l7 K t2068 x2753 x2758 k4085 := ⟨_, rfl⟩
        rw [← hlp4087] at H
        refine x_seq ?_
        refine wpIn_region_lit ?_
        refine x_run tab hk (k := 1) (lv := []) (ks := [8, 10, 36, 37, 38, 39]) (e' := [(8, .int .i64 x2758), (10, .int .i64 x4063), (36, .slice A4035 ((List.drop 0 (List.take (Int.toNat x2753) (rdD [] t2068 x2758)))).length c4036), (37, .int .i64 (((List.drop 0 (List.take (Int.toNat x2753) (rdD [] t2068 x2758)))).length : Int)), (38, .int .i64 x4064), (39, .bool (decide (x4064 < (((List.drop 0 (List.take (Int.toNat x2753) (rdD [] t2068 x2758)))).length : Int))))]) rfl trivial fun a hk => ?_
        refine wpListIn_nil ?_
        refine then_n ?_
        refine x_seq ?_
        cases b4088 : (decide (x4064 < (((List.drop 0 (List.take (Int.toNat x2753) (rdD [] t2068 x2758)))).length : Int)))
        · rw [b4088] at hk H
          replace H := bifF H
          refine x_if hk (b := false) rfl ?_
          refine (show Code.wpIn _ _ _ _ _ _ _ from ?_)
          refine wpIn_exit ?_
          refine then_x ?_
          refine then_x ?_
          refine blk_x ?_
          refine then_n ?_
          exact ⟨o4062, x4063, (by exact Kn.pick (ks := [8, 10]) hk rfl), hs, H⟩
        · rw [b4088] at hk H
          replace H := bifT H
          refine x_if hk (b := true) rfl ?_
          refine (show Code.wpIn _ _ _ _ _ _ _ from ?_)
          refine wpIn_skip ?_
          refine then_n ?_
          refine x_seq ?_
          refine wpIn_block ?_
          refine x_seq ?_
          refine wpIn_region_lit ?_
          obtain ⟨q4089, H⟩ := ifS H
          obtain ⟨ad4090, hAad4090⟩ := RdC.addr f4037.now q4089
          have hk_C := hk
          have f4037_C := f4037
          subst hAad4090
          have hk := hk_C
          clear hk_C
          have f4037 := f4037_C
          clear f4037_C
          refine x_run tab hk (k := 2) (lv := [.agg #[.int .i64 ((rdD zT49 (List.drop 0 (List.take (Int.toNat x2753) (rdD [] t2068 x2758))) x4064).Rune), .int .i64 ((rdD zT49 (List.drop 0 (List.take (Int.toNat x2753) (rdD [] t2068 x2758))) x4064).Style)]]) (ks := [8, 10, 36, 37, 38, 41]) (e' := [(8, .int .i64 x2758), (10, .int .i64 x4063), (36, .slice (some ad4090) ((List.drop 0 (List.take (Int.toNat x2753) (rdD [] t2068 x2758)))).length c4036), (37, .int .i64 (((List.drop 0 (List.take (Int.toNat x2753) (rdD [] t2068 x2758)))).length : Int)), (38, .int .i64 x4064), (41, .agg #[.int .i64 ((rdD zT49 (List.drop 0 (List.take (Int.toNat x2753) (rdD [] t2068 x2758))) x4064).Rune), .int .i64 ((rdD zT49 (List.drop 0 (List.take (Int.toNat x2753) (rdD [] t2068 x2758))) x4064).Style)])]) rfl ⟨q4089, (load_elem (E := ET49) (i := x4064) (dx := zT49) tab rfl rfl f4037.now q4089), trivial⟩ fun a hk => ?_
          refine x_op hk rfl ?_
          refine op_alloc (o := o4062) tab (t := 50) (cs := [.int .i64 0, .int .i64 0]) rfl rfl 169 fun bx4094 w4091 o4092 st4093 f4095 => ?_
          replace f4037 := f4037.st st4093 (by decide)
          replace hs := hs.loc0 st4093 (by decide)
          have hk := hk.put 12 (.pointer (some ⟨bx4094, 0, none⟩)) rfl
          refine x_op hk rfl ?_
          refine op_store tab hk (t := 50) (v := .agg #[.int .i64 ((rdD zT49 (List.drop 0 (List.take (Int.toNat x2753) (rdD [] t2068 x2758))) x4064).Rune), .int .i64 ((rdD zT49 (List.drop 0 (List.take (Int.toNat x2753) (rdD [] t2068 x2758))) x4064).Style)]) (b := bx4094) (k := 0) (cs' := [.int .i64 ((rdD zT49 (List.drop 0 (List.take (Int.toNat x2753) (rdD [] t2068 x2758))) x4064).Rune), .int .i64 ((rdD zT49 (List.drop 0 (List.take (Int.toNat x2753) (rdD [] t2068 x2758))) x4064).Style)]) rfl rfl rfl rfl rfl rfl f4095 rfl rfl fun w4096 o4097 st4098 f4095_ => ?_
          replace f4037 := f4037.st st4098 (by decide)
          replace hs := hs.loc0 st4098 (by decide)
          replace f4095 := f4095_
          refine wpListIn_nil ?_
          refine then_n ?_
          refine wpIn_region_lit ?_
          refine x_run tab hk (k := 3) (lv := [.int .i64 ((rdD zT49 (List.drop 0 (List.take (Int.toNat x2753) (rdD [] t2068 x2758))) x4064).Rune)]) (ks := [8, 36, 37, 38, 42, 44]) (e' := [(8, .int .i64 x2758), (36, .slice (some ad4090) ((List.drop 0 (List.take (Int.toNat x2753) (rdD [] t2068 x2758)))).length c4036), (37, .int .i64 (((List.drop 0 (List.take (Int.toNat x2753) (rdD [] t2068 x2758)))).length : Int)), (38, .int .i64 x4064), (42, .int .i64 x4063), (44, .int .i64 ((rdD zT49 (List.drop 0 (List.take (Int.toNat x2753) (rdD [] t2068 x2758))) x4064).Rune))]) rfl ⟨(load1 tab rfl ((Bx.cell f4095.now 0).trans rfl)), trivial⟩ fun a hk => ?_
          refine x_op hk rfl ?_
          obtain ⟨t4102, hc4103, H⟩ := bindS H
          refine op_call hk ent_9 (vs := [.int .i64 ((rdD zT49 (List.drop 0 (List.take (Int.toNat x2753) (rdD [] t2068 x2758))) x4064).Rune)]) rfl (tidewrackref06_Of_calls K ((rdD zT49 (List.drop 0 (List.take (Int.toNat x2753) (rdD [] t2068 x2758))) x4064).Rune) _ o4097    _ hc4103) ?_
          rintro _ w4104 ⟨o4105, rfl, st4106⟩
          replace f4037 := f4037.st st4106 (by decide)
          replace hs := hs.loc0 st4106 (by decide)
          have hk := hk.put 45 (.int .i64 t4102) rfl
          refine x_run tab hk (k := 2) (lv := []) (ks := [8, 10, 36, 37, 38]) (e' := [(8, .int .i64 x2758), (10, .int .i64 (IntKind.wrap .i64 (x4063 + t4102))), (36, .slice (some ad4090) ((List.drop 0 (List.take (Int.toNat x2753) (rdD [] t2068 x2758)))).length c4036), (37, .int .i64 (((List.drop 0 (List.take (Int.toNat x2753) (rdD [] t2068 x2758)))).length : Int)), (38, .int .i64 x4064)]) rfl trivial fun a hk => ?_
          refine wpListIn_nil ?_
          refine blk_n ?_
          refine then_n ?_
          refine wpIn_region_lit ?_
          refine x_run tab hk (k := 2) (lv := []) (ks := [8, 10, 36, 37, 38]) (e' := [(8, .int .i64 x2758), (10, .int .i64 (IntKind.wrap .i64 (x4063 + t4102))), (36, .slice (some ad4090) ((List.drop 0 (List.take (Int.toNat x2753) (rdD [] t2068 x2758)))).length c4036), (37, .int .i64 (((List.drop 0 (List.take (Int.toNat x2753) (rdD [] t2068 x2758)))).length : Int)), (38, .int .i64 (IntKind.wrap .i64 (x4064 + 1)))]) rfl trivial fun a hk => ?_
          refine wpListIn_nil ?_
          refine then_n ?_
          exact ⟨k4085, Nat.le_refl _, o4105, (IntKind.wrap .i64 (x4063 + t4102)), (IntKind.wrap .i64 (x4064 + 1)), (by exact Kn.pick (ks := [8, 10, 36, 37, 38]) hk rfl), hs, f4037, (hlp4087 ▸ H)⟩
  refine x_mid (fun a_ w_ => ∃ o4114 : Nat → Nat, ∃ x4115 : Bool, Kn 55 a_ [(0, .slice Ap0 (p0).length cp0), (1, .int .i64 p1), (2, .int .i64 p2), (20, .bool x4115)] ∧ St [] w (fun _ => 0) w_ o4114 ∧ Ft (RdC ET49 Ap0 p0) w_ o4114 0 ∧ tidewrackref15_At_j8 K p0 p1 p2 x4115 = some r) ?_ ?_
  rotate_left
  · rintro a w4116 ⟨o4114, x4115, hk, hs, f900000, H⟩
    rw [tidewrackref15_At_j8] at H
    cases b4117 : x4115
    · rw [b4117] at hk H
      replace H := bifF H
      refine x_if hk (b := false) rfl ?_
      refine (show Code.wpIn _ _ _ _ _ _ _ from ?_)
      refine wpIn_skip ?_
      refine then_n ?_
      exact ⟨o4114, (by exact Kn.pick (ks := [0, 1, 2]) hk rfl), hs, f900000, H⟩
    · rw [b4117] at hk H
      replace H := bifT H
      refine x_if hk (b := true) rfl ?_
      refine (show Code.wpIn _ _ _ _ _ _ _ from ?_)
      refine x_seq ?_
      refine wpIn_region_lit ?_
      refine x_run tab hk (k := 2) (lv := []) (ks := [6, 7]) (e' := [(6, .int .i64 0), (7, .int .i64 0)]) rfl trivial fun a hk => ?_
      refine wpListIn_nil ?_
      refine then_n ?_
      refine wpIn_ret ?_
      refine then_r ?_
      obtain rfl := Option.some.inj H
      exact x_retG hk (rs := [.tmp 6, .tmp 7]) (vs := [.int .i64 0, .int .i64 0]) rfl ⟨rfl, rfl, trivial⟩ ⟨fun b_ => if b_ < w.heap.size then o b_ else (fun _ => 0) (o4114 b_), rfl, hs.close0 o (fun _ => 0)⟩
  refine wpIn_region_lit ?_
  refine x_run tab hk (k := 3) (lv := []) (ks := [0, 1, 2, 15]) (e' := [(0, .slice Ap0 (p0).length cp0), (1, .int .i64 p1), (2, .int .i64 p2), (15, .bool (decide (p2 < (0 : Int))))]) rfl trivial fun a hk => ?_
  cases b4118 : (decide (p2 < (0 : Int)))
  · rw [b4118] at hk H
    replace H := bifF H
    refine x_run tab hk (k := 5) (lv := []) (ks := [0, 1, 2, 20]) (e' := [(0, .slice Ap0 (p0).length cp0), (1, .int .i64 p1), (2, .int .i64 p2), (20, .bool (decide (p2 ≥ ((p0).length : Int))))]) rfl trivial fun a hk => ?_
    refine wpListIn_nil ?_
    refine then_n ?_
    exact ⟨o0, (decide (p2 ≥ ((p0).length : Int))), (by exact Kn.pick (ks := [0, 1, 2, 20]) hk rfl), hs, f900000, H⟩
  · rw [b4118] at hk H
    replace H := bifT H
    refine x_run tab hk (k := 5) (lv := []) (ks := [0, 1, 2, 20]) (e' := [(0, .slice Ap0 (p0).length cp0), (1, .int .i64 p1), (2, .int .i64 p2), (20, .bool true)]) rfl trivial fun a hk => ?_
    refine wpListIn_nil ?_
    refine then_n ?_
    exact ⟨o0, true, (by exact Kn.pick (ks := [0, 1, 2, 20]) hk rfl), hs, f900000, H⟩

/-! tidewrack/tidewracklaw09.Glyphs -/
theorem tidewracklaw09_Glyphs_calls (K : Nat) (Ap0 : Option Addr) (cp0 : Nat) (p0 : List T24) (Ap1 : Option Addr) (cp1 : Nat) (p1 : List T49) (w : World) (o : Nat → Nat) (Lp0 : Nat) (hp0 : Ft (RdC ET24 Ap0 p0) w o Lp0) (hcp0 : (p0).length ≤ cp0) (Lp1 : Nat) (hp1 : Ft (RdC ET49 Ap1 p1) w o Lp1) (hcp1 : (p1).length ≤ cp1)  (r : Bool) (H : tidewracklaw09_Glyphs K p0 p1 = some r) :
    Calls Tryd.prog 19 #[.slice Ap0 (p0).length cp0, .slice Ap1 (p1).length cp1] w (Ret fun v_ w' => ∃ o' : Nat → Nat, v_ = .bool r ∧ St [] w o w' o') := by
  refine x_enter (vs := [.slice Ap0 (p0).length cp0, .slice Ap1 (p1).length cp1]) Tryd.func19 rfl rfl rfl fun a hk => ?_
  obtain ⟨o0, hs, h0⟩ := St.start w o
  have f900000 := h0 _ _ hp0
  have f900020 := h0 _ _ hp1
  clear h0
  rw [tidewracklaw09_Glyphs] at H
  refine x_seq ?_
  refine wpIn_region_lit ?_
  refine x_run tab hk (k := 1) (lv := []) (ks := [0, 1]) (e' := [(0, .slice Ap0 (p0).length cp0), (1, .slice Ap1 (p1).length cp1)]) rfl trivial fun a hk => ?_
  refine wpListIn_nil ?_
  refine then_n ?_
  refine x_seq ?_
  refine x_seq ?_
  refine wpIn_region_lit ?_
  refine x_run tab hk (k := 5) (lv := []) (ks := [0, 1, 11]) (e' := [(0, .slice Ap0 (p0).length cp0), (1, .slice Ap1 (p1).length cp1), (11, .bool (((p0).length : Int) != ((p1).length : Int)))]) rfl trivial fun a hk => ?_
  refine wpListIn_nil ?_
  refine then_n ?_
  cases b1 : (((p0).length : Int) != ((p1).length : Int))
  · rw [b1] at hk H
    replace H := bifF H
    refine x_if hk (b := false) rfl ?_
    refine (show Code.wpIn _ _ _ _ _ _ _ from ?_)
    refine wpIn_skip ?_
    refine then_n ?_
    refine x_mid (fun a_ w_ => ∃ o83 : Nat → Nat, Kn 39 a_ [] ∧ St [] w (fun _ => 0) w_ o83 ∧ tidewracklaw09_Glyphs_j1 = some r) ?_ ?_
    rotate_left
    · rintro a w84 ⟨o83, hk, hs, H⟩
      rw [tidewracklaw09_Glyphs_j1] at H
      refine x_seq ?_
      refine wpIn_region_lit ?_
      refine x_run tab hk (k := 1) (lv := []) (ks := [4]) (e' := [(4, .bool true)]) rfl trivial fun a hk => ?_
      refine wpListIn_nil ?_
      refine then_n ?_
      refine wpIn_ret ?_
      obtain rfl := Option.some.inj H
      exact x_retG hk (rs := [.tmp 4]) (vs := [.bool true]) rfl ⟨rfl, trivial⟩ ⟨fun b_ => if b_ < w.heap.size then o b_ else (fun _ => 0) (o83 b_), rfl, hs.close0 o (fun _ => 0)⟩
    refine x_seq ?_
    refine wpIn_region_lit ?_
    refine x_run tab hk (k := 3) (lv := []) (ks := [1, 12, 13, 14]) (e' := [(1, .slice Ap1 (p1).length cp1), (12, .slice Ap0 (p0).length cp0), (13, .int .i64 ((p0).length : Int)), (14, .int .i64 0)]) rfl trivial fun a hk => ?_
    refine wpListIn_nil ?_
    refine then_n ?_
    refine wpIn_block ?_
    refine x_loop (fun j_ a_ w_ => ∃ o111 : Nat → Nat, ∃ x112 : Int, Kn 39 a_ [(1, .slice Ap1 (p1).length cp1), (12, .slice Ap0 (p0).length cp0), (13, .int .i64 ((p0).length : Int)), (14, .int .i64 x112)] ∧ St [] w (fun _ => 0) w_ o111 ∧ Ft (RdC ET24 Ap0 p0) w_ o111 0 ∧ Ft (RdC ET49 Ap1 p1) w_ o111 0 ∧ tidewracklaw09_Glyphs_l2 p0 p1 j_ x112 = some r) (k := K) ⟨o0, 0, (by exact Kn.pick (ks := [1, 12, 13, 14]) hk rfl), hs, f900000, f900020, H⟩ (by rintro _ _ ⟨_, _, _, _, _, _, H_⟩; exact absurd (show (none : Option Bool) = some r from H_) (by simp)) ?_
    rintro k137 a w136 ⟨o111, x112, hk, hs, f900000, f900020, H⟩
    rw [tidewracklaw09_Glyphs_l2] at H
    obtain ⟨lp138, hlp139⟩ : ∃ lp_, lp_ = tidewracklaw09_Glyphs_l2 p0 p1 k137 := ⟨_, rfl⟩
    rw [← hlp139] at H
    refine x_seq ?_
    refine wpIn_region_lit ?_
    refine x_run tab hk (k := 1) (lv := []) (ks := [1, 12, 13, 14, 15]) (e' := [(1, .slice Ap1 (p1).length cp1), (12, .slice Ap0 (p0).length cp0), (13, .int .i64 ((p0).length : Int)), (14, .int .i64 x112), (15, .bool (decide (x112 < ((p0).length : Int))))]) rfl trivial fun a hk => ?_
    refine wpListIn_nil ?_
    refine then_n ?_
    refine x_seq ?_
    cases b140 : (decide (x112 < ((p0).length : Int)))
    · rw [b140] at hk H
      replace H := bifF H
      refine x_if hk (b := false) rfl ?_
      refine (show Code.wpIn _ _ _ _ _ _ _ from ?_)
      refine wpIn_exit ?_
      refine then_x ?_
      refine then_x ?_
      refine blk_x ?_
      refine then_n ?_
      exact ⟨o111, (by exact Kn.pick (ks := []) hk rfl), hs, H⟩
    · rw [b140] at hk H
      replace H := bifT H
      refine x_if hk (b := true) rfl ?_
      refine (show Code.wpIn _ _ _ _ _ _ _ from ?_)
      refine wpIn_skip ?_
      refine then_n ?_
      refine x_seq ?_
      refine wpIn_block ?_
      refine x_seq ?_
      refine wpIn_region_lit ?_
      obtain ⟨q141, H⟩ := ifS H
      obtain ⟨ad142, hAad142⟩ := RdC.addr f900000.now q141
      have hk_C := hk
      have f900000_C := f900000
      have f900020_C := f900020
      subst hAad142
      have hk := hk_C
      clear hk_C
      have f900000 := f900000_C
      clear f900000_C
      have f900020 := f900020_C
      clear f900020_C
      refine x_run tab hk (k := 3) (lv := [.agg #[.int .i32 ((rdD zT24 p0 x112).Rune), .int .i64 ((rdD zT24 p0 x112).Style)]]) (ks := [1, 12, 13, 14, 16, 18]) (e' := [(1, .slice Ap1 (p1).length cp1), (12, .slice (some ad142) (p0).length cp0), (13, .int .i64 ((p0).length : Int)), (14, .int .i64 x112), (16, .int .i64 x112), (18, .agg #[.int .i32 ((rdD zT24 p0 x112).Rune), .int .i64 ((rdD zT24 p0 x112).Style)])]) rfl ⟨q141, (load_elem (E := ET24) (i := x112) (dx := zT24) tab rfl rfl f900000.now q141), trivial⟩ fun a hk => ?_
      refine x_op hk rfl ?_
      refine op_alloc (o := o111) tab (t := 25) (cs := [.int .i32 0, .int .i64 0]) rfl rfl 6 fun bx146 w143 o144 st145 f147 => ?_
      replace f900000 := f900000.st st145 (by decide)
      replace f900020 := f900020.st st145 (by decide)
      replace hs := hs.loc0 st145 (by decide)
      have hk := hk.put 6 (.pointer (some ⟨bx146, 0, none⟩)) rfl
      refine x_run tab hk (k := 1) (lv := []) (ks := [1, 5, 6, 12, 13, 14, 18]) (e' := [(1, .slice Ap1 (p1).length cp1), (5, .int .i64 x112), (6, .pointer (some ⟨bx146, 0, none⟩)), (12, .slice (some ad142) (p0).length cp0), (13, .int .i64 ((p0).length : Int)), (14, .int .i64 x112), (18, .agg #[.int .i32 ((rdD zT24 p0 x112).Rune), .int .i64 ((rdD zT24 p0 x112).Style)])]) rfl trivial fun a hk => ?_
      refine x_op hk rfl ?_
      refine op_store tab hk (t := 25) (v := .agg #[.int .i32 ((rdD zT24 p0 x112).Rune), .int .i64 ((rdD zT24 p0 x112).Style)]) (b := bx146) (k := 0) (cs' := [.int .i32 ((rdD zT24 p0 x112).Rune), .int .i64 ((rdD zT24 p0 x112).Style)]) rfl rfl rfl rfl rfl rfl f147 rfl rfl fun w148 o149 st150 f147_ => ?_
      replace f900000 := f900000.st st150 (by decide)
      replace f900020 := f900020.st st150 (by decide)
      replace hs := hs.loc0 st150 (by decide)
      replace f147 := f147_
      refine wpListIn_nil ?_
      refine then_n ?_
      refine x_seq ?_
      refine xd_begin (o := o149) (fun W_ => (Bx bx146 25 [.int .i32 ((rdD zT24 p0 x112).Rune), .int .i64 ((rdD zT24 p0 x112).Style)]) W_ ∧ (RdC ET49 Ap1 p1) W_ ∧ True) mixed rfl rfl fun w157 st158 => ?_
      replace f147 := f147.st st158 (by decide)
      replace f900000 := f900000.st st158 (by decide)
      replace f900020 := f900020.st st158 (by decide)
      replace hs := hs.loc0 st158 (by decide)
      obtain ⟨q159, H⟩ := ifS H
      obtain ⟨ad160, hAad160⟩ := RdC.addr f900020.now q159
      have hk_C := hk
      have f147_C := f147
      have f900000_C := f900000
      have f900020_C := f900020
      subst hAad160
      have hk := hk_C
      clear hk_C
      have f147 := f147_C
      clear f147_C
      have f900000 := f900000_C
      clear f900000_C
      have f900020 := f900020_C
      clear f900020_C
      refine xd_take tab hk (k := 9) (is := [0, 1, 2, 3, 4, 5, 6, 7, 8, 9]) (ls' := #[true, true, true, true, true, true, true, true, true, true, false, false, false, false, false, false, false, false, false]) (lv := [.int .i32 ((rdD zT24 p0 x112).Rune), .int .i64 ((rdD zT49 p1 x112).Rune)]) (ks := [1, 5, 6, 12, 13, 14, 28]) (e' := [(1, .slice (some ad160) (p1).length cp1), (5, .int .i64 x112), (6, .pointer (some ⟨bx146, 0, none⟩)), (12, .slice (some ad142) (p0).length cp0), (13, .int .i64 ((p0).length : Int)), (14, .int .i64 x112), (28, .bool ((IntKind.wrap .i64 ((rdD zT24 p0 x112).Rune)) != ((rdD zT49 p1 x112).Rune)))]) (by kernel_rfl) rfl rfl (by kernel_rfl) (np_then (np_blk (np_then (np_then (np_blk (np_then np_body)))))) ⟨f147.now, f900020.now, trivial⟩ (fun W_ hS => ⟨(load1 tab rfl ((Bx.cell hS.1 0).trans rfl)), q159, (load1 tab rfl (RdC.at (E := ET49) (d := zT49) (i := x112) (j := 0) hS.2.1 q159 rfl)), trivial⟩) fun a hk => ?_
      cases b161 : ((IntKind.wrap .i64 ((rdD zT24 p0 x112).Rune)) != ((rdD zT49 p1 x112).Rune))
      · rw [b161] at hk H
        replace H := bifF H
        refine xd_take tab hk (k := 0) (is := [10, 11, 12, 13, 14, 15, 16, 17, 18]) (ls' := #[true, true, true, true, true, true, true, true, true, true, true, true, true, true, true, true, true, true, true]) (lv := [.int .i64 ((rdD zT24 p0 x112).Style), .int .i64 ((rdD zT49 p1 x112).Style)]) (ks := [1, 12, 13, 14, 37]) (e' := [(1, .slice (some ad160) (p1).length cp1), (12, .slice (some ad142) (p0).length cp0), (13, .int .i64 ((p0).length : Int)), (14, .int .i64 x112), (37, .bool (((rdD zT24 p0 x112).Style) != ((rdD zT49 p1 x112).Style)))]) (by kernel_rfl) rfl rfl (by kernel_rfl) (np_then (np_blk (np_then (np_then (np_blk (np_then np_body)))))) ⟨f147.now, f900020.now, trivial⟩ (fun W_ hS => ⟨(load1 tab rfl ((Bx.cell hS.1 1).trans rfl)), q159, (load1 tab rfl (RdC.at (E := ET49) (d := zT49) (i := x112) (j := 1) hS.2.1 q159 rfl)), trivial⟩) fun a hk => ?_
        refine xd_done (by kernel_rfl) ?_
        refine then_n ?_
        cases b162 : (((rdD zT24 p0 x112).Style) != ((rdD zT49 p1 x112).Style))
        · rw [b162] at hk H
          replace H := bifF H
          refine x_if hk (b := false) rfl ?_
          refine (show Code.wpIn _ _ _ _ _ _ _ from ?_)
          refine wpIn_skip ?_
          refine blk_n ?_
          refine then_n ?_
          refine wpIn_region_lit ?_
          refine x_run tab hk (k := 2) (lv := []) (ks := [1, 12, 13, 14]) (e' := [(1, .slice (some ad160) (p1).length cp1), (12, .slice (some ad142) (p0).length cp0), (13, .int .i64 ((p0).length : Int)), (14, .int .i64 (IntKind.wrap .i64 (x112 + 1)))]) rfl trivial fun a hk => ?_
          refine wpListIn_nil ?_
          refine then_n ?_
          exact ⟨k137, Nat.le_refl _, o149, (IntKind.wrap .i64 (x112 + 1)), (by exact Kn.pick (ks := [1, 12, 13, 14]) hk rfl), hs, f900000, f900020, (hlp139 ▸ H)⟩
        · rw [b162] at hk H
          replace H := bifT H
          refine x_if hk (b := true) rfl ?_
          refine (show Code.wpIn _ _ _ _ _ _ _ from ?_)
          refine x_seq ?_
          refine wpIn_region_lit ?_
          refine x_run tab hk (k := 1) (lv := []) (ks := [4]) (e' := [(4, .bool false)]) rfl trivial fun a hk => ?_
          refine wpListIn_nil ?_
          refine then_n ?_
          refine wpIn_ret ?_
          refine blk_r ?_
          refine then_r ?_
          refine then_r ?_
          refine blk_r ?_
          refine then_r ?_
          obtain rfl := Option.some.inj H
          exact x_retG hk (rs := [.tmp 4]) (vs := [.bool false]) rfl ⟨rfl, trivial⟩ ⟨fun b_ => if b_ < w.heap.size then o b_ else (fun _ => 0) (o149 b_), rfl, hs.close0 o (fun _ => 0)⟩
      · rw [b161] at hk H
        replace H := bifT H
        refine xd_take tab hk (k := 0) (is := [10, 11, 12, 13, 14, 15, 16, 17, 18]) (ls' := #[true, true, true, true, true, true, true, true, true, true, true, true, true, true, true, true, true, true, true]) (lv := []) (ks := [1, 12, 13, 14, 37]) (e' := [(1, .slice (some ad160) (p1).length cp1), (12, .slice (some ad142) (p0).length cp0), (13, .int .i64 ((p0).length : Int)), (14, .int .i64 x112), (37, .bool true)]) (by kernel_rfl) rfl rfl (by kernel_rfl) (np_then (np_blk (np_then (np_then (np_blk (np_then np_body)))))) ⟨f147.now, f900020.now, trivial⟩ (fun W_ hS => trivial) fun a hk => ?_
        refine xd_done (by kernel_rfl) ?_
        refine then_n ?_
        refine x_if hk (b := true) rfl ?_
        refine (show Code.wpIn _ _ _ _ _ _ _ from ?_)
        refine x_seq ?_
        refine wpIn_region_lit ?_
        refine x_run tab hk (k := 1) (lv := []) (ks := [4]) (e' := [(4, .bool false)]) rfl trivial fun a hk => ?_
        refine wpListIn_nil ?_
        refine then_n ?_
        refine wpIn_ret ?_
        refine blk_r ?_
        refine then_r ?_
        refine then_r ?_
        refine blk_r ?_
        refine then_r ?_
        obtain rfl := Option.some.inj H
        exact x_retG hk (rs := [.tmp 4]) (vs := [.bool false]) rfl ⟨rfl, trivial⟩ ⟨fun b_ => if b_ < w.heap.size then o b_ else (fun _ => 0) (o149 b_), rfl, hs.close0 o (fun _ => 0)⟩
  · rw [b1] at hk H
    replace H := bifT H
    refine x_if hk (b := true) rfl ?_
    refine (show Code.wpIn _ _ _ _ _ _ _ from ?_)
    refine x_seq ?_
    refine wpIn_region_lit ?_
    refine x_run tab hk (k := 1) (lv := []) (ks := [4]) (e' := [(4, .bool false)]) rfl trivial fun a hk => ?_
    refine wpListIn_nil ?_
    refine then_n ?_
    refine wpIn_ret ?_
    refine then_r ?_
    obtain rfl := Option.some.inj H
    exact x_retG hk (rs := [.tmp 4]) (vs := [.bool false]) rfl ⟨rfl, trivial⟩ ⟨fun b_ => if b_ < w.heap.size then o b_ else (fun _ => 0) (o0 b_), rfl, hs.close0 o (fun _ => 0)⟩

/-! tidewrack/tidewracklaw15.Rows -/
theorem tidewracklaw15_Rows_calls (K : Nat) (Ap0 : Option Addr) (cp0 : Nat) (p0 : List (List T24)) (Ap1 : Option Addr) (cp1 : Nat) (p1 : List (List T49)) (w : World) (o : Nat → Nat) (LF : Nat) (Lp0 : Nat) (hp0 : NRd (dRows ET24) Ap0 p0 w o Lp0 LF) (hcp0 : (p0).length ≤ cp0) (Lp1 : Nat) (hp1 : NRd (dRows ET49) Ap1 p1 w o Lp1 LF) (hcp1 : (p1).length ≤ cp1) (hd0 : ([LF] : List Nat).Nodup) (hd1 : Lp0 ∉ [LF]) (hd2 : Lp1 ∉ [LF]) (r : Bool) (H : tidewracklaw15_Rows K p0 p1 = some r) :
    Calls Tryd.prog 15 #[.slice Ap0 (p0).length cp0, .slice Ap1 (p1).length cp1] w (Ret fun v_ w' => ∃ o' : Nat → Nat, v_ = .bool r ∧ St [] w o w' o') := by
  refine x_enter (vs := [.slice Ap0 (p0).length cp0, .slice Ap1 (p1).length cp1]) Tryd.func15 rfl rfl rfl fun a hk => ?_
  obtain ⟨oi, hs0, h0, h1, hob, hoz, hoa⟩ := St.startM2 w o (m := 1) hd0 rfl
  have hs := hs0 []
  have f900000 := hp0.conv (fun P_ => h0 P_ _ hd1) (fun _ h_ => h1 0 1 h_ rfl rfl)
  have f900020 := hp1.conv (fun P_ => h0 P_ _ hd2) (fun _ h_ => h1 0 1 h_ rfl rfl)
  clear h0 h1 hs0
  rw [tidewracklaw15_Rows] at H
  refine x_seq ?_
  refine wpIn_region_lit ?_
  refine x_run tab hk (k := 1) (lv := []) (ks := [0, 1]) (e' := [(0, .slice Ap0 (p0).length cp0), (1, .slice Ap1 (p1).length cp1)]) rfl trivial fun a hk => ?_
  refine wpListIn_nil ?_
  refine then_n ?_
  refine x_seq ?_
  refine x_seq ?_
  refine wpIn_region_lit ?_
  refine x_run tab hk (k := 5) (lv := []) (ks := [0, 1, 10]) (e' := [(0, .slice Ap0 (p0).length cp0), (1, .slice Ap1 (p1).length cp1), (10, .bool (((p0).length : Int) != ((p1).length : Int)))]) rfl trivial fun a hk => ?_
  refine wpListIn_nil ?_
  refine then_n ?_
  cases b1 : (((p0).length : Int) != ((p1).length : Int))
  · rw [b1] at hk H
    replace H := bifF H
    refine x_if hk (b := false) rfl ?_
    refine (show Code.wpIn _ _ _ _ _ _ _ from ?_)
    refine wpIn_skip ?_
    refine then_n ?_
    refine x_mid (fun a_ w_ => ∃ o194 : Nat → Nat, Kn 27 a_ [] ∧ St [] w oi w_ o194 ∧ tidewracklaw15_Rows_j1 = some r) ?_ ?_
    rotate_left
    · rintro a w195 ⟨o194, hk, hs, H⟩
      rw [tidewracklaw15_Rows_j1] at H
      refine x_seq ?_
      refine wpIn_region_lit ?_
      refine x_run tab hk (k := 1) (lv := []) (ks := [4]) (e' := [(4, .bool true)]) rfl trivial fun a hk => ?_
      refine wpListIn_nil ?_
      refine then_n ?_
      refine wpIn_ret ?_
      obtain rfl := Option.some.inj H
      exact x_retG hk (rs := [.tmp 4]) (vs := [.bool true]) rfl ⟨rfl, trivial⟩ ⟨fun b_ => if b_ < w.heap.size then o b_ else (fun l_ => if l_ = 1 then LF else 0) (o194 b_), rfl, hs.closeF (Lm := []) (Sh := []) hoa rfl (fun l_ => if l_ = 1 then LF else 0)⟩
    refine x_seq ?_
    refine wpIn_region_lit ?_
    refine x_run tab hk (k := 3) (lv := []) (ks := [0, 1, 12, 13]) (e' := [(0, .slice Ap0 (p0).length cp0), (1, .slice Ap1 (p1).length cp1), (12, .int .i64 ((p1).length : Int)), (13, .int .i64 0)]) rfl trivial fun a hk => ?_
    refine wpListIn_nil ?_
    refine then_n ?_
    refine wpIn_block ?_
    refine x_loop (fun j_ a_ w_ => ∃ o259 : Nat → Nat, ∃ x260 : Int, Kn 27 a_ [(0, .slice Ap0 (p0).length cp0), (1, .slice Ap1 (p1).length cp1), (12, .int .i64 ((p1).length : Int)), (13, .int .i64 x260)] ∧ St [] w oi w_ o259 ∧ NRd (dRows ET24) Ap0 p0 w_ o259 0 1 ∧ NRd (dRows ET49) Ap1 p1 w_ o259 0 1 ∧ tidewracklaw15_Rows_l2 K p0 p1 j_ x260 = some r) (k := K) ⟨oi, 0, (by exact Kn.pick (ks := [0, 1, 12, 13]) hk rfl), hs, f900000, f900020, H⟩ (by rintro _ _ ⟨_, _, _, _, _, _, H_⟩; exact absurd (show (none : Option Bool) = some r from H_) (by simp)) ?_
    rintro k322 a w321 ⟨o259, x260, hk, hs, f900000, f900020, H⟩
    rw [tidewracklaw15_Rows_l2] at H
    obtain ⟨lp323, hlp324⟩ : ∃ lp_, lp_ = tidewracklaw15_Rows_l2 K p0 p1 k322 := ⟨_, rfl⟩
    rw [← hlp324] at H
    refine x_seq ?_
    refine wpIn_region_lit ?_
    refine x_run tab hk (k := 1) (lv := []) (ks := [0, 1, 12, 13, 14]) (e' := [(0, .slice Ap0 (p0).length cp0), (1, .slice Ap1 (p1).length cp1), (12, .int .i64 ((p1).length : Int)), (13, .int .i64 x260), (14, .bool (decide (x260 < ((p1).length : Int))))]) rfl trivial fun a hk => ?_
    refine wpListIn_nil ?_
    refine then_n ?_
    refine x_seq ?_
    cases b325 : (decide (x260 < ((p1).length : Int)))
    · rw [b325] at hk H
      replace H := bifF H
      refine x_if hk (b := false) rfl ?_
      refine (show Code.wpIn _ _ _ _ _ _ _ from ?_)
      refine wpIn_exit ?_
      refine then_x ?_
      refine then_x ?_
      refine blk_x ?_
      refine then_n ?_
      exact ⟨o259, (by exact Kn.pick (ks := []) hk rfl), hs, H⟩
    · rw [b325] at hk H
      replace H := bifT H
      refine x_if hk (b := true) rfl ?_
      refine (show Code.wpIn _ _ _ _ _ _ _ from ?_)
      refine wpIn_skip ?_
      refine then_n ?_
      refine x_seq ?_
      refine wpIn_block ?_
      refine x_seq ?_
      refine wpIn_region_lit ?_
      refine x_run tab hk (k := 2) (lv := []) (ks := [0, 1, 5, 12, 13]) (e' := [(0, .slice Ap0 (p0).length cp0), (1, .slice Ap1 (p1).length cp1), (5, .int .i64 x260), (12, .int .i64 ((p1).length : Int)), (13, .int .i64 x260)]) rfl trivial fun a hk => ?_
      refine wpListIn_nil ?_
      refine then_n ?_
      refine x_seq ?_
      obtain ⟨q348, H⟩ := ifS H
      obtain ⟨ad349, hAad349⟩ := NRd.addr f900000 q348
      have hk_C := hk
      have f900000_C := f900000
      have f900020_C := f900020
      subst hAad349
      have hk := hk_C
      clear hk_C
      have f900000 := f900000_C
      clear f900000_C
      have f900020 := f900020_C
      clear f900020_C
      obtain ⟨A350, c351, f352, f353, hc354⟩ := NRd.row f900000 (P := Tryd.prog) tab (t := 22) rfl (i := x260) q348
      obtain ⟨q355, H⟩ := ifS H
      obtain ⟨ad356, hAad356⟩ := NRd.addr f900020 q355
      have hk_C := hk
      have f900000_C := f900000
      have f900020_C := f900020
      subst hAad356
      have hk := hk_C
      clear hk_C
      have f900000 := f900000_C
      clear f900000_C
      have f900020 := f900020_C
      clear f900020_C
      obtain ⟨A357, c358, f359, f360, hc361⟩ := NRd.row f900020 (P := Tryd.prog) tab (t := 30) rfl (i := x260) q355
      obtain ⟨t365, hc366, H⟩ := bindS H
      refine xd_begin (o := o259) (fun W_ => (fun W => LoadIs Tryd.prog 22 (ad349.add (Int.toNat x260 * 1)) (.slice A350 (rdD [] p0 x260).length c351) W) W_ ∧ (fun W => LoadIs Tryd.prog 30 (ad356.add (Int.toNat x260 * 1)) (.slice A357 (rdD [] p1 x260).length c358) W) W_ ∧ True) mixed rfl rfl fun w376 st377 => ?_
      replace f352 := f352.st st377 (by decide)
      replace f353 := f353.st st377 (by decide)
      replace f359 := f359.st st377 (by decide)
      replace f360 := f360.st st377 (by decide)
      replace f900000 := f900000.st st377 (by decide)
      replace f900020 := f900020.st st377 (by decide)
      replace hs := hs.locQ st377 hob rfl
      refine xd_take tab hk (k := 2) (is := [0, 1, 2, 3, 4, 5, 6, 7]) (ls' := #[true, true, true, true, true, true, true, true, false, false]) (lv := [.slice A350 ((rdD [] p0 x260)).length c351, .slice A357 ((rdD [] p1 x260)).length c358]) (ks := [0, 1, 12, 13, 19, 23]) (e' := [(0, .slice (some ad349) (p0).length cp0), (1, .slice (some ad356) (p1).length cp1), (12, .int .i64 ((p1).length : Int)), (13, .int .i64 x260), (19, .slice A350 ((rdD [] p0 x260)).length c351), (23, .slice A357 ((rdD [] p1 x260)).length c358)]) (by kernel_rfl) rfl rfl (by kernel_rfl) (np_then (np_blk (np_then (np_then (np_blk (np_then np_body)))))) ⟨f352.now, f359.now, trivial⟩ (fun W_ hS => ⟨q348, hS.1, q355, hS.2.1, trivial⟩) fun a hk => ?_
      refine xd_op hk (i := 8) (by kernel_rfl) rfl rfl ?_
      refine op_call hk ent_19 (vs := [.slice A350 ((rdD [] p0 x260)).length c351, .slice A357 ((rdD [] p1 x260)).length c358]) rfl (tidewracklaw09_Glyphs_calls K A350 c351 (rdD [] p0 x260) A357 c358 (rdD [] p1 x260) _ o259 _ f353 hc354 _ f360 hc361   _ hc366) ?_
      rintro _ w381 ⟨o382, rfl, st383⟩
      replace f352 := f352.st st383 (by decide)
      replace f353 := f353.st st383 (by decide)
      replace f359 := f359.st st383 (by decide)
      replace f360 := f360.st st383 (by decide)
      replace f900000 := f900000.st st383 (by decide)
      replace f900020 := f900020.st st383 (by decide)
      replace hs := hs.locQ st383 hob rfl
      have hk := hk.put 24 (.bool t365) rfl
      refine ⟨.inr ⟨f352.now, f359.now, trivial⟩, ?_⟩
      refine xd_take tab hk (k := 0) (is := [9]) (ls' := #[true, true, true, true, true, true, true, true, true, true]) (lv := []) (ks := [0, 1, 12, 13, 25]) (e' := [(0, .slice (some ad349) (p0).length cp0), (1, .slice (some ad356) (p1).length cp1), (12, .int .i64 ((p1).length : Int)), (13, .int .i64 x260), (25, .bool (!t365))]) (by kernel_rfl) rfl rfl (by kernel_rfl) (np_then (np_blk (np_then (np_then (np_blk (np_then np_body)))))) ⟨f352.now, f359.now, trivial⟩ (fun W_ hS => trivial) fun a hk => ?_
      refine xd_done (by kernel_rfl) ?_
      refine then_n ?_
      cases b384 : (!t365)
      · rw [b384] at hk H
        replace H := bifF H
        refine x_if hk (b := false) rfl ?_
        refine (show Code.wpIn _ _ _ _ _ _ _ from ?_)
        refine wpIn_skip ?_
        refine blk_n ?_
        refine then_n ?_
        refine wpIn_region_lit ?_
        refine x_run tab hk (k := 2) (lv := []) (ks := [0, 1, 12, 13]) (e' := [(0, .slice (some ad349) (p0).length cp0), (1, .slice (some ad356) (p1).length cp1), (12, .int .i64 ((p1).length : Int)), (13, .int .i64 (IntKind.wrap .i64 (x260 + 1)))]) rfl trivial fun a hk => ?_
        refine wpListIn_nil ?_
        refine then_n ?_
        exact ⟨k322, Nat.le_refl _, o382, (IntKind.wrap .i64 (x260 + 1)), (by exact Kn.pick (ks := [0, 1, 12, 13]) hk rfl), hs, f900000, f900020, (hlp324 ▸ H)⟩
      · rw [b384] at hk H
        replace H := bifT H
        refine x_if hk (b := true) rfl ?_
        refine (show Code.wpIn _ _ _ _ _ _ _ from ?_)
        refine x_seq ?_
        refine wpIn_region_lit ?_
        refine x_run tab hk (k := 1) (lv := []) (ks := [4]) (e' := [(4, .bool false)]) rfl trivial fun a hk => ?_
        refine wpListIn_nil ?_
        refine then_n ?_
        refine wpIn_ret ?_
        refine blk_r ?_
        refine then_r ?_
        refine then_r ?_
        refine blk_r ?_
        refine then_r ?_
        obtain rfl := Option.some.inj H
        exact x_retG hk (rs := [.tmp 4]) (vs := [.bool false]) rfl ⟨rfl, trivial⟩ ⟨fun b_ => if b_ < w.heap.size then o b_ else (fun l_ => if l_ = 1 then LF else 0) (o382 b_), rfl, hs.closeF (Lm := []) (Sh := []) hoa rfl (fun l_ => if l_ = 1 then LF else 0)⟩
  · rw [b1] at hk H
    replace H := bifT H
    refine x_if hk (b := true) rfl ?_
    refine (show Code.wpIn _ _ _ _ _ _ _ from ?_)
    refine x_seq ?_
    refine wpIn_region_lit ?_
    refine x_run tab hk (k := 1) (lv := []) (ks := [4]) (e' := [(4, .bool false)]) rfl trivial fun a hk => ?_
    refine wpListIn_nil ?_
    refine then_n ?_
    refine wpIn_ret ?_
    refine then_r ?_
    obtain rfl := Option.some.inj H
    exact x_retG hk (rs := [.tmp 4]) (vs := [.bool false]) rfl ⟨rfl, trivial⟩ ⟨fun b_ => if b_ < w.heap.size then o b_ else (fun l_ => if l_ = 1 then LF else 0) (oi b_), rfl, hs.closeF (Lm := []) (Sh := []) hoa rfl (fun l_ => if l_ = 1 then LF else 0)⟩

/-! tidewrack/tidewrackref05.Encode -/
theorem tidewrackref05_Encode_calls (p0 : Int) (w : World) (o : Nat → Nat)   (r : ByteArray) (H : tidewrackref05_Encode p0 = some r) :
    Calls Tryd.prog 26 #[.int .i64 p0] w (Ret fun v_ w' => ∃ o' : Nat → Nat, v_ = .string r ∧ St [] w o w' o') := by
  refine x_enter (vs := [.int .i64 p0]) Tryd.func26 rfl rfl rfl fun a hk => ?_
  obtain ⟨o0, hs, h0⟩ := St.start w o
  clear h0
  rw [tidewrackref05_Encode] at H
  refine x_seq ?_
  refine wpIn_region_lit ?_
  refine x_run tab hk (k := 1) (lv := []) (ks := [0]) (e' := [(0, .int .i64 p0)]) rfl trivial fun a hk => ?_
  refine wpListIn_nil ?_
  refine then_n ?_
  refine x_mid (fun a_ w_ => ∃ o11 : Nat → Nat, ∃ x12 : Int, Kn 72 a_ [(0, .int .i64 x12)] ∧ St [] w (fun _ => 0) w_ o11 ∧ tidewrackref05_Encode_j1 x12 = some r) ?_ ?_
  rotate_left
  · rintro a w13 ⟨o11, x12, hk, hs, H⟩
    rw [tidewrackref05_Encode_j1] at H
    refine x_seq ?_
    refine x_seq ?_
    refine wpIn_region_lit ?_
    refine x_run tab hk (k := 2) (lv := []) (ks := [0, 18]) (e' := [(0, .int .i64 x12), (18, .bool (decide (x12 < (128 : Int))))]) rfl trivial fun a hk => ?_
    refine wpListIn_nil ?_
    refine then_n ?_
    cases b14 : (decide (x12 < (128 : Int)))
    · rw [b14] at hk H
      replace H := bifF H
      refine x_if hk (b := false) rfl ?_
      refine (show Code.wpIn _ _ _ _ _ _ _ from ?_)
      refine wpIn_skip ?_
      refine then_n ?_
      refine x_seq ?_
      refine x_seq ?_
      refine wpIn_region_lit ?_
      refine x_run tab hk (k := 2) (lv := []) (ks := [0, 24]) (e' := [(0, .int .i64 x12), (24, .bool (decide (x12 < (2048 : Int))))]) rfl trivial fun a hk => ?_
      refine wpListIn_nil ?_
      refine then_n ?_
      cases b15 : (decide (x12 < (2048 : Int)))
      · rw [b15] at hk H
        replace H := bifF H
        refine x_if hk (b := false) rfl ?_
        refine (show Code.wpIn _ _ _ _ _ _ _ from ?_)
        refine wpIn_skip ?_
        refine then_n ?_
        refine x_seq ?_
        refine x_seq ?_
        refine wpIn_region_lit ?_
        refine x_run tab hk (k := 2) (lv := []) (ks := [0, 36]) (e' := [(0, .int .i64 x12), (36, .bool (decide (x12 < (65536 : Int))))]) rfl trivial fun a hk => ?_
        refine wpListIn_nil ?_
        refine then_n ?_
        cases b16 : (decide (x12 < (65536 : Int)))
        · rw [b16] at hk H
          replace H := bifF H
          refine x_if hk (b := false) rfl ?_
          refine (show Code.wpIn _ _ _ _ _ _ _ from ?_)
          refine wpIn_skip ?_
          refine then_n ?_
          refine x_seq ?_
          refine wpIn_region_lit ?_
          refine x_run tab hk (k := 10) (lv := []) (ks := [0, 55, 60, 61]) (e' := [(0, .int .i64 x12), (55, .int .u8 (IntKind.wrap .u8 (IntKind.wrap .i64 (240 + (IntKind.wrap .i64 (Int.tdiv x12 262144)))))), (60, .int .u8 (IntKind.wrap .u8 (IntKind.wrap .i64 (128 + (Int.tmod (IntKind.wrap .i64 (Int.tdiv x12 4096)) 64))))), (61, .int .i64 x12)]) rfl ⟨(show (262144 : Int) ≠ 0 from by decide), (show (4096 : Int) ≠ 0 from by decide), (show (64 : Int) ≠ 0 from by decide), trivial⟩ fun a hk => ?_
          refine x_run tab hk (k := 8) (lv := []) (ks := [55, 60, 65, 69]) (e' := [(55, .int .u8 (IntKind.wrap .u8 (IntKind.wrap .i64 (240 + (IntKind.wrap .i64 (Int.tdiv x12 262144)))))), (60, .int .u8 (IntKind.wrap .u8 (IntKind.wrap .i64 (128 + (Int.tmod (IntKind.wrap .i64 (Int.tdiv x12 4096)) 64))))), (65, .int .u8 (IntKind.wrap .u8 (IntKind.wrap .i64 (128 + (Int.tmod (IntKind.wrap .i64 (Int.tdiv x12 64)) 64))))), (69, .int .u8 (IntKind.wrap .u8 (IntKind.wrap .i64 (128 + (Int.tmod x12 64)))))]) rfl ⟨(show (64 : Int) ≠ 0 from by decide), (show (64 : Int) ≠ 0 from by decide), (show (64 : Int) ≠ 0 from by decide), trivial⟩ fun a hk => ?_
          refine x_op hk rfl ?_
          refine op_slice (o := o11) tab hk (vs := [.int .u8 (IntKind.wrap .u8 (IntKind.wrap .i64 (240 + (IntKind.wrap .i64 (Int.tdiv x12 262144))))), .int .u8 (IntKind.wrap .u8 (IntKind.wrap .i64 (128 + (Int.tmod (IntKind.wrap .i64 (Int.tdiv x12 4096)) 64)))), .int .u8 (IntKind.wrap .u8 (IntKind.wrap .i64 (128 + (Int.tmod (IntKind.wrap .i64 (Int.tdiv x12 64)) 64)))), .int .u8 (IntKind.wrap .u8 (IntKind.wrap .i64 (128 + (Int.tmod x12 64))))]) (cs := [.int .u8 (IntKind.wrap .u8 (IntKind.wrap .i64 (240 + (IntKind.wrap .i64 (Int.tdiv x12 262144))))), .int .u8 (IntKind.wrap .u8 (IntKind.wrap .i64 (128 + (Int.tmod (IntKind.wrap .i64 (Int.tdiv x12 4096)) 64)))), .int .u8 (IntKind.wrap .u8 (IntKind.wrap .i64 (128 + (Int.tmod (IntKind.wrap .i64 (Int.tdiv x12 64)) 64)))), .int .u8 (IntKind.wrap .u8 (IntKind.wrap .i64 (128 + (Int.tmod x12 64))))]) rfl rfl rfl rfl rfl rfl rfl rfl rfl 1 fun bx20 w17 o18 st19 f21 => ?_
          replace hs := hs.loc0 st19 (by decide)
          have f22 : Ft (Own (encInt .u8) 5 (.slice (some ⟨bx20, 0, none⟩) (([(IntKind.wrap .u8 (IntKind.wrap .i64 (240 + (IntKind.wrap .i64 (Int.tdiv x12 262144))))), (IntKind.wrap .u8 (IntKind.wrap .i64 (128 + (Int.tmod (IntKind.wrap .i64 (Int.tdiv x12 4096)) 64)))), (IntKind.wrap .u8 (IntKind.wrap .i64 (128 + (Int.tmod (IntKind.wrap .i64 (Int.tdiv x12 64)) 64)))), (IntKind.wrap .u8 (IntKind.wrap .i64 (128 + (Int.tmod x12 64))))] : List Int)).length 4) ([(IntKind.wrap .u8 (IntKind.wrap .i64 (240 + (IntKind.wrap .i64 (Int.tdiv x12 262144))))), (IntKind.wrap .u8 (IntKind.wrap .i64 (128 + (Int.tmod (IntKind.wrap .i64 (Int.tdiv x12 4096)) 64)))), (IntKind.wrap .u8 (IntKind.wrap .i64 (128 + (Int.tmod (IntKind.wrap .i64 (Int.tdiv x12 64)) 64)))), (IntKind.wrap .u8 (IntKind.wrap .i64 (128 + (Int.tmod x12 64))))] : List Int)) w17 o18 1 := f21.imp fun _ h_ => Own.of_box h_ rfl (by simp)
          have hk := hk.put 70 (.slice (some ⟨bx20, 0, none⟩) (([(IntKind.wrap .u8 (IntKind.wrap .i64 (240 + (IntKind.wrap .i64 (Int.tdiv x12 262144))))), (IntKind.wrap .u8 (IntKind.wrap .i64 (128 + (Int.tmod (IntKind.wrap .i64 (Int.tdiv x12 4096)) 64)))), (IntKind.wrap .u8 (IntKind.wrap .i64 (128 + (Int.tmod (IntKind.wrap .i64 (Int.tdiv x12 64)) 64)))), (IntKind.wrap .u8 (IntKind.wrap .i64 (128 + (Int.tmod x12 64))))] : List Int)).length 4) rfl
          refine x_run tab hk (k := 2) (lv := [.string (strOfNums ([(IntKind.wrap .u8 (IntKind.wrap .i64 (240 + (IntKind.wrap .i64 (Int.tdiv x12 262144))))), (IntKind.wrap .u8 (IntKind.wrap .i64 (128 + (Int.tmod (IntKind.wrap .i64 (Int.tdiv x12 4096)) 64)))), (IntKind.wrap .u8 (IntKind.wrap .i64 (128 + (Int.tmod (IntKind.wrap .i64 (Int.tdiv x12 64)) 64)))), (IntKind.wrap .u8 (IntKind.wrap .i64 (128 + (Int.tmod x12 64))))] : List Int))]) (ks := [2]) (e' := [(2, .string (strOfNums ([(IntKind.wrap .u8 (IntKind.wrap .i64 (240 + (IntKind.wrap .i64 (Int.tdiv x12 262144))))), (IntKind.wrap .u8 (IntKind.wrap .i64 (128 + (Int.tmod (IntKind.wrap .i64 (Int.tdiv x12 4096)) 64)))), (IntKind.wrap .u8 (IntKind.wrap .i64 (128 + (Int.tmod (IntKind.wrap .i64 (Int.tdiv x12 64)) 64)))), (IntKind.wrap .u8 (IntKind.wrap .i64 (128 + (Int.tmod x12 64))))] : List Int)))]) rfl ⟨(ask_str tab rfl rfl rfl rfl (Own.rd f22.now) (Own.plain f22.now _ _ _ rfl)), trivial⟩ fun a hk => ?_
          refine wpListIn_nil ?_
          refine then_n ?_
          refine wpIn_ret ?_
          obtain rfl := Option.some.inj H
          exact x_retG hk (rs := [.tmp 2]) (vs := [.string (strOfNums ([(IntKind.wrap .u8 (IntKind.wrap .i64 (240 + (IntKind.wrap .i64 (Int.tdiv x12 262144))))), (IntKind.wrap .u8 (IntKind.wrap .i64 (128 + (Int.tmod (IntKind.wrap .i64 (Int.tdiv x12 4096)) 64)))), (IntKind.wrap .u8 (IntKind.wrap .i64 (128 + (Int.tmod (IntKind.wrap .i64 (Int.tdiv x12 64)) 64)))), (IntKind.wrap .u8 (IntKind.wrap .i64 (128 + (Int.tmod x12 64))))] : List Int))]) rfl ⟨rfl, trivial⟩ ⟨fun b_ => if b_ < w.heap.size then o b_ else (fun _ => 0) (o18 b_), rfl, hs.close0 o (fun _ => 0)⟩
        · rw [b16] at hk H
          replace H := bifT H
          refine x_if hk (b := true) rfl ?_
          refine (show Code.wpIn _ _ _ _ _ _ _ from ?_)
          refine x_seq ?_
          refine wpIn_region_lit ?_
          refine x_run tab hk (k := 10) (lv := []) (ks := [40, 45, 46]) (e' := [(40, .int .u8 (IntKind.wrap .u8 (IntKind.wrap .i64 (224 + (IntKind.wrap .i64 (Int.tdiv x12 4096)))))), (45, .int .u8 (IntKind.wrap .u8 (IntKind.wrap .i64 (128 + (Int.tmod (IntKind.wrap .i64 (Int.tdiv x12 64)) 64))))), (46, .int .i64 x12)]) rfl ⟨(show (4096 : Int) ≠ 0 from by decide), (show (64 : Int) ≠ 0 from by decide), (show (64 : Int) ≠ 0 from by decide), trivial⟩ fun a hk => ?_
          refine x_run tab hk (k := 3) (lv := []) (ks := [40, 45, 49]) (e' := [(40, .int .u8 (IntKind.wrap .u8 (IntKind.wrap .i64 (224 + (IntKind.wrap .i64 (Int.tdiv x12 4096)))))), (45, .int .u8 (IntKind.wrap .u8 (IntKind.wrap .i64 (128 + (Int.tmod (IntKind.wrap .i64 (Int.tdiv x12 64)) 64))))), (49, .int .u8 (IntKind.wrap .u8 (IntKind.wrap .i64 (128 + (Int.tmod x12 64)))))]) rfl ⟨(show (64 : Int) ≠ 0 from by decide), trivial⟩ fun a hk => ?_
          refine x_op hk rfl ?_
          refine op_slice (o := o11) tab hk (vs := [.int .u8 (IntKind.wrap .u8 (IntKind.wrap .i64 (224 + (IntKind.wrap .i64 (Int.tdiv x12 4096))))), .int .u8 (IntKind.wrap .u8 (IntKind.wrap .i64 (128 + (Int.tmod (IntKind.wrap .i64 (Int.tdiv x12 64)) 64)))), .int .u8 (IntKind.wrap .u8 (IntKind.wrap .i64 (128 + (Int.tmod x12 64))))]) (cs := [.int .u8 (IntKind.wrap .u8 (IntKind.wrap .i64 (224 + (IntKind.wrap .i64 (Int.tdiv x12 4096))))), .int .u8 (IntKind.wrap .u8 (IntKind.wrap .i64 (128 + (Int.tmod (IntKind.wrap .i64 (Int.tdiv x12 64)) 64)))), .int .u8 (IntKind.wrap .u8 (IntKind.wrap .i64 (128 + (Int.tmod x12 64))))]) rfl rfl rfl rfl rfl rfl rfl rfl rfl 2 fun bx26 w23 o24 st25 f27 => ?_
          replace hs := hs.loc0 st25 (by decide)
          have f28 : Ft (Own (encInt .u8) 5 (.slice (some ⟨bx26, 0, none⟩) (([(IntKind.wrap .u8 (IntKind.wrap .i64 (224 + (IntKind.wrap .i64 (Int.tdiv x12 4096))))), (IntKind.wrap .u8 (IntKind.wrap .i64 (128 + (Int.tmod (IntKind.wrap .i64 (Int.tdiv x12 64)) 64)))), (IntKind.wrap .u8 (IntKind.wrap .i64 (128 + (Int.tmod x12 64))))] : List Int)).length 3) ([(IntKind.wrap .u8 (IntKind.wrap .i64 (224 + (IntKind.wrap .i64 (Int.tdiv x12 4096))))), (IntKind.wrap .u8 (IntKind.wrap .i64 (128 + (Int.tmod (IntKind.wrap .i64 (Int.tdiv x12 64)) 64)))), (IntKind.wrap .u8 (IntKind.wrap .i64 (128 + (Int.tmod x12 64))))] : List Int)) w23 o24 2 := f27.imp fun _ h_ => Own.of_box h_ rfl (by simp)
          have hk := hk.put 50 (.slice (some ⟨bx26, 0, none⟩) (([(IntKind.wrap .u8 (IntKind.wrap .i64 (224 + (IntKind.wrap .i64 (Int.tdiv x12 4096))))), (IntKind.wrap .u8 (IntKind.wrap .i64 (128 + (Int.tmod (IntKind.wrap .i64 (Int.tdiv x12 64)) 64)))), (IntKind.wrap .u8 (IntKind.wrap .i64 (128 + (Int.tmod x12 64))))] : List Int)).length 3) rfl
          refine x_run tab hk (k := 2) (lv := [.string (strOfNums ([(IntKind.wrap .u8 (IntKind.wrap .i64 (224 + (IntKind.wrap .i64 (Int.tdiv x12 4096))))), (IntKind.wrap .u8 (IntKind.wrap .i64 (128 + (Int.tmod (IntKind.wrap .i64 (Int.tdiv x12 64)) 64)))), (IntKind.wrap .u8 (IntKind.wrap .i64 (128 + (Int.tmod x12 64))))] : List Int))]) (ks := [2]) (e' := [(2, .string (strOfNums ([(IntKind.wrap .u8 (IntKind.wrap .i64 (224 + (IntKind.wrap .i64 (Int.tdiv x12 4096))))), (IntKind.wrap .u8 (IntKind.wrap .i64 (128 + (Int.tmod (IntKind.wrap .i64 (Int.tdiv x12 64)) 64)))), (IntKind.wrap .u8 (IntKind.wrap .i64 (128 + (Int.tmod x12 64))))] : List Int)))]) rfl ⟨(ask_str tab rfl rfl rfl rfl (Own.rd f28.now) (Own.plain f28.now _ _ _ rfl)), trivial⟩ fun a hk => ?_
          refine wpListIn_nil ?_
          refine then_n ?_
          refine wpIn_ret ?_
          refine then_r ?_
          obtain rfl := Option.some.inj H
          exact x_retG hk (rs := [.tmp 2]) (vs := [.string (strOfNums ([(IntKind.wrap .u8 (IntKind.wrap .i64 (224 + (IntKind.wrap .i64 (Int.tdiv x12 4096))))), (IntKind.wrap .u8 (IntKind.wrap .i64 (128 + (Int.tmod (IntKind.wrap .i64 (Int.tdiv x12 64)) 64)))), (IntKind.wrap .u8 (IntKind.wrap .i64 (128 + (Int.tmod x12 64))))] : List Int))]) rfl ⟨rfl, trivial⟩ ⟨fun b_ => if b_ < w.heap.size then o b_ else (fun _ => 0) (o24 b_), rfl, hs.close0 o (fun _ => 0)⟩
      · rw [b15] at hk H
        replace H := bifT H
        refine x_if hk (b := true) rfl ?_
        refine (show Code.wpIn _ _ _ _ _ _ _ from ?_)
        refine x_seq ?_
        refine wpIn_region_lit ?_
        refine x_run tab hk (k := 8) (lv := []) (ks := [28, 32]) (e' := [(28, .int .u8 (IntKind.wrap .u8 (IntKind.wrap .i64 (192 + (IntKind.wrap .i64 (Int.tdiv x12 64)))))), (32, .int .u8 (IntKind.wrap .u8 (IntKind.wrap .i64 (128 + (Int.tmod x12 64)))))]) rfl ⟨(show (64 : Int) ≠ 0 from by decide), (show (64 : Int) ≠ 0 from by decide), trivial⟩ fun a hk => ?_
        refine x_op hk rfl ?_
        refine op_slice (o := o11) tab hk (vs := [.int .u8 (IntKind.wrap .u8 (IntKind.wrap .i64 (192 + (IntKind.wrap .i64 (Int.tdiv x12 64))))), .int .u8 (IntKind.wrap .u8 (IntKind.wrap .i64 (128 + (Int.tmod x12 64))))]) (cs := [.int .u8 (IntKind.wrap .u8 (IntKind.wrap .i64 (192 + (IntKind.wrap .i64 (Int.tdiv x12 64))))), .int .u8 (IntKind.wrap .u8 (IntKind.wrap .i64 (128 + (Int.tmod x12 64))))]) rfl rfl rfl rfl rfl rfl rfl rfl rfl 3 fun bx32 w29 o30 st31 f33 => ?_
        replace hs := hs.loc0 st31 (by decide)
        have f34 : Ft (Own (encInt .u8) 5 (.slice (some ⟨bx32, 0, none⟩) (([(IntKind.wrap .u8 (IntKind.wrap .i64 (192 + (IntKind.wrap .i64 (Int.tdiv x12 64))))), (IntKind.wrap .u8 (IntKind.wrap .i64 (128 + (Int.tmod x12 64))))] : List Int)).length 2) ([(IntKind.wrap .u8 (IntKind.wrap .i64 (192 + (IntKind.wrap .i64 (Int.tdiv x12 64))))), (IntKind.wrap .u8 (IntKind.wrap .i64 (128 + (Int.tmod x12 64))))] : List Int)) w29 o30 3 := f33.imp fun _ h_ => Own.of_box h_ rfl (by simp)
        have hk := hk.put 33 (.slice (some ⟨bx32, 0, none⟩) (([(IntKind.wrap .u8 (IntKind.wrap .i64 (192 + (IntKind.wrap .i64 (Int.tdiv x12 64))))), (IntKind.wrap .u8 (IntKind.wrap .i64 (128 + (Int.tmod x12 64))))] : List Int)).length 2) rfl
        refine x_run tab hk (k := 2) (lv := [.string (strOfNums ([(IntKind.wrap .u8 (IntKind.wrap .i64 (192 + (IntKind.wrap .i64 (Int.tdiv x12 64))))), (IntKind.wrap .u8 (IntKind.wrap .i64 (128 + (Int.tmod x12 64))))] : List Int))]) (ks := [2]) (e' := [(2, .string (strOfNums ([(IntKind.wrap .u8 (IntKind.wrap .i64 (192 + (IntKind.wrap .i64 (Int.tdiv x12 64))))), (IntKind.wrap .u8 (IntKind.wrap .i64 (128 + (Int.tmod x12 64))))] : List Int)))]) rfl ⟨(ask_str tab rfl rfl rfl rfl (Own.rd f34.now) (Own.plain f34.now _ _ _ rfl)), trivial⟩ fun a hk => ?_
        refine wpListIn_nil ?_
        refine then_n ?_
        refine wpIn_ret ?_
        refine then_r ?_
        obtain rfl := Option.some.inj H
        exact x_retG hk (rs := [.tmp 2]) (vs := [.string (strOfNums ([(IntKind.wrap .u8 (IntKind.wrap .i64 (192 + (IntKind.wrap .i64 (Int.tdiv x12 64))))), (IntKind.wrap .u8 (IntKind.wrap .i64 (128 + (Int.tmod x12 64))))] : List Int))]) rfl ⟨rfl, trivial⟩ ⟨fun b_ => if b_ < w.heap.size then o b_ else (fun _ => 0) (o30 b_), rfl, hs.close0 o (fun _ => 0)⟩
    · rw [b14] at hk H
      replace H := bifT H
      refine x_if hk (b := true) rfl ?_
      refine (show Code.wpIn _ _ _ _ _ _ _ from ?_)
      refine x_seq ?_
      refine wpIn_region_lit ?_
      refine x_run tab hk (k := 2) (lv := []) (ks := [20]) (e' := [(20, .int .u8 (IntKind.wrap .u8 x12))]) rfl trivial fun a hk => ?_
      refine x_op hk rfl ?_
      refine op_slice (o := o11) tab hk (vs := [.int .u8 (IntKind.wrap .u8 x12)]) (cs := [.int .u8 (IntKind.wrap .u8 x12)]) rfl rfl rfl rfl rfl rfl rfl rfl rfl 4 fun bx38 w35 o36 st37 f39 => ?_
      replace hs := hs.loc0 st37 (by decide)
      have f40 : Ft (Own (encInt .u8) 5 (.slice (some ⟨bx38, 0, none⟩) (([(IntKind.wrap .u8 x12)] : List Int)).length 1) ([(IntKind.wrap .u8 x12)] : List Int)) w35 o36 4 := f39.imp fun _ h_ => Own.of_box h_ rfl (by simp)
      have hk := hk.put 21 (.slice (some ⟨bx38, 0, none⟩) (([(IntKind.wrap .u8 x12)] : List Int)).length 1) rfl
      refine x_run tab hk (k := 2) (lv := [.string (strOfNums ([(IntKind.wrap .u8 x12)] : List Int))]) (ks := [2]) (e' := [(2, .string (strOfNums ([(IntKind.wrap .u8 x12)] : List Int)))]) rfl ⟨(ask_str tab rfl rfl rfl rfl (Own.rd f40.now) (Own.plain f40.now _ _ _ rfl)), trivial⟩ fun a hk => ?_
      refine wpListIn_nil ?_
      refine then_n ?_
      refine wpIn_ret ?_
      refine then_r ?_
      obtain rfl := Option.some.inj H
      exact x_retG hk (rs := [.tmp 2]) (vs := [.string (strOfNums ([(IntKind.wrap .u8 x12)] : List Int))]) rfl ⟨rfl, trivial⟩ ⟨fun b_ => if b_ < w.heap.size then o b_ else (fun _ => 0) (o36 b_), rfl, hs.close0 o (fun _ => 0)⟩
  refine x_seq ?_
  refine wpIn_region_lit ?_
  refine x_run tab hk (k := 3) (lv := []) (ks := [0, 5]) (e' := [(0, .int .i64 p0), (5, .bool (decide (p0 < (0 : Int))))]) rfl trivial fun a hk => ?_
  cases b41 : (decide (p0 < (0 : Int)))
  · rw [b41] at hk H
    replace H := bifF H
    refine x_run tab hk (k := 4) (lv := []) (ks := [0, 9]) (e' := [(0, .int .i64 p0), (9, .bool (decide (p0 > (1114111 : Int))))]) rfl trivial fun a hk => ?_
    cases b42 : (decide (p0 > (1114111 : Int)))
    · rw [b42] at hk H
      replace H := bifF H
      refine x_run tab hk (k := 3) (lv := []) (ks := [0, 9, 12]) (e' := [(0, .int .i64 p0), (9, .bool false), (12, .bool (decide (p0 ≥ (55296 : Int))))]) rfl trivial fun a hk => ?_
      cases b43 : (decide (p0 ≥ (55296 : Int)))
      · rw [b43] at hk H
        replace H := bifF H
        refine x_run tab hk (k := 4) (lv := []) (ks := [0, 16]) (e' := [(0, .int .i64 p0), (16, .bool false)]) rfl trivial fun a hk => ?_
        refine wpListIn_nil ?_
        refine then_n ?_
        refine x_if hk (b := false) rfl ?_
        refine (show Code.wpIn _ _ _ _ _ _ _ from ?_)
        refine wpIn_skip ?_
        refine then_n ?_
        exact ⟨o0, p0, (by exact Kn.pick (ks := [0]) hk rfl), hs, H⟩
      · rw [b43] at hk H
        replace H := bifT H
        refine x_run tab hk (k := 4) (lv := []) (ks := [0, 16]) (e' := [(0, .int .i64 p0), (16, .bool (decide (p0 ≤ (57343 : Int))))]) rfl trivial fun a hk => ?_
        refine wpListIn_nil ?_
        refine then_n ?_
        cases b44 : (decide (p0 ≤ (57343 : Int)))
        · rw [b44] at hk H
          replace H := bifF H
          refine x_if hk (b := false) rfl ?_
          refine (show Code.wpIn _ _ _ _ _ _ _ from ?_)
          refine wpIn_skip ?_
          refine then_n ?_
          exact ⟨o0, p0, (by exact Kn.pick (ks := [0]) hk rfl), hs, H⟩
        · rw [b44] at hk H
          replace H := bifT H
          refine x_if hk (b := true) rfl ?_
          refine (show Code.wpIn _ _ _ _ _ _ _ from ?_)
          refine wpIn_region_lit ?_
          refine x_run tab hk (k := 1) (lv := []) (ks := [0]) (e' := [(0, .int .i64 65533)]) rfl trivial fun a hk => ?_
          refine wpListIn_nil ?_
          refine then_n ?_
          exact ⟨o0, 65533, (by exact Kn.pick (ks := [0]) hk rfl), hs, H⟩
    · rw [b42] at hk H
      replace H := bifT H
      refine x_run tab hk (k := 7) (lv := []) (ks := [0, 16]) (e' := [(0, .int .i64 p0), (16, .bool true)]) rfl trivial fun a hk => ?_
      refine wpListIn_nil ?_
      refine then_n ?_
      refine x_if hk (b := true) rfl ?_
      refine (show Code.wpIn _ _ _ _ _ _ _ from ?_)
      refine wpIn_region_lit ?_
      refine x_run tab hk (k := 1) (lv := []) (ks := [0]) (e' := [(0, .int .i64 65533)]) rfl trivial fun a hk => ?_
      refine wpListIn_nil ?_
      refine then_n ?_
      exact ⟨o0, 65533, (by exact Kn.pick (ks := [0]) hk rfl), hs, H⟩
  · rw [b41] at hk H
    replace H := bifT H
    refine x_run tab hk (k := 10) (lv := []) (ks := [0, 9, 15]) (e' := [(0, .int .i64 p0), (9, .bool true), (15, undef)]) rfl trivial fun a hk => ?_
    refine x_run tab hk (k := 1) (lv := []) (ks := [0, 16]) (e' := [(0, .int .i64 p0), (16, .bool true)]) rfl trivial fun a hk => ?_
    refine wpListIn_nil ?_
    refine then_n ?_
    refine x_if hk (b := true) rfl ?_
    refine (show Code.wpIn _ _ _ _ _ _ _ from ?_)
    refine wpIn_region_lit ?_
    refine x_run tab hk (k := 1) (lv := []) (ks := [0]) (e' := [(0, .int .i64 65533)]) rfl trivial fun a hk => ?_
    refine wpListIn_nil ?_
    refine then_n ?_
    exact ⟨o0, 65533, (by exact Kn.pick (ks := [0]) hk rfl), hs, H⟩

/-! tidewrack/tidewrackref15.Text -/
theorem tidewrackref15_Text_calls (K : Nat) (Ap0 : Option Addr) (cp0 : Nat) (p0 : List T49) (w : World) (o : Nat → Nat) (Lp0 : Nat) (hp0 : Ft (RdC ET49 Ap0 p0) w o Lp0) (hcp0 : (p0).length ≤ cp0)  (r : ByteArray) (H : tidewrackref15_Text K p0 = some r) :
    Calls Tryd.prog 18 #[.slice Ap0 (p0).length cp0] w (Ret fun v_ w' => ∃ o' : Nat → Nat, v_ = .string r ∧ St [] w o w' o') := by
  refine x_enter (vs := [.slice Ap0 (p0).length cp0]) Tryd.func18 rfl rfl rfl fun a hk => ?_
  obtain ⟨o0, hs, h0⟩ := St.start w o
  have f900000 := h0 _ _ hp0
  clear h0
  rw [tidewrackref15_Text] at H
  refine x_seq ?_
  refine wpIn_region_lit ?_
  refine x_run tab hk (k := 1) (lv := []) (ks := [0]) (e' := [(0, .slice Ap0 (p0).length cp0)]) rfl trivial fun a hk => ?_
  refine wpListIn_nil ?_
  refine then_n ?_
  refine x_seq ?_
  refine wpIn_region_lit ?_
  refine x_run tab hk (k := 1) (lv := []) (ks := [0, 3]) (e' := [(0, .slice Ap0 (p0).length cp0), (3, .string (⟨#[]⟩ : ByteArray))]) rfl trivial fun a hk => ?_
  refine wpListIn_nil ?_
  refine then_n ?_
  refine x_mid (fun a_ w_ => ∃ o77 : Nat → Nat, ∃ x78 : ByteArray, Kn 19 a_ [(3, .string x78)] ∧ St [] w (fun _ => 0) w_ o77 ∧ tidewrackref15_Text_j1 x78 = some r) ?_ ?_
  rotate_left
  · rintro a w79 ⟨o77, x78, hk, hs, H⟩
    rw [tidewrackref15_Text_j1] at H
    refine x_seq ?_
    refine wpIn_region_lit ?_
    refine x_run tab hk (k := 2) (lv := []) (ks := [2]) (e' := [(2, .string x78)]) rfl trivial fun a hk => ?_
    refine wpListIn_nil ?_
    refine then_n ?_
    refine wpIn_ret ?_
    obtain rfl := Option.some.inj H
    exact x_retG hk (rs := [.tmp 2]) (vs := [.string x78]) rfl ⟨rfl, trivial⟩ ⟨fun b_ => if b_ < w.heap.size then o b_ else (fun _ => 0) (o77 b_), rfl, hs.close0 o (fun _ => 0)⟩
  refine x_seq ?_
  refine wpIn_region_lit ?_
  refine x_run tab hk (k := 3) (lv := []) (ks := [3, 6, 7, 8]) (e' := [(3, .string (⟨#[]⟩ : ByteArray)), (6, .slice Ap0 (p0).length cp0), (7, .int .i64 ((p0).length : Int)), (8, .int .i64 0)]) rfl trivial fun a hk => ?_
  refine wpListIn_nil ?_
  refine then_n ?_
  refine wpIn_block ?_
  refine x_loop (fun j_ a_ w_ => ∃ o103 : Nat → Nat, ∃ x104 : ByteArray, ∃ x105 : Int, Kn 19 a_ [(3, .string x104), (6, .slice Ap0 (p0).length cp0), (7, .int .i64 ((p0).length : Int)), (8, .int .i64 x105)] ∧ St [] w (fun _ => 0) w_ o103 ∧ Ft (RdC ET49 Ap0 p0) w_ o103 0 ∧ tidewrackref15_Text_l2 p0 j_ x104 x105 = some r) (k := K) ⟨o0, (⟨#[]⟩ : ByteArray), 0, (by exact Kn.pick (ks := [3, 6, 7, 8]) hk rfl), hs, f900000, H⟩ (by rintro _ _ ⟨_, _, _, _, _, _, H_⟩; exact absurd (show (none : Option ByteArray) = some r from H_) (by simp)) ?_
  rintro k127 a w126 ⟨o103, x104, x105, hk, hs, f900000, H⟩
  rw [tidewrackref15_Text_l2] at H
  obtain ⟨lp128, hlp129⟩ : ∃ lp_, lp_ = tidewrackref15_Text_l2 p0 k127 := ⟨_, rfl⟩
  rw [← hlp129] at H
  refine x_seq ?_
  refine wpIn_region_lit ?_
  refine x_run tab hk (k := 1) (lv := []) (ks := [3, 6, 7, 8, 9]) (e' := [(3, .string x104), (6, .slice Ap0 (p0).length cp0), (7, .int .i64 ((p0).length : Int)), (8, .int .i64 x105), (9, .bool (decide (x105 < ((p0).length : Int))))]) rfl trivial fun a hk => ?_
  refine wpListIn_nil ?_
  refine then_n ?_
  refine x_seq ?_
  cases b130 : (decide (x105 < ((p0).length : Int)))
  · rw [b130] at hk H
    replace H := bifF H
    refine x_if hk (b := false) rfl ?_
    refine (show Code.wpIn _ _ _ _ _ _ _ from ?_)
    refine wpIn_exit ?_
    refine then_x ?_
    refine then_x ?_
    refine blk_x ?_
    refine then_n ?_
    exact ⟨o103, x104, (by exact Kn.pick (ks := [3]) hk rfl), hs, H⟩
  · rw [b130] at hk H
    replace H := bifT H
    refine x_if hk (b := true) rfl ?_
    refine (show Code.wpIn _ _ _ _ _ _ _ from ?_)
    refine wpIn_skip ?_
    refine then_n ?_
    refine x_seq ?_
    refine wpIn_block ?_
    refine x_seq ?_
    refine wpIn_region_lit ?_
    obtain ⟨q131, H⟩ := ifS H
    obtain ⟨ad132, hAad132⟩ := RdC.addr f900000.now q131
    have hk_C := hk
    have f900000_C := f900000
    subst hAad132
    have hk := hk_C
    clear hk_C
    have f900000 := f900000_C
    clear f900000_C
    refine x_run tab hk (k := 2) (lv := [.agg #[.int .i64 ((rdD zT49 p0 x105).Rune), .int .i64 ((rdD zT49 p0 x105).Style)]]) (ks := [3, 6, 7, 8, 11]) (e' := [(3, .string x104), (6, .slice (some ad132) (p0).length cp0), (7, .int .i64 ((p0).length : Int)), (8, .int .i64 x105), (11, .agg #[.int .i64 ((rdD zT49 p0 x105).Rune), .int .i64 ((rdD zT49 p0 x105).Style)])]) rfl ⟨q131, (load_elem (E := ET49) (i := x105) (dx := zT49) tab rfl rfl f900000.now q131), trivial⟩ fun a hk => ?_
    refine x_op hk rfl ?_
    refine op_alloc (o := o103) tab (t := 50) (cs := [.int .i64 0, .int .i64 0]) rfl rfl 6 fun bx136 w133 o134 st135 f137 => ?_
    replace f900000 := f900000.st st135 (by decide)
    replace hs := hs.loc0 st135 (by decide)
    have hk := hk.put 5 (.pointer (some ⟨bx136, 0, none⟩)) rfl
    refine x_op hk rfl ?_
    refine op_store tab hk (t := 50) (v := .agg #[.int .i64 ((rdD zT49 p0 x105).Rune), .int .i64 ((rdD zT49 p0 x105).Style)]) (b := bx136) (k := 0) (cs' := [.int .i64 ((rdD zT49 p0 x105).Rune), .int .i64 ((rdD zT49 p0 x105).Style)]) rfl rfl rfl rfl rfl rfl f137 rfl rfl fun w138 o139 st140 f137_ => ?_
    replace f900000 := f900000.st st140 (by decide)
    replace hs := hs.loc0 st140 (by decide)
    replace f137 := f137_
    refine wpListIn_nil ?_
    refine then_n ?_
    refine wpIn_region_lit ?_
    refine x_run tab hk (k := 3) (lv := [.int .i64 ((rdD zT49 p0 x105).Rune)]) (ks := [6, 7, 8, 12, 14]) (e' := [(6, .slice (some ad132) (p0).length cp0), (7, .int .i64 ((p0).length : Int)), (8, .int .i64 x105), (12, .string x104), (14, .int .i64 ((rdD zT49 p0 x105).Rune))]) rfl ⟨(load1 tab rfl ((Bx.cell f137.now 0).trans rfl)), trivial⟩ fun a hk => ?_
    refine x_op hk rfl ?_
    obtain ⟨t144, hc145, H⟩ := bindS H
    refine op_call hk ent_26 (vs := [.int .i64 ((rdD zT49 p0 x105).Rune)]) rfl (tidewrackref05_Encode_calls ((rdD zT49 p0 x105).Rune) _ o139    _ hc145) ?_
    rintro _ w146 ⟨o147, rfl, st148⟩
    replace f900000 := f900000.st st148 (by decide)
    replace hs := hs.loc0 st148 (by decide)
    have hk := hk.put 15 (.string t144) rfl
    obtain ⟨q149, H⟩ := ifS H
    refine x_run tab hk (k := 2) (lv := []) (ks := [3, 6, 7, 8]) (e' := [(3, .string (x104 ++ t144)), (6, .slice (some ad132) (p0).length cp0), (7, .int .i64 ((p0).length : Int)), (8, .int .i64 x105)]) rfl ⟨q149, trivial⟩ fun a hk => ?_
    refine wpListIn_nil ?_
    refine blk_n ?_
    refine then_n ?_
    refine wpIn_region_lit ?_
    refine x_run tab hk (k := 2) (lv := []) (ks := [3, 6, 7, 8]) (e' := [(3, .string (x104 ++ t144)), (6, .slice (some ad132) (p0).length cp0), (7, .int .i64 ((p0).length : Int)), (8, .int .i64 (IntKind.wrap .i64 (x105 + 1)))]) rfl trivial fun a hk => ?_
    refine wpListIn_nil ?_
    refine then_n ?_
    exact ⟨k127, Nat.le_refl _, o147, (x104 ++ t144), (IntKind.wrap .i64 (x105 + 1)), (by exact Kn.pick (ks := [3, 6, 7, 8]) hk rfl), hs, f900000, (hlp129 ▸ H)⟩

/-! tidewrack/tidewracklaw15.FlowCuts -/
theorem tidewracklaw15_FlowCuts_calls (K : Nat) (Ap0 : Option Addr) (cp0 : Nat) (p0 : List T24) (p1 : Int) (p2 : Int) (w : World) (o : Nat → Nat) (Lg0 : Nat) (hg0 : Ft (RdC ET68 (some ⟨0, 0, none⟩) glob0) w o Lg0) (Lg1 : Nat) (hg1 : Ft (RdC ET68 (some ⟨1, 0, none⟩) glob1) w o Lg1) (Lp0 : Nat) (hp0 : Ft (RdC ET24 Ap0 p0) w o Lp0) (hcp0 : (p0).length ≤ cp0)  (r : Bool) (H : tidewracklaw15_FlowCuts K p0 p1 p2 = some r) :
    Calls Tryd.prog 4 #[.slice Ap0 (p0).length cp0, .int .i64 p1, .int .i64 p2] w (Ret fun v_ w' => ∃ o' : Nat → Nat, v_ = .bool r ∧ St [] w o w' o') := by
  refine x_enter (vs := [.slice Ap0 (p0).length cp0, .int .i64 p1, .int .i64 p2]) Tryd.func4 rfl rfl rfl fun a hk => ?_
  obtain ⟨o0, hs, h0⟩ := St.start w o
  have fg0 := h0 _ _ hg0
  have fg1 := h0 _ _ hg1
  have f900000 := h0 _ _ hp0
  clear h0
  rw [tidewracklaw15_FlowCuts] at H
  refine x_seq ?_
  refine wpIn_region_lit ?_
  refine x_run tab hk (k := 1) (lv := []) (ks := [0, 1, 2]) (e' := [(0, .slice Ap0 (p0).length cp0), (1, .int .i64 p1), (2, .int .i64 p2)]) rfl trivial fun a hk => ?_
  refine wpListIn_nil ?_
  refine then_n ?_
  refine x_seq ?_
  refine x_seq ?_
  refine wpIn_region_lit ?_
  refine x_op hk rfl ?_
  obtain ⟨t4, hc5, H⟩ := bindS H
  refine op_call hk ent_8 (vs := []) rfl (tidewracklaw15_awake_calls K  _ o0 0 fg0 0 fg1   _ hc5) ?_
  rintro _ w6 ⟨o7, rfl, st8⟩
  replace f900000 := f900000.st st8 (by decide)
  replace fg0 := fg0.st st8 (by decide)
  replace fg1 := fg1.st st8 (by decide)
  replace hs := hs.loc0 st8 (by decide)
  have hk := hk.put 13 (.bool t4) rfl
  refine x_run tab hk (k := 1) (lv := []) (ks := [0, 1, 2, 14]) (e' := [(0, .slice Ap0 (p0).length cp0), (1, .int .i64 p1), (2, .int .i64 p2), (14, .bool (!t4))]) rfl trivial fun a hk => ?_
  refine wpListIn_nil ?_
  refine then_n ?_
  cases b9 : (!t4)
  · rw [b9] at hk H
    replace H := bifF H
    refine x_if hk (b := false) rfl ?_
    refine (show Code.wpIn _ _ _ _ _ _ _ from ?_)
    refine wpIn_skip ?_
    refine then_n ?_
    refine x_seq ?_
    refine wpIn_region_lit ?_
    refine x_op hk rfl ?_
    refine op_slice (o := o7) tab hk (vs := []) (cs := []) rfl rfl rfl rfl rfl rfl rfl rfl rfl 2 fun bx13 w10 o11 st12 f14 => ?_
    replace f900000 := f900000.st st12 (by decide)
    replace fg0 := fg0.st st12 (by decide)
    replace fg1 := fg1.st st12 (by decide)
    replace hs := hs.loc0 st12 (by decide)
    have f15 : Ft (Own ET24 25 (.slice (some ⟨bx13, 0, none⟩) (([] : List T24)).length 0) ([] : List T24)) w10 o11 2 := f14.imp fun _ h_ => Own.of_box h_ rfl (by simp)
    have hk := hk.put 15 (.slice (some ⟨bx13, 0, none⟩) (([] : List T24)).length 0) rfl
    obtain ⟨q16, H⟩ := ifS H
    obtain ⟨q17, H⟩ := ifS H
    obtain ⟨A18, c19, ak21, f20, hc22⟩ := ask_cut (P := Tryd.prog) tab (t := 22) rfl rfl f900000 hcp0 none (some (.int .i64 (mnI ((p0).length : Int) 60))) rfl ⟨q16, (by have := q17; have := hcp0; omega), trivial⟩ (by have := q16; have := q17; omega) (by have := q16; have := q17; omega)
    refine x_run tab hk (k := 5) (lv := [.slice A18 ((List.drop 0 (List.take (Int.toNat (mnI ((p0).length : Int) 60)) p0))).length c19]) (ks := [1, 2, 15, 20]) (e' := [(1, .int .i64 p1), (2, .int .i64 p2), (15, .slice (some ⟨bx13, 0, none⟩) (([] : List T24)).length 0), (20, .slice A18 ((List.drop 0 (List.take (Int.toNat (mnI ((p0).length : Int) 60)) p0))).length c19)]) rfl ⟨(ak21 rfl rfl rfl _), trivial⟩ fun a hk => ?_
    refine x_op hk rfl ?_
    obtain ⟨q26, H⟩ := ifS H
    refine op_append (o := o11) (E := ET24) (xs := ([] : List T24)) (ys := (List.drop 0 (List.take (Int.toNat (mnI ((p0).length : Int) 60)) p0))) tab hk rfl rfl rfl rfl rfl rfl rfl f15 f20.now q26 fun A27 c28 w23 o24 st25 f29 hc30 => ?_
    replace f20 := f20.st st25 (by decide)
    replace fg0 := fg0.st st25 (by decide)
    replace fg1 := fg1.st st25 (by decide)
    replace hs := hs.loc0 st25 (by decide)
    have hk := hk.put 21 (.slice A27 ((([] : List T24) ++ (List.drop 0 (List.take (Int.toNat (mnI ((p0).length : Int) 60)) p0)))).length c28) rfl
    refine x_run tab hk (k := 1) (lv := []) (ks := [0, 1, 2]) (e' := [(0, .slice A27 ((([] : List T24) ++ (List.drop 0 (List.take (Int.toNat (mnI ((p0).length : Int) 60)) p0)))).length c28), (1, .int .i64 p1), (2, .int .i64 p2)]) rfl trivial fun a hk => ?_
    refine wpListIn_nil ?_
    refine then_n ?_
    refine x_seq ?_
    refine wpIn_region_lit ?_
    refine x_run tab hk (k := 1) (lv := []) (ks := [0, 1, 2, 22]) (e' := [(0, .slice A27 ((([] : List T24) ++ (List.drop 0 (List.take (Int.toNat (mnI ((p0).length : Int) 60)) p0)))).length c28), (1, .int .i64 p1), (2, .int .i64 p2), (22, .slice A27 ((([] : List T24) ++ (List.drop 0 (List.take (Int.toNat (mnI ((p0).length : Int) 60)) p0)))).length c28)]) rfl trivial fun a hk => ?_
    refine x_op hk rfl ?_
    obtain ⟨t34, hc35, H⟩ := bindS H
    refine op_call hk ent_11 (vs := [.slice A27 ((([] : List T24) ++ (List.drop 0 (List.take (Int.toNat (mnI ((p0).length : Int) 60)) p0)))).length c28]) rfl (tidewracklaw14_Told_calls K A27 c28 (([] : List T24) ++ (List.drop 0 (List.take (Int.toNat (mnI ((p0).length : Int) 60)) p0))) _ o24 _ (f29.imp fun _ h_ => Own.rd h_) hc30 3  _ hc35) ?_
    rintro _ w36 ⟨o37, A39, c40, rfl, st38, f41, hc42⟩
    replace f29 := f29.st st38 (by decide)
    replace fg0 := fg0.st st38 (by decide)
    replace fg1 := fg1.st st38 (by decide)
    replace hs := hs.loc0 st38 (by decide)
    have hk := hk.put 23 (.slice A39 (t34).length c40) rfl
    refine x_run tab hk (k := 1) (lv := []) (ks := [0, 1, 2, 7]) (e' := [(0, .slice A27 ((([] : List T24) ++ (List.drop 0 (List.take (Int.toNat (mnI ((p0).length : Int) 60)) p0)))).length c28), (1, .int .i64 p1), (2, .int .i64 p2), (7, .slice A39 (t34).length c40)]) rfl trivial fun a hk => ?_
    refine wpListIn_nil ?_
    refine then_n ?_
    refine x_seq ?_
    refine wpIn_region_lit ?_
    refine x_run tab hk (k := 2) (lv := []) (ks := [0, 1, 2, 7, 24, 25]) (e' := [(0, .slice A27 ((([] : List T24) ++ (List.drop 0 (List.take (Int.toNat (mnI ((p0).length : Int) 60)) p0)))).length c28), (1, .int .i64 p1), (2, .int .i64 p2), (7, .slice A39 (t34).length c40), (24, .slice A27 ((([] : List T24) ++ (List.drop 0 (List.take (Int.toNat (mnI ((p0).length : Int) 60)) p0)))).length c28), (25, .int .i64 p1)]) rfl trivial fun a hk => ?_
    refine x_op hk rfl ?_
    obtain ⟨t46, hc47, H⟩ := bindS H
    refine op_call hk ent_12 (vs := [.slice A27 ((([] : List T24) ++ (List.drop 0 (List.take (Int.toNat (mnI ((p0).length : Int) 60)) p0)))).length c28, .int .i64 p1]) rfl (flow_Cut_calls K A27 c28 (([] : List T24) ++ (List.drop 0 (List.take (Int.toNat (mnI ((p0).length : Int) 60)) p0))) p1 _ o37 1 0 fg0 0 fg1 2 (f29.imp fun _ h_ => Own.rd h_) hc30 (by decide) (by decide) (by decide) 4  _ hc47) ?_
    rintro _ w48 ⟨o49, A51, c52, rfl, st50, f53, hc54⟩
    replace f29 := f29.st st50 (by decide)
    replace f41 := f41.st st50 (by decide)
    replace fg0 := fg0.st st50 (by decide)
    replace fg1 := fg1.st st50 (by decide)
    replace hs := hs.loc0 st50 (by decide)
    have hk := hk.put 26 (.slice A51 (t46).length c52) rfl
    refine x_run tab hk (k := 1) (lv := []) (ks := [0, 1, 2, 7, 8]) (e' := [(0, .slice A27 ((([] : List T24) ++ (List.drop 0 (List.take (Int.toNat (mnI ((p0).length : Int) 60)) p0)))).length c28), (1, .int .i64 p1), (2, .int .i64 p2), (7, .slice A39 (t34).length c40), (8, .slice A51 (t46).length c52)]) rfl trivial fun a hk => ?_
    refine wpListIn_nil ?_
    refine then_n ?_
    refine x_seq ?_
    refine wpIn_region_lit ?_
    refine x_run tab hk (k := 3) (lv := []) (ks := [0, 1, 2, 7, 8, 28, 29, 30]) (e' := [(0, .slice A27 ((([] : List T24) ++ (List.drop 0 (List.take (Int.toNat (mnI ((p0).length : Int) 60)) p0)))).length c28), (1, .int .i64 p1), (2, .int .i64 p2), (7, .slice A39 (t34).length c40), (8, .slice A51 (t46).length c52), (28, .slice A27 ((([] : List T24) ++ (List.drop 0 (List.take (Int.toNat (mnI ((p0).length : Int) 60)) p0)))).length c28), (29, .int .i64 p1), (30, .int .i64 p2)]) rfl trivial fun a hk => ?_
    refine x_op hk rfl ?_
    obtain ⟨t58, hc59, H⟩ := bindS H
    refine op_call hk ent_13 (vs := [.slice A27 ((([] : List T24) ++ (List.drop 0 (List.take (Int.toNat (mnI ((p0).length : Int) 60)) p0)))).length c28, .int .i64 p1, .int .i64 p2]) rfl (flow_At_calls K A27 c28 (([] : List T24) ++ (List.drop 0 (List.take (Int.toNat (mnI ((p0).length : Int) 60)) p0))) p1 p2 _ o49 0 fg0 0 fg1 2 (f29.imp fun _ h_ => Own.rd h_) hc30 (by decide) (by decide) (by decide)   _ hc59) ?_
    rintro _ w60 ⟨o61, rfl, st62⟩
    replace f29 := f29.st st62 (by decide)
    replace f41 := f41.st st62 (by decide)
    replace f53 := f53.st st62 (by decide)
    replace fg0 := fg0.st st62 (by decide)
    replace fg1 := fg1.st st62 (by decide)
    replace hs := hs.loc0 st62 (by decide)
    have hk := hk.put 31 (.tuple #[.int .i64 t58.1, .int .i64 t58.2]) rfl
    refine x_run tab hk (k := 5) (lv := []) (ks := [0, 1, 2, 7, 8, 9, 10]) (e' := [(0, .slice A27 ((([] : List T24) ++ (List.drop 0 (List.take (Int.toNat (mnI ((p0).length : Int) 60)) p0)))).length c28), (1, .int .i64 p1), (2, .int .i64 p2), (7, .slice A39 (t34).length c40), (8, .slice A51 (t46).length c52), (9, .int .i64 t58.1), (10, .int .i64 t58.2)]) rfl trivial fun a hk => ?_
    refine wpListIn_nil ?_
    refine then_n ?_
    refine x_seq ?_
    refine wpIn_region_lit ?_
    refine x_run tab hk (k := 3) (lv := []) (ks := [0, 1, 7, 8, 9, 10, 35, 36, 37]) (e' := [(0, .slice A27 ((([] : List T24) ++ (List.drop 0 (List.take (Int.toNat (mnI ((p0).length : Int) 60)) p0)))).length c28), (1, .int .i64 p1), (7, .slice A39 (t34).length c40), (8, .slice A51 (t46).length c52), (9, .int .i64 t58.1), (10, .int .i64 t58.2), (35, .slice A39 (t34).length c40), (36, .int .i64 p1), (37, .int .i64 p2)]) rfl trivial fun a hk => ?_
    refine x_op hk rfl ?_
    obtain ⟨t66, hc67, H⟩ := bindS H
    refine op_call hk ent_14 (vs := [.slice A39 (t34).length c40, .int .i64 p1, .int .i64 p2]) rfl (tidewrackref15_At_calls K A39 c40 t34 p1 p2 _ o61 _ (f41.imp fun _ h_ => Own.rd h_) hc42   _ hc67) ?_
    rintro _ w68 ⟨o69, rfl, st70⟩
    replace f29 := f29.st st70 (by decide)
    replace f41 := f41.st st70 (by decide)
    replace f53 := f53.st st70 (by decide)
    replace fg0 := fg0.st st70 (by decide)
    replace fg1 := fg1.st st70 (by decide)
    replace hs := hs.loc0 st70 (by decide)
    have hk := hk.put 38 (.tuple #[.int .i64 t66.1, .int .i64 t66.2]) rfl
    refine x_run tab hk (k := 5) (lv := []) (ks := [0, 1, 7, 8, 9, 10, 11, 12]) (e' := [(0, .slice A27 ((([] : List T24) ++ (List.drop 0 (List.take (Int.toNat (mnI ((p0).length : Int) 60)) p0)))).length c28), (1, .int .i64 p1), (7, .slice A39 (t34).length c40), (8, .slice A51 (t46).length c52), (9, .int .i64 t58.1), (10, .int .i64 t58.2), (11, .int .i64 t66.1), (12, .int .i64 t66.2)]) rfl trivial fun a hk => ?_
    refine wpListIn_nil ?_
    refine then_n ?_
    refine x_seq ?_
    refine wpIn_region_lit ?_
    refine x_run tab hk (k := 3) (lv := []) (ks := [0, 1, 7, 8, 9, 10, 11, 12, 41, 42, 43]) (e' := [(0, .slice A27 ((([] : List T24) ++ (List.drop 0 (List.take (Int.toNat (mnI ((p0).length : Int) 60)) p0)))).length c28), (1, .int .i64 p1), (7, .slice A39 (t34).length c40), (8, .slice A51 (t46).length c52), (9, .int .i64 t58.1), (10, .int .i64 t58.2), (11, .int .i64 t66.1), (12, .int .i64 t66.2), (41, .slice A51 (t46).length c52), (42, .slice A39 (t34).length c40), (43, .int .i64 p1)]) rfl trivial fun a hk => ?_
    refine x_op hk rfl ?_
    obtain ⟨t74, hc75, H⟩ := bindS H
    refine op_call hk ent_16 (vs := [.slice A39 (t34).length c40, .int .i64 p1]) rfl (tidewrackref15_Cut_calls K A39 c40 t34 p1 _ o69 1 _ (f41.imp fun _ h_ => Own.rd h_) hc42 (by decide) (by decide) 5  _ hc75) ?_
    rintro _ w76 ⟨o77, A79, c80, rfl, st78, f81, hc82⟩
    replace f29 := f29.st st78 (by decide)
    replace f41 := f41.st st78 (by decide)
    replace f53 := f53.st st78 (by decide)
    replace fg0 := fg0.st st78 (by decide)
    replace fg1 := fg1.st st78 (by decide)
    replace hs := hs.loc0 st78 (by decide)
    have hk := hk.put 44 (.slice A79 (t74).length c80) rfl
    refine x_op hk rfl ?_
    obtain ⟨t86, hc87, H⟩ := bindS H
    refine op_call hk ent_15 (vs := [.slice A51 (t46).length c52, .slice A79 (t74).length c80]) rfl (tidewracklaw15_Rows_calls K A51 c52 t46 A79 c80 t74 _ o77 1 _ f53.rd hc54 _ f81.rd hc82 (by decide) (by decide) (by decide)   _ hc87) ?_
    rintro _ w88 ⟨o89, rfl, st90⟩
    replace f29 := f29.st st90 (by decide)
    replace f41 := f41.st st90 (by decide)
    replace f53 := f53.st st90 (by decide)
    replace f81 := f81.st st90 (by decide)
    replace fg0 := fg0.st st90 (by decide)
    replace fg1 := fg1.st st90 (by decide)
    replace hs := hs.loc0 st90 (by decide)
    have hk := hk.put 45 (.bool t86) rfl
    refine x_run tab hk (k := 1) (lv := []) (ks := [0, 1, 7, 8, 9, 10, 11, 12, 46]) (e' := [(0, .slice A27 ((([] : List T24) ++ (List.drop 0 (List.take (Int.toNat (mnI ((p0).length : Int) 60)) p0)))).length c28), (1, .int .i64 p1), (7, .slice A39 (t34).length c40), (8, .slice A51 (t46).length c52), (9, .int .i64 t58.1), (10, .int .i64 t58.2), (11, .int .i64 t66.1), (12, .int .i64 t66.2), (46, .bool t86)]) rfl trivial fun a hk => ?_
    cases b91 : t86
    · rw [b91] at hk H
      replace H := bifF H
      refine x_run tab hk (k := 11) (lv := []) (ks := [0, 7, 10, 12, 54, 57]) (e' := [(0, .slice A27 ((([] : List T24) ++ (List.drop 0 (List.take (Int.toNat (mnI ((p0).length : Int) 60)) p0)))).length c28), (7, .slice A39 (t34).length c40), (10, .int .i64 t58.2), (12, .int .i64 t66.2), (54, .bool false), (57, undef)]) rfl trivial fun a hk => ?_
      refine x_run tab hk (k := 12) (lv := []) (ks := [64, 69]) (e' := [(64, .bool false), (69, undef)]) rfl trivial fun a hk => ?_
      refine x_run tab hk (k := 2) (lv := []) (ks := [6]) (e' := [(6, .bool false)]) rfl trivial fun a hk => ?_
      refine wpListIn_nil ?_
      refine then_n ?_
      refine wpIn_ret ?_
      obtain rfl := Option.some.inj H
      exact x_retG hk (rs := [.tmp 6]) (vs := [.bool false]) rfl ⟨rfl, trivial⟩ ⟨fun b_ => if b_ < w.heap.size then o b_ else (fun _ => 0) (o89 b_), rfl, hs.close0 o (fun _ => 0)⟩
    · rw [b91] at hk H
      replace H := bifT H
      refine x_run tab hk (k := 2) (lv := []) (ks := [0, 7, 8, 9, 10, 11, 12, 46, 47, 48]) (e' := [(0, .slice A27 ((([] : List T24) ++ (List.drop 0 (List.take (Int.toNat (mnI ((p0).length : Int) 60)) p0)))).length c28), (7, .slice A39 (t34).length c40), (8, .slice A51 (t46).length c52), (9, .int .i64 t58.1), (10, .int .i64 t58.2), (11, .int .i64 t66.1), (12, .int .i64 t66.2), (46, .bool true), (47, .slice A27 ((([] : List T24) ++ (List.drop 0 (List.take (Int.toNat (mnI ((p0).length : Int) 60)) p0)))).length c28), (48, .int .i64 p1)]) rfl trivial fun a hk => ?_
      refine x_op hk rfl ?_
      obtain ⟨t95, hc96, H⟩ := bindS H
      refine op_call hk ent_10 (vs := [.slice A27 ((([] : List T24) ++ (List.drop 0 (List.take (Int.toNat (mnI ((p0).length : Int) 60)) p0)))).length c28, .int .i64 p1]) rfl (flow_Count_calls K A27 c28 (([] : List T24) ++ (List.drop 0 (List.take (Int.toNat (mnI ((p0).length : Int) 60)) p0))) p1 _ o89 0 fg0 0 fg1 2 (f29.imp fun _ h_ => Own.rd h_) hc30 (by decide) (by decide) (by decide)   _ hc96) ?_
      rintro _ w97 ⟨o98, rfl, st99⟩
      replace f29 := f29.st st99 (by decide)
      replace f41 := f41.st st99 (by decide)
      replace f53 := f53.st st99 (by decide)
      replace fg0 := fg0.st st99 (by decide)
      replace fg1 := fg1.st st99 (by decide)
      replace hs := hs.loc0 st99 (by decide)
      have hk := hk.put 49 (.int .i64 t95) rfl
      refine x_run tab hk (k := 5) (lv := []) (ks := [0, 7, 9, 10, 11, 12, 54]) (e' := [(0, .slice A27 ((([] : List T24) ++ (List.drop 0 (List.take (Int.toNat (mnI ((p0).length : Int) 60)) p0)))).length c28), (7, .slice A39 (t34).length c40), (9, .int .i64 t58.1), (10, .int .i64 t58.2), (11, .int .i64 t66.1), (12, .int .i64 t66.2), (54, .bool (t95 == ((t46).length : Int)))]) rfl trivial fun a hk => ?_
      cases b100 : (t95 == ((t46).length : Int))
      · rw [b100] at hk H
        replace H := bifF H
        refine x_run tab hk (k := 15) (lv := []) (ks := [64, 69]) (e' := [(64, .bool false), (69, undef)]) rfl trivial fun a hk => ?_
        refine x_run tab hk (k := 2) (lv := []) (ks := [6]) (e' := [(6, .bool false)]) rfl trivial fun a hk => ?_
        refine wpListIn_nil ?_
        refine then_n ?_
        refine wpIn_ret ?_
        obtain rfl := Option.some.inj H
        exact x_retG hk (rs := [.tmp 6]) (vs := [.bool false]) rfl ⟨rfl, trivial⟩ ⟨fun b_ => if b_ < w.heap.size then o b_ else (fun _ => 0) (o98 b_), rfl, hs.close0 o (fun _ => 0)⟩
      · rw [b100] at hk H
        replace H := bifT H
        refine x_run tab hk (k := 5) (lv := []) (ks := [0, 7, 10, 12, 59]) (e' := [(0, .slice A27 ((([] : List T24) ++ (List.drop 0 (List.take (Int.toNat (mnI ((p0).length : Int) 60)) p0)))).length c28), (7, .slice A39 (t34).length c40), (10, .int .i64 t58.2), (12, .int .i64 t66.2), (59, .bool (t58.1 == t66.1))]) rfl trivial fun a hk => ?_
        cases b101 : (t58.1 == t66.1)
        · rw [b101] at hk H
          replace H := bifF H
          refine x_run tab hk (k := 10) (lv := []) (ks := [64, 69]) (e' := [(64, .bool false), (69, undef)]) rfl trivial fun a hk => ?_
          refine x_run tab hk (k := 2) (lv := []) (ks := [6]) (e' := [(6, .bool false)]) rfl trivial fun a hk => ?_
          refine wpListIn_nil ?_
          refine then_n ?_
          refine wpIn_ret ?_
          obtain rfl := Option.some.inj H
          exact x_retG hk (rs := [.tmp 6]) (vs := [.bool false]) rfl ⟨rfl, trivial⟩ ⟨fun b_ => if b_ < w.heap.size then o b_ else (fun _ => 0) (o98 b_), rfl, hs.close0 o (fun _ => 0)⟩
        · rw [b101] at hk H
          replace H := bifT H
          refine x_run tab hk (k := 5) (lv := []) (ks := [0, 7, 64]) (e' := [(0, .slice A27 ((([] : List T24) ++ (List.drop 0 (List.take (Int.toNat (mnI ((p0).length : Int) 60)) p0)))).length c28), (7, .slice A39 (t34).length c40), (64, .bool (t58.2 == t66.2))]) rfl trivial fun a hk => ?_
          cases b102 : (t58.2 == t66.2)
          · rw [b102] at hk H
            replace H := bifF H
            refine x_run tab hk (k := 7) (lv := []) (ks := [6]) (e' := [(6, .bool false)]) rfl trivial fun a hk => ?_
            refine wpListIn_nil ?_
            refine then_n ?_
            refine wpIn_ret ?_
            obtain rfl := Option.some.inj H
            exact x_retG hk (rs := [.tmp 6]) (vs := [.bool false]) rfl ⟨rfl, trivial⟩ ⟨fun b_ => if b_ < w.heap.size then o b_ else (fun _ => 0) (o98 b_), rfl, hs.close0 o (fun _ => 0)⟩
          · rw [b102] at hk H
            replace H := bifT H
            refine x_run tab hk (k := 1) (lv := []) (ks := [7, 64, 65]) (e' := [(7, .slice A39 (t34).length c40), (64, .bool true), (65, .slice A27 ((([] : List T24) ++ (List.drop 0 (List.take (Int.toNat (mnI ((p0).length : Int) 60)) p0)))).length c28)]) rfl trivial fun a hk => ?_
            refine x_op hk rfl ?_
            obtain ⟨t106, hc107, H⟩ := bindS H
            refine op_call hk ent_17 (vs := [.slice A27 ((([] : List T24) ++ (List.drop 0 (List.take (Int.toNat (mnI ((p0).length : Int) 60)) p0)))).length c28]) rfl (flow_Text_calls K A27 c28 (([] : List T24) ++ (List.drop 0 (List.take (Int.toNat (mnI ((p0).length : Int) 60)) p0))) _ o98 _ (f29.imp fun _ h_ => Own.rd h_) hc30   _ hc107) ?_
            rintro _ w108 ⟨o109, rfl, st110⟩
            replace f29 := f29.st st110 (by decide)
            replace f41 := f41.st st110 (by decide)
            replace fg0 := fg0.st st110 (by decide)
            replace fg1 := fg1.st st110 (by decide)
            replace hs := hs.loc0 st110 (by decide)
            have hk := hk.put 66 (.string t106) rfl
            refine x_run tab hk (k := 1) (lv := []) (ks := [64, 66, 67]) (e' := [(64, .bool true), (66, .string t106), (67, .slice A39 (t34).length c40)]) rfl trivial fun a hk => ?_
            refine x_op hk rfl ?_
            obtain ⟨t114, hc115, H⟩ := bindS H
            refine op_call hk ent_18 (vs := [.slice A39 (t34).length c40]) rfl (tidewrackref15_Text_calls K A39 c40 t34 _ o109 _ (f41.imp fun _ h_ => Own.rd h_) hc42   _ hc115) ?_
            rintro _ w116 ⟨o117, rfl, st118⟩
            replace f41 := f41.st st118 (by decide)
            replace fg0 := fg0.st st118 (by decide)
            replace fg1 := fg1.st st118 (by decide)
            replace hs := hs.loc0 st118 (by decide)
            have hk := hk.put 68 (.string t114) rfl
            refine x_run tab hk (k := 3) (lv := []) (ks := [6]) (e' := [(6, .bool (ByteArray.toList t106 == ByteArray.toList t114))]) rfl trivial fun a hk => ?_
            refine wpListIn_nil ?_
            refine then_n ?_
            refine wpIn_ret ?_
            obtain rfl := Option.some.inj H
            exact x_retG hk (rs := [.tmp 6]) (vs := [.bool (ByteArray.toList t106 == ByteArray.toList t114)]) rfl ⟨rfl, trivial⟩ ⟨fun b_ => if b_ < w.heap.size then o b_ else (fun _ => 0) (o117 b_), rfl, hs.close0 o (fun _ => 0)⟩
  · rw [b9] at hk H
    replace H := bifT H
    refine x_if hk (b := true) rfl ?_
    refine (show Code.wpIn _ _ _ _ _ _ _ from ?_)
    refine x_seq ?_
    refine wpIn_region_lit ?_
    refine x_run tab hk (k := 1) (lv := []) (ks := [6]) (e' := [(6, .bool false)]) rfl trivial fun a hk => ?_
    refine wpListIn_nil ?_
    refine then_n ?_
    refine wpIn_ret ?_
    refine then_r ?_
    obtain rfl := Option.some.inj H
    exact x_retG hk (rs := [.tmp 6]) (vs := [.bool false]) rfl ⟨rfl, trivial⟩ ⟨fun b_ => if b_ < w.heap.size then o b_ else (fun _ => 0) (o7 b_), rfl, hs.close0 o (fun _ => 0)⟩

/-! slices.Grow[[]tidewrack/row.Glyph,tidewrack/row.Glyph] -/
theorem slices_Grow_calls (p1 : Int) (w : World) (o : Nat → Nat)   (R0 : Nat) (r : List T24) (H : slices_Grow p1 = some r) :
    Calls Tryd.prog 31 #[.slice none 0 0, .int .i64 p1] w (Ret fun v_ w' => ∃ o' : Nat → Nat, ∃ A0 : Option Addr, ∃ c0 : Nat, v_ = .slice A0 (r).length c0 ∧ St [] w o w' o' ∧ Ft (Own ET24 25 (.slice A0 (r).length c0) r) w' o' R0 ∧ (r).length ≤ c0) := by
  refine x_enter (vs := [.slice none 0 0, .int .i64 p1]) Tryd.func31 rfl rfl rfl fun a hk => ?_
  obtain ⟨o0, hs, h0⟩ := St.start w o
  clear h0
  rw [slices_Grow] at H
  refine x_seq ?_
  refine wpIn_region_lit ?_
  refine x_run tab hk (k := 1) (lv := []) (ks := [0, 1]) (e' := [(0, .slice none 0 0), (1, .int .i64 p1)]) rfl trivial fun a hk => ?_
  refine wpListIn_nil ?_
  refine then_n ?_
  refine x_mid (fun a_ w_ => ∃ o5 : Nat → Nat, Kn 27 a_ [(0, .slice none 0 0), (1, .int .i64 p1)] ∧ St [] w (fun _ => 0) w_ o5 ∧ slices_Grow_j1 p1 = some r) ?_ ?_
  rotate_left
  · rintro a w6 ⟨o5, hk, hs, H⟩
    rw [slices_Grow_j1] at H
    refine x_seq ?_
    refine x_seq ?_
    refine wpIn_region_lit ?_
    refine x_run tab hk (k := 8) (lv := []) (ks := [0, 1]) (e' := [(0, .slice none 0 0), (1, .int .i64 (IntKind.wrap .i64 (p1 - (IntKind.wrap .i64 (0 - ((([] : List T24)).length : Int))))))]) rfl trivial fun a hk => ?_
    refine wpListIn_nil ?_
    refine then_n ?_
    refine x_seq ?_
    refine wpIn_region_lit ?_
    refine x_run tab hk (k := 2) (lv := []) (ks := [0, 1, 16]) (e' := [(0, .slice none 0 0), (1, .int .i64 (IntKind.wrap .i64 (p1 - (IntKind.wrap .i64 (0 - ((([] : List T24)).length : Int)))))), (16, .bool (decide ((IntKind.wrap .i64 (p1 - (IntKind.wrap .i64 (0 - ((([] : List T24)).length : Int))))) > (0 : Int))))]) rfl trivial fun a hk => ?_
    refine wpListIn_nil ?_
    refine then_n ?_
    cases b7 : (decide ((IntKind.wrap .i64 (p1 - (IntKind.wrap .i64 (0 - ((([] : List T24)).length : Int))))) > (0 : Int)))
    · rw [b7] at hk H
      replace H := bifF H
      refine x_if hk (b := false) rfl ?_
      refine (show Code.wpIn _ _ _ _ _ _ _ from ?_)
      refine wpIn_skip ?_
      refine then_n ?_
      refine x_seq ?_
      refine wpIn_region_lit ?_
      refine x_run tab hk (k := 2) (lv := []) (ks := [4]) (e' := [(4, .slice none 0 0)]) rfl trivial fun a hk => ?_
      refine wpListIn_nil ?_
      refine then_n ?_
      refine wpIn_ret ?_
      obtain rfl := Option.some.inj H
      exact x_retG hk (rs := [.tmp 4]) (vs := [.slice none 0 0]) rfl ⟨rfl, trivial⟩ ⟨fun b_ => if b_ < w.heap.size then o b_ else (fun _ => 0) (o5 b_), none, 0, rfl, hs.close0 o (fun _ => 0), (Ft.of_all (fun _ => Own.nil _ _ _) _ _ _), (by simp)⟩
    · rw [b7] at hk H
      replace H := bifT H
      refine x_if hk (b := true) rfl ?_
      refine (show Code.wpIn _ _ _ _ _ _ _ from ?_)
      refine wpIn_region_lit ?_
      refine x_run tab hk (k := 5) (lv := [.slice none 0 0]) (ks := [0, 20, 21]) (e' := [(0, .slice none 0 0), (20, .slice none 0 0), (21, .int .i64 (IntKind.wrap .i64 (p1 - (IntKind.wrap .i64 (0 - ((([] : List T24)).length : Int))))))]) rfl ⟨(ask_take0 tab rfl rfl rfl rfl), trivial⟩ fun a hk => ?_
      refine x_op hk rfl ?_
      obtain ⟨q11, H⟩ := ifS H
      obtain ⟨q12, H⟩ := ifS H
      refine op_appendZ (o := o5) ET24 tab hk rfl rfl rfl rfl rfl rfl rfl rfl q11 q12 1 fun A13 c14 w8 o9 st10 f15 => ?_
      replace hs := hs.loc0 st10 (by decide)
      have hk := hk.put 22 (.slice A13 (Int.toNat (IntKind.wrap .i64 (p1 - (IntKind.wrap .i64 (0 - ((([] : List T24)).length : Int)))))) c14) rfl
      refine x_run tab hk (k := 4) (lv := [.slice A13 (([] : List T24)).length c14]) (ks := [0]) (e' := [(0, .slice A13 (([] : List T24)).length c14)]) rfl ⟨(ask_take0 tab rfl rfl rfl rfl), trivial⟩ fun a hk => ?_
      refine wpListIn_nil ?_
      refine then_n ?_
      refine x_seq ?_
      refine wpIn_region_lit ?_
      refine x_run tab hk (k := 2) (lv := []) (ks := [4]) (e' := [(4, .slice A13 (([] : List T24)).length c14)]) rfl trivial fun a hk => ?_
      refine wpListIn_nil ?_
      refine then_n ?_
      refine wpIn_ret ?_
      obtain rfl := Option.some.inj H
      exact x_retG hk (rs := [.tmp 4]) (vs := [.slice A13 (([] : List T24)).length c14]) rfl ⟨rfl, trivial⟩ ⟨fun b_ => if b_ < w.heap.size then o b_ else (fun _ => R0) (o9 b_), A13, c14, rfl, hs.close0 o (fun _ => R0), hs.close_ft (o := o) (ρ := fun _ => R0) f15 (by decide) rfl, (Nat.zero_le _)⟩
  refine x_seq ?_
  refine wpIn_region_lit ?_
  refine x_run tab hk (k := 2) (lv := []) (ks := [0, 1, 6]) (e' := [(0, .slice none 0 0), (1, .int .i64 p1), (6, .bool (decide (p1 < (0 : Int))))]) rfl trivial fun a hk => ?_
  refine wpListIn_nil ?_
  refine then_n ?_
  cases b16 : (decide (p1 < (0 : Int)))
  · rw [b16] at hk H
    replace H := bifF H
    refine x_if hk (b := false) rfl ?_
    refine (show Code.wpIn _ _ _ _ _ _ _ from ?_)
    refine wpIn_skip ?_
    refine then_n ?_
    exact ⟨o0, (by exact Kn.pick (ks := [0, 1]) hk rfl), hs, H⟩
  · rw [b16] at hk H
    replace H := bifT H
    refine x_if hk (b := true) rfl ?_
    refine (show Code.wpIn _ _ _ _ _ _ _ from ?_)
    refine wpIn_region_lit ?_
    exact absurd H (by simp)

/-! slices.Concat[[]tidewrack/row.Glyph,tidewrack/row.Glyph] -/
theorem slices_Concat_calls (K : Nat) (Ap0 : Option Addr) (cp0 : Nat) (p0 : List (List T24)) (w : World) (o : Nat → Nat) (LF : Nat) (Lp0 : Nat) (hp0 : NRd (dRows ET24) Ap0 p0 w o Lp0 LF) (hcp0 : (p0).length ≤ cp0) (hd0 : ([LF] : List Nat).Nodup) (hd1 : Lp0 ∉ [LF]) (R0 : Nat) (r : List T24) (H : slices_Concat K p0 = some r) :
    Calls Tryd.prog 27 #[.slice Ap0 (p0).length cp0] w (Ret fun v_ w' => ∃ o' : Nat → Nat, ∃ A0 : Option Addr, ∃ c0 : Nat, v_ = .slice A0 (r).length c0 ∧ St [] w o w' o' ∧ Ft (Own ET24 25 (.slice A0 (r).length c0) r) w' o' R0 ∧ (r).length ≤ c0) := by
  refine x_enter (vs := [.slice Ap0 (p0).length cp0]) Tryd.func27 rfl rfl rfl fun a hk => ?_
  obtain ⟨oi, hs0, h0, h1, hob, hoz, hoa⟩ := St.startM2 w o (m := 1) hd0 rfl
  have hs := hs0 []
  have f900000 := hp0.conv (fun P_ => h0 P_ _ hd1) (fun _ h_ => h1 0 1 h_ rfl rfl)
  clear h0 h1 hs0
  rw [slices_Concat] at H
  refine x_seq ?_
  refine wpIn_region_lit ?_
  refine x_run tab hk (k := 1) (lv := []) (ks := [0]) (e' := [(0, .slice Ap0 (p0).length cp0)]) rfl trivial fun a hk => ?_
  refine wpListIn_nil ?_
  refine then_n ?_
  refine x_seq ?_
  refine wpIn_region_lit ?_
  refine x_run tab hk (k := 1) (lv := []) (ks := [0, 3]) (e' := [(0, .slice Ap0 (p0).length cp0), (3, .int .i64 0)]) rfl trivial fun a hk => ?_
  refine wpListIn_nil ?_
  refine then_n ?_
  refine x_mid (fun a_ w_ => ∃ o44 : Nat → Nat, ∃ x45 : Int, Kn 36 a_ [(0, .slice Ap0 (p0).length cp0), (3, .int .i64 x45)] ∧ St [] w oi w_ o44 ∧ NRd (dRows ET24) Ap0 p0 w_ o44 0 1 ∧ slices_Concat_j1 K p0 x45 = some r) ?_ ?_
  rotate_left
  · rintro a w46 ⟨o44, x45, hk, hs, f900000, H⟩
    rw [slices_Concat_j1] at H
    refine x_seq ?_
    refine wpIn_region_lit ?_
    refine x_run tab hk (k := 1) (lv := []) (ks := [0, 23]) (e' := [(0, .slice Ap0 (p0).length cp0), (23, .int .i64 x45)]) rfl trivial fun a hk => ?_
    refine x_op hk rfl ?_
    obtain ⟨t50, hc51, H⟩ := bindS H
    refine op_call hk ent_31 (vs := [.slice none 0 0, .int .i64 x45]) rfl (slices_Grow_calls x45 _ o44  2  _ hc51) ?_
    rintro _ w52 ⟨o53, A55, c56, rfl, st54, f57, hc58⟩
    replace f900000 := f900000.st st54 (by decide)
    replace hs := hs.locQ st54 hob rfl
    have hk := hk.put 24 (.slice A55 (t50).length c56) rfl
    refine x_run tab hk (k := 1) (lv := []) (ks := [0, 6]) (e' := [(0, .slice Ap0 (p0).length cp0), (6, .slice A55 (t50).length c56)]) rfl trivial fun a hk => ?_
    refine wpListIn_nil ?_
    refine then_n ?_
    refine x_mid (fun a_ w_ => ∃ o131 : Nat → Nat, ∃ A132 : Option Addr, ∃ c133 : Nat, ∃ l134 : List T24, Kn 36 a_ [(6, .slice A132 (l134).length c133)] ∧ St [] w oi w_ o131 ∧ Ft (Own ET24 25 (.slice A132 (l134).length c133) l134) w_ o131 5 ∧ (l134).length ≤ c133 ∧ slices_Concat_j2 l134 = some r) ?_ ?_
    rotate_left
    · rintro a w137 ⟨o131, A132, c133, l134, hk, hs, f135, hc136, H⟩
      rw [slices_Concat_j2] at H
      refine x_seq ?_
      refine wpIn_region_lit ?_
      refine x_run tab hk (k := 2) (lv := []) (ks := [2]) (e' := [(2, .slice A132 (l134).length c133)]) rfl trivial fun a hk => ?_
      refine wpListIn_nil ?_
      refine then_n ?_
      refine wpIn_ret ?_
      obtain rfl := Option.some.inj H
      exact x_retG hk (rs := [.tmp 2]) (vs := [.slice A132 (l134).length c133]) rfl ⟨rfl, trivial⟩ ⟨fun b_ => if b_ < w.heap.size then o b_ else (fun l_ => if l_ = 1 then LF else if l_ = 5 then R0 else 0) (o131 b_), A132, c133, rfl, hs.closeF (Lm := []) (Sh := []) hoa rfl (fun l_ => if l_ = 1 then LF else if l_ = 5 then R0 else 0), hs.closeM_ft (o := o) (ρ := fun l_ => if l_ = 1 then LF else if l_ = 5 then R0 else 0) f135 (lab_none hob rfl) rfl, hc136⟩
    refine x_seq ?_
    refine wpIn_region_lit ?_
    refine x_run tab hk (k := 3) (lv := []) (ks := [6, 25, 26, 27]) (e' := [(6, .slice A55 (t50).length c56), (25, .slice Ap0 (p0).length cp0), (26, .int .i64 ((p0).length : Int)), (27, .int .i64 0)]) rfl trivial fun a hk => ?_
    refine wpListIn_nil ?_
    refine then_n ?_
    refine wpIn_block ?_
    refine x_loop (fun j_ a_ w_ => ∃ o157 : Nat → Nat, ∃ A158 : Option Addr, ∃ c159 : Nat, ∃ l160 : List T24, ∃ x163 : Int, Kn 36 a_ [(6, .slice A158 (l160).length c159), (25, .slice Ap0 (p0).length cp0), (26, .int .i64 ((p0).length : Int)), (27, .int .i64 x163)] ∧ St [] w oi w_ o157 ∧ Ft (Own ET24 25 (.slice A158 (l160).length c159) l160) w_ o157 7 ∧ NRd (dRows ET24) Ap0 p0 w_ o157 0 1 ∧ (l160).length ≤ c159 ∧ slices_Concat_l3 p0 j_ l160 x163 = some r) (k := K) ⟨(fun b_ => (fun l_ => if l_ = 2 then 7 else l_) (o53 b_)), A55, c56, t50, 0, (by exact Kn.pick (ks := [6, 25, 26, 27]) hk rfl), (hs.relabM hob (fun l_ => if l_ = 2 then 7 else l_) (by decide)), (f57.relab (fun l_ => if l_ = 2 then 7 else l_) rfl), (f900000.relab (fun l_ => if l_ = 2 then 7 else l_) rfl), hc58, H⟩ (by rintro _ _ ⟨_, _, _, _, _, _, _, _, _, _, H_⟩; exact absurd (show (none : Option (List T24)) = some r from H_) (by simp)) ?_
    rintro k181 a w180 ⟨o157, A158, c159, l160, x163, hk, hs, f161, f900000, hc162, H⟩
    rw [slices_Concat_l3] at H
    obtain ⟨lp182, hlp183⟩ : ∃ lp_, lp_ = slices_Concat_l3 p0 k181 := ⟨_, rfl⟩
    rw [← hlp183] at H
    refine x_seq ?_
    refine wpIn_region_lit ?_
    refine x_run tab hk (k := 1) (lv := []) (ks := [6, 25, 26, 27, 28]) (e' := [(6, .slice A158 (l160).length c159), (25, .slice Ap0 (p0).length cp0), (26, .int .i64 ((p0).length : Int)), (27, .int .i64 x163), (28, .bool (decide (x163 < ((p0).length : Int))))]) rfl trivial fun a hk => ?_
    refine wpListIn_nil ?_
    refine then_n ?_
    refine x_seq ?_
    cases b184 : (decide (x163 < ((p0).length : Int)))
    · rw [b184] at hk H
      replace H := bifF H
      refine x_if hk (b := false) rfl ?_
      refine (show Code.wpIn _ _ _ _ _ _ _ from ?_)
      refine wpIn_exit ?_
      refine then_x ?_
      refine then_x ?_
      refine blk_x ?_
      refine then_n ?_
      exact ⟨(fun b_ => (fun l_ => if l_ = 7 then 5 else l_) (o157 b_)), A158, c159, l160, (by exact Kn.pick (ks := [6]) hk rfl), (hs.relabM hob (fun l_ => if l_ = 7 then 5 else l_) (by decide)), (f161.relab (fun l_ => if l_ = 7 then 5 else l_) rfl), hc162, H⟩
    · rw [b184] at hk H
      replace H := bifT H
      refine x_if hk (b := true) rfl ?_
      refine (show Code.wpIn _ _ _ _ _ _ _ from ?_)
      refine wpIn_skip ?_
      refine then_n ?_
      refine x_seq ?_
      refine wpIn_block ?_
      refine x_seq ?_
      refine wpIn_region_lit ?_
      obtain ⟨q185, H⟩ := ifS H
      obtain ⟨ad186, hAad186⟩ := NRd.addr f900000 q185
      have hk_C := hk
      have f161_C := f161
      have f900000_C := f900000
      subst hAad186
      have hk := hk_C
      clear hk_C
      have f161 := f161_C
      clear f161_C
      have f900000 := f900000_C
      clear f900000_C
      obtain ⟨A187, c188, f189, f190, hc191⟩ := NRd.row f900000 (P := Tryd.prog) tab (t := 22) rfl (i := x163) q185
      refine x_run tab hk (k := 3) (lv := [.slice A187 ((rdD [] p0 x163)).length c188]) (ks := [6, 8, 25, 26, 27]) (e' := [(6, .slice A158 (l160).length c159), (8, .slice A187 ((rdD [] p0 x163)).length c188), (25, .slice (some ad186) (p0).length cp0), (26, .int .i64 ((p0).length : Int)), (27, .int .i64 x163)]) rfl ⟨q185, f189.now, trivial⟩ fun a hk => ?_
      refine wpListIn_nil ?_
      refine then_n ?_
      refine wpIn_region_lit ?_
      refine x_run tab hk (k := 2) (lv := []) (ks := [25, 26, 27, 31, 32]) (e' := [(25, .slice (some ad186) (p0).length cp0), (26, .int .i64 ((p0).length : Int)), (27, .int .i64 x163), (31, .slice A158 (l160).length c159), (32, .slice A187 ((rdD [] p0 x163)).length c188)]) rfl trivial fun a hk => ?_
      refine x_op hk rfl ?_
      obtain ⟨q195, H⟩ := ifS H
      refine op_append (o := o157) (E := ET24) (xs := l160) (ys := (rdD [] p0 x163)) tab hk rfl rfl rfl rfl rfl rfl rfl f161 f190.now q195 fun A196 c197 w192 o193 st194 f198 hc199 => ?_
      replace f190 := f190.st st194 (by decide)
      replace f900000 := f900000.st st194 (by decide)
      replace hs := hs.locQ st194 hob rfl
      have hk := hk.put 33 (.slice A196 ((l160 ++ (rdD [] p0 x163))).length c197) rfl
      refine x_run tab hk (k := 1) (lv := []) (ks := [6, 25, 26, 27]) (e' := [(6, .slice A196 ((l160 ++ (rdD [] p0 x163))).length c197), (25, .slice (some ad186) (p0).length cp0), (26, .int .i64 ((p0).length : Int)), (27, .int .i64 x163)]) rfl trivial fun a hk => ?_
      refine wpListIn_nil ?_
      refine blk_n ?_
      refine then_n ?_
      refine wpIn_region_lit ?_
      refine x_run tab hk (k := 2) (lv := []) (ks := [6, 25, 26, 27]) (e' := [(6, .slice A196 ((l160 ++ (rdD [] p0 x163))).length c197), (25, .slice (some ad186) (p0).length cp0), (26, .int .i64 ((p0).length : Int)), (27, .int .i64 (IntKind.wrap .i64 (x163 + 1)))]) rfl trivial fun a hk => ?_
      refine wpListIn_nil ?_
      refine then_n ?_
      exact ⟨k181, Nat.le_refl _, o193, A196, c197, (l160 ++ (rdD [] p0 x163)), (IntKind.wrap .i64 (x163 + 1)), (by exact Kn.pick (ks := [6, 25, 26, 27]) hk rfl), hs, f198, f900000, hc199, (hlp183 ▸ H)⟩
  refine x_seq ?_
  refine wpIn_region_lit ?_
  refine x_run tab hk (k := 3) (lv := []) (ks := [0, 3, 9, 10, 11]) (e' := [(0, .slice Ap0 (p0).length cp0), (3, .int .i64 0), (9, .slice Ap0 (p0).length cp0), (10, .int .i64 ((p0).length : Int)), (11, .int .i64 0)]) rfl trivial fun a hk => ?_
  refine wpListIn_nil ?_
  refine then_n ?_
  refine wpIn_block ?_
  refine x_loop (fun j_ a_ w_ => ∃ o212 : Nat → Nat, ∃ x213 : Int, ∃ x214 : Int, Kn 36 a_ [(0, .slice Ap0 (p0).length cp0), (3, .int .i64 x213), (9, .slice Ap0 (p0).length cp0), (10, .int .i64 ((p0).length : Int)), (11, .int .i64 x214)] ∧ St [] w oi w_ o212 ∧ NRd (dRows ET24) Ap0 p0 w_ o212 0 1 ∧ slices_Concat_l4 K p0 j_ x213 x214 = some r) (k := K) ⟨oi, 0, 0, (by exact Kn.pick (ks := [0, 3, 9, 10, 11]) hk rfl), hs, f900000, H⟩ (by rintro _ _ ⟨_, _, _, _, _, _, H_⟩; exact absurd (show (none : Option (List T24)) = some r from H_) (by simp)) ?_
  rintro k225 a w224 ⟨o212, x213, x214, hk, hs, f900000, H⟩
  rw [slices_Concat_l4] at H
  obtain ⟨lp226, hlp227⟩ : ∃ lp_, lp_ = slices_Concat_l4 K p0 k225 := ⟨_, rfl⟩
  rw [← hlp227] at H
  refine x_seq ?_
  refine wpIn_region_lit ?_
  refine x_run tab hk (k := 1) (lv := []) (ks := [0, 3, 9, 10, 11, 12]) (e' := [(0, .slice Ap0 (p0).length cp0), (3, .int .i64 x213), (9, .slice Ap0 (p0).length cp0), (10, .int .i64 ((p0).length : Int)), (11, .int .i64 x214), (12, .bool (decide (x214 < ((p0).length : Int))))]) rfl trivial fun a hk => ?_
  refine wpListIn_nil ?_
  refine then_n ?_
  refine x_seq ?_
  cases b228 : (decide (x214 < ((p0).length : Int)))
  · rw [b228] at hk H
    replace H := bifF H
    refine x_if hk (b := false) rfl ?_
    refine (show Code.wpIn _ _ _ _ _ _ _ from ?_)
    refine wpIn_exit ?_
    refine then_x ?_
    refine then_x ?_
    refine blk_x ?_
    refine then_n ?_
    exact ⟨o212, x213, (by exact Kn.pick (ks := [0, 3]) hk rfl), hs, f900000, H⟩
  · rw [b228] at hk H
    replace H := bifT H
    refine x_if hk (b := true) rfl ?_
    refine (show Code.wpIn _ _ _ _ _ _ _ from ?_)
    refine wpIn_skip ?_
    refine then_n ?_
    refine x_seq ?_
    refine wpIn_block ?_
    refine x_seq ?_
    refine wpIn_region_lit ?_
    obtain ⟨q229, H⟩ := ifS H
    obtain ⟨ad230, hAad230⟩ := NRd.addr f900000 q229
    have hk_C := hk
    have f900000_C := f900000
    subst hAad230
    have hk := hk_C
    clear hk_C
    have f900000 := f900000_C
    clear f900000_C
    obtain ⟨A231, c232, f233, f234, hc235⟩ := NRd.row f900000 (P := Tryd.prog) tab (t := 22) rfl (i := x214) q229
    refine x_run tab hk (k := 3) (lv := [.slice A231 ((rdD [] p0 x214)).length c232]) (ks := [0, 3, 5, 9, 10, 11]) (e' := [(0, .slice (some ad230) (p0).length cp0), (3, .int .i64 x213), (5, .slice A231 ((rdD [] p0 x214)).length c232), (9, .slice (some ad230) (p0).length cp0), (10, .int .i64 ((p0).length : Int)), (11, .int .i64 x214)]) rfl ⟨q229, f233.now, trivial⟩ fun a hk => ?_
    refine wpListIn_nil ?_
    refine then_n ?_
    refine x_seq ?_
    refine wpIn_region_lit ?_
    refine x_run tab hk (k := 5) (lv := []) (ks := [0, 3, 9, 10, 11]) (e' := [(0, .slice (some ad230) (p0).length cp0), (3, .int .i64 (IntKind.wrap .i64 (x213 + (((rdD [] p0 x214)).length : Int)))), (9, .slice (some ad230) (p0).length cp0), (10, .int .i64 ((p0).length : Int)), (11, .int .i64 x214)]) rfl trivial fun a hk => ?_
    refine wpListIn_nil ?_
    refine then_n ?_
    refine x_seq ?_
    refine wpIn_region_lit ?_
    refine x_run tab hk (k := 2) (lv := []) (ks := [0, 3, 9, 10, 11, 20]) (e' := [(0, .slice (some ad230) (p0).length cp0), (3, .int .i64 (IntKind.wrap .i64 (x213 + (((rdD [] p0 x214)).length : Int)))), (9, .slice (some ad230) (p0).length cp0), (10, .int .i64 ((p0).length : Int)), (11, .int .i64 x214), (20, .bool (decide ((IntKind.wrap .i64 (x213 + (((rdD [] p0 x214)).length : Int))) < (0 : Int))))]) rfl trivial fun a hk => ?_
    refine wpListIn_nil ?_
    refine then_n ?_
    cases b236 : (decide ((IntKind.wrap .i64 (x213 + (((rdD [] p0 x214)).length : Int))) < (0 : Int)))
    · rw [b236] at hk H
      replace H := bifF H
      refine x_if hk (b := false) rfl ?_
      refine (show Code.wpIn _ _ _ _ _ _ _ from ?_)
      refine wpIn_skip ?_
      refine blk_n ?_
      refine then_n ?_
      refine wpIn_region_lit ?_
      refine x_run tab hk (k := 2) (lv := []) (ks := [0, 3, 9, 10, 11]) (e' := [(0, .slice (some ad230) (p0).length cp0), (3, .int .i64 (IntKind.wrap .i64 (x213 + (((rdD [] p0 x214)).length : Int)))), (9, .slice (some ad230) (p0).length cp0), (10, .int .i64 ((p0).length : Int)), (11, .int .i64 (IntKind.wrap .i64 (x214 + 1)))]) rfl trivial fun a hk => ?_
      refine wpListIn_nil ?_
      refine then_n ?_
      exact ⟨k225, Nat.le_refl _, o212, (IntKind.wrap .i64 (x213 + (((rdD [] p0 x214)).length : Int))), (IntKind.wrap .i64 (x214 + 1)), (by exact Kn.pick (ks := [0, 3, 9, 10, 11]) hk rfl), hs, f900000, (hlp227 ▸ H)⟩
    · rw [b236] at hk H
      replace H := bifT H
      refine x_if hk (b := true) rfl ?_
      refine (show Code.wpIn _ _ _ _ _ _ _ from ?_)
      refine wpIn_region_lit ?_
      exact absurd H (by simp)

/-! tidewrack/flow.Join -/
theorem flow_Join_calls (K : Nat) (Ap0 : Option Addr) (cp0 : Nat) (p0 : List (List T24)) (w : World) (o : Nat → Nat) (LF : Nat) (Lp0 : Nat) (hp0 : NRd (dRows ET24) Ap0 p0 w o Lp0 LF) (hcp0 : (p0).length ≤ cp0) (hd0 : ([LF] : List Nat).Nodup) (hd1 : Lp0 ∉ [LF]) (R0 : Nat) (r : List T24) (H : flow_Join K p0 = some r) :
    Calls Tryd.prog 20 #[.slice Ap0 (p0).length cp0] w (Ret fun v_ w' => ∃ o' : Nat → Nat, ∃ A0 : Option Addr, ∃ c0 : Nat, v_ = .slice A0 (r).length c0 ∧ St [] w o w' o' ∧ Ft (Own ET24 25 (.slice A0 (r).length c0) r) w' o' R0 ∧ (r).length ≤ c0) := by
  refine x_enter (vs := [.slice Ap0 (p0).length cp0]) Tryd.func20 rfl rfl rfl fun a hk => ?_
  obtain ⟨oi, hs0, h0, h1, hob, hoz, hoa⟩ := St.startM2 w o (m := 1) hd0 rfl
  have hs := hs0 []
  have f900000 := hp0.conv (fun P_ => h0 P_ _ hd1) (fun _ h_ => h1 0 1 h_ rfl rfl)
  clear h0 h1 hs0
  rw [flow_Join] at H
  refine x_seq ?_
  refine wpIn_region_lit ?_
  refine x_run tab hk (k := 1) (lv := []) (ks := [0]) (e' := [(0, .slice Ap0 (p0).length cp0)]) rfl trivial fun a hk => ?_
  refine wpListIn_nil ?_
  refine then_n ?_
  refine x_seq ?_
  refine wpIn_region_lit ?_
  refine x_run tab hk (k := 1) (lv := []) (ks := [3]) (e' := [(3, .slice Ap0 (p0).length cp0)]) rfl trivial fun a hk => ?_
  refine x_op hk rfl ?_
  obtain ⟨t4, hc5, H⟩ := bindS H
  refine op_call hk ent_27 (vs := [.slice Ap0 (p0).length cp0]) rfl (slices_Concat_calls K Ap0 cp0 p0 _ oi 1 _ f900000 hcp0 (by decide) (by decide) 2  _ hc5) ?_
  rintro _ w6 ⟨o7, A9, c10, rfl, st8, f11, hc12⟩
  replace f900000 := f900000.st st8 (by decide)
  replace hs := hs.locQ st8 hob rfl
  have hk := hk.put 4 (.slice A9 (t4).length c10) rfl
  refine x_run tab hk (k := 1) (lv := []) (ks := [2]) (e' := [(2, .slice A9 (t4).length c10)]) rfl trivial fun a hk => ?_
  refine wpListIn_nil ?_
  refine then_n ?_
  refine wpIn_ret ?_
  obtain rfl := Option.some.inj H
  exact x_retG hk (rs := [.tmp 2]) (vs := [.slice A9 (t4).length c10]) rfl ⟨rfl, trivial⟩ ⟨fun b_ => if b_ < w.heap.size then o b_ else (fun l_ => if l_ = 1 then LF else if l_ = 2 then R0 else 0) (o7 b_), A9, c10, rfl, hs.closeF (Lm := []) (Sh := []) hoa rfl (fun l_ => if l_ = 1 then LF else if l_ = 2 then R0 else 0), hs.closeM_ft (o := o) (ρ := fun l_ => if l_ = 1 then LF else if l_ = 2 then R0 else 0) f11 (lab_none hob rfl) rfl, hc12⟩

/-! tidewrack/tidewracklaw15.FlowJoins -/
set_option maxHeartbeats 4000000 in
theorem tidewracklaw15_FlowJoins_calls (K : Nat) (Ap0 : Option Addr) (cp0 : Nat) (p0 : List T24) (p1 : Int) (w : World) (o : Nat → Nat) (Lg0 : Nat) (hg0 : Ft (RdC ET68 (some ⟨0, 0, none⟩) glob0) w o Lg0) (Lg1 : Nat) (hg1 : Ft (RdC ET68 (some ⟨1, 0, none⟩) glob1) w o Lg1) (Lp0 : Nat) (hp0 : Ft (RdC ET24 Ap0 p0) w o Lp0) (hcp0 : (p0).length ≤ cp0)  (r : Bool) (H : tidewracklaw15_FlowJoins K p0 p1 = some r) :
    Calls Tryd.prog 5 #[.slice Ap0 (p0).length cp0, .int .i64 p1] w (Ret fun v_ w' => ∃ o' : Nat → Nat, v_ = .bool r ∧ St [] w o w' o') := by
  refine x_enter (vs := [.slice Ap0 (p0).length cp0, .int .i64 p1]) Tryd.func5 rfl rfl rfl fun a hk => ?_
  obtain ⟨o0, hs, h0⟩ := St.start w o
  have fg0 := h0 _ _ hg0
  have fg1 := h0 _ _ hg1
  have f900000 := h0 _ _ hp0
  clear h0
  rw [tidewracklaw15_FlowJoins] at H
  refine x_seq ?_
  refine wpIn_region_lit ?_
  refine x_run tab hk (k := 1) (lv := []) (ks := [0, 1]) (e' := [(0, .slice Ap0 (p0).length cp0), (1, .int .i64 p1)]) rfl trivial fun a hk => ?_
  refine wpListIn_nil ?_
  refine then_n ?_
  refine x_seq ?_
  refine x_seq ?_
  refine wpIn_region_lit ?_
  refine x_op hk rfl ?_
  obtain ⟨t4, hc5, H⟩ := bindS H
  refine op_call hk ent_8 (vs := []) rfl (tidewracklaw15_awake_calls K  _ o0 0 fg0 0 fg1   _ hc5) ?_
  rintro _ w6 ⟨o7, rfl, st8⟩
  replace f900000 := f900000.st st8 (by decide)
  replace fg0 := fg0.st st8 (by decide)
  replace fg1 := fg1.st st8 (by decide)
  replace hs := hs.loc0 st8 (by decide)
  have hk := hk.put 12 (.bool t4) rfl
  refine x_run tab hk (k := 1) (lv := []) (ks := [0, 1, 13]) (e' := [(0, .slice Ap0 (p0).length cp0), (1, .int .i64 p1), (13, .bool (!t4))]) rfl trivial fun a hk => ?_
  refine wpListIn_nil ?_
  refine then_n ?_
  cases b9 : (!t4)
  · rw [b9] at hk H
    replace H := bifF H
    refine x_if hk (b := false) rfl ?_
    refine (show Code.wpIn _ _ _ _ _ _ _ from ?_)
    refine wpIn_skip ?_
    refine then_n ?_
    refine x_seq ?_
    refine wpIn_region_lit ?_
    refine x_op hk rfl ?_
    refine op_slice (o := o7) tab hk (vs := []) (cs := []) rfl rfl rfl rfl rfl rfl rfl rfl rfl 2 fun bx13 w10 o11 st12 f14 => ?_
    replace f900000 := f900000.st st12 (by decide)
    replace fg0 := fg0.st st12 (by decide)
    replace fg1 := fg1.st st12 (by decide)
    replace hs := hs.loc0 st12 (by decide)
    have f15 : Ft (Own ET24 25 (.slice (some ⟨bx13, 0, none⟩) (([] : List T24)).length 0) ([] : List T24)) w10 o11 2 := f14.imp fun _ h_ => Own.of_box h_ rfl (by simp)
    have hk := hk.put 14 (.slice (some ⟨bx13, 0, none⟩) (([] : List T24)).length 0) rfl
    obtain ⟨q16, H⟩ := ifS H
    obtain ⟨q17, H⟩ := ifS H
    obtain ⟨A18, c19, ak21, f20, hc22⟩ := ask_cut (P := Tryd.prog) tab (t := 22) rfl rfl f900000 hcp0 none (some (.int .i64 (mnI ((p0).length : Int) 60))) rfl ⟨q16, (by have := q17; have := hcp0; omega), trivial⟩ (by have := q16; have := q17; omega) (by have := q16; have := q17; omega)
    refine x_run tab hk (k := 5) (lv := [.slice A18 ((List.drop 0 (List.take (Int.toNat (mnI ((p0).length : Int) 60)) p0))).length c19]) (ks := [1, 14, 19]) (e' := [(1, .int .i64 p1), (14, .slice (some ⟨bx13, 0, none⟩) (([] : List T24)).length 0), (19, .slice A18 ((List.drop 0 (List.take (Int.toNat (mnI ((p0).length : Int) 60)) p0))).length c19)]) rfl ⟨(ak21 rfl rfl rfl _), trivial⟩ fun a hk => ?_
    refine x_op hk rfl ?_
    obtain ⟨q26, H⟩ := ifS H
    refine op_append (o := o11) (E := ET24) (xs := ([] : List T24)) (ys := (List.drop 0 (List.take (Int.toNat (mnI ((p0).length : Int) 60)) p0))) tab hk rfl rfl rfl rfl rfl rfl rfl f15 f20.now q26 fun A27 c28 w23 o24 st25 f29 hc30 => ?_
    replace f20 := f20.st st25 (by decide)
    replace fg0 := fg0.st st25 (by decide)
    replace fg1 := fg1.st st25 (by decide)
    replace hs := hs.loc0 st25 (by decide)
    have hk := hk.put 20 (.slice A27 ((([] : List T24) ++ (List.drop 0 (List.take (Int.toNat (mnI ((p0).length : Int) 60)) p0)))).length c28) rfl
    refine x_run tab hk (k := 1) (lv := []) (ks := [0, 1]) (e' := [(0, .slice A27 ((([] : List T24) ++ (List.drop 0 (List.take (Int.toNat (mnI ((p0).length : Int) 60)) p0)))).length c28), (1, .int .i64 p1)]) rfl trivial fun a hk => ?_
    refine wpListIn_nil ?_
    refine then_n ?_
    refine x_seq ?_
    refine wpIn_region_lit ?_
    refine x_run tab hk (k := 1) (lv := []) (ks := [0, 1, 21]) (e' := [(0, .slice A27 ((([] : List T24) ++ (List.drop 0 (List.take (Int.toNat (mnI ((p0).length : Int) 60)) p0)))).length c28), (1, .int .i64 p1), (21, .slice A27 ((([] : List T24) ++ (List.drop 0 (List.take (Int.toNat (mnI ((p0).length : Int) 60)) p0)))).length c28)]) rfl trivial fun a hk => ?_
    refine x_op hk rfl ?_
    obtain ⟨t34, hc35, H⟩ := bindS H
    refine op_call hk ent_11 (vs := [.slice A27 ((([] : List T24) ++ (List.drop 0 (List.take (Int.toNat (mnI ((p0).length : Int) 60)) p0)))).length c28]) rfl (tidewracklaw14_Told_calls K A27 c28 (([] : List T24) ++ (List.drop 0 (List.take (Int.toNat (mnI ((p0).length : Int) 60)) p0))) _ o24 _ (f29.imp fun _ h_ => Own.rd h_) hc30 3  _ hc35) ?_
    rintro _ w36 ⟨o37, A39, c40, rfl, st38, f41, hc42⟩
    replace f29 := f29.st st38 (by decide)
    replace fg0 := fg0.st st38 (by decide)
    replace fg1 := fg1.st st38 (by decide)
    replace hs := hs.loc0 st38 (by decide)
    have hk := hk.put 22 (.slice A39 (t34).length c40) rfl
    refine x_run tab hk (k := 1) (lv := []) (ks := [0, 1, 5]) (e' := [(0, .slice A27 ((([] : List T24) ++ (List.drop 0 (List.take (Int.toNat (mnI ((p0).length : Int) 60)) p0)))).length c28), (1, .int .i64 p1), (5, .slice A39 (t34).length c40)]) rfl trivial fun a hk => ?_
    refine wpListIn_nil ?_
    refine then_n ?_
    refine x_seq ?_
    refine wpIn_region_lit ?_
    refine x_run tab hk (k := 2) (lv := []) (ks := [0, 1, 5, 23, 24]) (e' := [(0, .slice A27 ((([] : List T24) ++ (List.drop 0 (List.take (Int.toNat (mnI ((p0).length : Int) 60)) p0)))).length c28), (1, .int .i64 p1), (5, .slice A39 (t34).length c40), (23, .slice A27 ((([] : List T24) ++ (List.drop 0 (List.take (Int.toNat (mnI ((p0).length : Int) 60)) p0)))).length c28), (24, .int .i64 p1)]) rfl trivial fun a hk => ?_
    refine x_op hk rfl ?_
    obtain ⟨t46, hc47, H⟩ := bindS H
    refine op_call hk ent_12 (vs := [.slice A27 ((([] : List T24) ++ (List.drop 0 (List.take (Int.toNat (mnI ((p0).length : Int) 60)) p0)))).length c28, .int .i64 p1]) rfl (flow_Cut_calls K A27 c28 (([] : List T24) ++ (List.drop 0 (List.take (Int.toNat (mnI ((p0).length : Int) 60)) p0))) p1 _ o37 1 0 fg0 0 fg1 2 (f29.imp fun _ h_ => Own.rd h_) hc30 (by decide) (by decide) (by decide) 4  _ hc47) ?_
    rintro _ w48 ⟨o49, A51, c52, rfl, st50, f53, hc54⟩
    replace f29 := f29.st st50 (by decide)
    replace f41 := f41.st st50 (by decide)
    replace fg0 := fg0.st st50 (by decide)
    replace fg1 := fg1.st st50 (by decide)
    replace hs := hs.loc0 st50 (by decide)
    have hk := hk.put 25 (.slice A51 (t46).length c52) rfl
    refine x_run tab hk (k := 1) (lv := []) (ks := [0, 1, 5, 6]) (e' := [(0, .slice A27 ((([] : List T24) ++ (List.drop 0 (List.take (Int.toNat (mnI ((p0).length : Int) 60)) p0)))).length c28), (1, .int .i64 p1), (5, .slice A39 (t34).length c40), (6, .slice A51 (t46).length c52)]) rfl trivial fun a hk => ?_
    refine wpListIn_nil ?_
    refine then_n ?_
    refine x_seq ?_
    refine x_seq ?_
    refine wpIn_region_lit ?_
    refine x_run tab hk (k := 1) (lv := []) (ks := [0, 1, 5, 6, 26]) (e' := [(0, .slice A27 ((([] : List T24) ++ (List.drop 0 (List.take (Int.toNat (mnI ((p0).length : Int) 60)) p0)))).length c28), (1, .int .i64 p1), (5, .slice A39 (t34).length c40), (6, .slice A51 (t46).length c52), (26, .slice A51 (t46).length c52)]) rfl trivial fun a hk => ?_
    refine x_op hk rfl ?_
    obtain ⟨t58, hc59, H⟩ := bindS H
    refine op_call hk ent_20 (vs := [.slice A51 (t46).length c52]) rfl (flow_Join_calls K A51 c52 t46 _ o49 1 _ f53.rd hc54 (by decide) (by decide) 5  _ hc59) ?_
    rintro _ w60 ⟨o61, A63, c64, rfl, st62, f65, hc66⟩
    replace f29 := f29.st st62 (by decide)
    replace f41 := f41.st st62 (by decide)
    replace f53 := f53.st st62 (by decide)
    replace fg0 := fg0.st st62 (by decide)
    replace fg1 := fg1.st st62 (by decide)
    replace hs := hs.loc0 st62 (by decide)
    have hk := hk.put 27 (.slice A63 (t58).length c64) rfl
    refine x_run tab hk (k := 1) (lv := []) (ks := [0, 1, 6, 27, 28]) (e' := [(0, .slice A27 ((([] : List T24) ++ (List.drop 0 (List.take (Int.toNat (mnI ((p0).length : Int) 60)) p0)))).length c28), (1, .int .i64 p1), (6, .slice A51 (t46).length c52), (27, .slice A63 (t58).length c64), (28, .slice A39 (t34).length c40)]) rfl trivial fun a hk => ?_
    refine x_op hk rfl ?_
    obtain ⟨t70, hc71, H⟩ := bindS H
    refine op_call hk ent_19 (vs := [.slice A63 (t58).length c64, .slice A39 (t34).length c40]) rfl (tidewracklaw09_Glyphs_calls K A63 c64 t58 A39 c40 t34 _ o61 _ (f65.imp fun _ h_ => Own.rd h_) hc66 _ (f41.imp fun _ h_ => Own.rd h_) hc42   _ hc71) ?_
    rintro _ w72 ⟨o73, rfl, st74⟩
    replace f29 := f29.st st74 (by decide)
    replace f41 := f41.st st74 (by decide)
    replace f53 := f53.st st74 (by decide)
    replace f65 := f65.st st74 (by decide)
    replace fg0 := fg0.st st74 (by decide)
    replace fg1 := fg1.st st74 (by decide)
    replace hs := hs.loc0 st74 (by decide)
    have hk := hk.put 29 (.bool t70) rfl
    refine x_run tab hk (k := 1) (lv := []) (ks := [0, 1, 6, 30]) (e' := [(0, .slice A27 ((([] : List T24) ++ (List.drop 0 (List.take (Int.toNat (mnI ((p0).length : Int) 60)) p0)))).length c28), (1, .int .i64 p1), (6, .slice A51 (t46).length c52), (30, .bool (!t70))]) rfl trivial fun a hk => ?_
    refine wpListIn_nil ?_
    refine then_n ?_
    cases b75 : (!t70)
    · rw [b75] at hk H
      replace H := bifF H
      refine x_if hk (b := false) rfl ?_
      refine (show Code.wpIn _ _ _ _ _ _ _ from ?_)
      refine wpIn_skip ?_
      refine then_n ?_
      refine x_seq ?_
      refine wpIn_region_lit ?_
      refine x_run tab hk (k := 4) (lv := []) (ks := [0, 1, 6]) (e' := [(0, .slice A27 ((([] : List T24) ++ (List.drop 0 (List.take (Int.toNat (mnI ((p0).length : Int) 60)) p0)))).length c28), (1, .int .i64 (mxI 2 (mnI p1 1000))), (6, .slice A51 (t46).length c52)]) rfl trivial fun a hk => ?_
      refine wpListIn_nil ?_
      refine then_n ?_
      refine x_mid (fun a_ w_ => ∃ o1231 : Nat → Nat, Kn 89 a_ [] ∧ St [] w (fun _ => 0) w_ o1231 ∧ Ft (RdC ET68 (some ⟨0, 0, none⟩) glob0) w_ o1231 0 ∧ Ft (RdC ET68 (some ⟨1, 0, none⟩) glob1) w_ o1231 0 ∧ tidewracklaw15_FlowJoins_j1 = some r) ?_ ?_
      rotate_left
      · rintro a w1232 ⟨o1231, hk, hs, fg0, fg1, H⟩
        rw [tidewracklaw15_FlowJoins_j1] at H
        refine x_seq ?_
        refine wpIn_region_lit ?_
        refine x_run tab hk (k := 1) (lv := []) (ks := [4]) (e' := [(4, .bool true)]) rfl trivial fun a hk => ?_
        refine wpListIn_nil ?_
        refine then_n ?_
        refine wpIn_ret ?_
        obtain rfl := Option.some.inj H
        exact x_retG hk (rs := [.tmp 4]) (vs := [.bool true]) rfl ⟨rfl, trivial⟩ ⟨fun b_ => if b_ < w.heap.size then o b_ else (fun _ => 0) (o1231 b_), rfl, hs.close0 o (fun _ => 0)⟩
      refine x_seq ?_
      refine wpIn_region_lit ?_
      refine x_run tab hk (k := 3) (lv := []) (ks := [0, 1, 6, 34, 35, 36]) (e' := [(0, .slice A27 ((([] : List T24) ++ (List.drop 0 (List.take (Int.toNat (mnI ((p0).length : Int) 60)) p0)))).length c28), (1, .int .i64 (mxI 2 (mnI p1 1000))), (6, .slice A51 (t46).length c52), (34, .slice A51 (t46).length c52), (35, .int .i64 ((t46).length : Int)), (36, .int .i64 0)]) rfl trivial fun a hk => ?_
      refine wpListIn_nil ?_
      refine then_n ?_
      refine wpIn_block ?_
      refine x_loop (fun j_ a_ w_ => ∃ o1619 : Nat → Nat, ∃ A1620 : Option Addr, ∃ c1621 : Nat, ∃ A1624 : Option Addr, ∃ c1625 : Nat, ∃ x1628 : Int, Kn 89 a_ [(0, .slice A27 ((([] : List T24) ++ (List.drop 0 (List.take (Int.toNat (mnI ((p0).length : Int) 60)) p0)))).length c28), (1, .int .i64 (mxI 2 (mnI p1 1000))), (6, .slice A1620 (t46).length c1621), (34, .slice A1624 (t46).length c1625), (35, .int .i64 ((t46).length : Int)), (36, .int .i64 x1628)] ∧ St [] w (fun _ => 0) w_ o1619 ∧ NOwn (dRows ET24) 22 A1620 c1621 t46 w_ o1619 201 1 ∧ NOwn (dRows ET24) 22 A1624 c1625 t46 w_ o1619 201 1 ∧ Ft (Own ET24 25 (.slice A27 ((([] : List T24) ++ (List.drop 0 (List.take (Int.toNat (mnI ((p0).length : Int) 60)) p0)))).length c28) (([] : List T24) ++ (List.drop 0 (List.take (Int.toNat (mnI ((p0).length : Int) 60)) p0)))) w_ o1619 200 ∧ Ft (RdC ET68 (some ⟨0, 0, none⟩) glob0) w_ o1619 0 ∧ Ft (RdC ET68 (some ⟨1, 0, none⟩) glob1) w_ o1619 0 ∧ (t46).length ≤ c1621 ∧ (t46).length ≤ c1625 ∧ tidewracklaw15_FlowJoins_l2 K p0 p1 t46 j_ x1628 = some r) (k := K) ⟨(fun b_ => (fun l_ => if l_ = 2 then 200 else if l_ = 4 then 201 else l_) (o73 b_)), A51, c52, A51, c52, 0, (by exact Kn.pick (ks := [0, 1, 6, 34, 35, 36]) hk rfl), (hs.relab0 (fun l_ => if l_ = 2 then 200 else if l_ = 4 then 201 else l_) rfl), (f53.relab (fun l_ => if l_ = 2 then 200 else if l_ = 4 then 201 else l_) rfl), (f53.relab (fun l_ => if l_ = 2 then 200 else if l_ = 4 then 201 else l_) rfl), (f29.relab (fun l_ => if l_ = 2 then 200 else if l_ = 4 then 201 else l_) rfl), (fg0.relab (fun l_ => if l_ = 2 then 200 else if l_ = 4 then 201 else l_) rfl), (fg1.relab (fun l_ => if l_ = 2 then 200 else if l_ = 4 then 201 else l_) rfl), hc54, hc54, H⟩ (by rintro _ _ ⟨_, _, _, _, _, _, _, _, _, _, _, _, _, _, _, H_⟩; exact absurd (show (none : Option Bool) = some r from H_) (by simp)) ?_
      rintro k2006 a w2005 ⟨o1619, A1620, c1621, A1624, c1625, x1628, hk, hs, f1622, f1626, f29, fg0, fg1, hc1623, hc1627, H⟩
      rw [tidewracklaw15_FlowJoins_l2] at H
      obtain ⟨lp2007, hlp2008⟩ : ∃ lp_, lp_ = tidewracklaw15_FlowJoins_l2 K p0 p1 t46 k2006 := ⟨_, rfl⟩
      rw [← hlp2008] at H
      refine x_seq ?_
      refine wpIn_region_lit ?_
      refine x_run tab hk (k := 1) (lv := []) (ks := [0, 1, 6, 34, 35, 36, 37]) (e' := [(0, .slice A27 ((([] : List T24) ++ (List.drop 0 (List.take (Int.toNat (mnI ((p0).length : Int) 60)) p0)))).length c28), (1, .int .i64 (mxI 2 (mnI p1 1000))), (6, .slice A1620 (t46).length c1621), (34, .slice A1624 (t46).length c1625), (35, .int .i64 ((t46).length : Int)), (36, .int .i64 x1628), (37, .bool (decide (x1628 < ((t46).length : Int))))]) rfl trivial fun a hk => ?_
      refine wpListIn_nil ?_
      refine then_n ?_
      refine x_seq ?_
      cases b2009 : (decide (x1628 < ((t46).length : Int)))
      · rw [b2009] at hk H
        replace H := bifF H
        refine x_if hk (b := false) rfl ?_
        refine (show Code.wpIn _ _ _ _ _ _ _ from ?_)
        refine wpIn_exit ?_
        refine then_x ?_
        refine then_x ?_
        refine blk_x ?_
        refine then_n ?_
        exact ⟨o1619, (by exact Kn.pick (ks := []) hk rfl), hs, fg0, fg1, H⟩
      · rw [b2009] at hk H
        replace H := bifT H
        refine x_if hk (b := true) rfl ?_
        refine (show Code.wpIn _ _ _ _ _ _ _ from ?_)
        refine wpIn_skip ?_
        refine then_n ?_
        refine x_mid (fun a_ w_ => ∃ o2199 : Nat → Nat, ∃ A2200 : Option Addr, ∃ c2201 : Nat, Kn 89 a_ [(0, .slice A27 ((([] : List T24) ++ (List.drop 0 (List.take (Int.toNat (mnI ((p0).length : Int) 60)) p0)))).length c28), (1, .int .i64 (mxI 2 (mnI p1 1000))), (6, .slice A1620 (t46).length c1621), (34, .slice A2200 (t46).length c2201), (35, .int .i64 ((t46).length : Int)), (36, .int .i64 x1628)] ∧ St [] w (fun _ => 0) w_ o2199 ∧ NOwn (dRows ET24) 22 A1620 c1621 t46 w_ o2199 265 1 ∧ NOwn (dRows ET24) 22 A2200 c2201 t46 w_ o2199 265 1 ∧ Ft (Own ET24 25 (.slice A27 ((([] : List T24) ++ (List.drop 0 (List.take (Int.toNat (mnI ((p0).length : Int) 60)) p0)))).length c28) (([] : List T24) ++ (List.drop 0 (List.take (Int.toNat (mnI ((p0).length : Int) 60)) p0)))) w_ o2199 264 ∧ Ft (RdC ET68 (some ⟨0, 0, none⟩) glob0) w_ o2199 0 ∧ Ft (RdC ET68 (some ⟨1, 0, none⟩) glob1) w_ o2199 0 ∧ (t46).length ≤ c2201 ∧ tidewracklaw15_FlowJoins_j3 x1628 lp2007 = some r) ?_ ?_
        rotate_left
        · rintro a w2204 ⟨o2199, A2200, c2201, hk, hs, f1622, f2202, f29, fg0, fg1, hc2203, H⟩
          rw [tidewracklaw15_FlowJoins_j3] at H
          refine wpIn_region_lit ?_
          refine x_run tab hk (k := 2) (lv := []) (ks := [0, 1, 6, 34, 35, 36]) (e' := [(0, .slice A27 ((([] : List T24) ++ (List.drop 0 (List.take (Int.toNat (mnI ((p0).length : Int) 60)) p0)))).length c28), (1, .int .i64 (mxI 2 (mnI p1 1000))), (6, .slice A1620 (t46).length c1621), (34, .slice A2200 (t46).length c2201), (35, .int .i64 ((t46).length : Int)), (36, .int .i64 (IntKind.wrap .i64 (x1628 + 1)))]) rfl trivial fun a hk => ?_
          refine wpListIn_nil ?_
          refine then_n ?_
          exact ⟨k2006, Nat.le_refl _, (fun b_ => (fun l_ => if l_ = 264 then 200 else if l_ = 265 then 201 else l_) (o2199 b_)), A1620, c1621, A2200, c2201, (IntKind.wrap .i64 (x1628 + 1)), (by exact Kn.pick (ks := [0, 1, 6, 34, 35, 36]) hk rfl), (hs.relab0 (fun l_ => if l_ = 264 then 200 else if l_ = 265 then 201 else l_) rfl), (f1622.relab (fun l_ => if l_ = 264 then 200 else if l_ = 265 then 201 else l_) rfl), (f2202.relab (fun l_ => if l_ = 264 then 200 else if l_ = 265 then 201 else l_) rfl), (f29.relab (fun l_ => if l_ = 264 then 200 else if l_ = 265 then 201 else l_) rfl), (fg0.relab (fun l_ => if l_ = 264 then 200 else if l_ = 265 then 201 else l_) rfl), (fg1.relab (fun l_ => if l_ = 264 then 200 else if l_ = 265 then 201 else l_) rfl), hc1623, hc2203, (hlp2008 ▸ H)⟩
        refine wpIn_block ?_
        refine x_seq ?_
        refine wpIn_region_lit ?_
        obtain ⟨q2205, H⟩ := ifS H
        obtain ⟨ad2206, hAad2206⟩ := NRd.addr f1626.rd q2205
        have hk_C := hk
        have f1622_C := f1622
        have f1626_C := f1626
        have f29_C := f29
        have fg0_C := fg0
        have fg1_C := fg1
        subst hAad2206
        have hk := hk_C
        clear hk_C
        have f1622 := f1622_C
        clear f1622_C
        have f1626 := f1626_C
        clear f1626_C
        have f29 := f29_C
        clear f29_C
        have fg0 := fg0_C
        clear fg0_C
        have fg1 := fg1_C
        clear fg1_C
        obtain ⟨A2207, c2208, f2209, f2210, hc2211⟩ := NRd.row f1626.rd (P := Tryd.prog) tab (t := 22) rfl (i := x1628) q2205
        refine x_run tab hk (k := 5) (lv := [.slice A2207 ((rdD [] t46 x1628)).length c2208]) (ks := [0, 1, 6, 7, 8, 34, 35, 36]) (e' := [(0, .slice A27 ((([] : List T24) ++ (List.drop 0 (List.take (Int.toNat (mnI ((p0).length : Int) 60)) p0)))).length c28), (1, .int .i64 (mxI 2 (mnI p1 1000))), (6, .slice A1620 (t46).length c1621), (7, .int .i64 x1628), (8, .slice A2207 ((rdD [] t46 x1628)).length c2208), (34, .slice (some ad2206) (t46).length c1625), (35, .int .i64 ((t46).length : Int)), (36, .int .i64 x1628)]) rfl ⟨q2205, f2209.now, trivial⟩ fun a hk => ?_
        refine wpListIn_nil ?_
        refine then_n ?_
        refine x_seq ?_
        refine wpIn_region_lit ?_
        refine x_run tab hk (k := 1) (lv := []) (ks := [0, 1, 6, 7, 8, 9, 34, 35, 36]) (e' := [(0, .slice A27 ((([] : List T24) ++ (List.drop 0 (List.take (Int.toNat (mnI ((p0).length : Int) 60)) p0)))).length c28), (1, .int .i64 (mxI 2 (mnI p1 1000))), (6, .slice A1620 (t46).length c1621), (7, .int .i64 x1628), (8, .slice A2207 ((rdD [] t46 x1628)).length c2208), (9, .int .i64 0), (34, .slice (some ad2206) (t46).length c1625), (35, .int .i64 ((t46).length : Int)), (36, .int .i64 x1628)]) rfl trivial fun a hk => ?_
        refine wpListIn_nil ?_
        refine then_n ?_
        refine x_mid (fun a_ w_ => ∃ o2285 : Nat → Nat, ∃ x2286 : Int, Kn 89 a_ [(0, .slice A27 ((([] : List T24) ++ (List.drop 0 (List.take (Int.toNat (mnI ((p0).length : Int) 60)) p0)))).length c28), (1, .int .i64 (mxI 2 (mnI p1 1000))), (6, .slice A1620 (t46).length c1621), (7, .int .i64 x1628), (8, .slice A2207 ((rdD [] t46 x1628)).length c2208), (9, .int .i64 x2286), (34, .slice (some ad2206) (t46).length c1625), (35, .int .i64 ((t46).length : Int)), (36, .int .i64 x1628)] ∧ St [] w (fun _ => 0) w_ o2285 ∧ NOwn (dRows ET24) 22 A1620 c1621 t46 w_ o2285 275 1 ∧ NOwn (dRows ET24) 22 (some ad2206) c1625 t46 w_ o2285 275 1 ∧ Ft (RdC ET24 A2207 (rdD [] t46 x1628)) w_ o2285 1 ∧ Ft (Own ET24 25 (.slice A27 ((([] : List T24) ++ (List.drop 0 (List.take (Int.toNat (mnI ((p0).length : Int) 60)) p0)))).length c28) (([] : List T24) ++ (List.drop 0 (List.take (Int.toNat (mnI ((p0).length : Int) 60)) p0)))) w_ o2285 274 ∧ Ft (RdC ET68 (some ⟨0, 0, none⟩) glob0) w_ o2285 0 ∧ Ft (RdC ET68 (some ⟨1, 0, none⟩) glob1) w_ o2285 0 ∧ tidewracklaw15_FlowJoins_j4 K p0 p1 t46 x1628 lp2007 x2286 = some r) ?_ ?_
        rotate_left
        · rintro a w2287 ⟨o2285, x2286, hk, hs, f1622, f1626, f2210, f29, fg0, fg1, H⟩
          rw [tidewracklaw15_FlowJoins_j4] at H
          refine x_mid (fun a_ w_ => ∃ o2294 : Nat → Nat, Kn 89 a_ [(0, .slice A27 ((([] : List T24) ++ (List.drop 0 (List.take (Int.toNat (mnI ((p0).length : Int) 60)) p0)))).length c28), (1, .int .i64 (mxI 2 (mnI p1 1000))), (6, .slice A1620 (t46).length c1621), (7, .int .i64 x1628), (9, .int .i64 x2286), (34, .slice (some ad2206) (t46).length c1625), (35, .int .i64 ((t46).length : Int)), (36, .int .i64 x1628)] ∧ St [] w (fun _ => 0) w_ o2294 ∧ NOwn (dRows ET24) 22 A1620 c1621 t46 w_ o2294 277 1 ∧ NOwn (dRows ET24) 22 (some ad2206) c1625 t46 w_ o2294 277 1 ∧ Ft (Own ET24 25 (.slice A27 ((([] : List T24) ++ (List.drop 0 (List.take (Int.toNat (mnI ((p0).length : Int) 60)) p0)))).length c28) (([] : List T24) ++ (List.drop 0 (List.take (Int.toNat (mnI ((p0).length : Int) 60)) p0)))) w_ o2294 276 ∧ Ft (RdC ET68 (some ⟨0, 0, none⟩) glob0) w_ o2294 0 ∧ Ft (RdC ET68 (some ⟨1, 0, none⟩) glob1) w_ o2294 0 ∧ tidewracklaw15_FlowJoins_j5 K p1 t46 x1628 lp2007 x2286 = some r) ?_ ?_
          rotate_left
          · rintro a w2295 ⟨o2294, hk, hs, f1622, f1626, f29, fg0, fg1, H⟩
            rw [tidewracklaw15_FlowJoins_j5] at H
            refine x_seq ?_
            refine wpIn_region_lit ?_
            refine x_run tab hk (k := 6) (lv := []) (ks := [0, 1, 6, 7, 9, 34, 35, 36, 72]) (e' := [(0, .slice A27 ((([] : List T24) ++ (List.drop 0 (List.take (Int.toNat (mnI ((p0).length : Int) 60)) p0)))).length c28), (1, .int .i64 (mxI 2 (mnI p1 1000))), (6, .slice A1620 (t46).length c1621), (7, .int .i64 x1628), (9, .int .i64 x2286), (34, .slice (some ad2206) (t46).length c1625), (35, .int .i64 ((t46).length : Int)), (36, .int .i64 x1628), (72, .bool (decide ((IntKind.wrap .i64 (x1628 + 1)) < ((t46).length : Int))))]) rfl trivial fun a hk => ?_
            cases b2296 : (decide ((IntKind.wrap .i64 (x1628 + 1)) < ((t46).length : Int)))
            · rw [b2296] at hk H
              replace H := bifF H
              refine x_run tab hk (k := 14) (lv := []) (ks := [0, 1, 6, 34, 35, 36, 72, 86]) (e' := [(0, .slice A27 ((([] : List T24) ++ (List.drop 0 (List.take (Int.toNat (mnI ((p0).length : Int) 60)) p0)))).length c28), (1, .int .i64 (mxI 2 (mnI p1 1000))), (6, .slice A1620 (t46).length c1621), (34, .slice (some ad2206) (t46).length c1625), (35, .int .i64 ((t46).length : Int)), (36, .int .i64 x1628), (72, .bool false), (86, undef)]) rfl trivial fun a hk => ?_
              refine x_run tab hk (k := 1) (lv := []) (ks := [0, 1, 6, 34, 35, 36, 87]) (e' := [(0, .slice A27 ((([] : List T24) ++ (List.drop 0 (List.take (Int.toNat (mnI ((p0).length : Int) 60)) p0)))).length c28), (1, .int .i64 (mxI 2 (mnI p1 1000))), (6, .slice A1620 (t46).length c1621), (34, .slice (some ad2206) (t46).length c1625), (35, .int .i64 ((t46).length : Int)), (36, .int .i64 x1628), (87, .bool false)]) rfl trivial fun a hk => ?_
              refine wpListIn_nil ?_
              refine then_n ?_
              refine x_if hk (b := false) rfl ?_
              refine (show Code.wpIn _ _ _ _ _ _ _ from ?_)
              refine wpIn_skip ?_
              refine blk_n ?_
              refine then_n ?_
              exact ⟨(fun b_ => (fun l_ => if l_ = 276 then 264 else if l_ = 277 then 265 else l_) (o2294 b_)), (some ad2206), c1625, (by exact Kn.pick (ks := [0, 1, 6, 34, 35, 36]) hk rfl), (hs.relab0 (fun l_ => if l_ = 276 then 264 else if l_ = 277 then 265 else l_) rfl), (f1622.relab (fun l_ => if l_ = 276 then 264 else if l_ = 277 then 265 else l_) rfl), (f1626.relab (fun l_ => if l_ = 276 then 264 else if l_ = 277 then 265 else l_) rfl), (f29.relab (fun l_ => if l_ = 276 then 264 else if l_ = 277 then 265 else l_) rfl), (fg0.relab (fun l_ => if l_ = 276 then 264 else if l_ = 277 then 265 else l_) rfl), (fg1.relab (fun l_ => if l_ = 276 then 264 else if l_ = 277 then 265 else l_) rfl), hc1627, H⟩
            · rw [b2296] at hk H
              replace H := bifT H
              obtain ⟨q2297, H⟩ := ifS H
              obtain ⟨ad2298, hAad2298⟩ := NRd.addr f1622.rd q2297
              have hk_C := hk
              have f1622_C := f1622
              have f1626_C := f1626
              have f29_C := f29
              have fg0_C := fg0
              have fg1_C := fg1
              subst hAad2298
              have hk := hk_C
              clear hk_C
              have f1622 := f1622_C
              clear f1622_C
              have f1626 := f1626_C
              clear f1626_C
              have f29 := f29_C
              clear f29_C
              have fg0 := fg0_C
              clear fg0_C
              have fg1 := fg1_C
              clear fg1_C
              obtain ⟨A2299, c2300, f2301, f2302, hc2303⟩ := NRd.row f1622.rd (P := Tryd.prog) tab (t := 22) rfl (i := (IntKind.wrap .i64 (x1628 + 1))) q2297
              obtain ⟨q2304, H⟩ := ifS H
              obtain ⟨ad2305, hAad2305⟩ := RdC.addr f2302.now q2304
              have hk_C := hk
              have f1622_C := f1622
              have f1626_C := f1626
              have f2302_C := f2302
              have f29_C := f29
              have fg0_C := fg0
              have fg1_C := fg1
              subst hAad2305
              have hk := hk_C
              clear hk_C
              have f1622 := f1622_C
              clear f1622_C
              have f1626 := f1626_C
              clear f1626_C
              have f2302 := f2302_C
              clear f2302_C
              have f29 := f29_C
              clear f29_C
              have fg0 := fg0_C
              clear fg0_C
              have fg1 := fg1_C
              clear fg1_C
              refine x_run tab hk (k := 10) (lv := [.slice (some ad2305) ((rdD [] t46 (IntKind.wrap .i64 (x1628 + 1)))).length c2300, .int .i32 ((rdD zT24 (rdD [] t46 (IntKind.wrap .i64 (x1628 + 1))) 0).Rune)]) (ks := [0, 1, 6, 34, 35, 36, 72, 73, 82]) (e' := [(0, .slice A27 ((([] : List T24) ++ (List.drop 0 (List.take (Int.toNat (mnI ((p0).length : Int) 60)) p0)))).length c28), (1, .int .i64 (mxI 2 (mnI p1 1000))), (6, .slice (some ad2298) (t46).length c1621), (34, .slice (some ad2206) (t46).length c1625), (35, .int .i64 ((t46).length : Int)), (36, .int .i64 x1628), (72, .bool true), (73, .int .i64 x2286), (82, .int .i64 (IntKind.wrap .i64 ((rdD zT24 (rdD [] t46 (IntKind.wrap .i64 (x1628 + 1))) 0).Rune)))]) rfl ⟨q2297, f2301.now, q2304, (load1 tab rfl (RdC.at (E := ET24) (d := zT24) (i := (0 : Int)) (j := 0) f2302.now q2304 rfl)), trivial⟩ fun a hk => ?_
              refine x_op hk rfl ?_
              obtain ⟨t2309, hc2310, H⟩ := bindS H
              refine op_call hk ent_9 (vs := [.int .i64 (IntKind.wrap .i64 ((rdD zT24 (rdD [] t46 (IntKind.wrap .i64 (x1628 + 1))) 0).Rune))]) rfl (tidewrackref06_Of_calls K (IntKind.wrap .i64 ((rdD zT24 (rdD [] t46 (IntKind.wrap .i64 (x1628 + 1))) 0).Rune)) _ o2294    _ hc2310) ?_
              rintro _ w2311 ⟨o2312, rfl, st2313⟩
              replace f1622 := f1622.st st2313 (by decide)
              replace f1626 := f1626.st st2313 (by decide)
              replace f29 := f29.st st2313 (by decide)
              replace fg0 := fg0.st st2313 (by decide)
              replace fg1 := fg1.st st2313 (by decide)
              replace hs := hs.loc0 st2313 (by decide)
              have hk := hk.put 83 (.int .i64 t2309) rfl
              refine x_run tab hk (k := 4) (lv := []) (ks := [0, 1, 6, 34, 35, 36, 87]) (e' := [(0, .slice A27 ((([] : List T24) ++ (List.drop 0 (List.take (Int.toNat (mnI ((p0).length : Int) 60)) p0)))).length c28), (1, .int .i64 (mxI 2 (mnI p1 1000))), (6, .slice (some ad2298) (t46).length c1621), (34, .slice (some ad2206) (t46).length c1625), (35, .int .i64 ((t46).length : Int)), (36, .int .i64 x1628), (87, .bool (decide ((IntKind.wrap .i64 (x2286 + t2309)) ≤ (mxI 2 (mnI p1 1000)))))]) rfl trivial fun a hk => ?_
              refine wpListIn_nil ?_
              refine then_n ?_
              cases b2314 : (decide ((IntKind.wrap .i64 (x2286 + t2309)) ≤ (mxI 2 (mnI p1 1000))))
              · rw [b2314] at hk H
                replace H := bifF H
                refine x_if hk (b := false) rfl ?_
                refine (show Code.wpIn _ _ _ _ _ _ _ from ?_)
                refine wpIn_skip ?_
                refine blk_n ?_
                refine then_n ?_
                exact ⟨(fun b_ => (fun l_ => if l_ = 276 then 264 else if l_ = 277 then 265 else l_) (o2312 b_)), (some ad2206), c1625, (by exact Kn.pick (ks := [0, 1, 6, 34, 35, 36]) hk rfl), (hs.relab0 (fun l_ => if l_ = 276 then 264 else if l_ = 277 then 265 else l_) rfl), (f1622.relab (fun l_ => if l_ = 276 then 264 else if l_ = 277 then 265 else l_) rfl), (f1626.relab (fun l_ => if l_ = 276 then 264 else if l_ = 277 then 265 else l_) rfl), (f29.relab (fun l_ => if l_ = 276 then 264 else if l_ = 277 then 265 else l_) rfl), (fg0.relab (fun l_ => if l_ = 276 then 264 else if l_ = 277 then 265 else l_) rfl), (fg1.relab (fun l_ => if l_ = 276 then 264 else if l_ = 277 then 265 else l_) rfl), hc1627, H⟩
              · rw [b2314] at hk H
                replace H := bifT H
                refine x_if hk (b := true) rfl ?_
                refine (show Code.wpIn _ _ _ _ _ _ _ from ?_)
                refine x_seq ?_
                refine wpIn_region_lit ?_
                refine x_run tab hk (k := 1) (lv := []) (ks := [4]) (e' := [(4, .bool false)]) rfl trivial fun a hk => ?_
                refine wpListIn_nil ?_
                refine then_n ?_
                refine wpIn_ret ?_
                refine blk_r ?_
                refine then_r ?_
                refine then_r ?_
                refine blk_r ?_
                refine then_r ?_
                obtain rfl := Option.some.inj H
                exact x_retG hk (rs := [.tmp 4]) (vs := [.bool false]) rfl ⟨rfl, trivial⟩ ⟨fun b_ => if b_ < w.heap.size then o b_ else (fun _ => 0) (o2312 b_), rfl, hs.close0 o (fun _ => 0)⟩
          refine x_seq ?_
          refine wpIn_region_lit ?_
          refine x_run tab hk (k := 4) (lv := []) (ks := [0, 1, 6, 7, 8, 9, 34, 35, 36, 57]) (e' := [(0, .slice A27 ((([] : List T24) ++ (List.drop 0 (List.take (Int.toNat (mnI ((p0).length : Int) 60)) p0)))).length c28), (1, .int .i64 (mxI 2 (mnI p1 1000))), (6, .slice A1620 (t46).length c1621), (7, .int .i64 x1628), (8, .slice A2207 ((rdD [] t46 x1628)).length c2208), (9, .int .i64 x2286), (34, .slice (some ad2206) (t46).length c1625), (35, .int .i64 ((t46).length : Int)), (36, .int .i64 x1628), (57, .bool (decide (x2286 > (mxI 2 (mnI p1 1000)))))]) rfl trivial fun a hk => ?_
          cases b2315 : (decide (x2286 > (mxI 2 (mnI p1 1000))))
          · rw [b2315] at hk H
            replace H := bifF H
            refine x_run tab hk (k := 4) (lv := []) (ks := [0, 1, 6, 7, 9, 34, 35, 36, 57, 61]) (e' := [(0, .slice A27 ((([] : List T24) ++ (List.drop 0 (List.take (Int.toNat (mnI ((p0).length : Int) 60)) p0)))).length c28), (1, .int .i64 (mxI 2 (mnI p1 1000))), (6, .slice A1620 (t46).length c1621), (7, .int .i64 x1628), (9, .int .i64 x2286), (34, .slice (some ad2206) (t46).length c1625), (35, .int .i64 ((t46).length : Int)), (36, .int .i64 x1628), (57, .bool false), (61, .bool ((((rdD [] t46 x1628)).length : Int) == (0 : Int)))]) rfl trivial fun a hk => ?_
            cases b2316 : ((((rdD [] t46 x1628)).length : Int) == (0 : Int))
            · rw [b2316] at hk H
              replace H := bifF H
              refine x_run tab hk (k := 5) (lv := []) (ks := [0, 1, 6, 7, 9, 34, 35, 36, 66]) (e' := [(0, .slice A27 ((([] : List T24) ++ (List.drop 0 (List.take (Int.toNat (mnI ((p0).length : Int) 60)) p0)))).length c28), (1, .int .i64 (mxI 2 (mnI p1 1000))), (6, .slice A1620 (t46).length c1621), (7, .int .i64 x1628), (9, .int .i64 x2286), (34, .slice (some ad2206) (t46).length c1625), (35, .int .i64 ((t46).length : Int)), (36, .int .i64 x1628), (66, .bool false)]) rfl trivial fun a hk => ?_
              refine wpListIn_nil ?_
              refine then_n ?_
              refine x_if hk (b := false) rfl ?_
              refine (show Code.wpIn _ _ _ _ _ _ _ from ?_)
              refine wpIn_skip ?_
              refine then_n ?_
              exact ⟨(fun b_ => (fun l_ => if l_ = 274 then 276 else if l_ = 275 then 277 else l_) (o2285 b_)), (by exact Kn.pick (ks := [0, 1, 6, 7, 9, 34, 35, 36]) hk rfl), (hs.relab0 (fun l_ => if l_ = 274 then 276 else if l_ = 275 then 277 else l_) rfl), (f1622.relab (fun l_ => if l_ = 274 then 276 else if l_ = 275 then 277 else l_) rfl), (f1626.relab (fun l_ => if l_ = 274 then 276 else if l_ = 275 then 277 else l_) rfl), (f29.relab (fun l_ => if l_ = 274 then 276 else if l_ = 275 then 277 else l_) rfl), (fg0.relab (fun l_ => if l_ = 274 then 276 else if l_ = 275 then 277 else l_) rfl), (fg1.relab (fun l_ => if l_ = 274 then 276 else if l_ = 275 then 277 else l_) rfl), H⟩
            · rw [b2316] at hk H
              replace H := bifT H
              refine x_run tab hk (k := 5) (lv := []) (ks := [0, 1, 6, 7, 9, 34, 35, 36, 66]) (e' := [(0, .slice A27 ((([] : List T24) ++ (List.drop 0 (List.take (Int.toNat (mnI ((p0).length : Int) 60)) p0)))).length c28), (1, .int .i64 (mxI 2 (mnI p1 1000))), (6, .slice A1620 (t46).length c1621), (7, .int .i64 x1628), (9, .int .i64 x2286), (34, .slice (some ad2206) (t46).length c1625), (35, .int .i64 ((t46).length : Int)), (36, .int .i64 x1628), (66, .bool (decide ((((([] : List T24) ++ (List.drop 0 (List.take (Int.toNat (mnI ((p0).length : Int) 60)) p0)))).length : Int) > (0 : Int))))]) rfl trivial fun a hk => ?_
              refine wpListIn_nil ?_
              refine then_n ?_
              cases b2317 : (decide ((((([] : List T24) ++ (List.drop 0 (List.take (Int.toNat (mnI ((p0).length : Int) 60)) p0)))).length : Int) > (0 : Int)))
              · rw [b2317] at hk H
                replace H := bifF H
                refine x_if hk (b := false) rfl ?_
                refine (show Code.wpIn _ _ _ _ _ _ _ from ?_)
                refine wpIn_skip ?_
                refine then_n ?_
                exact ⟨(fun b_ => (fun l_ => if l_ = 274 then 276 else if l_ = 275 then 277 else l_) (o2285 b_)), (by exact Kn.pick (ks := [0, 1, 6, 7, 9, 34, 35, 36]) hk rfl), (hs.relab0 (fun l_ => if l_ = 274 then 276 else if l_ = 275 then 277 else l_) rfl), (f1622.relab (fun l_ => if l_ = 274 then 276 else if l_ = 275 then 277 else l_) rfl), (f1626.relab (fun l_ => if l_ = 274 then 276 else if l_ = 275 then 277 else l_) rfl), (f29.relab (fun l_ => if l_ = 274 then 276 else if l_ = 275 then 277 else l_) rfl), (fg0.relab (fun l_ => if l_ = 274 then 276 else if l_ = 275 then 277 else l_) rfl), (fg1.relab (fun l_ => if l_ = 274 then 276 else if l_ = 275 then 277 else l_) rfl), H⟩
              · rw [b2317] at hk H
                replace H := bifT H
                refine x_if hk (b := true) rfl ?_
                refine (show Code.wpIn _ _ _ _ _ _ _ from ?_)
                refine x_seq ?_
                refine wpIn_region_lit ?_
                refine x_run tab hk (k := 1) (lv := []) (ks := [4]) (e' := [(4, .bool false)]) rfl trivial fun a hk => ?_
                refine wpListIn_nil ?_
                refine then_n ?_
                refine wpIn_ret ?_
                refine then_r ?_
                refine blk_r ?_
                refine then_r ?_
                refine then_r ?_
                refine blk_r ?_
                refine then_r ?_
                obtain rfl := Option.some.inj H
                exact x_retG hk (rs := [.tmp 4]) (vs := [.bool false]) rfl ⟨rfl, trivial⟩ ⟨fun b_ => if b_ < w.heap.size then o b_ else (fun _ => 0) (o2285 b_), rfl, hs.close0 o (fun _ => 0)⟩
          · rw [b2315] at hk H
            replace H := bifT H
            refine x_run tab hk (k := 9) (lv := []) (ks := [0, 1, 6, 7, 9, 34, 35, 36, 66]) (e' := [(0, .slice A27 ((([] : List T24) ++ (List.drop 0 (List.take (Int.toNat (mnI ((p0).length : Int) 60)) p0)))).length c28), (1, .int .i64 (mxI 2 (mnI p1 1000))), (6, .slice A1620 (t46).length c1621), (7, .int .i64 x1628), (9, .int .i64 x2286), (34, .slice (some ad2206) (t46).length c1625), (35, .int .i64 ((t46).length : Int)), (36, .int .i64 x1628), (66, .bool true)]) rfl trivial fun a hk => ?_
            refine wpListIn_nil ?_
            refine then_n ?_
            refine x_if hk (b := true) rfl ?_
            refine (show Code.wpIn _ _ _ _ _ _ _ from ?_)
            refine x_seq ?_
            refine wpIn_region_lit ?_
            refine x_run tab hk (k := 1) (lv := []) (ks := [4]) (e' := [(4, .bool false)]) rfl trivial fun a hk => ?_
            refine wpListIn_nil ?_
            refine then_n ?_
            refine wpIn_ret ?_
            refine then_r ?_
            refine blk_r ?_
            refine then_r ?_
            refine then_r ?_
            refine blk_r ?_
            refine then_r ?_
            obtain rfl := Option.some.inj H
            exact x_retG hk (rs := [.tmp 4]) (vs := [.bool false]) rfl ⟨rfl, trivial⟩ ⟨fun b_ => if b_ < w.heap.size then o b_ else (fun _ => 0) (o2285 b_), rfl, hs.close0 o (fun _ => 0)⟩
        refine x_seq ?_
        refine wpIn_region_lit ?_
        refine x_run tab hk (k := 3) (lv := []) (ks := [0, 1, 6, 7, 8, 9, 34, 35, 36, 41, 42, 43]) (e' := [(0, .slice A27 ((([] : List T24) ++ (List.drop 0 (List.take (Int.toNat (mnI ((p0).length : Int) 60)) p0)))).length c28), (1, .int .i64 (mxI 2 (mnI p1 1000))), (6, .slice A1620 (t46).length c1621), (7, .int .i64 x1628), (8, .slice A2207 ((rdD [] t46 x1628)).length c2208), (9, .int .i64 0), (34, .slice (some ad2206) (t46).length c1625), (35, .int .i64 ((t46).length : Int)), (36, .int .i64 x1628), (41, .slice A2207 ((rdD [] t46 x1628)).length c2208), (42, .int .i64 (((rdD [] t46 x1628)).length : Int)), (43, .int .i64 0)]) rfl trivial fun a hk => ?_
        refine wpListIn_nil ?_
        refine then_n ?_
        refine wpIn_block ?_
        refine x_loop (fun j_ a_ w_ => ∃ o2340 : Nat → Nat, ∃ x2341 : Int, ∃ x2342 : Int, Kn 89 a_ [(0, .slice A27 ((([] : List T24) ++ (List.drop 0 (List.take (Int.toNat (mnI ((p0).length : Int) 60)) p0)))).length c28), (1, .int .i64 (mxI 2 (mnI p1 1000))), (6, .slice A1620 (t46).length c1621), (7, .int .i64 x1628), (8, .slice A2207 ((rdD [] t46 x1628)).length c2208), (9, .int .i64 x2341), (34, .slice (some ad2206) (t46).length c1625), (35, .int .i64 ((t46).length : Int)), (36, .int .i64 x1628), (41, .slice A2207 ((rdD [] t46 x1628)).length c2208), (42, .int .i64 (((rdD [] t46 x1628)).length : Int)), (43, .int .i64 x2342)] ∧ St [] w (fun _ => 0) w_ o2340 ∧ NOwn (dRows ET24) 22 A1620 c1621 t46 w_ o2340 283 1 ∧ NOwn (dRows ET24) 22 (some ad2206) c1625 t46 w_ o2340 283 1 ∧ Ft (RdC ET24 A2207 (rdD [] t46 x1628)) w_ o2340 1 ∧ Ft (Own ET24 25 (.slice A27 ((([] : List T24) ++ (List.drop 0 (List.take (Int.toNat (mnI ((p0).length : Int) 60)) p0)))).length c28) (([] : List T24) ++ (List.drop 0 (List.take (Int.toNat (mnI ((p0).length : Int) 60)) p0)))) w_ o2340 282 ∧ Ft (RdC ET68 (some ⟨0, 0, none⟩) glob0) w_ o2340 0 ∧ Ft (RdC ET68 (some ⟨1, 0, none⟩) glob1) w_ o2340 0 ∧ tidewracklaw15_FlowJoins_l6 K p0 p1 t46 x1628 lp2007 j_ x2341 x2342 = some r) (k := K) ⟨(fun b_ => (fun l_ => if l_ = 200 then 282 else if l_ = 201 then 283 else l_) (o1619 b_)), 0, 0, (by exact Kn.pick (ks := [0, 1, 6, 7, 8, 9, 34, 35, 36, 41, 42, 43]) hk rfl), (hs.relab0 (fun l_ => if l_ = 200 then 282 else if l_ = 201 then 283 else l_) rfl), (f1622.relab (fun l_ => if l_ = 200 then 282 else if l_ = 201 then 283 else l_) rfl), (f1626.relab (fun l_ => if l_ = 200 then 282 else if l_ = 201 then 283 else l_) rfl), (f2210.relab (fun l_ => if l_ = 200 then 282 else if l_ = 201 then 283 else l_) rfl), (f29.relab (fun l_ => if l_ = 200 then 282 else if l_ = 201 then 283 else l_) rfl), (fg0.relab (fun l_ => if l_ = 200 then 282 else if l_ = 201 then 283 else l_) rfl), (fg1.relab (fun l_ => if l_ = 200 then 282 else if l_ = 201 then 283 else l_) rfl), H⟩ (by rintro _ _ ⟨_, _, _, _, _, _, _, _, _, _, _, H_⟩; exact absurd (show (none : Option Bool) = some r from H_) (by simp)) ?_
        rintro k2363 a w2362 ⟨o2340, x2341, x2342, hk, hs, f1622, f1626, f2210, f29, fg0, fg1, H⟩
        rw [tidewracklaw15_FlowJoins_l6] at H
        obtain ⟨lp2364, hlp2365⟩ : ∃ lp_, lp_ = tidewracklaw15_FlowJoins_l6 K p0 p1 t46 x1628 lp2007 k2363 := ⟨_, rfl⟩
        rw [← hlp2365] at H
        refine x_seq ?_
        refine wpIn_region_lit ?_
        refine x_run tab hk (k := 1) (lv := []) (ks := [0, 1, 6, 7, 8, 9, 34, 35, 36, 41, 42, 43, 44]) (e' := [(0, .slice A27 ((([] : List T24) ++ (List.drop 0 (List.take (Int.toNat (mnI ((p0).length : Int) 60)) p0)))).length c28), (1, .int .i64 (mxI 2 (mnI p1 1000))), (6, .slice A1620 (t46).length c1621), (7, .int .i64 x1628), (8, .slice A2207 ((rdD [] t46 x1628)).length c2208), (9, .int .i64 x2341), (34, .slice (some ad2206) (t46).length c1625), (35, .int .i64 ((t46).length : Int)), (36, .int .i64 x1628), (41, .slice A2207 ((rdD [] t46 x1628)).length c2208), (42, .int .i64 (((rdD [] t46 x1628)).length : Int)), (43, .int .i64 x2342), (44, .bool (decide (x2342 < (((rdD [] t46 x1628)).length : Int))))]) rfl trivial fun a hk => ?_
        refine wpListIn_nil ?_
        refine then_n ?_
        refine x_seq ?_
        cases b2366 : (decide (x2342 < (((rdD [] t46 x1628)).length : Int)))
        · rw [b2366] at hk H
          replace H := bifF H
          refine x_if hk (b := false) rfl ?_
          refine (show Code.wpIn _ _ _ _ _ _ _ from ?_)
          refine wpIn_exit ?_
          refine then_x ?_
          refine then_x ?_
          refine blk_x ?_
          refine then_n ?_
          exact ⟨(fun b_ => (fun l_ => if l_ = 282 then 274 else if l_ = 283 then 275 else l_) (o2340 b_)), x2341, (by exact Kn.pick (ks := [0, 1, 6, 7, 8, 9, 34, 35, 36]) hk rfl), (hs.relab0 (fun l_ => if l_ = 282 then 274 else if l_ = 283 then 275 else l_) rfl), (f1622.relab (fun l_ => if l_ = 282 then 274 else if l_ = 283 then 275 else l_) rfl), (f1626.relab (fun l_ => if l_ = 282 then 274 else if l_ = 283 then 275 else l_) rfl), (f2210.relab (fun l_ => if l_ = 282 then 274 else if l_ = 283 then 275 else l_) rfl), (f29.relab (fun l_ => if l_ = 282 then 274 else if l_ = 283 then 275 else l_) rfl), (fg0.relab (fun l_ => if l_ = 282 then 274 else if l_ = 283 then 275 else l_) rfl), (fg1.relab (fun l_ => if l_ = 282 then 274 else if l_ = 283 then 275 else l_) rfl), H⟩
        · rw [b2366] at hk H
          replace H := bifT H
          refine x_if hk (b := true) rfl ?_
          refine (show Code.wpIn _ _ _ _ _ _ _ from ?_)
          refine wpIn_skip ?_
          refine then_n ?_
          refine x_seq ?_
          refine wpIn_block ?_
          refine x_seq ?_
          refine wpIn_region_lit ?_
          obtain ⟨q2367, H⟩ := ifS H
          obtain ⟨ad2368, hAad2368⟩ := RdC.addr f2210.now q2367
          have hk_C := hk
          have f1622_C := f1622
          have f1626_C := f1626
          have f2210_C := f2210
          have f29_C := f29
          have fg0_C := fg0
          have fg1_C := fg1
          subst hAad2368
          have hk := hk_C
          clear hk_C
          have f1622 := f1622_C
          clear f1622_C
          have f1626 := f1626_C
          clear f1626_C
          have f2210 := f2210_C
          clear f2210_C
          have f29 := f29_C
          clear f29_C
          have fg0 := fg0_C
          clear fg0_C
          have fg1 := fg1_C
          clear fg1_C
          refine x_run tab hk (k := 2) (lv := [.agg #[.int .i32 ((rdD zT24 (rdD [] t46 x1628) x2342).Rune), .int .i64 ((rdD zT24 (rdD [] t46 x1628) x2342).Style)]]) (ks := [0, 1, 6, 7, 8, 9, 34, 35, 36, 41, 42, 43, 46]) (e' := [(0, .slice A27 ((([] : List T24) ++ (List.drop 0 (List.take (Int.toNat (mnI ((p0).length : Int) 60)) p0)))).length c28), (1, .int .i64 (mxI 2 (mnI p1 1000))), (6, .slice A1620 (t46).length c1621), (7, .int .i64 x1628), (8, .slice (some ad2368) ((rdD [] t46 x1628)).length c2208), (9, .int .i64 x2341), (34, .slice (some ad2206) (t46).length c1625), (35, .int .i64 ((t46).length : Int)), (36, .int .i64 x1628), (41, .slice (some ad2368) ((rdD [] t46 x1628)).length c2208), (42, .int .i64 (((rdD [] t46 x1628)).length : Int)), (43, .int .i64 x2342), (46, .agg #[.int .i32 ((rdD zT24 (rdD [] t46 x1628) x2342).Rune), .int .i64 ((rdD zT24 (rdD [] t46 x1628) x2342).Style)])]) rfl ⟨q2367, (load_elem (E := ET24) (i := x2342) (dx := zT24) tab rfl rfl f2210.now q2367), trivial⟩ fun a hk => ?_
          refine x_op hk rfl ?_
          refine op_alloc (o := o2340) tab (t := 25) (cs := [.int .i32 0, .int .i64 0]) rfl rfl 285 fun bx2372 w2369 o2370 st2371 f2373 => ?_
          replace f1622 := f1622.st st2371 (by decide)
          replace f1626 := f1626.st st2371 (by decide)
          replace f2210 := f2210.st st2371 (by decide)
          replace f29 := f29.st st2371 (by decide)
          replace fg0 := fg0.st st2371 (by decide)
          replace fg1 := fg1.st st2371 (by decide)
          replace hs := hs.loc0 st2371 (by decide)
          have hk := hk.put 11 (.pointer (some ⟨bx2372, 0, none⟩)) rfl
          refine x_op hk rfl ?_
          refine op_store tab hk (t := 25) (v := .agg #[.int .i32 ((rdD zT24 (rdD [] t46 x1628) x2342).Rune), .int .i64 ((rdD zT24 (rdD [] t46 x1628) x2342).Style)]) (b := bx2372) (k := 0) (cs' := [.int .i32 ((rdD zT24 (rdD [] t46 x1628) x2342).Rune), .int .i64 ((rdD zT24 (rdD [] t46 x1628) x2342).Style)]) rfl rfl rfl rfl rfl rfl f2373 rfl rfl fun w2374 o2375 st2376 f2373_ => ?_
          replace f1622 := f1622.st st2376 (by decide)
          replace f1626 := f1626.st st2376 (by decide)
          replace f2210 := f2210.st st2376 (by decide)
          replace f29 := f29.st st2376 (by decide)
          replace fg0 := fg0.st st2376 (by decide)
          replace fg1 := fg1.st st2376 (by decide)
          replace hs := hs.loc0 st2376 (by decide)
          replace f2373 := f2373_
          refine wpListIn_nil ?_
          refine then_n ?_
          refine wpIn_region_lit ?_
          refine x_run tab hk (k := 4) (lv := [.int .i32 ((rdD zT24 (rdD [] t46 x1628) x2342).Rune)]) (ks := [0, 1, 6, 7, 8, 34, 35, 36, 41, 42, 43, 47, 50]) (e' := [(0, .slice A27 ((([] : List T24) ++ (List.drop 0 (List.take (Int.toNat (mnI ((p0).length : Int) 60)) p0)))).length c28), (1, .int .i64 (mxI 2 (mnI p1 1000))), (6, .slice A1620 (t46).length c1621), (7, .int .i64 x1628), (8, .slice (some ad2368) ((rdD [] t46 x1628)).length c2208), (34, .slice (some ad2206) (t46).length c1625), (35, .int .i64 ((t46).length : Int)), (36, .int .i64 x1628), (41, .slice (some ad2368) ((rdD [] t46 x1628)).length c2208), (42, .int .i64 (((rdD [] t46 x1628)).length : Int)), (43, .int .i64 x2342), (47, .int .i64 x2341), (50, .int .i64 (IntKind.wrap .i64 ((rdD zT24 (rdD [] t46 x1628) x2342).Rune)))]) rfl ⟨(load1 tab rfl ((Bx.cell f2373.now 0).trans rfl)), trivial⟩ fun a hk => ?_
          refine x_op hk rfl ?_
          obtain ⟨t2380, hc2381, H⟩ := bindS H
          refine op_call hk ent_9 (vs := [.int .i64 (IntKind.wrap .i64 ((rdD zT24 (rdD [] t46 x1628) x2342).Rune))]) rfl (tidewrackref06_Of_calls K (IntKind.wrap .i64 ((rdD zT24 (rdD [] t46 x1628) x2342).Rune)) _ o2375    _ hc2381) ?_
          rintro _ w2382 ⟨o2383, rfl, st2384⟩
          replace f1622 := f1622.st st2384 (by decide)
          replace f1626 := f1626.st st2384 (by decide)
          replace f2210 := f2210.st st2384 (by decide)
          replace f29 := f29.st st2384 (by decide)
          replace fg0 := fg0.st st2384 (by decide)
          replace fg1 := fg1.st st2384 (by decide)
          replace hs := hs.loc0 st2384 (by decide)
          have hk := hk.put 51 (.int .i64 t2380) rfl
          refine x_run tab hk (k := 2) (lv := []) (ks := [0, 1, 6, 7, 8, 9, 34, 35, 36, 41, 42, 43]) (e' := [(0, .slice A27 ((([] : List T24) ++ (List.drop 0 (List.take (Int.toNat (mnI ((p0).length : Int) 60)) p0)))).length c28), (1, .int .i64 (mxI 2 (mnI p1 1000))), (6, .slice A1620 (t46).length c1621), (7, .int .i64 x1628), (8, .slice (some ad2368) ((rdD [] t46 x1628)).length c2208), (9, .int .i64 (IntKind.wrap .i64 (x2341 + t2380))), (34, .slice (some ad2206) (t46).length c1625), (35, .int .i64 ((t46).length : Int)), (36, .int .i64 x1628), (41, .slice (some ad2368) ((rdD [] t46 x1628)).length c2208), (42, .int .i64 (((rdD [] t46 x1628)).length : Int)), (43, .int .i64 x2342)]) rfl trivial fun a hk => ?_
          refine wpListIn_nil ?_
          refine blk_n ?_
          refine then_n ?_
          refine wpIn_region_lit ?_
          refine x_run tab hk (k := 2) (lv := []) (ks := [0, 1, 6, 7, 8, 9, 34, 35, 36, 41, 42, 43]) (e' := [(0, .slice A27 ((([] : List T24) ++ (List.drop 0 (List.take (Int.toNat (mnI ((p0).length : Int) 60)) p0)))).length c28), (1, .int .i64 (mxI 2 (mnI p1 1000))), (6, .slice A1620 (t46).length c1621), (7, .int .i64 x1628), (8, .slice (some ad2368) ((rdD [] t46 x1628)).length c2208), (9, .int .i64 (IntKind.wrap .i64 (x2341 + t2380))), (34, .slice (some ad2206) (t46).length c1625), (35, .int .i64 ((t46).length : Int)), (36, .int .i64 x1628), (41, .slice (some ad2368) ((rdD [] t46 x1628)).length c2208), (42, .int .i64 (((rdD [] t46 x1628)).length : Int)), (43, .int .i64 (IntKind.wrap .i64 (x2342 + 1)))]) rfl trivial fun a hk => ?_
          refine wpListIn_nil ?_
          refine then_n ?_
          exact ⟨k2363, Nat.le_refl _, o2383, (IntKind.wrap .i64 (x2341 + t2380)), (IntKind.wrap .i64 (x2342 + 1)), (by exact Kn.pick (ks := [0, 1, 6, 7, 8, 9, 34, 35, 36, 41, 42, 43]) hk rfl), hs, f1622, f1626, f2210, f29, fg0, fg1, (hlp2365 ▸ H)⟩
    · rw [b75] at hk H
      replace H := bifT H
      refine x_if hk (b := true) rfl ?_
      refine (show Code.wpIn _ _ _ _ _ _ _ from ?_)
      refine x_seq ?_
      refine wpIn_region_lit ?_
      refine x_run tab hk (k := 1) (lv := []) (ks := [4]) (e' := [(4, .bool false)]) rfl trivial fun a hk => ?_
      refine wpListIn_nil ?_
      refine then_n ?_
      refine wpIn_ret ?_
      refine then_r ?_
      obtain rfl := Option.some.inj H
      exact x_retG hk (rs := [.tmp 4]) (vs := [.bool false]) rfl ⟨rfl, trivial⟩ ⟨fun b_ => if b_ < w.heap.size then o b_ else (fun _ => 0) (o73 b_), rfl, hs.close0 o (fun _ => 0)⟩
  · rw [b9] at hk H
    replace H := bifT H
    refine x_if hk (b := true) rfl ?_
    refine (show Code.wpIn _ _ _ _ _ _ _ from ?_)
    refine x_seq ?_
    refine wpIn_region_lit ?_
    refine x_run tab hk (k := 1) (lv := []) (ks := [4]) (e' := [(4, .bool false)]) rfl trivial fun a hk => ?_
    refine wpListIn_nil ?_
    refine then_n ?_
    refine wpIn_ret ?_
    refine then_r ?_
    obtain rfl := Option.some.inj H
    exact x_retG hk (rs := [.tmp 4]) (vs := [.bool false]) rfl ⟨rfl, trivial⟩ ⟨fun b_ => if b_ < w.heap.size then o b_ else (fun _ => 0) (o7 b_), rfl, hs.close0 o (fun _ => 0)⟩

end Go.Proofs.YteghllmaknenlaaDoor
