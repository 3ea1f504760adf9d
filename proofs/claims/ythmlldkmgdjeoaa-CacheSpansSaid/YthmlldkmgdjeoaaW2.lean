/- Walks, printed by an own program: the machine's calls compute the plain functions. -/
import Derived.Test.YthmlldkmgdjeoaaW1
set_option linter.unusedVariables false
set_option linter.unusedSimpArgs false
namespace Go.Proofs.Ythmlldkmgdjeoaa
open Go Go.Proofs.XC
/-! tidewrack/tidewrackref14.New -/
theorem tidewrackref14_New_calls (p0 : Int) (w : World) (o : Nat → Nat) (LF : Nat)  (hd0 : ([LF] : List Nat).Nodup) (R0 : Nat) (r : T50) (H : tidewrackref14_New p0 = some r) :
    Calls Try.prog 18 #[.int .i64 p0] w (Ret fun v_ w' => ∃ o' : Nat → Nat, ∃ A0 : Option Addr, ∃ c0 : Nat, v_ = .agg #[.int .i64 r.Most, .slice A0 (r.L).length c0] ∧ St [] w o w' o' ∧ NOwn dT87 88 A0 c0 r.L w' o' R0 LF ∧ (r.L).length ≤ c0) := by
  refine x_enter (vs := [.int .i64 p0]) Try.func18 rfl rfl rfl fun a hk => ?_
  obtain ⟨oi, hs0, h0, h1, hob, hoz, hoa⟩ := St.startM2 w o (m := 1) hd0 rfl
  have hs := hs0 []
  clear h0 h1 hs0
  rw [tidewrackref14_New] at H
  refine x_seq ?_
  refine wpIn_region_lit ?_
  refine x_op hk rfl ?_
  refine op_alloc (o := oi) tab (t := 51) (cs := [.int .i64 0, .slice none 0 0]) rfl rfl 2 fun bx4 w1 o2 st3 f5 => ?_
  replace hs := hs.locQ st3 hob rfl
  have hk := hk.put 2 (.pointer (some ⟨bx4, 0, none⟩)) rfl
  refine wpListIn_nil ?_
  refine then_n ?_
  refine x_seq ?_
  refine wpIn_region_lit ?_
  refine x_run tab hk (k := 4) (lv := []) (ks := [2, 6]) (e' := [(2, .pointer (some ⟨bx4, 0, none⟩)), (6, .agg #[.int .i64 (mxI 1 (mnI p0 65536)), .slice none 0 0])]) rfl trivial fun a hk => ?_
  refine x_op hk rfl ?_
  refine op_store tab hk (t := 51) (v := .agg #[.int .i64 (mxI 1 (mnI p0 65536)), .slice none 0 0]) (b := bx4) (k := 0) (cs' := [.int .i64 (mxI 1 (mnI p0 65536)), .slice none 0 0]) rfl rfl rfl rfl rfl rfl f5 rfl rfl fun w6 o7 st8 f5_ => ?_
  replace hs := hs.locQ st8 hob rfl
  replace f5 := f5_
  refine wpListIn_nil ?_
  refine then_n ?_
  refine wpIn_ret ?_
  obtain rfl := Option.some.inj H
  exact x_retG hk (rs := [.cell 2 51]) (vs := [.agg #[.int .i64 (mxI 1 (mnI p0 65536)), .slice none 0 0]]) rfl ⟨⟨_, rfl, load_box tab rfl rfl f5.now (k := 0) rfl rfl⟩, trivial⟩ ⟨cl w oi o [] (fun l_ => if l_ = 1 then LF else 0) o7, none, 0, rfl, hs.closeF (Lm := []) (Sh := []) hoa rfl (fun l_ => if l_ = 1 then LF else 0), (NOwn.nil _ _ _ _ _ _), (by simp)⟩

/-! tidewrack/tidewracklaw14.Told -/
theorem tidewracklaw14_Told_calls (K : Nat) (Ap0 : Option Addr) (cp0 : Nat) (p0 : List T59) (w : World) (o : Nat → Nat) (Lp0 : Nat) (hp0 : Ft (RdC ET59 Ap0 p0) w o Lp0) (hcp0 : (p0).length ≤ cp0)  (R0 : Nat) (r : List T75) (H : tidewracklaw14_Told K p0 = some r) :
    Calls Try.prog 13 #[.slice Ap0 (p0).length cp0] w (Ret fun v_ w' => ∃ o' : Nat → Nat, ∃ A0 : Option Addr, ∃ c0 : Nat, v_ = .slice A0 (r).length c0 ∧ St [] w o w' o' ∧ Ft (Own ET75 76 (.slice A0 (r).length c0) r) w' o' R0 ∧ (r).length ≤ c0) := by
  refine x_enter (vs := [.slice Ap0 (p0).length cp0]) Try.func13 rfl rfl rfl fun a hk => ?_
  obtain ⟨o0, hs, h0⟩ := St.start w o
  have f900000 := h0 _ _ hp0
  clear h0
  rw [tidewracklaw14_Told] at H
  refine x_seq ?_
  refine wpIn_region_lit ?_
  refine x_run tab hk (k := 1) (lv := []) (ks := [0]) (e' := [(0, .slice Ap0 (p0).length cp0)]) rfl trivial fun a hk => ?_
  refine wpListIn_nil ?_
  refine then_n ?_
  refine x_seq ?_
  refine wpIn_region_lit ?_
  refine x_run tab hk (k := 1) (lv := []) (ks := [0, 3]) (e' := [(0, .slice Ap0 (p0).length cp0), (3, .slice none 0 0)]) rfl trivial fun a hk => ?_
  refine wpListIn_nil ?_
  refine then_n ?_
  refine x_mid (fun a_ w_ => ∃ o100 : Nat → Nat, ∃ A101 : Option Addr, ∃ c102 : Nat, ∃ l103 : List T75, Kn 23 a_ [(3, .slice A101 (l103).length c102)] ∧ St [] w (fun _ => 0) w_ o100 ∧ Ft (Own ET75 76 (.slice A101 (l103).length c102) l103) w_ o100 10 ∧ (l103).length ≤ c102 ∧ tidewracklaw14_Told_j1 l103 = some r) ?_ ?_
  rotate_left
  · rintro a w106 ⟨o100, A101, c102, l103, hk, hs, f104, hc105, H⟩
    rw [tidewracklaw14_Told_j1] at H
    refine x_seq ?_
    refine wpIn_region_lit ?_
    refine x_run tab hk (k := 2) (lv := []) (ks := [2]) (e' := [(2, .slice A101 (l103).length c102)]) rfl trivial fun a hk => ?_
    refine wpListIn_nil ?_
    refine then_n ?_
    refine wpIn_ret ?_
    obtain rfl := Option.some.inj H
    exact x_retG hk (rs := [.tmp 2]) (vs := [.slice A101 (l103).length c102]) rfl ⟨rfl, trivial⟩ ⟨fun b_ => if b_ < w.heap.size then o b_ else (fun _ => R0) (o100 b_), A101, c102, rfl, hs.close0 o (fun _ => R0), hs.close_ft (o := o) (ρ := fun _ => R0) f104 (by decide) rfl, hc105⟩
  refine x_seq ?_
  refine wpIn_region_lit ?_
  refine x_run tab hk (k := 3) (lv := []) (ks := [3, 6, 7, 8]) (e' := [(3, .slice none 0 0), (6, .slice Ap0 (p0).length cp0), (7, .int .i64 ((p0).length : Int)), (8, .int .i64 0)]) rfl trivial fun a hk => ?_
  refine wpListIn_nil ?_
  refine then_n ?_
  refine wpIn_block ?_
  refine x_loop (fun j_ a_ w_ => ∃ o135 : Nat → Nat, ∃ A136 : Option Addr, ∃ c137 : Nat, ∃ l138 : List T75, ∃ x141 : Int, Kn 23 a_ [(3, .slice A136 (l138).length c137), (6, .slice Ap0 (p0).length cp0), (7, .int .i64 ((p0).length : Int)), (8, .int .i64 x141)] ∧ St [] w (fun _ => 0) w_ o135 ∧ Ft (Own ET75 76 (.slice A136 (l138).length c137) l138) w_ o135 14 ∧ Ft (RdC ET59 Ap0 p0) w_ o135 0 ∧ (l138).length ≤ c137 ∧ tidewracklaw14_Told_l2 p0 j_ l138 x141 = some r) (k := K) ⟨o0, none, 0, ([] : List T75), 0, (by exact Kn.pick (ks := [3, 6, 7, 8]) hk rfl), hs, (Ft.of_all (fun _ => Own.nil _ _ _) _ _ _), f900000, (by simp), H⟩ (by rintro _ _ ⟨_, _, _, _, _, _, _, _, _, _, H_⟩; exact absurd (show (none : Option (List T75)) = some r from H_) (by simp)) ?_
  rintro k168 a w167 ⟨o135, A136, c137, l138, x141, hk, hs, f139, f900000, hc140, H⟩
  rw [tidewracklaw14_Told_l2] at H
  obtain ⟨lp169, hlp170⟩ : ∃ lp_, lp_ = tidewracklaw14_Told_l2 p0 k168 := ⟨_, rfl⟩
  rw [← hlp170] at H
  refine x_seq ?_
  refine wpIn_region_lit ?_
  refine x_run tab hk (k := 1) (lv := []) (ks := [3, 6, 7, 8, 9]) (e' := [(3, .slice A136 (l138).length c137), (6, .slice Ap0 (p0).length cp0), (7, .int .i64 ((p0).length : Int)), (8, .int .i64 x141), (9, .bool (decide (x141 < ((p0).length : Int))))]) rfl trivial fun a hk => ?_
  refine wpListIn_nil ?_
  refine then_n ?_
  refine x_seq ?_
  cases b171 : (decide (x141 < ((p0).length : Int)))
  · rw [b171] at hk H
    replace H := bifF H
    refine x_if hk (b := false) rfl ?_
    refine (show Code.wpIn _ _ _ _ _ _ _ from ?_)
    refine wpIn_exit ?_
    refine then_x ?_
    refine then_x ?_
    refine blk_x ?_
    refine then_n ?_
    exact ⟨(fun b_ => (fun l_ => if l_ = 14 then 10 else l_) (o135 b_)), A136, c137, l138, (by exact Kn.pick (ks := [3]) hk rfl), (hs.relab0 (fun l_ => if l_ = 14 then 10 else l_) rfl), (f139.relab (fun l_ => if l_ = 14 then 10 else l_) rfl), hc140, H⟩
  · rw [b171] at hk H
    replace H := bifT H
    refine x_if hk (b := true) rfl ?_
    refine (show Code.wpIn _ _ _ _ _ _ _ from ?_)
    refine wpIn_skip ?_
    refine then_n ?_
    refine x_seq ?_
    refine wpIn_block ?_
    refine x_seq ?_
    refine wpIn_region_lit ?_
    obtain ⟨q172, H⟩ := ifS H
    obtain ⟨ad173, hAad173⟩ := RdC.addr f900000.now q172
    have hk_C := hk
    have f139_C := f139
    have f900000_C := f900000
    subst hAad173
    have hk := hk_C
    clear hk_C
    have f139 := f139_C
    clear f139_C
    have f900000 := f900000_C
    clear f900000_C
    refine x_run tab hk (k := 2) (lv := [.agg #[.int .i32 ((rdD zT59 p0 x141).Rune), .int .i64 ((rdD zT59 p0 x141).Style)]]) (ks := [3, 6, 7, 8, 11]) (e' := [(3, .slice A136 (l138).length c137), (6, .slice (some ad173) (p0).length cp0), (7, .int .i64 ((p0).length : Int)), (8, .int .i64 x141), (11, .agg #[.int .i32 ((rdD zT59 p0 x141).Rune), .int .i64 ((rdD zT59 p0 x141).Style)])]) rfl ⟨q172, (load_elem (E := ET59) (i := x141) (dx := zT59) tab rfl rfl f900000.now q172), trivial⟩ fun a hk => ?_
    refine x_op hk rfl ?_
    refine op_alloc (o := o135) tab (t := 60) (cs := [.int .i32 0, .int .i64 0]) rfl rfl 17 fun bx177 w174 o175 st176 f178 => ?_
    replace f139 := f139.st st176 (by decide)
    replace f900000 := f900000.st st176 (by decide)
    replace hs := hs.loc0 st176 (by decide)
    have hk := hk.put 5 (.pointer (some ⟨bx177, 0, none⟩)) rfl
    refine x_op hk rfl ?_
    refine op_store tab hk (t := 60) (v := .agg #[.int .i32 ((rdD zT59 p0 x141).Rune), .int .i64 ((rdD zT59 p0 x141).Style)]) (b := bx177) (k := 0) (cs' := [.int .i32 ((rdD zT59 p0 x141).Rune), .int .i64 ((rdD zT59 p0 x141).Style)]) rfl rfl rfl rfl rfl rfl f178 rfl rfl fun w179 o180 st181 f178_ => ?_
    replace f139 := f139.st st181 (by decide)
    replace f900000 := f900000.st st181 (by decide)
    replace hs := hs.loc0 st181 (by decide)
    replace f178 := f178_
    refine wpListIn_nil ?_
    refine then_n ?_
    refine wpIn_region_lit ?_
    refine x_run tab hk (k := 7) (lv := [.int .i32 ((rdD zT59 p0 x141).Rune), .int .i64 ((rdD zT59 p0 x141).Style)]) (ks := [6, 7, 8, 12, 18]) (e' := [(6, .slice (some ad173) (p0).length cp0), (7, .int .i64 ((p0).length : Int)), (8, .int .i64 x141), (12, .slice A136 (l138).length c137), (18, .agg #[.int .i64 (IntKind.wrap .i64 ((rdD zT59 p0 x141).Rune)), .int .i64 ((rdD zT59 p0 x141).Style)])]) rfl ⟨(load1 tab rfl ((Bx.cell f178.now 0).trans rfl)), (load1 tab rfl ((Bx.cell f178.now 1).trans rfl)), trivial⟩ fun a hk => ?_
    refine x_op hk rfl ?_
    refine op_slice (o := o180) tab hk (vs := [.agg #[.int .i64 (IntKind.wrap .i64 ((rdD zT59 p0 x141).Rune)), .int .i64 ((rdD zT59 p0 x141).Style)]]) (cs := [.int .i64 (IntKind.wrap .i64 ((rdD zT59 p0 x141).Rune)), .int .i64 ((rdD zT59 p0 x141).Style)]) rfl rfl rfl rfl rfl rfl rfl rfl rfl 18 fun bx185 w182 o183 st184 f186 => ?_
    replace f139 := f139.st st184 (by decide)
    replace f900000 := f900000.st st184 (by decide)
    replace hs := hs.loc0 st184 (by decide)
    have f187 : Ft (Own ET75 76 (.slice (some ⟨bx185, 0, none⟩) (([(⟨(IntKind.wrap .i64 ((rdD zT59 p0 x141).Rune)), (rdD zT59 p0 x141).Style⟩ : T75)] : List T75)).length 1) ([(⟨(IntKind.wrap .i64 ((rdD zT59 p0 x141).Rune)), (rdD zT59 p0 x141).Style⟩ : T75)] : List T75)) w182 o183 18 := f186.imp fun _ h_ => Own.of_box h_ rfl (by simp)
    have hk := hk.put 19 (.slice (some ⟨bx185, 0, none⟩) (([(⟨(IntKind.wrap .i64 ((rdD zT59 p0 x141).Rune)), (rdD zT59 p0 x141).Style⟩ : T75)] : List T75)).length 1) rfl
    refine x_op hk rfl ?_
    obtain ⟨q191, H⟩ := ifS H
    refine op_append (o := o183) (E := ET75) (xs := l138) (ys := ([(⟨(IntKind.wrap .i64 ((rdD zT59 p0 x141).Rune)), (rdD zT59 p0 x141).Style⟩ : T75)] : List T75)) tab hk rfl rfl rfl rfl rfl rfl rfl f139 (Own.rd f187.now) q191 fun A192 c193 w188 o189 st190 f194 hc195 => ?_
    replace f187 := f187.st st190 (by decide)
    replace f900000 := f900000.st st190 (by decide)
    replace hs := hs.loc0 st190 (by decide)
    have hk := hk.put 20 (.slice A192 ((l138 ++ ([(⟨(IntKind.wrap .i64 ((rdD zT59 p0 x141).Rune)), (rdD zT59 p0 x141).Style⟩ : T75)] : List T75))).length c193) rfl
    refine x_run tab hk (k := 1) (lv := []) (ks := [3, 6, 7, 8]) (e' := [(3, .slice A192 ((l138 ++ ([(⟨(IntKind.wrap .i64 ((rdD zT59 p0 x141).Rune)), (rdD zT59 p0 x141).Style⟩ : T75)] : List T75))).length c193), (6, .slice (some ad173) (p0).length cp0), (7, .int .i64 ((p0).length : Int)), (8, .int .i64 x141)]) rfl trivial fun a hk => ?_
    refine wpListIn_nil ?_
    refine blk_n ?_
    refine then_n ?_
    refine wpIn_region_lit ?_
    refine x_run tab hk (k := 2) (lv := []) (ks := [3, 6, 7, 8]) (e' := [(3, .slice A192 ((l138 ++ ([(⟨(IntKind.wrap .i64 ((rdD zT59 p0 x141).Rune)), (rdD zT59 p0 x141).Style⟩ : T75)] : List T75))).length c193), (6, .slice (some ad173) (p0).length cp0), (7, .int .i64 ((p0).length : Int)), (8, .int .i64 (IntKind.wrap .i64 (x141 + 1)))]) rfl trivial fun a hk => ?_
    refine wpListIn_nil ?_
    refine then_n ?_
    exact ⟨k168, Nat.le_refl _, o189, A192, c193, (l138 ++ ([(⟨(IntKind.wrap .i64 ((rdD zT59 p0 x141).Rune)), (rdD zT59 p0 x141).Style⟩ : T75)] : List T75)), (IntKind.wrap .i64 (x141 + 1)), (by exact Kn.pick (ks := [3, 6, 7, 8]) hk rfl), hs, f194, f900000, hc195, (hlp170 ▸ H)⟩

/-! tidewrack/tidewrackref14.newest -/
theorem tidewrackref14_newest_calls (K : Nat) (Ap0_0 : Option Addr) (cp0_0 : Nat) (p0 : T50) (Ap1_0 : Option Addr) (cp1_0 : Nat) (p1 : T87) (w : World) (o : Nat → Nat) (LF : Nat) (Lp0_0 : Nat) (hp0_0 : NRd dT87 Ap0_0 p0.L w o Lp0_0 LF) (hcp0_0 : (p0.L).length ≤ cp0_0) (hp1_0 : Ft (RdC ET75 Ap1_0 p1.L) w o LF) (hcp1_0 : (p1.L).length ≤ cp1_0) (hd0 : ([LF] : List Nat).Nodup) (hd1 : Lp0_0 ∉ [LF]) (R0 : Nat) (r : T50) (H : tidewrackref14_newest K p0 p1 = some r) :
    Calls Try.prog 49 #[.agg #[.int .i64 p0.Most, .slice Ap0_0 (p0.L).length cp0_0], .agg #[.int .i64 p1.I, .slice Ap1_0 (p1.L).length cp1_0]] w (Ret fun v_ w' => ∃ o' : Nat → Nat, ∃ A0 : Option Addr, ∃ c0 : Nat, v_ = .agg #[.int .i64 r.Most, .slice A0 (r.L).length c0] ∧ St [] w o w' o' ∧ NOwn dT87 88 A0 c0 r.L w' o' R0 LF ∧ (r.L).length ≤ c0) := by
  refine x_enter (vs := [.agg #[.int .i64 p0.Most, .slice Ap0_0 (p0.L).length cp0_0], .agg #[.int .i64 p1.I, .slice Ap1_0 (p1.L).length cp1_0]]) Try.func49 rfl rfl rfl fun a hk => ?_
  obtain ⟨oi, hs0, h0, h1, hob, hoz, hoa⟩ := St.startM2 w o (m := 1) hd0 rfl
  have hs := hs0 []
  have f900000 := hp0_0.conv (fun P_ => h0 P_ _ hd1) (fun _ h_ => h1 0 1 h_ rfl rfl)
  have f900020 := h1 0 1 hp1_0 rfl rfl
  clear h0 h1 hs0
  rw [tidewrackref14_newest] at H
  refine x_seq ?_
  refine wpIn_region_lit ?_
  refine x_op hk rfl ?_
  refine op_box (o := oi) (t := 51) (v := .agg #[.int .i64 p0.Most, .slice Ap0_0 (p0.L).length cp0_0]) (cs := [.int .i64 p0.Most, .slice Ap0_0 (p0.L).length cp0_0]) hk rfl rfl 2 fun bx4 w1 o2 st3 f5 => ?_
  replace f900000 := f900000.st st3 (by decide)
  replace f900020 := f900020.st st3 (by decide)
  replace hs := hs.locQ st3 hob rfl
  have hk := hk.put 2 (.pointer (some ⟨bx4, 0, none⟩)) rfl
  refine x_op hk rfl ?_
  refine op_box (o := o2) (t := 88) (v := .agg #[.int .i64 p1.I, .slice Ap1_0 (p1.L).length cp1_0]) (cs := [.int .i64 p1.I, .slice Ap1_0 (p1.L).length cp1_0]) hk rfl rfl 3 fun bx9 w6 o7 st8 f10 => ?_
  replace f5 := f5.st st8 (by decide)
  replace f900000 := f900000.st st8 (by decide)
  replace f900020 := f900020.st st8 (by decide)
  replace hs := hs.locQ st8 hob rfl
  have hk := hk.put 3 (.pointer (some ⟨bx9, 0, none⟩)) rfl
  refine x_op hk rfl ?_
  refine op_alloc (o := o7) tab (t := 51) (cs := [.int .i64 0, .slice none 0 0]) rfl rfl 4 fun bx14 w11 o12 st13 f15 => ?_
  replace f10 := f10.st st13 (by decide)
  replace f5 := f5.st st13 (by decide)
  replace f900000 := f900000.st st13 (by decide)
  replace f900020 := f900020.st st13 (by decide)
  replace hs := hs.locQ st13 hob rfl
  have hk := hk.put 4 (.pointer (some ⟨bx14, 0, none⟩)) rfl
  refine wpListIn_nil ?_
  refine then_n ?_
  refine x_seq ?_
  refine wpIn_region_lit ?_
  refine x_op hk rfl ?_
  refine op_slice (o := o12) tab hk (vs := []) (cs := []) rfl rfl rfl rfl rfl rfl rfl rfl rfl 5 fun bx19 w16 o17 st18 f20 => ?_
  replace f10 := f10.st st18 (by decide)
  replace f15 := f15.st st18 (by decide)
  replace f5 := f5.st st18 (by decide)
  replace f900000 := f900000.st st18 (by decide)
  replace f900020 := f900020.st st18 (by decide)
  replace hs := hs.locQ st18 hob rfl
  have f21 : NOwn dT87 88 (some ⟨bx19, 0, none⟩) 0 ([] : List T87) w16 o17 5 1 := NOwn.litD (D := dT87) f20 [] rfl (Inn.nilD _ _ _ _) rfl (Nat.le_of_ble_eq_true rfl)
  have hk := hk.put 8 (.slice (some ⟨bx19, 0, none⟩) (([] : List T87)).length 0) rfl
  refine x_run tab hk (k := 1) (lv := []) (ks := [2, 3, 4, 5]) (e' := [(2, .pointer (some ⟨bx4, 0, none⟩)), (3, .pointer (some ⟨bx9, 0, none⟩)), (4, .pointer (some ⟨bx14, 0, none⟩)), (5, .slice (some ⟨bx19, 0, none⟩) (([] : List T87)).length 0)]) rfl trivial fun a hk => ?_
  refine wpListIn_nil ?_
  refine then_n ?_
  refine x_mid (fun a_ w_ => ∃ o139 : Nat → Nat, ∃ A140 : Option Addr, ∃ c141 : Nat, ∃ l142 : List T87, Kn 33 a_ [(2, .pointer (some ⟨bx4, 0, none⟩)), (3, .pointer (some ⟨bx9, 0, none⟩)), (4, .pointer (some ⟨bx14, 0, none⟩)), (5, .slice A140 (l142).length c141)] ∧ St [] w oi w_ o139 ∧ Ft (Bx bx9 88 [.int .i64 p1.I, .slice Ap1_0 (p1.L).length cp1_0]) w_ o139 21 ∧ NOwn dT87 88 A140 c141 l142 w_ o139 23 1 ∧ Ft (Bx bx14 51 [.int .i64 0, .slice none 0 0]) w_ o139 22 ∧ Ft (Bx bx4 51 [.int .i64 p0.Most, .slice Ap0_0 (p0.L).length cp0_0]) w_ o139 20 ∧ NRd dT87 Ap0_0 p0.L w_ o139 0 1 ∧ Ft (RdC ET75 Ap1_0 p1.L) w_ o139 1 ∧ (l142).length ≤ c141 ∧ tidewrackref14_newest_j1 p0 p1 l142 = some r) ?_ ?_
  rotate_left
  · rintro a w145 ⟨o139, A140, c141, l142, hk, hs, f10, f143, f15, f5, f900000, f900020, hc144, H⟩
    rw [tidewrackref14_newest_j1] at H
    refine x_seq ?_
    obtain ⟨q169, H⟩ := ifS H
    refine xd_begin (o := o139) (fun W_ => (Bx bx9 88 [.int .i64 p1.I, .slice Ap1_0 (p1.L).length cp1_0]) W_ ∧ (Bx bx4 51 [.int .i64 p0.Most, .slice Ap0_0 (p0.L).length cp0_0]) W_ ∧ True) mixed rfl rfl fun w193 st194 => ?_
    replace f10 := f10.st st194 (by decide)
    replace f143 := f143.st st194 (by decide)
    replace f15 := f15.st st194 (by decide)
    replace f5 := f5.st st194 (by decide)
    replace f900000 := f900000.st st194 (by decide)
    replace f900020 := f900020.st st194 (by decide)
    replace hs := hs.locQ st194 hob rfl
    refine xd_take tab hk (k := 4) (is := [0, 1, 2, 3]) (ls' := #[true, true, true, true, false, false, false, false]) (lv := [.int .i64 p0.Most, .agg #[.int .i64 p1.I, .slice Ap1_0 (p1.L).length cp1_0]]) (ks := [4, 27, 28, 29]) (e' := [(4, .pointer (some ⟨bx14, 0, none⟩)), (27, .int .i64 p0.Most), (28, .slice A140 (l142).length c141), (29, .agg #[.int .i64 p1.I, .slice Ap1_0 (p1.L).length cp1_0])]) (by kernel_rfl) rfl rfl (by kernel_rfl) (np_then np_body) ⟨f10.now, f5.now, trivial⟩ (fun W_ hS => ⟨(load1 tab rfl ((Bx.cell hS.2.1 0).trans rfl)), (load_box tab rfl rfl hS.1 (k := 0) rfl rfl), trivial⟩) fun a hk => ?_
    refine xd_op hk (i := 4) (by kernel_rfl) rfl rfl ?_
    refine op_slice (o := o139) tab hk (vs := [.agg #[.int .i64 p1.I, .slice Ap1_0 (p1.L).length cp1_0]]) (cs := [.int .i64 p1.I, .slice Ap1_0 (p1.L).length cp1_0]) rfl rfl rfl rfl rfl rfl rfl rfl rfl 27 fun bx198 w195 o196 st197 f199 => ?_
    replace f10 := f10.st st197 (by decide)
    replace f143 := f143.st st197 (by decide)
    replace f15 := f15.st st197 (by decide)
    replace f5 := f5.st st197 (by decide)
    replace f900020 := f900020.st st197 (by decide)
    replace hs := hs.locQ st197 hob rfl
    have f200 : NOwn dT87 88 (some ⟨bx198, 0, none⟩) 1 ([p1] : List T87) w195 o196 27 1 := NOwn.litD (D := dT87) f199 [(⟨p1, Ap1_0, cp1_0⟩ : NT87)] rfl (Inn.consD (D := dT87) (r := (⟨p1, Ap1_0, cp1_0⟩ : NT87)) (f900020.imp fun _ h_ => ⟨h_, hcp1_0⟩) (Inn.nilD _ _ _ _)) rfl (Nat.le_of_ble_eq_true rfl)
    have hk := hk.put 30 (.slice (some ⟨bx198, 0, none⟩) (([p1] : List T87)).length 1) rfl
    refine ⟨.inr ⟨f10.now, f5.now, trivial⟩, ?_⟩
    refine xd_op hk (i := 5) (by kernel_rfl) rfl rfl ?_
    refine op_appendN (o := o196) (D := dT87) (xs := l142) (ys := ([p1] : List T87)) tab hk rfl rfl rfl rfl rfl rfl rfl f143 f200.rd (by decide) q169 fun A204 c205 w201 o202 st203 f206 hc207 => ?_
    replace f10 := f10.st st203 (by decide)
    replace f15 := f15.st st203 (by decide)
    replace f200 := f200.st st203 (by decide)
    replace f5 := f5.st st203 (by decide)
    replace f900020 := f900020.st st203 (by decide)
    replace hs := hs.locQ st203 hob rfl
    have hk := hk.put 31 (.slice A204 ((l142 ++ ([p1] : List T87))).length c205) rfl
    refine ⟨.inr ⟨f10.now, f5.now, trivial⟩, ?_⟩
    refine xd_take tab hk (k := 1) (is := [6]) (ls' := #[true, true, true, true, true, true, true, false]) (lv := []) (ks := [4, 32]) (e' := [(4, .pointer (some ⟨bx14, 0, none⟩)), (32, .agg #[.int .i64 p0.Most, .slice A204 ((l142 ++ ([p1] : List T87))).length c205])]) (by kernel_rfl) rfl rfl (by kernel_rfl) (np_then np_body) ⟨f10.now, f5.now, trivial⟩ (fun W_ hS => trivial) fun a hk => ?_
    refine xd_op hk (i := 7) (by kernel_rfl) rfl rfl ?_
    refine op_store tab hk (t := 51) (v := .agg #[.int .i64 p0.Most, .slice A204 ((l142 ++ ([p1] : List T87))).length c205]) (b := bx14) (k := 0) (cs' := [.int .i64 p0.Most, .slice A204 ((l142 ++ ([p1] : List T87))).length c205]) rfl rfl rfl rfl rfl rfl f15 rfl rfl fun w208 o209 st210 f15_ => ?_
    replace f10 := f10.st st210 (by decide)
    replace f200 := f200.st st210 (by decide)
    replace f206 := f206.st st210 (by decide)
    replace f5 := f5.st st210 (by decide)
    replace f900020 := f900020.st st210 (by decide)
    replace hs := hs.locQ st210 hob rfl
    replace f15 := f15_
    refine ⟨.inl (by kernel_rfl), ?_⟩
    refine xd_done (by kernel_rfl) ?_
    refine then_n ?_
    refine wpIn_ret ?_
    obtain rfl := Option.some.inj H
    exact x_retG hk (rs := [.cell 4 51]) (vs := [.agg #[.int .i64 p0.Most, .slice A204 ((l142 ++ ([p1] : List T87))).length c205]]) rfl ⟨⟨_, rfl, load_box tab rfl rfl f15.now (k := 0) rfl rfl⟩, trivial⟩ ⟨cl w oi o [] (fun l_ => if l_ = 1 then LF else if l_ = 23 then R0 else 0) o209, A204, c205, rfl, hs.closeF (Lm := []) (Sh := []) hoa rfl (fun l_ => if l_ = 1 then LF else if l_ = 23 then R0 else 0), f206.conv (fun _ h_ => hs.closeM_ft (o := o) (ρ := fun l_ => if l_ = 1 then LF else if l_ = 23 then R0 else 0) h_ (lab_none hob rfl) rfl) (fun _ h_ => hs.closeM_ft (o := o) (ρ := fun l_ => if l_ = 1 then LF else if l_ = 23 then R0 else 0) h_ (lab_at hoa (i := 0) rfl) rfl), hc207⟩
  refine x_seq ?_
  refine wpIn_region_lit ?_
  refine x_run tab hk (k := 4) (lv := [.slice Ap0_0 (p0.L).length cp0_0]) (ks := [2, 3, 4, 5, 10, 11, 12]) (e' := [(2, .pointer (some ⟨bx4, 0, none⟩)), (3, .pointer (some ⟨bx9, 0, none⟩)), (4, .pointer (some ⟨bx14, 0, none⟩)), (5, .slice (some ⟨bx19, 0, none⟩) (([] : List T87)).length 0), (10, .slice Ap0_0 (p0.L).length cp0_0), (11, .int .i64 ((p0.L).length : Int)), (12, .int .i64 0)]) rfl ⟨(load1 tab rfl ((Bx.cell f5.now 1).trans rfl)), trivial⟩ fun a hk => ?_
  refine wpListIn_nil ?_
  refine then_n ?_
  refine wpIn_block ?_
  refine x_loop (fun j_ a_ w_ => ∃ o245 : Nat → Nat, ∃ A246 : Option Addr, ∃ c247 : Nat, ∃ l248 : List T87, ∃ x251 : Int, Kn 33 a_ [(2, .pointer (some ⟨bx4, 0, none⟩)), (3, .pointer (some ⟨bx9, 0, none⟩)), (4, .pointer (some ⟨bx14, 0, none⟩)), (5, .slice A246 (l248).length c247), (10, .slice Ap0_0 (p0.L).length cp0_0), (11, .int .i64 ((p0.L).length : Int)), (12, .int .i64 x251)] ∧ St [] w oi w_ o245 ∧ Ft (Bx bx9 88 [.int .i64 p1.I, .slice Ap1_0 (p1.L).length cp1_0]) w_ o245 35 ∧ Ft (Bx bx14 51 [.int .i64 0, .slice none 0 0]) w_ o245 36 ∧ NOwn dT87 88 A246 c247 l248 w_ o245 37 1 ∧ Ft (Bx bx4 51 [.int .i64 p0.Most, .slice Ap0_0 (p0.L).length cp0_0]) w_ o245 34 ∧ NRd dT87 Ap0_0 p0.L w_ o245 0 1 ∧ Ft (RdC ET75 Ap1_0 p1.L) w_ o245 1 ∧ (l248).length ≤ c247 ∧ tidewrackref14_newest_l2 p0 p1 j_ l248 x251 = some r) (k := K) ⟨(fun b_ => (fun l_ => if l_ = 2 then 34 else if l_ = 3 then 35 else if l_ = 4 then 36 else if l_ = 5 then 37 else l_) (o17 b_)), (some ⟨bx19, 0, none⟩), 0, ([] : List T87), 0, (by exact Kn.pick (ks := [2, 3, 4, 5, 10, 11, 12]) hk rfl), (hs.relabM hob (fun l_ => if l_ = 2 then 34 else if l_ = 3 then 35 else if l_ = 4 then 36 else if l_ = 5 then 37 else l_) (by decide)), (f10.relab (fun l_ => if l_ = 2 then 34 else if l_ = 3 then 35 else if l_ = 4 then 36 else if l_ = 5 then 37 else l_) rfl), (f15.relab (fun l_ => if l_ = 2 then 34 else if l_ = 3 then 35 else if l_ = 4 then 36 else if l_ = 5 then 37 else l_) rfl), (f21.relab (fun l_ => if l_ = 2 then 34 else if l_ = 3 then 35 else if l_ = 4 then 36 else if l_ = 5 then 37 else l_) rfl), (f5.relab (fun l_ => if l_ = 2 then 34 else if l_ = 3 then 35 else if l_ = 4 then 36 else if l_ = 5 then 37 else l_) rfl), (f900000.relab (fun l_ => if l_ = 2 then 34 else if l_ = 3 then 35 else if l_ = 4 then 36 else if l_ = 5 then 37 else l_) rfl), (f900020.relab (fun l_ => if l_ = 2 then 34 else if l_ = 3 then 35 else if l_ = 4 then 36 else if l_ = 5 then 37 else l_) rfl), (Nat.le_refl _), H⟩ (by rintro _ _ ⟨_, _, _, _, _, _, _, _, _, _, _, _, _, _, H_⟩; exact absurd (show (none : Option T50) = some r from H_) (by simp)) ?_
  rintro k284 a w283 ⟨o245, A246, c247, l248, x251, hk, hs, f10, f15, f249, f5, f900000, f900020, hc250, H⟩
  rw [tidewrackref14_newest_l2] at H
  obtain ⟨lp285, hlp286⟩ : ∃ lp_, lp_ = tidewrackref14_newest_l2 p0 p1 k284 := ⟨_, rfl⟩
  rw [← hlp286] at H
  refine x_seq ?_
  refine wpIn_region_lit ?_
  refine x_run tab hk (k := 1) (lv := []) (ks := [2, 3, 4, 5, 10, 11, 12, 13]) (e' := [(2, .pointer (some ⟨bx4, 0, none⟩)), (3, .pointer (some ⟨bx9, 0, none⟩)), (4, .pointer (some ⟨bx14, 0, none⟩)), (5, .slice A246 (l248).length c247), (10, .slice Ap0_0 (p0.L).length cp0_0), (11, .int .i64 ((p0.L).length : Int)), (12, .int .i64 x251), (13, .bool (decide (x251 < ((p0.L).length : Int))))]) rfl trivial fun a hk => ?_
  refine wpListIn_nil ?_
  refine then_n ?_
  refine x_seq ?_
  cases b287 : (decide (x251 < ((p0.L).length : Int)))
  · rw [b287] at hk H
    replace H := bifF H
    refine x_if hk (b := false) rfl ?_
    refine (show Code.wpIn _ _ _ _ _ _ _ from ?_)
    refine wpIn_exit ?_
    refine then_x ?_
    refine then_x ?_
    refine blk_x ?_
    refine then_n ?_
    exact ⟨(fun b_ => (fun l_ => if l_ = 34 then 20 else if l_ = 35 then 21 else if l_ = 36 then 22 else if l_ = 37 then 23 else l_) (o245 b_)), A246, c247, l248, (by exact Kn.pick (ks := [2, 3, 4, 5]) hk rfl), (hs.relabM hob (fun l_ => if l_ = 34 then 20 else if l_ = 35 then 21 else if l_ = 36 then 22 else if l_ = 37 then 23 else l_) (by decide)), (f10.relab (fun l_ => if l_ = 34 then 20 else if l_ = 35 then 21 else if l_ = 36 then 22 else if l_ = 37 then 23 else l_) rfl), (f249.relab (fun l_ => if l_ = 34 then 20 else if l_ = 35 then 21 else if l_ = 36 then 22 else if l_ = 37 then 23 else l_) rfl), (f15.relab (fun l_ => if l_ = 34 then 20 else if l_ = 35 then 21 else if l_ = 36 then 22 else if l_ = 37 then 23 else l_) rfl), (f5.relab (fun l_ => if l_ = 34 then 20 else if l_ = 35 then 21 else if l_ = 36 then 22 else if l_ = 37 then 23 else l_) rfl), (f900000.relab (fun l_ => if l_ = 34 then 20 else if l_ = 35 then 21 else if l_ = 36 then 22 else if l_ = 37 then 23 else l_) rfl), (f900020.relab (fun l_ => if l_ = 34 then 20 else if l_ = 35 then 21 else if l_ = 36 then 22 else if l_ = 37 then 23 else l_) rfl), hc250, H⟩
  · rw [b287] at hk H
    replace H := bifT H
    refine x_if hk (b := true) rfl ?_
    refine (show Code.wpIn _ _ _ _ _ _ _ from ?_)
    refine wpIn_skip ?_
    refine then_n ?_
    refine x_seq ?_
    refine wpIn_block ?_
    refine x_seq ?_
    refine wpIn_region_lit ?_
    obtain ⟨q288, H⟩ := ifS H
    obtain ⟨ad289, hAad289⟩ := NRd.addr f900000 q288
    have hk_C := hk
    have f10_C := f10
    have f15_C := f15
    have f249_C := f249
    have f5_C := f5
    have f900000_C := f900000
    have f900020_C := f900020
    subst hAad289
    have hk := hk_C
    clear hk_C
    have f10 := f10_C
    clear f10_C
    have f15 := f15_C
    clear f15_C
    have f249 := f249_C
    clear f249_C
    have f5 := f5_C
    clear f5_C
    have f900000 := f900000_C
    clear f900000_C
    have f900020 := f900020_C
    clear f900020_C
    obtain ⟨A290, c291, f292, f293, hc294⟩ := elT87 f900000 (i := x251) q288
    refine x_run tab hk (k := 2) (lv := [.agg #[.int .i64 ((rdD zT87 p0.L x251).I), .slice A290 ((rdD zT87 p0.L x251).L).length c291]]) (ks := [2, 3, 4, 5, 10, 11, 12, 15]) (e' := [(2, .pointer (some ⟨bx4, 0, none⟩)), (3, .pointer (some ⟨bx9, 0, none⟩)), (4, .pointer (some ⟨bx14, 0, none⟩)), (5, .slice A246 (l248).length c247), (10, .slice (some ad289) (p0.L).length cp0_0), (11, .int .i64 ((p0.L).length : Int)), (12, .int .i64 x251), (15, .agg #[.int .i64 ((rdD zT87 p0.L x251).I), .slice A290 ((rdD zT87 p0.L x251).L).length c291])]) rfl ⟨q288, (CellsAt.all f292.now tab rfl rfl rfl), trivial⟩ fun a hk => ?_
    refine x_op hk rfl ?_
    refine op_alloc (o := o245) tab (t := 88) (cs := [.int .i64 0, .slice none 0 0]) rfl rfl 40 fun bx298 w295 o296 st297 f299 => ?_
    replace f10 := f10.st st297 (by decide)
    replace f15 := f15.st st297 (by decide)
    replace f249 := f249.st st297 (by decide)
    replace f293 := f293.st st297 (by decide)
    replace f5 := f5.st st297 (by decide)
    replace f900000 := f900000.st st297 (by decide)
    replace f900020 := f900020.st st297 (by decide)
    replace hs := hs.locQ st297 hob rfl
    have hk := hk.put 7 (.pointer (some ⟨bx298, 0, none⟩)) rfl
    refine x_op hk rfl ?_
    refine op_store tab hk (t := 88) (v := .agg #[.int .i64 ((rdD zT87 p0.L x251).I), .slice A290 ((rdD zT87 p0.L x251).L).length c291]) (b := bx298) (k := 0) (cs' := [.int .i64 ((rdD zT87 p0.L x251).I), .slice A290 ((rdD zT87 p0.L x251).L).length c291]) rfl rfl rfl rfl rfl rfl f299 rfl rfl fun w300 o301 st302 f299_ => ?_
    replace f10 := f10.st st302 (by decide)
    replace f15 := f15.st st302 (by decide)
    replace f249 := f249.st st302 (by decide)
    replace f293 := f293.st st302 (by decide)
    replace f5 := f5.st st302 (by decide)
    replace f900000 := f900000.st st302 (by decide)
    replace f900020 := f900020.st st302 (by decide)
    replace hs := hs.locQ st302 hob rfl
    replace f299 := f299_
    refine wpListIn_nil ?_
    refine then_n ?_
    refine x_seq ?_
    refine wpIn_region_lit ?_
    refine x_run tab hk (k := 5) (lv := [.int .i64 ((rdD zT87 p0.L x251).I), .int .i64 p1.I]) (ks := [2, 3, 4, 5, 7, 10, 11, 12, 20]) (e' := [(2, .pointer (some ⟨bx4, 0, none⟩)), (3, .pointer (some ⟨bx9, 0, none⟩)), (4, .pointer (some ⟨bx14, 0, none⟩)), (5, .slice A246 (l248).length c247), (7, .pointer (some ⟨bx298, 0, none⟩)), (10, .slice (some ad289) (p0.L).length cp0_0), (11, .int .i64 ((p0.L).length : Int)), (12, .int .i64 x251), (20, .bool (((rdD zT87 p0.L x251).I) != p1.I))]) rfl ⟨(load1 tab rfl ((Bx.cell f299.now 0).trans rfl)), (load1 tab rfl ((Bx.cell f10.now 0).trans rfl)), trivial⟩ fun a hk => ?_
    refine wpListIn_nil ?_
    refine then_n ?_
    cases b303 : (((rdD zT87 p0.L x251).I) != p1.I)
    · rw [b303] at hk H
      replace H := bifF H
      refine x_if hk (b := false) rfl ?_
      refine (show Code.wpIn _ _ _ _ _ _ _ from ?_)
      refine wpIn_skip ?_
      refine blk_n ?_
      refine then_n ?_
      refine wpIn_region_lit ?_
      refine x_run tab hk (k := 2) (lv := []) (ks := [2, 3, 4, 5, 10, 11, 12]) (e' := [(2, .pointer (some ⟨bx4, 0, none⟩)), (3, .pointer (some ⟨bx9, 0, none⟩)), (4, .pointer (some ⟨bx14, 0, none⟩)), (5, .slice A246 (l248).length c247), (10, .slice (some ad289) (p0.L).length cp0_0), (11, .int .i64 ((p0.L).length : Int)), (12, .int .i64 (IntKind.wrap .i64 (x251 + 1)))]) rfl trivial fun a hk => ?_
      refine wpListIn_nil ?_
      refine then_n ?_
      exact ⟨k284, Nat.le_refl _, o301, A246, c247, l248, (IntKind.wrap .i64 (x251 + 1)), (by exact Kn.pick (ks := [2, 3, 4, 5, 10, 11, 12]) hk rfl), hs, f10, f15, f249, f5, f900000, f900020, hc250, (hlp286 ▸ H)⟩
    · rw [b303] at hk H
      replace H := bifT H
      refine x_if hk (b := true) rfl ?_
      refine (show Code.wpIn _ _ _ _ _ _ _ from ?_)
      refine wpIn_region_lit ?_
      refine x_run tab hk (k := 2) (lv := [.agg #[.int .i64 ((rdD zT87 p0.L x251).I), .slice A290 ((rdD zT87 p0.L x251).L).length c291]]) (ks := [2, 3, 4, 10, 11, 12, 21, 22]) (e' := [(2, .pointer (some ⟨bx4, 0, none⟩)), (3, .pointer (some ⟨bx9, 0, none⟩)), (4, .pointer (some ⟨bx14, 0, none⟩)), (10, .slice (some ad289) (p0.L).length cp0_0), (11, .int .i64 ((p0.L).length : Int)), (12, .int .i64 x251), (21, .slice A246 (l248).length c247), (22, .agg #[.int .i64 ((rdD zT87 p0.L x251).I), .slice A290 ((rdD zT87 p0.L x251).L).length c291])]) rfl ⟨(load_box tab rfl rfl f299.now (k := 0) rfl rfl), trivial⟩ fun a hk => ?_
      refine x_op hk rfl ?_
      refine op_slice (o := o301) tab hk (vs := [.agg #[.int .i64 ((rdD zT87 p0.L x251).I), .slice A290 ((rdD zT87 p0.L x251).L).length c291]]) (cs := [.int .i64 ((rdD zT87 p0.L x251).I), .slice A290 ((rdD zT87 p0.L x251).L).length c291]) rfl rfl rfl rfl rfl rfl rfl rfl rfl 41 fun bx307 w304 o305 st306 f308 => ?_
      replace f10 := f10.st st306 (by decide)
      replace f15 := f15.st st306 (by decide)
      replace f249 := f249.st st306 (by decide)
      replace f293 := f293.st st306 (by decide)
      replace f5 := f5.st st306 (by decide)
      replace f900000 := f900000.st st306 (by decide)
      replace f900020 := f900020.st st306 (by decide)
      replace hs := hs.locQ st306 hob rfl
      have f309 : NOwn dT87 88 (some ⟨bx307, 0, none⟩) 1 ([(rdD zT87 p0.L x251)] : List T87) w304 o305 41 1 := NOwn.litD (D := dT87) f308 [(⟨(rdD zT87 p0.L x251), A290, c291⟩ : NT87)] rfl (Inn.consD (D := dT87) (r := (⟨(rdD zT87 p0.L x251), A290, c291⟩ : NT87)) (f293.imp fun _ h_ => ⟨h_, hc294⟩) (Inn.nilD _ _ _ _)) rfl (Nat.le_of_ble_eq_true rfl)
      have hk := hk.put 23 (.slice (some ⟨bx307, 0, none⟩) (([(rdD zT87 p0.L x251)] : List T87)).length 1) rfl
      refine x_op hk rfl ?_
      obtain ⟨q313, H⟩ := ifS H
      refine op_appendN (o := o305) (D := dT87) (xs := l248) (ys := ([(rdD zT87 p0.L x251)] : List T87)) tab hk rfl rfl rfl rfl rfl rfl rfl f249 f309.rd (by decide) q313 fun A314 c315 w310 o311 st312 f316 hc317 => ?_
      replace f10 := f10.st st312 (by decide)
      replace f15 := f15.st st312 (by decide)
      replace f293 := f293.st st312 (by decide)
      replace f309 := f309.st st312 (by decide)
      replace f5 := f5.st st312 (by decide)
      replace f900000 := f900000.st st312 (by decide)
      replace f900020 := f900020.st st312 (by decide)
      replace hs := hs.locQ st312 hob rfl
      have hk := hk.put 24 (.slice A314 ((l248 ++ ([(rdD zT87 p0.L x251)] : List T87))).length c315) rfl
      refine x_run tab hk (k := 1) (lv := []) (ks := [2, 3, 4, 5, 10, 11, 12]) (e' := [(2, .pointer (some ⟨bx4, 0, none⟩)), (3, .pointer (some ⟨bx9, 0, none⟩)), (4, .pointer (some ⟨bx14, 0, none⟩)), (5, .slice A314 ((l248 ++ ([(rdD zT87 p0.L x251)] : List T87))).length c315), (10, .slice (some ad289) (p0.L).length cp0_0), (11, .int .i64 ((p0.L).length : Int)), (12, .int .i64 x251)]) rfl trivial fun a hk => ?_
      refine wpListIn_nil ?_
      refine blk_n ?_
      refine then_n ?_
      refine wpIn_region_lit ?_
      refine x_run tab hk (k := 2) (lv := []) (ks := [2, 3, 4, 5, 10, 11, 12]) (e' := [(2, .pointer (some ⟨bx4, 0, none⟩)), (3, .pointer (some ⟨bx9, 0, none⟩)), (4, .pointer (some ⟨bx14, 0, none⟩)), (5, .slice A314 ((l248 ++ ([(rdD zT87 p0.L x251)] : List T87))).length c315), (10, .slice (some ad289) (p0.L).length cp0_0), (11, .int .i64 ((p0.L).length : Int)), (12, .int .i64 (IntKind.wrap .i64 (x251 + 1)))]) rfl trivial fun a hk => ?_
      refine wpListIn_nil ?_
      refine then_n ?_
      exact ⟨k284, Nat.le_refl _, o311, A314, c315, (l248 ++ ([(rdD zT87 p0.L x251)] : List T87)), (IntKind.wrap .i64 (x251 + 1)), (by exact Kn.pick (ks := [2, 3, 4, 5, 10, 11, 12]) hk rfl), hs, f10, f15, f316, f5, f900000, f900020, hc317, (hlp286 ▸ H)⟩

/-! tidewrack/tidewrackref14.Put -/
theorem tidewrackref14_Put_calls (K : Nat) (Ap0_0 : Option Addr) (cp0_0 : Nat) (p0 : T50) (p1 : Int) (Ap2 : Option Addr) (cp2 : Nat) (p2 : List T75) (w : World) (o : Nat → Nat) (LF : Nat) (Lp0_0 : Nat) (hp0_0 : NRd dT87 Ap0_0 p0.L w o Lp0_0 LF) (hcp0_0 : (p0.L).length ≤ cp0_0) (hp2 : Ft (RdC ET75 Ap2 p2) w o LF) (hcp2 : (p2).length ≤ cp2) (hd0 : ([LF, Lp0_0] : List Nat).Nodup) (r : T50 × Int × Bool) (H : tidewrackref14_Put K p0 p1 p2 = some r) :
    Calls Try.prog 33 #[.agg #[.int .i64 p0.Most, .slice Ap0_0 (p0.L).length cp0_0], .int .i64 p1, .slice Ap2 (p2).length cp2] w (Ret fun v_ w' => ∃ o' : Nat → Nat, ∃ A0 : Option Addr, ∃ c0 : Nat, v_ = .tuple #[.agg #[.int .i64 r.1.Most, .slice A0 (r.1.L).length c0], .int .i64 r.2.1, .bool r.2.2] ∧ St [] w o w' o' ∧ NRd dT87 A0 r.1.L w' o' Lp0_0 LF ∧ (r.1.L).length ≤ c0) := by
  refine x_enter (vs := [.agg #[.int .i64 p0.Most, .slice Ap0_0 (p0.L).length cp0_0], .int .i64 p1, .slice Ap2 (p2).length cp2]) Try.func33 rfl rfl rfl fun a hk => ?_
  obtain ⟨oi, hs0, h0, h1, hob, hoz, hoa⟩ := St.startM2 w o (m := 2) hd0 rfl
  have hs := hs0 []
  have f900000 := hp0_0.conv (fun _ h_ => h1 1 2 h_ rfl rfl) (fun _ h_ => h1 0 1 h_ rfl rfl)
  have f900040 := h1 0 1 hp2 rfl rfl
  clear h0 h1 hs0
  rw [tidewrackref14_Put] at H
  refine x_seq ?_
  refine wpIn_region_lit ?_
  refine x_op hk rfl ?_
  refine op_box (o := oi) (t := 51) (v := .agg #[.int .i64 p0.Most, .slice Ap0_0 (p0.L).length cp0_0]) (cs := [.int .i64 p0.Most, .slice Ap0_0 (p0.L).length cp0_0]) hk rfl rfl 3 fun bx4 w1 o2 st3 f5 => ?_
  replace f900000 := f900000.st st3 (by decide)
  replace f900040 := f900040.st st3 (by decide)
  replace hs := hs.locQ st3 hob rfl
  have hk := hk.put 3 (.pointer (some ⟨bx4, 0, none⟩)) rfl
  refine x_op hk rfl ?_
  refine op_alloc (o := o2) tab (t := 51) (cs := [.int .i64 0, .slice none 0 0]) rfl rfl 4 fun bx9 w6 o7 st8 f10 => ?_
  replace f5 := f5.st st8 (by decide)
  replace f900000 := f900000.st st8 (by decide)
  replace f900040 := f900040.st st8 (by decide)
  replace hs := hs.locQ st8 hob rfl
  have hk := hk.put 6 (.pointer (some ⟨bx9, 0, none⟩)) rfl
  refine x_run tab hk (k := 2) (lv := []) (ks := [1, 2, 3, 6]) (e' := [(1, .int .i64 p1), (2, .slice Ap2 (p2).length cp2), (3, .pointer (some ⟨bx4, 0, none⟩)), (6, .pointer (some ⟨bx9, 0, none⟩))]) rfl trivial fun a hk => ?_
  refine wpListIn_nil ?_
  refine then_n ?_
  refine x_mid (fun a_ w_ => ∃ o29 : Nat → Nat, Kn 40 a_ [(1, .int .i64 p1), (2, .slice Ap2 (p2).length cp2), (3, .pointer (some ⟨bx4, 0, none⟩)), (6, .pointer (some ⟨bx9, 0, none⟩))] ∧ St [] w oi w_ o29 ∧ Ft (Bx bx9 51 [.int .i64 0, .slice none 0 0]) w_ o29 8 ∧ Ft (Bx bx4 51 [.int .i64 p0.Most, .slice Ap0_0 (p0.L).length cp0_0]) w_ o29 7 ∧ NRd dT87 Ap0_0 p0.L w_ o29 2 1 ∧ Ft (RdC ET75 Ap2 p2) w_ o29 1 ∧ tidewrackref14_Put_j1 K p0 p1 p2 = some r) ?_ ?_
  rotate_left
  · rintro a w30 ⟨o29, hk, hs, f10, f5, f900000, f900040, H⟩
    rw [tidewrackref14_Put_j1] at H
    refine x_seq ?_
    refine wpIn_region_lit ?_
    refine x_run tab hk (k := 4) (lv := [.agg #[.int .i64 p0.Most, .slice Ap0_0 (p0.L).length cp0_0]]) (ks := [6, 17, 20]) (e' := [(6, .pointer (some ⟨bx9, 0, none⟩)), (17, .agg #[.int .i64 p0.Most, .slice Ap0_0 (p0.L).length cp0_0]), (20, .agg #[.int .i64 p1, .slice Ap2 (p2).length cp2])]) rfl ⟨(load_box tab rfl rfl f5.now (k := 0) rfl rfl), trivial⟩ fun a hk => ?_
    refine x_op hk rfl ?_
    obtain ⟨t34, hc35, H⟩ := bindS H
    refine op_call hk ent_49 (vs := [.agg #[.int .i64 p0.Most, .slice Ap0_0 (p0.L).length cp0_0], .agg #[.int .i64 p1, .slice Ap2 (p2).length cp2]]) rfl (tidewrackref14_newest_calls K Ap0_0 cp0_0 p0 Ap2 cp2 (⟨p1, p2⟩ : T87) _ o29 1 _ f900000 hcp0_0 f900040 hcp2 (by decide) (by decide) 9  _ hc35) ?_
    rintro _ w36 ⟨o37, A39, c40, rfl, st38, f41, hc42⟩
    replace f10 := f10.st st38 (by decide)
    replace f900000 := f900000.st st38 (by decide)
    replace f900040 := f900040.st st38 (by decide)
    replace hs := hs.locQ st38 hob rfl
    have hk := hk.put 21 (.agg #[.int .i64 t34.Most, .slice A39 (t34.L).length c40]) rfl
    refine x_op hk rfl ?_
    refine op_alloc (o := o37) tab (t := 51) (cs := [.int .i64 0, .slice none 0 0]) rfl rfl 10 fun bx46 w43 o44 st45 f47 => ?_
    replace f10 := f10.st st45 (by decide)
    replace f41 := f41.st st45 (by decide)
    replace f900000 := f900000.st st45 (by decide)
    replace f900040 := f900040.st st45 (by decide)
    replace hs := hs.locQ st45 hob rfl
    have hk := hk.put 9 (.pointer (some ⟨bx46, 0, none⟩)) rfl
    refine x_op hk rfl ?_
    refine op_store tab hk (t := 51) (v := .agg #[.int .i64 t34.Most, .slice A39 (t34.L).length c40]) (b := bx46) (k := 0) (cs' := [.int .i64 t34.Most, .slice A39 (t34.L).length c40]) rfl rfl rfl rfl rfl rfl f47 rfl rfl fun w48 o49 st50 f47_ => ?_
    replace f10 := f10.st st50 (by decide)
    replace f41 := f41.st st50 (by decide)
    replace f900000 := f900000.st st50 (by decide)
    replace f900040 := f900040.st st50 (by decide)
    replace hs := hs.locQ st50 hob rfl
    replace f47 := f47_
    refine wpListIn_nil ?_
    refine then_n ?_
    refine x_seq ?_
    refine x_seq ?_
    refine wpIn_region_lit ?_
    refine x_run tab hk (k := 6) (lv := [.slice A39 (t34.L).length c40, .int .i64 t34.Most]) (ks := [6, 9, 27]) (e' := [(6, .pointer (some ⟨bx9, 0, none⟩)), (9, .pointer (some ⟨bx46, 0, none⟩)), (27, .bool (decide (((t34.L).length : Int) ≤ t34.Most)))]) rfl ⟨(load1 tab rfl ((Bx.cell f47.now 1).trans rfl)), (load1 tab rfl ((Bx.cell f47.now 0).trans rfl)), trivial⟩ fun a hk => ?_
    refine wpListIn_nil ?_
    refine then_n ?_
    cases b51 : (decide (((t34.L).length : Int) ≤ t34.Most))
    · rw [b51] at hk H
      replace H := bifF H
      refine x_if hk (b := false) rfl ?_
      refine (show Code.wpIn _ _ _ _ _ _ _ from ?_)
      refine wpIn_skip ?_
      refine then_n ?_
      refine x_seq ?_
      obtain ⟨q68, H⟩ := ifS H
      obtain ⟨q74, H⟩ := ifS H
      obtain ⟨ad75, hAad75⟩ := NRd.addr f41.rd q74
      have hk_C := hk
      have f10_C := f10
      have f41_C := f41
      have f47_C := f47
      subst hAad75
      have hk := hk_C
      clear hk_C
      have f10 := f10_C
      clear f10_C
      have f41 := f41_C
      clear f41_C
      have f47 := f47_C
      clear f47_C
      obtain ⟨A76, c77, f78, f79, hc80⟩ := elT87 f41.rd (i := (0 : Int)) q74
      refine xd_begin (o := o49) (fun W_ => (Bx bx46 51 [.int .i64 t34.Most, .slice (some ad75) (t34.L).length c40]) W_ ∧ (fun W => CellsAt (ad75.add (Int.toNat (0 : Int) * 2)) [.int .i64 ((rdD zT87 t34.L 0).I), .slice A76 ((rdD zT87 t34.L 0).L).length c77] W) W_ ∧ True) mixed rfl rfl fun w92 st93 => ?_
      replace f10 := f10.st st93 (by decide)
      replace f41 := f41.st st93 (by decide)
      replace f47 := f47.st st93 (by decide)
      replace f78 := f78.st st93 (by decide)
      replace f79 := f79.st st93 (by decide)
      replace hs := hs.locQ st93 hob rfl
      obtain ⟨A94, c95, ak97, f96, hc98⟩ := ask_cutN (P := Try.prog) tab (t := 49) rfl rfl f41.rd hc42 (some (.int .i64 1)) none rfl ⟨(show 0 ≤ (1 : Int) from by decide), (by have := q68; omega), trivial⟩ (by have := (show 0 ≤ (1 : Int) from by decide); have := q68; omega) (Nat.le_refl _)
      refine xd_take tab hk (k := 3) (is := [0, 1, 2, 3, 4, 5, 6, 7, 8, 9, 10]) (ls' := #[true, true, true, true, true, true, true, true, true, true, true, false, false, false]) (lv := [.int .i64 t34.Most, .slice (some ad75) (t34.L).length c40, .slice A94 ((List.drop (Int.toNat 1) (List.take (t34.L).length t34.L))).length c95, .slice (some ad75) (t34.L).length c40, .int .i64 ((rdD zT87 t34.L 0).I)]) (ks := [6, 34, 39]) (e' := [(6, .pointer (some ⟨bx9, 0, none⟩)), (34, .agg #[.int .i64 t34.Most, .slice A94 ((List.drop (Int.toNat 1) (List.take (t34.L).length t34.L))).length c95]), (39, .int .i64 ((rdD zT87 t34.L 0).I))]) (by kernel_rfl) rfl rfl (by kernel_rfl) (np_then np_body) ⟨f47.now, f78.now, trivial⟩ (fun W_ hS => ⟨(load1 tab rfl ((Bx.cell hS.1 0).trans rfl)), (load1 tab rfl ((Bx.cell hS.1 1).trans rfl)), (ak97 rfl rfl rfl _), (load1 tab rfl ((Bx.cell hS.1 1).trans rfl)), q74, (CellsAt.one hS.2.1 tab rfl 0 rfl), trivial⟩) fun a hk => ?_
      refine xd_op hk (i := 11) (by kernel_rfl) rfl rfl ?_
      refine op_store tab hk (t := 51) (v := .agg #[.int .i64 t34.Most, .slice A94 ((List.drop (Int.toNat 1) (List.take (t34.L).length t34.L))).length c95]) (b := bx9) (k := 0) (cs' := [.int .i64 t34.Most, .slice A94 ((List.drop (Int.toNat 1) (List.take (t34.L).length t34.L))).length c95]) rfl rfl rfl rfl rfl rfl f10 rfl rfl fun w99 o100 st101 f10_ => ?_
      replace f41 := f41.st st101 (by decide)
      replace f47 := f47.st st101 (by decide)
      replace f78 := f78.st st101 (by decide)
      replace f79 := f79.st st101 (by decide)
      replace f96 := f96.st st101 (by decide)
      replace hs := hs.locQ st101 hob rfl
      replace f10 := f10_
      refine ⟨.inr ⟨f47.now, f78.now, trivial⟩, ?_⟩
      refine xd_take tab hk (k := 0) (is := [12, 13]) (ls' := #[true, true, true, true, true, true, true, true, true, true, true, true, true, true]) (lv := []) (ks := [6, 7, 8]) (e' := [(6, .pointer (some ⟨bx9, 0, none⟩)), (7, .int .i64 ((rdD zT87 t34.L 0).I)), (8, .bool true)]) (by kernel_rfl) rfl rfl (by kernel_rfl) (np_then np_body) ⟨f47.now, f78.now, trivial⟩ (fun W_ hS => trivial) fun a hk => ?_
      refine xd_done (by kernel_rfl) ?_
      refine then_n ?_
      refine wpIn_ret ?_
      obtain rfl := Option.some.inj H
      exact x_retG hk (rs := [.cell 6 51, .tmp 7, .tmp 8]) (vs := [.agg #[.int .i64 t34.Most, .slice A94 ((List.drop (Int.toNat 1) (List.take (t34.L).length t34.L))).length c95], .int .i64 ((rdD zT87 t34.L 0).I), .bool true]) rfl ⟨⟨_, rfl, load_box tab rfl rfl f10.now (k := 0) rfl rfl⟩, rfl, rfl, trivial⟩ ⟨cl w oi o [] (fun l_ => if l_ = 1 then LF else if l_ = 9 then Lp0_0 else 0) o100, A94, c95, rfl, hs.closeF (Lm := []) (Sh := [Lp0_0]) hoa rfl (fun l_ => if l_ = 1 then LF else if l_ = 9 then Lp0_0 else 0), f96.conv (fun _ h_ => hs.closeM_ft (o := o) (ρ := fun l_ => if l_ = 1 then LF else if l_ = 9 then Lp0_0 else 0) h_ (lab_none hob rfl) rfl) (fun _ h_ => hs.closeM_ft (o := o) (ρ := fun l_ => if l_ = 1 then LF else if l_ = 9 then Lp0_0 else 0) h_ (lab_at hoa (i := 0) rfl) rfl), hc98⟩
    · rw [b51] at hk H
      replace H := bifT H
      refine x_if hk (b := true) rfl ?_
      refine (show Code.wpIn _ _ _ _ _ _ _ from ?_)
      refine x_seq ?_
      refine wpIn_region_lit ?_
      refine x_run tab hk (k := 1) (lv := [.agg #[.int .i64 t34.Most, .slice A39 (t34.L).length c40]]) (ks := [6, 28]) (e' := [(6, .pointer (some ⟨bx9, 0, none⟩)), (28, .agg #[.int .i64 t34.Most, .slice A39 (t34.L).length c40])]) rfl ⟨(load_box tab rfl rfl f47.now (k := 0) rfl rfl), trivial⟩ fun a hk => ?_
      refine x_op hk rfl ?_
      refine op_store tab hk (t := 51) (v := .agg #[.int .i64 t34.Most, .slice A39 (t34.L).length c40]) (b := bx9) (k := 0) (cs' := [.int .i64 t34.Most, .slice A39 (t34.L).length c40]) rfl rfl rfl rfl rfl rfl f10 rfl rfl fun w102 o103 st104 f10_ => ?_
      replace f41 := f41.st st104 (by decide)
      replace hs := hs.locQ st104 hob rfl
      replace f10 := f10_
      refine x_run tab hk (k := 2) (lv := []) (ks := [6, 7, 8]) (e' := [(6, .pointer (some ⟨bx9, 0, none⟩)), (7, .int .i64 0), (8, .bool false)]) rfl trivial fun a hk => ?_
      refine wpListIn_nil ?_
      refine then_n ?_
      refine wpIn_ret ?_
      refine then_r ?_
      obtain rfl := Option.some.inj H
      exact x_retG hk (rs := [.cell 6 51, .tmp 7, .tmp 8]) (vs := [.agg #[.int .i64 t34.Most, .slice A39 (t34.L).length c40], .int .i64 0, .bool false]) rfl ⟨⟨_, rfl, load_box tab rfl rfl f10.now (k := 0) rfl rfl⟩, rfl, rfl, trivial⟩ ⟨cl w oi o [] (fun l_ => if l_ = 1 then LF else if l_ = 9 then Lp0_0 else 0) o103, A39, c40, rfl, hs.closeF (Lm := []) (Sh := [Lp0_0]) hoa rfl (fun l_ => if l_ = 1 then LF else if l_ = 9 then Lp0_0 else 0), f41.rd.conv (fun _ h_ => hs.closeM_ft (o := o) (ρ := fun l_ => if l_ = 1 then LF else if l_ = 9 then Lp0_0 else 0) h_ (lab_none hob rfl) rfl) (fun _ h_ => hs.closeM_ft (o := o) (ρ := fun l_ => if l_ = 1 then LF else if l_ = 9 then Lp0_0 else 0) h_ (lab_at hoa (i := 0) rfl) rfl), hc42⟩
  refine x_mid (fun a_ w_ => ∃ o112 : Nat → Nat, ∃ x113 : Bool, Kn 40 a_ [(1, .int .i64 p1), (2, .slice Ap2 (p2).length cp2), (3, .pointer (some ⟨bx4, 0, none⟩)), (6, .pointer (some ⟨bx9, 0, none⟩)), (15, .bool x113)] ∧ St [] w oi w_ o112 ∧ Ft (Bx bx9 51 [.int .i64 0, .slice none 0 0]) w_ o112 12 ∧ Ft (Bx bx4 51 [.int .i64 p0.Most, .slice Ap0_0 (p0.L).length cp0_0]) w_ o112 11 ∧ NRd dT87 Ap0_0 p0.L w_ o112 2 1 ∧ Ft (RdC ET75 Ap2 p2) w_ o112 1 ∧ tidewrackref14_Put_j2 K p0 p1 p2 x113 = some r) ?_ ?_
  rotate_left
  · rintro a w114 ⟨o112, x113, hk, hs, f10, f5, f900000, f900040, H⟩
    rw [tidewrackref14_Put_j2] at H
    cases b115 : x113
    · rw [b115] at hk H
      replace H := bifF H
      refine x_if hk (b := false) rfl ?_
      refine (show Code.wpIn _ _ _ _ _ _ _ from ?_)
      refine wpIn_skip ?_
      refine then_n ?_
      exact ⟨(fun b_ => (fun l_ => if l_ = 11 then 7 else if l_ = 12 then 8 else l_) (o112 b_)), (by exact Kn.pick (ks := [1, 2, 3, 6]) hk rfl), (hs.relabM hob (fun l_ => if l_ = 11 then 7 else if l_ = 12 then 8 else l_) (by decide)), (f10.relab (fun l_ => if l_ = 11 then 7 else if l_ = 12 then 8 else l_) rfl), (f5.relab (fun l_ => if l_ = 11 then 7 else if l_ = 12 then 8 else l_) rfl), (f900000.relab (fun l_ => if l_ = 11 then 7 else if l_ = 12 then 8 else l_) rfl), (f900040.relab (fun l_ => if l_ = 11 then 7 else if l_ = 12 then 8 else l_) rfl), H⟩
    · rw [b115] at hk H
      replace H := bifT H
      refine x_if hk (b := true) rfl ?_
      refine (show Code.wpIn _ _ _ _ _ _ _ from ?_)
      refine x_seq ?_
      refine wpIn_region_lit ?_
      refine x_run tab hk (k := 1) (lv := [.agg #[.int .i64 p0.Most, .slice Ap0_0 (p0.L).length cp0_0]]) (ks := [6, 16]) (e' := [(6, .pointer (some ⟨bx9, 0, none⟩)), (16, .agg #[.int .i64 p0.Most, .slice Ap0_0 (p0.L).length cp0_0])]) rfl ⟨(load_box tab rfl rfl f5.now (k := 0) rfl rfl), trivial⟩ fun a hk => ?_
      refine x_op hk rfl ?_
      refine op_store tab hk (t := 51) (v := .agg #[.int .i64 p0.Most, .slice Ap0_0 (p0.L).length cp0_0]) (b := bx9) (k := 0) (cs' := [.int .i64 p0.Most, .slice Ap0_0 (p0.L).length cp0_0]) rfl rfl rfl rfl rfl rfl f10 rfl rfl fun w116 o117 st118 f10_ => ?_
      replace f900000 := f900000.st st118 (by decide)
      replace hs := hs.locQ st118 hob rfl
      replace f10 := f10_
      refine x_run tab hk (k := 2) (lv := []) (ks := [6, 7, 8]) (e' := [(6, .pointer (some ⟨bx9, 0, none⟩)), (7, .int .i64 0), (8, .bool false)]) rfl trivial fun a hk => ?_
      refine wpListIn_nil ?_
      refine then_n ?_
      refine wpIn_ret ?_
      refine then_r ?_
      obtain rfl := Option.some.inj H
      exact x_retG hk (rs := [.cell 6 51, .tmp 7, .tmp 8]) (vs := [.agg #[.int .i64 p0.Most, .slice Ap0_0 (p0.L).length cp0_0], .int .i64 0, .bool false]) rfl ⟨⟨_, rfl, load_box tab rfl rfl f10.now (k := 0) rfl rfl⟩, rfl, rfl, trivial⟩ ⟨cl w oi o [] (fun l_ => if l_ = 1 then LF else if l_ = 2 then Lp0_0 else 0) o117, Ap0_0, cp0_0, rfl, hs.closeF (Lm := []) (Sh := [Lp0_0]) hoa rfl (fun l_ => if l_ = 1 then LF else if l_ = 2 then Lp0_0 else 0), f900000.conv (fun _ h_ => hs.closeM_ft (o := o) (ρ := fun l_ => if l_ = 1 then LF else if l_ = 2 then Lp0_0 else 0) h_ (lab_at hoa (i := 1) rfl) rfl) (fun _ h_ => hs.closeM_ft (o := o) (ρ := fun l_ => if l_ = 1 then LF else if l_ = 2 then Lp0_0 else 0) h_ (lab_at hoa (i := 0) rfl) rfl), hcp0_0⟩
  refine wpIn_region_lit ?_
  refine x_run tab hk (k := 3) (lv := []) (ks := [1, 2, 3, 6, 12]) (e' := [(1, .int .i64 p1), (2, .slice Ap2 (p2).length cp2), (3, .pointer (some ⟨bx4, 0, none⟩)), (6, .pointer (some ⟨bx9, 0, none⟩)), (12, .bool (decide (p1 < (0 : Int))))]) rfl trivial fun a hk => ?_
  cases b119 : (decide (p1 < (0 : Int)))
  · rw [b119] at hk H
    replace H := bifF H
    refine x_run tab hk (k := 3) (lv := []) (ks := [1, 2, 3, 6, 15]) (e' := [(1, .int .i64 p1), (2, .slice Ap2 (p2).length cp2), (3, .pointer (some ⟨bx4, 0, none⟩)), (6, .pointer (some ⟨bx9, 0, none⟩)), (15, .bool (decide (p1 > (1152921504606846976 : Int))))]) rfl trivial fun a hk => ?_
    refine wpListIn_nil ?_
    refine then_n ?_
    exact ⟨(fun b_ => (fun l_ => if l_ = 3 then 11 else if l_ = 4 then 12 else l_) (o7 b_)), (decide (p1 > (1152921504606846976 : Int))), (by exact Kn.pick (ks := [1, 2, 3, 6, 15]) hk rfl), (hs.relabM hob (fun l_ => if l_ = 3 then 11 else if l_ = 4 then 12 else l_) (by decide)), (f10.relab (fun l_ => if l_ = 3 then 11 else if l_ = 4 then 12 else l_) rfl), (f5.relab (fun l_ => if l_ = 3 then 11 else if l_ = 4 then 12 else l_) rfl), (f900000.relab (fun l_ => if l_ = 3 then 11 else if l_ = 4 then 12 else l_) rfl), (f900040.relab (fun l_ => if l_ = 3 then 11 else if l_ = 4 then 12 else l_) rfl), H⟩
  · rw [b119] at hk H
    replace H := bifT H
    refine x_run tab hk (k := 3) (lv := []) (ks := [1, 2, 3, 6, 15]) (e' := [(1, .int .i64 p1), (2, .slice Ap2 (p2).length cp2), (3, .pointer (some ⟨bx4, 0, none⟩)), (6, .pointer (some ⟨bx9, 0, none⟩)), (15, .bool true)]) rfl trivial fun a hk => ?_
    refine wpListIn_nil ?_
    refine then_n ?_
    exact ⟨(fun b_ => (fun l_ => if l_ = 3 then 11 else if l_ = 4 then 12 else l_) (o7 b_)), true, (by exact Kn.pick (ks := [1, 2, 3, 6, 15]) hk rfl), (hs.relabM hob (fun l_ => if l_ = 3 then 11 else if l_ = 4 then 12 else l_) (by decide)), (f10.relab (fun l_ => if l_ = 3 then 11 else if l_ = 4 then 12 else l_) rfl), (f5.relab (fun l_ => if l_ = 3 then 11 else if l_ = 4 then 12 else l_) rfl), (f900000.relab (fun l_ => if l_ = 3 then 11 else if l_ = 4 then 12 else l_) rfl), (f900040.relab (fun l_ => if l_ = 3 then 11 else if l_ = 4 then 12 else l_) rfl), H⟩

/-! tidewrack/tidewrackref14.Find -/
theorem tidewrackref14_Find_calls (K : Nat) (Ap0_0 : Option Addr) (cp0_0 : Nat) (p0 : T50) (p1 : Int) (w : World) (o : Nat → Nat) (LF : Nat) (Lp0_0 : Nat) (hp0_0 : NRd dT87 Ap0_0 p0.L w o Lp0_0 LF) (hcp0_0 : (p0.L).length ≤ cp0_0) (hd0 : ([LF] : List Nat).Nodup) (hd1 : Lp0_0 ∉ [LF]) (r : (List T75) × Bool) (H : tidewrackref14_Find K p0 p1 = some r) :
    Calls Try.prog 35 #[.agg #[.int .i64 p0.Most, .slice Ap0_0 (p0.L).length cp0_0], .int .i64 p1] w (Ret fun v_ w' => ∃ o' : Nat → Nat, ∃ A0 : Option Addr, ∃ c0 : Nat, v_ = .tuple #[.slice A0 (r.1).length c0, .bool r.2] ∧ St [] w o w' o' ∧ Ft (RdC ET75 A0 r.1) w' o' LF ∧ (r.1).length ≤ c0) := by
  refine x_enter (vs := [.agg #[.int .i64 p0.Most, .slice Ap0_0 (p0.L).length cp0_0], .int .i64 p1]) Try.func35 rfl rfl rfl fun a hk => ?_
  obtain ⟨oi, hs0, h0, h1, hob, hoz, hoa⟩ := St.startM2 w o (m := 1) hd0 rfl
  have hs := hs0 []
  have f900000 := hp0_0.conv (fun P_ => h0 P_ _ hd1) (fun _ h_ => h1 0 1 h_ rfl rfl)
  clear h0 h1 hs0
  rw [tidewrackref14_Find] at H
  refine x_seq ?_
  refine wpIn_region_lit ?_
  refine x_op hk rfl ?_
  refine op_box (o := oi) (t := 51) (v := .agg #[.int .i64 p0.Most, .slice Ap0_0 (p0.L).length cp0_0]) (cs := [.int .i64 p0.Most, .slice Ap0_0 (p0.L).length cp0_0]) hk rfl rfl 2 fun bx4 w1 o2 st3 f5 => ?_
  replace f900000 := f900000.st st3 (by decide)
  replace hs := hs.locQ st3 hob rfl
  have hk := hk.put 2 (.pointer (some ⟨bx4, 0, none⟩)) rfl
  refine x_run tab hk (k := 2) (lv := []) (ks := [1, 2]) (e' := [(1, .int .i64 p1), (2, .pointer (some ⟨bx4, 0, none⟩))]) rfl trivial fun a hk => ?_
  refine wpListIn_nil ?_
  refine then_n ?_
  refine x_mid (fun a_ w_ => ∃ o69 : Nat → Nat, Kn 22 a_ [] ∧ St [] w oi w_ o69 ∧ tidewrackref14_Find_j1 = some r) ?_ ?_
  rotate_left
  · rintro a w70 ⟨o69, hk, hs, H⟩
    rw [tidewrackref14_Find_j1] at H
    refine x_seq ?_
    refine wpIn_region_lit ?_
    refine x_run tab hk (k := 2) (lv := []) (ks := [4, 5]) (e' := [(4, .slice none 0 0), (5, .bool false)]) rfl trivial fun a hk => ?_
    refine wpListIn_nil ?_
    refine then_n ?_
    refine wpIn_ret ?_
    obtain rfl := Option.some.inj H
    exact x_retG hk (rs := [.tmp 4, .tmp 5]) (vs := [.slice none 0 0, .bool false]) rfl ⟨rfl, rfl, trivial⟩ ⟨cl w oi o [] (fun l_ => if l_ = 1 then LF else 0) o69, none, 0, rfl, hs.closeF (Lm := []) (Sh := []) hoa rfl (fun l_ => if l_ = 1 then LF else 0), (Ft.of_all (fun _ => (fun h_ => absurd h_ (by simp))) _ _ _), (by simp)⟩
  refine x_seq ?_
  refine wpIn_region_lit ?_
  refine x_run tab hk (k := 4) (lv := [.slice Ap0_0 (p0.L).length cp0_0]) (ks := [1, 9, 10, 11]) (e' := [(1, .int .i64 p1), (9, .slice Ap0_0 (p0.L).length cp0_0), (10, .int .i64 ((p0.L).length : Int)), (11, .int .i64 0)]) rfl ⟨(load1 tab rfl ((Bx.cell f5.now 1).trans rfl)), trivial⟩ fun a hk => ?_
  refine wpListIn_nil ?_
  refine then_n ?_
  refine wpIn_block ?_
  refine x_loop (fun j_ a_ w_ => ∃ o91 : Nat → Nat, ∃ x92 : Int, Kn 22 a_ [(1, .int .i64 p1), (9, .slice Ap0_0 (p0.L).length cp0_0), (10, .int .i64 ((p0.L).length : Int)), (11, .int .i64 x92)] ∧ St [] w oi w_ o91 ∧ NRd dT87 Ap0_0 p0.L w_ o91 0 1 ∧ tidewrackref14_Find_l2 p0 p1 j_ x92 = some r) (k := K) ⟨o2, 0, (by exact Kn.pick (ks := [1, 9, 10, 11]) hk rfl), hs, f900000, H⟩ (by rintro _ _ ⟨_, _, _, _, _, H_⟩; exact absurd (show (none : Option ((List T75) × Bool)) = some r from H_) (by simp)) ?_
  rintro k111 a w110 ⟨o91, x92, hk, hs, f900000, H⟩
  rw [tidewrackref14_Find_l2] at H
  obtain ⟨lp112, hlp113⟩ : ∃ lp_, lp_ = tidewrackref14_Find_l2 p0 p1 k111 := ⟨_, rfl⟩
  rw [← hlp113] at H
  refine x_seq ?_
  refine wpIn_region_lit ?_
  refine x_run tab hk (k := 1) (lv := []) (ks := [1, 9, 10, 11, 12]) (e' := [(1, .int .i64 p1), (9, .slice Ap0_0 (p0.L).length cp0_0), (10, .int .i64 ((p0.L).length : Int)), (11, .int .i64 x92), (12, .bool (decide (x92 < ((p0.L).length : Int))))]) rfl trivial fun a hk => ?_
  refine wpListIn_nil ?_
  refine then_n ?_
  refine x_seq ?_
  cases b114 : (decide (x92 < ((p0.L).length : Int)))
  · rw [b114] at hk H
    replace H := bifF H
    refine x_if hk (b := false) rfl ?_
    refine (show Code.wpIn _ _ _ _ _ _ _ from ?_)
    refine wpIn_exit ?_
    refine then_x ?_
    refine then_x ?_
    refine blk_x ?_
    refine then_n ?_
    exact ⟨o91, (by exact Kn.pick (ks := []) hk rfl), hs, H⟩
  · rw [b114] at hk H
    replace H := bifT H
    refine x_if hk (b := true) rfl ?_
    refine (show Code.wpIn _ _ _ _ _ _ _ from ?_)
    refine wpIn_skip ?_
    refine then_n ?_
    refine x_seq ?_
    refine wpIn_block ?_
    refine x_seq ?_
    refine wpIn_region_lit ?_
    obtain ⟨q115, H⟩ := ifS H
    obtain ⟨ad116, hAad116⟩ := NRd.addr f900000 q115
    have hk_C := hk
    have f900000_C := f900000
    subst hAad116
    have hk := hk_C
    clear hk_C
    have f900000 := f900000_C
    clear f900000_C
    obtain ⟨A117, c118, f119, f120, hc121⟩ := elT87 f900000 (i := x92) q115
    refine x_run tab hk (k := 2) (lv := [.agg #[.int .i64 ((rdD zT87 p0.L x92).I), .slice A117 ((rdD zT87 p0.L x92).L).length c118]]) (ks := [1, 9, 10, 11, 14]) (e' := [(1, .int .i64 p1), (9, .slice (some ad116) (p0.L).length cp0_0), (10, .int .i64 ((p0.L).length : Int)), (11, .int .i64 x92), (14, .agg #[.int .i64 ((rdD zT87 p0.L x92).I), .slice A117 ((rdD zT87 p0.L x92).L).length c118])]) rfl ⟨q115, (CellsAt.all f119.now tab rfl rfl rfl), trivial⟩ fun a hk => ?_
    refine x_op hk rfl ?_
    refine op_alloc (o := o91) tab (t := 88) (cs := [.int .i64 0, .slice none 0 0]) rfl rfl 8 fun bx125 w122 o123 st124 f126 => ?_
    replace f120 := f120.st st124 (by decide)
    replace f900000 := f900000.st st124 (by decide)
    replace hs := hs.locQ st124 hob rfl
    have hk := hk.put 7 (.pointer (some ⟨bx125, 0, none⟩)) rfl
    refine x_op hk rfl ?_
    refine op_store tab hk (t := 88) (v := .agg #[.int .i64 ((rdD zT87 p0.L x92).I), .slice A117 ((rdD zT87 p0.L x92).L).length c118]) (b := bx125) (k := 0) (cs' := [.int .i64 ((rdD zT87 p0.L x92).I), .slice A117 ((rdD zT87 p0.L x92).L).length c118]) rfl rfl rfl rfl rfl rfl f126 rfl rfl fun w127 o128 st129 f126_ => ?_
    replace f120 := f120.st st129 (by decide)
    replace f900000 := f900000.st st129 (by decide)
    replace hs := hs.locQ st129 hob rfl
    replace f126 := f126_
    refine wpListIn_nil ?_
    refine then_n ?_
    refine x_seq ?_
    refine wpIn_region_lit ?_
    refine x_run tab hk (k := 4) (lv := [.int .i64 ((rdD zT87 p0.L x92).I)]) (ks := [1, 7, 9, 10, 11, 18]) (e' := [(1, .int .i64 p1), (7, .pointer (some ⟨bx125, 0, none⟩)), (9, .slice (some ad116) (p0.L).length cp0_0), (10, .int .i64 ((p0.L).length : Int)), (11, .int .i64 x92), (18, .bool (((rdD zT87 p0.L x92).I) == p1))]) rfl ⟨(load1 tab rfl ((Bx.cell f126.now 0).trans rfl)), trivial⟩ fun a hk => ?_
    refine wpListIn_nil ?_
    refine then_n ?_
    cases b130 : (((rdD zT87 p0.L x92).I) == p1)
    · rw [b130] at hk H
      replace H := bifF H
      refine x_if hk (b := false) rfl ?_
      refine (show Code.wpIn _ _ _ _ _ _ _ from ?_)
      refine wpIn_skip ?_
      refine blk_n ?_
      refine then_n ?_
      refine wpIn_region_lit ?_
      refine x_run tab hk (k := 2) (lv := []) (ks := [1, 9, 10, 11]) (e' := [(1, .int .i64 p1), (9, .slice (some ad116) (p0.L).length cp0_0), (10, .int .i64 ((p0.L).length : Int)), (11, .int .i64 (IntKind.wrap .i64 (x92 + 1)))]) rfl trivial fun a hk => ?_
      refine wpListIn_nil ?_
      refine then_n ?_
      exact ⟨k111, Nat.le_refl _, o128, (IntKind.wrap .i64 (x92 + 1)), (by exact Kn.pick (ks := [1, 9, 10, 11]) hk rfl), hs, f900000, (hlp113 ▸ H)⟩
    · rw [b130] at hk H
      replace H := bifT H
      refine x_if hk (b := true) rfl ?_
      refine (show Code.wpIn _ _ _ _ _ _ _ from ?_)
      refine x_seq ?_
      refine wpIn_region_lit ?_
      refine x_run tab hk (k := 4) (lv := [.slice A117 ((rdD zT87 p0.L x92).L).length c118]) (ks := [4, 5]) (e' := [(4, .slice A117 ((rdD zT87 p0.L x92).L).length c118), (5, .bool true)]) rfl ⟨(load1 tab rfl ((Bx.cell f126.now 1).trans rfl)), trivial⟩ fun a hk => ?_
      refine wpListIn_nil ?_
      refine then_n ?_
      refine wpIn_ret ?_
      refine blk_r ?_
      refine then_r ?_
      refine then_r ?_
      refine blk_r ?_
      refine then_r ?_
      obtain rfl := Option.some.inj H
      exact x_retG hk (rs := [.tmp 4, .tmp 5]) (vs := [.slice A117 ((rdD zT87 p0.L x92).L).length c118, .bool true]) rfl ⟨rfl, rfl, trivial⟩ ⟨cl w oi o [] (fun l_ => if l_ = 1 then LF else 0) o128, A117, c118, rfl, hs.closeF (Lm := []) (Sh := []) hoa rfl (fun l_ => if l_ = 1 then LF else 0), hs.closeM_ft (o := o) (ρ := fun l_ => if l_ = 1 then LF else 0) f120 (lab_at hoa (i := 0) rfl) rfl, hc121⟩

/-! tidewrack/tidewrackref14.Get -/
theorem tidewrackref14_Get_calls (K : Nat) (Ap0_0 : Option Addr) (cp0_0 : Nat) (p0 : T50) (p1 : Int) (w : World) (o : Nat → Nat) (LF : Nat) (Lp0_0 : Nat) (hp0_0 : NRd dT87 Ap0_0 p0.L w o Lp0_0 LF) (hcp0_0 : (p0.L).length ≤ cp0_0) (hd0 : ([LF, Lp0_0] : List Nat).Nodup) (r : T50 × (List T75) × Bool) (H : tidewrackref14_Get K p0 p1 = some r) :
    Calls Try.prog 34 #[.agg #[.int .i64 p0.Most, .slice Ap0_0 (p0.L).length cp0_0], .int .i64 p1] w (Ret fun v_ w' => ∃ o' : Nat → Nat, ∃ A0 : Option Addr, ∃ c0 : Nat, ∃ A1 : Option Addr, ∃ c1 : Nat, v_ = .tuple #[.agg #[.int .i64 r.1.Most, .slice A0 (r.1.L).length c0], .slice A1 (r.2.1).length c1, .bool r.2.2] ∧ St [] w o w' o' ∧ NRd dT87 A0 r.1.L w' o' Lp0_0 LF ∧ (r.1.L).length ≤ c0 ∧ Ft (RdC ET75 A1 r.2.1) w' o' LF ∧ (r.2.1).length ≤ c1) := by
  refine x_enter (vs := [.agg #[.int .i64 p0.Most, .slice Ap0_0 (p0.L).length cp0_0], .int .i64 p1]) Try.func34 rfl rfl rfl fun a hk => ?_
  obtain ⟨oi, hs0, h0, h1, hob, hoz, hoa⟩ := St.startM2 w o (m := 2) hd0 rfl
  have hs := hs0 []
  have f900000 := hp0_0.conv (fun _ h_ => h1 1 2 h_ rfl rfl) (fun _ h_ => h1 0 1 h_ rfl rfl)
  clear h0 h1 hs0
  rw [tidewrackref14_Get] at H
  refine x_seq ?_
  refine wpIn_region_lit ?_
  refine x_op hk rfl ?_
  refine op_box (o := oi) (t := 51) (v := .agg #[.int .i64 p0.Most, .slice Ap0_0 (p0.L).length cp0_0]) (cs := [.int .i64 p0.Most, .slice Ap0_0 (p0.L).length cp0_0]) hk rfl rfl 3 fun bx4 w1 o2 st3 f5 => ?_
  replace f900000 := f900000.st st3 (by decide)
  replace hs := hs.locQ st3 hob rfl
  have hk := hk.put 2 (.pointer (some ⟨bx4, 0, none⟩)) rfl
  refine x_op hk rfl ?_
  refine op_alloc (o := o2) tab (t := 51) (cs := [.int .i64 0, .slice none 0 0]) rfl rfl 4 fun bx9 w6 o7 st8 f10 => ?_
  replace f5 := f5.st st8 (by decide)
  replace f900000 := f900000.st st8 (by decide)
  replace hs := hs.locQ st8 hob rfl
  have hk := hk.put 4 (.pointer (some ⟨bx9, 0, none⟩)) rfl
  refine x_run tab hk (k := 2) (lv := []) (ks := [1, 2, 4]) (e' := [(1, .int .i64 p1), (2, .pointer (some ⟨bx4, 0, none⟩)), (4, .pointer (some ⟨bx9, 0, none⟩))]) rfl trivial fun a hk => ?_
  refine wpListIn_nil ?_
  refine then_n ?_
  refine x_seq ?_
  refine wpIn_region_lit ?_
  refine x_run tab hk (k := 2) (lv := [.agg #[.int .i64 p0.Most, .slice Ap0_0 (p0.L).length cp0_0]]) (ks := [1, 2, 4, 10, 11]) (e' := [(1, .int .i64 p1), (2, .pointer (some ⟨bx4, 0, none⟩)), (4, .pointer (some ⟨bx9, 0, none⟩)), (10, .agg #[.int .i64 p0.Most, .slice Ap0_0 (p0.L).length cp0_0]), (11, .int .i64 p1)]) rfl ⟨(load_box tab rfl rfl f5.now (k := 0) rfl rfl), trivial⟩ fun a hk => ?_
  refine x_op hk rfl ?_
  obtain ⟨t14, hc15, H⟩ := bindS H
  refine op_call hk ent_35 (vs := [.agg #[.int .i64 p0.Most, .slice Ap0_0 (p0.L).length cp0_0], .int .i64 p1]) rfl (tidewrackref14_Find_calls K Ap0_0 cp0_0 p0 p1 _ o7 1 _ f900000 hcp0_0 (by decide) (by decide)   _ hc15) ?_
  rintro _ w16 ⟨o17, A19, c20, rfl, st18, f21, hc22⟩
  replace f10 := f10.st st18 (by decide)
  replace f5 := f5.st st18 (by decide)
  replace f900000 := f900000.st st18 (by decide)
  replace hs := hs.locQ st18 hob rfl
  have hk := hk.put 12 (.tuple #[.slice A19 (t14.1).length c20, .bool t14.2]) rfl
  refine x_run tab hk (k := 5) (lv := []) (ks := [1, 2, 4, 7, 8]) (e' := [(1, .int .i64 p1), (2, .pointer (some ⟨bx4, 0, none⟩)), (4, .pointer (some ⟨bx9, 0, none⟩)), (7, .slice A19 (t14.1).length c20), (8, .bool t14.2)]) rfl trivial fun a hk => ?_
  refine wpListIn_nil ?_
  refine then_n ?_
  refine x_seq ?_
  refine x_seq ?_
  refine wpIn_region_lit ?_
  refine x_run tab hk (k := 2) (lv := []) (ks := [1, 2, 4, 7, 16]) (e' := [(1, .int .i64 p1), (2, .pointer (some ⟨bx4, 0, none⟩)), (4, .pointer (some ⟨bx9, 0, none⟩)), (7, .slice A19 (t14.1).length c20), (16, .bool (!t14.2))]) rfl trivial fun a hk => ?_
  refine wpListIn_nil ?_
  refine then_n ?_
  cases b23 : (!t14.2)
  · rw [b23] at hk H
    replace H := bifF H
    refine x_if hk (b := false) rfl ?_
    refine (show Code.wpIn _ _ _ _ _ _ _ from ?_)
    refine wpIn_skip ?_
    refine then_n ?_
    refine x_seq ?_
    refine wpIn_region_lit ?_
    refine x_run tab hk (k := 4) (lv := [.agg #[.int .i64 p0.Most, .slice Ap0_0 (p0.L).length cp0_0]]) (ks := [4, 7, 18, 21]) (e' := [(4, .pointer (some ⟨bx9, 0, none⟩)), (7, .slice A19 (t14.1).length c20), (18, .agg #[.int .i64 p0.Most, .slice Ap0_0 (p0.L).length cp0_0]), (21, .agg #[.int .i64 p1, .slice A19 (t14.1).length c20])]) rfl ⟨(load_box tab rfl rfl f5.now (k := 0) rfl rfl), trivial⟩ fun a hk => ?_
    refine x_op hk rfl ?_
    obtain ⟨t27, hc28, H⟩ := bindS H
    refine op_call hk ent_49 (vs := [.agg #[.int .i64 p0.Most, .slice Ap0_0 (p0.L).length cp0_0], .agg #[.int .i64 p1, .slice A19 (t14.1).length c20]]) rfl (tidewrackref14_newest_calls K Ap0_0 cp0_0 p0 A19 c20 (⟨p1, t14.1⟩ : T87) _ o17 1 _ f900000 hcp0_0 f21 hc22 (by decide) (by decide) 5  _ hc28) ?_
    rintro _ w29 ⟨o30, A32, c33, rfl, st31, f34, hc35⟩
    replace f10 := f10.st st31 (by decide)
    replace f21 := f21.st st31 (by decide)
    replace f900000 := f900000.st st31 (by decide)
    replace hs := hs.locQ st31 hob rfl
    have hk := hk.put 22 (.agg #[.int .i64 t27.Most, .slice A32 (t27.L).length c33]) rfl
    refine x_run tab hk (k := 1) (lv := []) (ks := [4, 22, 23]) (e' := [(4, .pointer (some ⟨bx9, 0, none⟩)), (22, .agg #[.int .i64 t27.Most, .slice A32 (t27.L).length c33]), (23, .slice A19 (t14.1).length c20)]) rfl trivial fun a hk => ?_
    refine x_op hk rfl ?_
    refine op_store tab hk (t := 51) (v := .agg #[.int .i64 t27.Most, .slice A32 (t27.L).length c33]) (b := bx9) (k := 0) (cs' := [.int .i64 t27.Most, .slice A32 (t27.L).length c33]) rfl rfl rfl rfl rfl rfl f10 rfl rfl fun w36 o37 st38 f10_ => ?_
    replace f21 := f21.st st38 (by decide)
    replace f34 := f34.st st38 (by decide)
    replace hs := hs.locQ st38 hob rfl
    replace f10 := f10_
    refine x_run tab hk (k := 2) (lv := []) (ks := [4, 5, 6]) (e' := [(4, .pointer (some ⟨bx9, 0, none⟩)), (5, .slice A19 (t14.1).length c20), (6, .bool true)]) rfl trivial fun a hk => ?_
    refine wpListIn_nil ?_
    refine then_n ?_
    refine wpIn_ret ?_
    obtain rfl := Option.some.inj H
    exact x_retG hk (rs := [.cell 4 51, .tmp 5, .tmp 6]) (vs := [.agg #[.int .i64 t27.Most, .slice A32 (t27.L).length c33], .slice A19 (t14.1).length c20, .bool true]) rfl ⟨⟨_, rfl, load_box tab rfl rfl f10.now (k := 0) rfl rfl⟩, rfl, rfl, trivial⟩ ⟨cl w oi o [] (fun l_ => if l_ = 1 then LF else if l_ = 5 then Lp0_0 else 0) o37, A32, c33, A19, c20, rfl, hs.closeF (Lm := []) (Sh := [Lp0_0]) hoa rfl (fun l_ => if l_ = 1 then LF else if l_ = 5 then Lp0_0 else 0), f34.rd.conv (fun _ h_ => hs.closeM_ft (o := o) (ρ := fun l_ => if l_ = 1 then LF else if l_ = 5 then Lp0_0 else 0) h_ (lab_none hob rfl) rfl) (fun _ h_ => hs.closeM_ft (o := o) (ρ := fun l_ => if l_ = 1 then LF else if l_ = 5 then Lp0_0 else 0) h_ (lab_at hoa (i := 0) rfl) rfl), hc35, hs.closeM_ft (o := o) (ρ := fun l_ => if l_ = 1 then LF else if l_ = 5 then Lp0_0 else 0) f21 (lab_at hoa (i := 0) rfl) rfl, hc22⟩
  · rw [b23] at hk H
    replace H := bifT H
    refine x_if hk (b := true) rfl ?_
    refine (show Code.wpIn _ _ _ _ _ _ _ from ?_)
    refine x_seq ?_
    refine wpIn_region_lit ?_
    refine x_run tab hk (k := 1) (lv := [.agg #[.int .i64 p0.Most, .slice Ap0_0 (p0.L).length cp0_0]]) (ks := [4, 17]) (e' := [(4, .pointer (some ⟨bx9, 0, none⟩)), (17, .agg #[.int .i64 p0.Most, .slice Ap0_0 (p0.L).length cp0_0])]) rfl ⟨(load_box tab rfl rfl f5.now (k := 0) rfl rfl), trivial⟩ fun a hk => ?_
    refine x_op hk rfl ?_
    refine op_store tab hk (t := 51) (v := .agg #[.int .i64 p0.Most, .slice Ap0_0 (p0.L).length cp0_0]) (b := bx9) (k := 0) (cs' := [.int .i64 p0.Most, .slice Ap0_0 (p0.L).length cp0_0]) rfl rfl rfl rfl rfl rfl f10 rfl rfl fun w39 o40 st41 f10_ => ?_
    replace f900000 := f900000.st st41 (by decide)
    replace hs := hs.locQ st41 hob rfl
    replace f10 := f10_
    refine x_run tab hk (k := 2) (lv := []) (ks := [4, 5, 6]) (e' := [(4, .pointer (some ⟨bx9, 0, none⟩)), (5, .slice none 0 0), (6, .bool false)]) rfl trivial fun a hk => ?_
    refine wpListIn_nil ?_
    refine then_n ?_
    refine wpIn_ret ?_
    refine then_r ?_
    obtain rfl := Option.some.inj H
    exact x_retG hk (rs := [.cell 4 51, .tmp 5, .tmp 6]) (vs := [.agg #[.int .i64 p0.Most, .slice Ap0_0 (p0.L).length cp0_0], .slice none 0 0, .bool false]) rfl ⟨⟨_, rfl, load_box tab rfl rfl f10.now (k := 0) rfl rfl⟩, rfl, rfl, trivial⟩ ⟨cl w oi o [] (fun l_ => if l_ = 1 then LF else if l_ = 2 then Lp0_0 else 0) o40, Ap0_0, cp0_0, none, 0, rfl, hs.closeF (Lm := []) (Sh := [Lp0_0]) hoa rfl (fun l_ => if l_ = 1 then LF else if l_ = 2 then Lp0_0 else 0), f900000.conv (fun _ h_ => hs.closeM_ft (o := o) (ρ := fun l_ => if l_ = 1 then LF else if l_ = 2 then Lp0_0 else 0) h_ (lab_at hoa (i := 1) rfl) rfl) (fun _ h_ => hs.closeM_ft (o := o) (ρ := fun l_ => if l_ = 1 then LF else if l_ = 2 then Lp0_0 else 0) h_ (lab_at hoa (i := 0) rfl) rfl), hcp0_0, (Ft.of_all (fun _ => (fun h_ => absurd h_ (by simp))) _ _ _), (by simp)⟩

/-! tidewrack/tidewracklaw09.Glyphs -/
theorem tidewracklaw09_Glyphs_calls (K : Nat) (Ap0 : Option Addr) (cp0 : Nat) (p0 : List T59) (Ap1 : Option Addr) (cp1 : Nat) (p1 : List T75) (w : World) (o : Nat → Nat) (Lp0 : Nat) (hp0 : Ft (RdC ET59 Ap0 p0) w o Lp0) (hcp0 : (p0).length ≤ cp0) (Lp1 : Nat) (hp1 : Ft (RdC ET75 Ap1 p1) w o Lp1) (hcp1 : (p1).length ≤ cp1)  (r : Bool) (H : tidewracklaw09_Glyphs K p0 p1 = some r) :
    Calls Try.prog 12 #[.slice Ap0 (p0).length cp0, .slice Ap1 (p1).length cp1] w (Ret fun v_ w' => ∃ o' : Nat → Nat, v_ = .bool r ∧ St [] w o w' o') := by
  refine x_enter (vs := [.slice Ap0 (p0).length cp0, .slice Ap1 (p1).length cp1]) Try.func12 rfl rfl rfl fun a hk => ?_
  obtain ⟨o0, hs, h0⟩ := St.start w o
  have f900000 := h0 _ _ hp0
  have f900020 := h0 _ _ hp1
  clear h0
  rw [tidewracklaw09_Glyphs] at H
  refine x_seq ?_
  refine wpIn_region_lit ?_
  refine x_run tab hk (k := 1) (lv := []) (ks := [0, 1]) (e' := [(0, .slice Ap0 (p0).length cp0), (1, .slice Ap1 (p1).length cp1)]) rfl trivial fun a hk => ?_
  refine wpListIn_nil ?_
  refine then_n ?_
  refine x_seq ?_
  refine x_seq ?_
  refine wpIn_region_lit ?_
  refine x_run tab hk (k := 5) (lv := []) (ks := [0, 1, 11]) (e' := [(0, .slice Ap0 (p0).length cp0), (1, .slice Ap1 (p1).length cp1), (11, .bool (((p0).length : Int) != ((p1).length : Int)))]) rfl trivial fun a hk => ?_
  refine wpListIn_nil ?_
  refine then_n ?_
  cases b1 : (((p0).length : Int) != ((p1).length : Int))
  · rw [b1] at hk H
    replace H := bifF H
    refine x_if hk (b := false) rfl ?_
    refine (show Code.wpIn _ _ _ _ _ _ _ from ?_)
    refine wpIn_skip ?_
    refine then_n ?_
    refine x_mid (fun a_ w_ => ∃ o83 : Nat → Nat, Kn 39 a_ [] ∧ St [] w (fun _ => 0) w_ o83 ∧ tidewracklaw09_Glyphs_j1 = some r) ?_ ?_
    rotate_left
    · rintro a w84 ⟨o83, hk, hs, H⟩
      rw [tidewracklaw09_Glyphs_j1] at H
      refine x_seq ?_
      refine wpIn_region_lit ?_
      refine x_run tab hk (k := 1) (lv := []) (ks := [4]) (e' := [(4, .bool true)]) rfl trivial fun a hk => ?_
      refine wpListIn_nil ?_
      refine then_n ?_
      refine wpIn_ret ?_
      obtain rfl := Option.some.inj H
      exact x_retG hk (rs := [.tmp 4]) (vs := [.bool true]) rfl ⟨rfl, trivial⟩ ⟨fun b_ => if b_ < w.heap.size then o b_ else (fun _ => 0) (o83 b_), rfl, hs.close0 o (fun _ => 0)⟩
    refine x_seq ?_
    refine wpIn_region_lit ?_
    refine x_run tab hk (k := 3) (lv := []) (ks := [1, 12, 13, 14]) (e' := [(1, .slice Ap1 (p1).length cp1), (12, .slice Ap0 (p0).length cp0), (13, .int .i64 ((p0).length : Int)), (14, .int .i64 0)]) rfl trivial fun a hk => ?_
    refine wpListIn_nil ?_
    refine then_n ?_
    refine wpIn_block ?_
    refine x_loop (fun j_ a_ w_ => ∃ o111 : Nat → Nat, ∃ x112 : Int, Kn 39 a_ [(1, .slice Ap1 (p1).length cp1), (12, .slice Ap0 (p0).length cp0), (13, .int .i64 ((p0).length : Int)), (14, .int .i64 x112)] ∧ St [] w (fun _ => 0) w_ o111 ∧ Ft (RdC ET59 Ap0 p0) w_ o111 0 ∧ Ft (RdC ET75 Ap1 p1) w_ o111 0 ∧ tidewracklaw09_Glyphs_l2 p0 p1 j_ x112 = some r) (k := K) ⟨o0, 0, (by exact Kn.pick (ks := [1, 12, 13, 14]) hk rfl), hs, f900000, f900020, H⟩ (by rintro _ _ ⟨_, _, _, _, _, _, H_⟩; exact absurd (show (none : Option Bool) = some r from H_) (by simp)) ?_
    rintro k137 a w136 ⟨o111, x112, hk, hs, f900000, f900020, H⟩
    rw [tidewracklaw09_Glyphs_l2] at H
    obtain ⟨lp138, hlp139⟩ : ∃ lp_, lp_ = tidewracklaw09_Glyphs_l2 p0 p1 k137 := ⟨_, rfl⟩
    rw [← hlp139] at H
    refine x_seq ?_
    refine wpIn_region_lit ?_
    refine x_run tab hk (k := 1) (lv := []) (ks := [1, 12, 13, 14, 15]) (e' := [(1, .slice Ap1 (p1).length cp1), (12, .slice Ap0 (p0).length cp0), (13, .int .i64 ((p0).length : Int)), (14, .int .i64 x112), (15, .bool (decide (x112 < ((p0).length : Int))))]) rfl trivial fun a hk => ?_
    refine wpListIn_nil ?_
    refine then_n ?_
    refine x_seq ?_
    cases b140 : (decide (x112 < ((p0).length : Int)))
    · rw [b140] at hk H
      replace H := bifF H
      refine x_if hk (b := false) rfl ?_
      refine (show Code.wpIn _ _ _ _ _ _ _ from ?_)
      refine wpIn_exit ?_
      refine then_x ?_
      refine then_x ?_
      refine blk_x ?_
      refine then_n ?_
      exact ⟨o111, (by exact Kn.pick (ks := []) hk rfl), hs, H⟩
    · rw [b140] at hk H
      replace H := bifT H
      refine x_if hk (b := true) rfl ?_
      refine (show Code.wpIn _ _ _ _ _ _ _ from ?_)
      refine wpIn_skip ?_
      refine then_n ?_
      refine x_seq ?_
      refine wpIn_block ?_
      refine x_seq ?_
      refine wpIn_region_lit ?_
      obtain ⟨q141, H⟩ := ifS H
      obtain ⟨ad142, hAad142⟩ := RdC.addr f900000.now q141
      have hk_C := hk
      have f900000_C := f900000
      have f900020_C := f900020
      subst hAad142
      have hk := hk_C
      clear hk_C
      have f900000 := f900000_C
      clear f900000_C
      have f900020 := f900020_C
      clear f900020_C
      refine x_run tab hk (k := 3) (lv := [.agg #[.int .i32 ((rdD zT59 p0 x112).Rune), .int .i64 ((rdD zT59 p0 x112).Style)]]) (ks := [1, 12, 13, 14, 16, 18]) (e' := [(1, .slice Ap1 (p1).length cp1), (12, .slice (some ad142) (p0).length cp0), (13, .int .i64 ((p0).length : Int)), (14, .int .i64 x112), (16, .int .i64 x112), (18, .agg #[.int .i32 ((rdD zT59 p0 x112).Rune), .int .i64 ((rdD zT59 p0 x112).Style)])]) rfl ⟨q141, (load_elem (E := ET59) (i := x112) (dx := zT59) tab rfl rfl f900000.now q141), trivial⟩ fun a hk => ?_
      refine x_op hk rfl ?_
      refine op_alloc (o := o111) tab (t := 60) (cs := [.int .i32 0, .int .i64 0]) rfl rfl 6 fun bx146 w143 o144 st145 f147 => ?_
      replace f900000 := f900000.st st145 (by decide)
      replace f900020 := f900020.st st145 (by decide)
      replace hs := hs.loc0 st145 (by decide)
      have hk := hk.put 6 (.pointer (some ⟨bx146, 0, none⟩)) rfl
      refine x_run tab hk (k := 1) (lv := []) (ks := [1, 5, 6, 12, 13, 14, 18]) (e' := [(1, .slice Ap1 (p1).length cp1), (5, .int .i64 x112), (6, .pointer (some ⟨bx146, 0, none⟩)), (12, .slice (some ad142) (p0).length cp0), (13, .int .i64 ((p0).length : Int)), (14, .int .i64 x112), (18, .agg #[.int .i32 ((rdD zT59 p0 x112).Rune), .int .i64 ((rdD zT59 p0 x112).Style)])]) rfl trivial fun a hk => ?_
      refine x_op hk rfl ?_
      refine op_store tab hk (t := 60) (v := .agg #[.int .i32 ((rdD zT59 p0 x112).Rune), .int .i64 ((rdD zT59 p0 x112).Style)]) (b := bx146) (k := 0) (cs' := [.int .i32 ((rdD zT59 p0 x112).Rune), .int .i64 ((rdD zT59 p0 x112).Style)]) rfl rfl rfl rfl rfl rfl f147 rfl rfl fun w148 o149 st150 f147_ => ?_
      replace f900000 := f900000.st st150 (by decide)
      replace f900020 := f900020.st st150 (by decide)
      replace hs := hs.loc0 st150 (by decide)
      replace f147 := f147_
      refine wpListIn_nil ?_
      refine then_n ?_
      refine x_seq ?_
      refine xd_begin (o := o149) (fun W_ => (Bx bx146 60 [.int .i32 ((rdD zT59 p0 x112).Rune), .int .i64 ((rdD zT59 p0 x112).Style)]) W_ ∧ (RdC ET75 Ap1 p1) W_ ∧ True) mixed rfl rfl fun w157 st158 => ?_
      replace f147 := f147.st st158 (by decide)
      replace f900000 := f900000.st st158 (by decide)
      replace f900020 := f900020.st st158 (by decide)
      replace hs := hs.loc0 st158 (by decide)
      obtain ⟨q159, H⟩ := ifS H
      obtain ⟨ad160, hAad160⟩ := RdC.addr f900020.now q159
      have hk_C := hk
      have f147_C := f147
      have f900000_C := f900000
      have f900020_C := f900020
      subst hAad160
      have hk := hk_C
      clear hk_C
      have f147 := f147_C
      clear f147_C
      have f900000 := f900000_C
      clear f900000_C
      have f900020 := f900020_C
      clear f900020_C
      refine xd_take tab hk (k := 9) (is := [0, 1, 2, 3, 4, 5, 6, 7, 8, 9]) (ls' := #[true, true, true, true, true, true, true, true, true, true, false, false, false, false, false, false, false, false, false]) (lv := [.int .i32 ((rdD zT59 p0 x112).Rune), .int .i64 ((rdD zT75 p1 x112).Rune)]) (ks := [1, 5, 6, 12, 13, 14, 28]) (e' := [(1, .slice (some ad160) (p1).length cp1), (5, .int .i64 x112), (6, .pointer (some ⟨bx146, 0, none⟩)), (12, .slice (some ad142) (p0).length cp0), (13, .int .i64 ((p0).length : Int)), (14, .int .i64 x112), (28, .bool ((IntKind.wrap .i64 ((rdD zT59 p0 x112).Rune)) != ((rdD zT75 p1 x112).Rune)))]) (by kernel_rfl) rfl rfl (by kernel_rfl) (np_then (np_blk (np_then (np_then (np_blk (np_then np_body)))))) ⟨f147.now, f900020.now, trivial⟩ (fun W_ hS => ⟨(load1 tab rfl ((Bx.cell hS.1 0).trans rfl)), q159, (load1 tab rfl (RdC.at (E := ET75) (d := zT75) (i := x112) (j := 0) hS.2.1 q159 rfl)), trivial⟩) fun a hk => ?_
      cases b161 : ((IntKind.wrap .i64 ((rdD zT59 p0 x112).Rune)) != ((rdD zT75 p1 x112).Rune))
      · rw [b161] at hk H
        replace H := bifF H
        refine xd_take tab hk (k := 0) (is := [10, 11, 12, 13, 14, 15, 16, 17, 18]) (ls' := #[true, true, true, true, true, true, true, true, true, true, true, true, true, true, true, true, true, true, true]) (lv := [.int .i64 ((rdD zT59 p0 x112).Style), .int .i64 ((rdD zT75 p1 x112).Style)]) (ks := [1, 12, 13, 14, 37]) (e' := [(1, .slice (some ad160) (p1).length cp1), (12, .slice (some ad142) (p0).length cp0), (13, .int .i64 ((p0).length : Int)), (14, .int .i64 x112), (37, .bool (((rdD zT59 p0 x112).Style) != ((rdD zT75 p1 x112).Style)))]) (by kernel_rfl) rfl rfl (by kernel_rfl) (np_then (np_blk (np_then (np_then (np_blk (np_then np_body)))))) ⟨f147.now, f900020.now, trivial⟩ (fun W_ hS => ⟨(load1 tab rfl ((Bx.cell hS.1 1).trans rfl)), q159, (load1 tab rfl (RdC.at (E := ET75) (d := zT75) (i := x112) (j := 1) hS.2.1 q159 rfl)), trivial⟩) fun a hk => ?_
        refine xd_done (by kernel_rfl) ?_
        refine then_n ?_
        cases b162 : (((rdD zT59 p0 x112).Style) != ((rdD zT75 p1 x112).Style))
        · rw [b162] at hk H
          replace H := bifF H
          refine x_if hk (b := false) rfl ?_
          refine (show Code.wpIn _ _ _ _ _ _ _ from ?_)
          refine wpIn_skip ?_
          refine blk_n ?_
          refine then_n ?_
          refine wpIn_region_lit ?_
          refine x_run tab hk (k := 2) (lv := []) (ks := [1, 12, 13, 14]) (e' := [(1, .slice (some ad160) (p1).length cp1), (12, .slice (some ad142) (p0).length cp0), (13, .int .i64 ((p0).length : Int)), (14, .int .i64 (IntKind.wrap .i64 (x112 + 1)))]) rfl trivial fun a hk => ?_
          refine wpListIn_nil ?_
          refine then_n ?_
          exact ⟨k137, Nat.le_refl _, o149, (IntKind.wrap .i64 (x112 + 1)), (by exact Kn.pick (ks := [1, 12, 13, 14]) hk rfl), hs, f900000, f900020, (hlp139 ▸ H)⟩
        · rw [b162] at hk H
          replace H := bifT H
          refine x_if hk (b := true) rfl ?_
          refine (show Code.wpIn _ _ _ _ _ _ _ from ?_)
          refine x_seq ?_
          refine wpIn_region_lit ?_
          refine x_run tab hk (k := 1) (lv := []) (ks := [4]) (e' := [(4, .bool false)]) rfl trivial fun a hk => ?_
          refine wpListIn_nil ?_
          refine then_n ?_
          refine wpIn_ret ?_
          refine blk_r ?_
          refine then_r ?_
          refine then_r ?_
          refine blk_r ?_
          refine then_r ?_
          obtain rfl := Option.some.inj H
          exact x_retG hk (rs := [.tmp 4]) (vs := [.bool false]) rfl ⟨rfl, trivial⟩ ⟨fun b_ => if b_ < w.heap.size then o b_ else (fun _ => 0) (o149 b_), rfl, hs.close0 o (fun _ => 0)⟩
      · rw [b161] at hk H
        replace H := bifT H
        refine xd_take tab hk (k := 0) (is := [10, 11, 12, 13, 14, 15, 16, 17, 18]) (ls' := #[true, true, true, true, true, true, true, true, true, true, true, true, true, true, true, true, true, true, true]) (lv := []) (ks := [1, 12, 13, 14, 37]) (e' := [(1, .slice (some ad160) (p1).length cp1), (12, .slice (some ad142) (p0).length cp0), (13, .int .i64 ((p0).length : Int)), (14, .int .i64 x112), (37, .bool true)]) (by kernel_rfl) rfl rfl (by kernel_rfl) (np_then (np_blk (np_then (np_then (np_blk (np_then np_body)))))) ⟨f147.now, f900020.now, trivial⟩ (fun W_ hS => trivial) fun a hk => ?_
        refine xd_done (by kernel_rfl) ?_
        refine then_n ?_
        refine x_if hk (b := true) rfl ?_
        refine (show Code.wpIn _ _ _ _ _ _ _ from ?_)
        refine x_seq ?_
        refine wpIn_region_lit ?_
        refine x_run tab hk (k := 1) (lv := []) (ks := [4]) (e' := [(4, .bool false)]) rfl trivial fun a hk => ?_
        refine wpListIn_nil ?_
        refine then_n ?_
        refine wpIn_ret ?_
        refine blk_r ?_
        refine then_r ?_
        refine then_r ?_
        refine blk_r ?_
        refine then_r ?_
        obtain rfl := Option.some.inj H
        exact x_retG hk (rs := [.tmp 4]) (vs := [.bool false]) rfl ⟨rfl, trivial⟩ ⟨fun b_ => if b_ < w.heap.size then o b_ else (fun _ => 0) (o149 b_), rfl, hs.close0 o (fun _ => 0)⟩
  · rw [b1] at hk H
    replace H := bifT H
    refine x_if hk (b := true) rfl ?_
    refine (show Code.wpIn _ _ _ _ _ _ _ from ?_)
    refine x_seq ?_
    refine wpIn_region_lit ?_
    refine x_run tab hk (k := 1) (lv := []) (ks := [4]) (e' := [(4, .bool false)]) rfl trivial fun a hk => ?_
    refine wpListIn_nil ?_
    refine then_n ?_
    refine wpIn_ret ?_
    refine then_r ?_
    obtain rfl := Option.some.inj H
    exact x_retG hk (rs := [.tmp 4]) (vs := [.bool false]) rfl ⟨rfl, trivial⟩ ⟨fun b_ => if b_ < w.heap.size then o b_ else (fun _ => 0) (o0 b_), rfl, hs.close0 o (fun _ => 0)⟩

/-! (*tidewrack/cache.Cache).Clear -/
theorem cache_Cache_Clear_calls (bp0 : Nat) (Ap0_0 : Option Addr) (cp0_0 : Nat) (p0 : T62) (w : World) (o : Nat → Nat) (LF : Nat) (Lp0 : Nat) (hp0 : Ft (Bx bp0 63 [.int .i64 p0.most, .int .i64 p0.now, mv Ap0_0]) w o Lp0) (Lp0_0 : Nat) (hp0_0 : MpN dT71 true Ap0_0 p0.l w o Lp0_0 LF) (hcp0_0 : (p0.l).length ≤ cp0_0) (hd0 : ([LF, Lp0, Lp0_0] : List Nat).Nodup) (r : T62) (H : cache_Cache_Clear p0 = some r) :
    Calls Try.prog 36 #[.pointer (some ⟨bp0, 0, none⟩)] w (Ret fun v_ w' => ∃ o' : Nat → Nat, ∃ A0 : Option Addr, ∃ c0 : Nat, v_ = .tuple #[] ∧ St [Lp0, Lp0_0] w o w' o' ∧ Ft (Bx bp0 63 [.int .i64 r.most, .int .i64 r.now, mv A0]) w' o' Lp0 ∧ MpN dT71 true A0 r.l w' o' Lp0_0 LF ∧ (r.l).length ≤ c0) := by
  refine x_enter (vs := [.pointer (some ⟨bp0, 0, none⟩)]) Try.func36 rfl rfl rfl fun a hk => ?_
  obtain ⟨oi, hs0, h0, h1, hob, hoz, hoa⟩ := St.startM2 w o (m := 3) hd0 rfl
  have hs := hs0 [2, 3]
  have f900000 := hp0_0.conv (fun _ h_ => h1 2 3 h_ rfl rfl) (fun _ h_ => h1 0 1 h_ rfl rfl)
  have f900019 := h1 1 2 hp0 rfl rfl
  clear h0 h1 hs0
  rw [cache_Cache_Clear] at H
  refine wpIn_region_lit ?_
  refine x_run tab hk (k := 4) (lv := [mv Ap0_0]) (ks := [5]) (e' := [(5, mv Ap0_0)]) rfl ⟨(load1 tab rfl ((Bx.cell f900019.now 2).trans rfl)), trivial⟩ fun a hk => ?_
  refine x_op hk rfl ?_
  refine op_mwipeN tab hk (D := dT71) (ag := true) rfl rfl f900000 (by decide) fun w1 st3 f900000_ => ?_
  replace f900019 := f900019.st st3 (by decide)
  replace hs := hs.locQ st3 hob rfl
  replace f900000 := f900000_
  refine wpListIn_nil ?_
  obtain rfl := Option.some.inj H
  exact x_endG hk (rs := []) (vs := []) rfl trivial ⟨cl w oi o [2, 3] (fun l_ => if l_ = 1 then LF else if l_ = 2 then Lp0 else if l_ = 3 then Lp0_0 else 0) oi, Ap0_0, ((M.wipe p0.l)).length, rfl, hs.closeF (Lm := [Lp0, Lp0_0]) (Sh := []) hoa rfl (fun l_ => if l_ = 1 then LF else if l_ = 2 then Lp0 else if l_ = 3 then Lp0_0 else 0), hs.closeM_ft (o := o) (ρ := fun l_ => if l_ = 1 then LF else if l_ = 2 then Lp0 else if l_ = 3 then Lp0_0 else 0) f900019 (lab_at hoa (i := 1) rfl) rfl, f900000.conv (fun _ h_ => hs.closeM_ft (o := o) (ρ := fun l_ => if l_ = 1 then LF else if l_ = 2 then Lp0 else if l_ = 3 then Lp0_0 else 0) h_ (lab_at hoa (i := 2) rfl) rfl) (fun _ h_ => hs.closeM_ft (o := o) (ρ := fun l_ => if l_ = 1 then LF else if l_ = 2 then Lp0 else if l_ = 3 then Lp0_0 else 0) h_ (lab_at hoa (i := 0) rfl) rfl), (Nat.le_refl _)⟩

/-! tidewrack/tidewracklaw14.do -/
set_option maxHeartbeats 4000000 in
set_option maxRecDepth 20000 in
theorem tidewracklaw14_do_calls (K : Nat) (bp0 : Nat) (Ap0_0 : Option Addr) (cp0_0 : Nat) (p0 : T62) (Ap1_0 : Option Addr) (cp1_0 : Nat) (p1 : T50) (Ap2_0 : Option Addr) (cp2_0 : Nat) (p2 : T29) (w : World) (o : Nat → Nat) (LF : Nat) (Lp0 : Nat) (hp0 : Ft (Bx bp0 63 [.int .i64 p0.most, .int .i64 p0.now, mv Ap0_0]) w o Lp0) (Lp0_0 : Nat) (hp0_0 : MpN dT71 true Ap0_0 p0.l w o Lp0_0 LF) (hcp0_0 : (p0.l).length ≤ cp0_0) (Lp1_0 : Nat) (hp1_0 : NRd dT87 Ap1_0 p1.L w o Lp1_0 LF) (hcp1_0 : (p1.L).length ≤ cp1_0) (Lp2_0 : Nat) (hp2_0 : Ft (RdC ET59 Ap2_0 p2.L) w o Lp2_0) (hcp2_0 : (p2.L).length ≤ cp2_0) (hd0 : ([LF, Lp0, Lp0_0, Lp1_0] : List Nat).Nodup) (hd1 : Lp2_0 ∉ [LF, Lp0, Lp0_0, Lp1_0]) (r : T50 × Bool × T62) (H : tidewracklaw14_do K p0 p1 p2 = some r) :
    Calls Try.prog 19 #[.pointer (some ⟨bp0, 0, none⟩), .agg #[.int .i64 p1.Most, .slice Ap1_0 (p1.L).length cp1_0], .agg #[.int .i64 p2.Kind, .int .i64 p2.I, .slice Ap2_0 (p2.L).length cp2_0]] w (Ret fun v_ w' => ∃ o' : Nat → Nat, ∃ A0 : Option Addr, ∃ c0 : Nat, ∃ A1 : Option Addr, ∃ c1 : Nat, v_ = .tuple #[.agg #[.int .i64 r.1.Most, .slice A0 (r.1.L).length c0], .bool r.2.1] ∧ St [Lp0, Lp0_0] w o w' o' ∧ NRd dT87 A0 r.1.L w' o' Lp1_0 LF ∧ (r.1.L).length ≤ c0 ∧ Ft (Bx bp0 63 [.int .i64 r.2.2.most, .int .i64 r.2.2.now, mv A1]) w' o' Lp0 ∧ MpN dT71 true A1 r.2.2.l w' o' Lp0_0 LF ∧ (r.2.2.l).length ≤ c1) := by
  refine x_enter (vs := [.pointer (some ⟨bp0, 0, none⟩), .agg #[.int .i64 p1.Most, .slice Ap1_0 (p1.L).length cp1_0], .agg #[.int .i64 p2.Kind, .int .i64 p2.I, .slice Ap2_0 (p2.L).length cp2_0]]) Try.func19 rfl rfl rfl fun a hk => ?_
  obtain ⟨oi, hs0, h0, h1, hob, hoz, hoa⟩ := St.startM2 w o (m := 4) hd0 rfl
  have hs := hs0 [2, 3]
  have f900000 := hp0_0.conv (fun _ h_ => h1 2 3 h_ rfl rfl) (fun _ h_ => h1 0 1 h_ rfl rfl)
  have f900019 := h1 1 2 hp0 rfl rfl
  have f900020 := hp1_0.conv (fun _ h_ => h1 3 4 h_ rfl rfl) (fun _ h_ => h1 0 1 h_ rfl rfl)
  have f900040 := h0 _ _ hd1 hp2_0
  clear h0 h1 hs0
  rw [tidewracklaw14_do] at H
  refine x_seq ?_
  refine wpIn_region_lit ?_
  refine x_op hk rfl ?_
  refine op_box (o := oi) (t := 51) (v := .agg #[.int .i64 p1.Most, .slice Ap1_0 (p1.L).length cp1_0]) (cs := [.int .i64 p1.Most, .slice Ap1_0 (p1.L).length cp1_0]) hk rfl rfl 5 fun bx4 w1 o2 st3 f5 => ?_
  replace f900000 := f900000.st st3 (by decide)
  replace f900019 := f900019.st st3 (by decide)
  replace f900020 := f900020.st st3 (by decide)
  replace f900040 := f900040.st st3 (by decide)
  replace hs := hs.locQ st3 hob rfl
  have hk := hk.put 4 (.pointer (some ⟨bx4, 0, none⟩)) rfl
  refine x_op hk rfl ?_
  refine op_box (o := o2) (t := 30) (v := .agg #[.int .i64 p2.Kind, .int .i64 p2.I, .slice Ap2_0 (p2.L).length cp2_0]) (cs := [.int .i64 p2.Kind, .int .i64 p2.I, .slice Ap2_0 (p2.L).length cp2_0]) hk rfl rfl 6 fun bx9 w6 o7 st8 f10 => ?_
  replace f5 := f5.st st8 (by decide)
  replace f900000 := f900000.st st8 (by decide)
  replace f900019 := f900019.st st8 (by decide)
  replace f900020 := f900020.st st8 (by decide)
  replace f900040 := f900040.st st8 (by decide)
  replace hs := hs.locQ st8 hob rfl
  have hk := hk.put 5 (.pointer (some ⟨bx9, 0, none⟩)) rfl
  refine x_op hk rfl ?_
  refine op_alloc (o := o7) tab (t := 51) (cs := [.int .i64 0, .slice none 0 0]) rfl rfl 7 fun bx14 w11 o12 st13 f15 => ?_
  replace f10 := f10.st st13 (by decide)
  replace f5 := f5.st st13 (by decide)
  replace f900000 := f900000.st st13 (by decide)
  replace f900019 := f900019.st st13 (by decide)
  replace f900020 := f900020.st st13 (by decide)
  replace f900040 := f900040.st st13 (by decide)
  replace hs := hs.locQ st13 hob rfl
  have hk := hk.put 6 (.pointer (some ⟨bx14, 0, none⟩)) rfl
  refine x_run tab hk (k := 1) (lv := []) (ks := [0, 4, 5, 6]) (e' := [(0, .pointer (some ⟨bp0, 0, none⟩)), (4, .pointer (some ⟨bx4, 0, none⟩)), (5, .pointer (some ⟨bx9, 0, none⟩)), (6, .pointer (some ⟨bx14, 0, none⟩))]) rfl trivial fun a hk => ?_
  refine wpListIn_nil ?_
  refine then_n ?_
  refine x_seq ?_
  refine x_seq ?_
  refine wpIn_region_lit ?_
  refine x_run tab hk (k := 2) (lv := [.int .i64 p2.Kind]) (ks := [0, 4, 5, 6, 24]) (e' := [(0, .pointer (some ⟨bp0, 0, none⟩)), (4, .pointer (some ⟨bx4, 0, none⟩)), (5, .pointer (some ⟨bx9, 0, none⟩)), (6, .pointer (some ⟨bx14, 0, none⟩)), (24, .int .i64 p2.Kind)]) rfl ⟨(load1 tab rfl ((Bx.cell f10.now 0).trans rfl)), trivial⟩ fun a hk => ?_
  refine wpListIn_nil ?_
  refine then_n ?_
  refine wpIn_block ?_
  refine x_seq ?_
  refine wpIn_region_lit ?_
  refine x_run tab hk (k := 2) (lv := []) (ks := [0, 4, 5, 6, 24, 25]) (e' := [(0, .pointer (some ⟨bp0, 0, none⟩)), (4, .pointer (some ⟨bx4, 0, none⟩)), (5, .pointer (some ⟨bx9, 0, none⟩)), (6, .pointer (some ⟨bx14, 0, none⟩)), (24, .int .i64 p2.Kind), (25, .bool (p2.Kind == (0 : Int)))]) rfl trivial fun a hk => ?_
  refine wpListIn_nil ?_
  refine then_n ?_
  cases b16 : (p2.Kind == (0 : Int))
  · rw [b16] at hk H
    replace H := bifF H
    refine x_if hk (b := false) rfl ?_
    refine (show Code.wpIn _ _ _ _ _ _ _ from ?_)
    refine x_seq ?_
    refine wpIn_region_lit ?_
    refine x_run tab hk (k := 2) (lv := []) (ks := [0, 4, 5, 6, 24, 63]) (e' := [(0, .pointer (some ⟨bp0, 0, none⟩)), (4, .pointer (some ⟨bx4, 0, none⟩)), (5, .pointer (some ⟨bx9, 0, none⟩)), (6, .pointer (some ⟨bx14, 0, none⟩)), (24, .int .i64 p2.Kind), (63, .bool (p2.Kind == (1 : Int)))]) rfl trivial fun a hk => ?_
    refine wpListIn_nil ?_
    refine then_n ?_
    cases b17 : (p2.Kind == (1 : Int))
    · rw [b17] at hk H
      replace H := bifF H
      refine x_if hk (b := false) rfl ?_
      refine (show Code.wpIn _ _ _ _ _ _ _ from ?_)
      refine x_seq ?_
      refine wpIn_region_lit ?_
      refine x_run tab hk (k := 2) (lv := []) (ks := [0, 4, 5, 6, 89]) (e' := [(0, .pointer (some ⟨bp0, 0, none⟩)), (4, .pointer (some ⟨bx4, 0, none⟩)), (5, .pointer (some ⟨bx9, 0, none⟩)), (6, .pointer (some ⟨bx14, 0, none⟩)), (89, .bool (p2.Kind == (2 : Int)))]) rfl trivial fun a hk => ?_
      refine wpListIn_nil ?_
      refine then_n ?_
      cases b18 : (p2.Kind == (2 : Int))
      · rw [b18] at hk H
        replace H := bifF H
        refine x_if hk (b := false) rfl ?_
        refine (show Code.wpIn _ _ _ _ _ _ _ from ?_)
        refine wpIn_skip ?_
        refine blk_n ?_
        refine then_n ?_
        refine x_seq ?_
        refine wpIn_region_lit ?_
        refine x_run tab hk (k := 1) (lv := []) (ks := [4, 6, 114]) (e' := [(4, .pointer (some ⟨bx4, 0, none⟩)), (6, .pointer (some ⟨bx14, 0, none⟩)), (114, .pointer (some ⟨bp0, 0, none⟩))]) rfl trivial fun a hk => ?_
        refine x_op hk rfl ?_
        obtain ⟨t22, hc23, H⟩ := bindS H
        refine op_call hk ent_36 (vs := [.pointer (some ⟨bp0, 0, none⟩)]) rfl (cache_Cache_Clear_calls bp0 Ap0_0 cp0_0 p0 _ o12 1 2 f900019 3 f900000 hcp0_0 (by decide)   _ hc23) ?_
        rintro _ w24 ⟨o25, A28, c29, rfl, st26, f27, f30, hc31⟩
        replace f15 := f15.st st26 (by decide)
        replace f5 := f5.st st26 (by decide)
        replace f900020 := f900020.st st26 (by decide)
        replace hs := hs.locQ st26 hob rfl
        have hk := hk.put 115 (.tuple #[]) rfl
        refine wpListIn_nil ?_
        refine then_n ?_
        refine x_seq ?_
        refine wpIn_region_lit ?_
        refine x_run tab hk (k := 3) (lv := [.int .i64 p1.Most]) (ks := [6, 118]) (e' := [(6, .pointer (some ⟨bx14, 0, none⟩)), (118, .agg #[.int .i64 p1.Most, .slice none 0 0])]) rfl ⟨(load1 tab rfl ((Bx.cell f5.now 0).trans rfl)), trivial⟩ fun a hk => ?_
        refine x_op hk rfl ?_
        refine op_store tab hk (t := 51) (v := .agg #[.int .i64 p1.Most, .slice none 0 0]) (b := bx14) (k := 0) (cs' := [.int .i64 p1.Most, .slice none 0 0]) rfl rfl rfl rfl rfl rfl f15 rfl rfl fun w32 o33 st34 f15_ => ?_
        replace f27 := f27.st st34 (by decide)
        replace f30 := f30.st st34 (by decide)
        replace hs := hs.locQ st34 hob rfl
        replace f15 := f15_
        refine x_run tab hk (k := 1) (lv := []) (ks := [6, 7]) (e' := [(6, .pointer (some ⟨bx14, 0, none⟩)), (7, .bool true)]) rfl trivial fun a hk => ?_
        refine wpListIn_nil ?_
        refine then_n ?_
        refine wpIn_ret ?_
        obtain rfl := Option.some.inj H
        exact x_retG hk (rs := [.cell 6 51, .tmp 7]) (vs := [.agg #[.int .i64 p1.Most, .slice none 0 0], .bool true]) rfl ⟨⟨_, rfl, load_box tab rfl rfl f15.now (k := 0) rfl rfl⟩, rfl, trivial⟩ ⟨cl w oi o [2, 3] (fun l_ => if l_ = 1 then LF else if l_ = 2 then Lp0 else if l_ = 3 then Lp0_0 else 0) o33, none, 0, A28, c29, rfl, hs.closeF (Lm := [Lp0, Lp0_0]) (Sh := [Lp1_0]) hoa rfl (fun l_ => if l_ = 1 then LF else if l_ = 2 then Lp0 else if l_ = 3 then Lp0_0 else 0), (NRd.nil _ _ _ _ _ _), (by simp), hs.closeM_ft (o := o) (ρ := fun l_ => if l_ = 1 then LF else if l_ = 2 then Lp0 else if l_ = 3 then Lp0_0 else 0) f27 (lab_at hoa (i := 1) rfl) rfl, f30.conv (fun _ h_ => hs.closeM_ft (o := o) (ρ := fun l_ => if l_ = 1 then LF else if l_ = 2 then Lp0 else if l_ = 3 then Lp0_0 else 0) h_ (lab_at hoa (i := 2) rfl) rfl) (fun _ h_ => hs.closeM_ft (o := o) (ρ := fun l_ => if l_ = 1 then LF else if l_ = 2 then Lp0 else if l_ = 3 then Lp0_0 else 0) h_ (lab_at hoa (i := 0) rfl) rfl), hc31⟩
      · rw [b18] at hk H
        replace H := bifT H
        refine x_if hk (b := true) rfl ?_
        refine (show Code.wpIn _ _ _ _ _ _ _ from ?_)
        refine x_seq ?_
        refine wpIn_region_lit ?_
        refine x_run tab hk (k := 3) (lv := [.agg #[.int .i64 p1.Most, .slice Ap1_0 (p1.L).length cp1_0], .int .i64 p2.I]) (ks := [0, 4, 5, 6, 92, 94]) (e' := [(0, .pointer (some ⟨bp0, 0, none⟩)), (4, .pointer (some ⟨bx4, 0, none⟩)), (5, .pointer (some ⟨bx9, 0, none⟩)), (6, .pointer (some ⟨bx14, 0, none⟩)), (92, .agg #[.int .i64 p1.Most, .slice Ap1_0 (p1.L).length cp1_0]), (94, .int .i64 p2.I)]) rfl ⟨(load_box tab rfl rfl f5.now (k := 0) rfl rfl), (load1 tab rfl ((Bx.cell f10.now 1).trans rfl)), trivial⟩ fun a hk => ?_
        refine x_op hk rfl ?_
        obtain ⟨t38, hc39, H⟩ := bindS H
        refine op_call hk ent_35 (vs := [.agg #[.int .i64 p1.Most, .slice Ap1_0 (p1.L).length cp1_0], .int .i64 p2.I]) rfl (tidewrackref14_Find_calls K Ap1_0 cp1_0 p1 p2.I _ o12 1 _ f900020 hcp1_0 (by decide) (by decide)   _ hc39) ?_
        rintro _ w40 ⟨o41, A43, c44, rfl, st42, f45, hc46⟩
        replace f10 := f10.st st42 (by decide)
        replace f15 := f15.st st42 (by decide)
        replace f5 := f5.st st42 (by decide)
        replace f900000 := f900000.st st42 (by decide)
        replace f900019 := f900019.st st42 (by decide)
        replace f900020 := f900020.st st42 (by decide)
        replace f900040 := f900040.st st42 (by decide)
        replace hs := hs.locQ st42 hob rfl
        have hk := hk.put 95 (.tuple #[.slice A43 (t38.1).length c44, .bool t38.2]) rfl
        refine x_run tab hk (k := 5) (lv := []) (ks := [0, 4, 5, 6, 19, 20]) (e' := [(0, .pointer (some ⟨bp0, 0, none⟩)), (4, .pointer (some ⟨bx4, 0, none⟩)), (5, .pointer (some ⟨bx9, 0, none⟩)), (6, .pointer (some ⟨bx14, 0, none⟩)), (19, .slice A43 (t38.1).length c44), (20, .bool t38.2)]) rfl trivial fun a hk => ?_
        refine wpListIn_nil ?_
        refine then_n ?_
        refine x_seq ?_
        refine wpIn_region_lit ?_
        refine x_run tab hk (k := 3) (lv := [.int .i64 p2.I]) (ks := [4, 6, 19, 20, 99, 101]) (e' := [(4, .pointer (some ⟨bx4, 0, none⟩)), (6, .pointer (some ⟨bx14, 0, none⟩)), (19, .slice A43 (t38.1).length c44), (20, .bool t38.2), (99, .pointer (some ⟨bp0, 0, none⟩)), (101, .int .i64 p2.I)]) rfl ⟨(load1 tab rfl ((Bx.cell f10.now 1).trans rfl)), trivial⟩ fun a hk => ?_
        refine x_op hk rfl ?_
        obtain ⟨t50, hc51, H⟩ := bindS H
        refine op_call hk ent_11 (vs := [.pointer (some ⟨bp0, 0, none⟩), .int .i64 p2.I]) rfl (cache_Cache_Peek_calls bp0 Ap0_0 cp0_0 p0 p2.I _ o41 1 2 f900019 _ f900000 hcp0_0 (by decide) (by decide) (by decide) 8  _ hc51) ?_
        rintro _ w52 ⟨o53, A55, c56, rfl, st54, f57, hc58⟩
        replace f15 := f15.st st54 (by decide)
        replace f45 := f45.st st54 (by decide)
        replace f5 := f5.st st54 (by decide)
        replace f900000 := f900000.st st54 (by decide)
        replace f900019 := f900019.st st54 (by decide)
        replace f900020 := f900020.st st54 (by decide)
        replace hs := hs.locQ st54 hob rfl
        have hk := hk.put 102 (.tuple #[.slice A55 (t50.1).length c56, .bool t50.2]) rfl
        refine x_run tab hk (k := 5) (lv := []) (ks := [4, 6, 19, 20, 21, 22]) (e' := [(4, .pointer (some ⟨bx4, 0, none⟩)), (6, .pointer (some ⟨bx14, 0, none⟩)), (19, .slice A43 (t38.1).length c44), (20, .bool t38.2), (21, .slice A55 (t50.1).length c56), (22, .bool t50.2)]) rfl trivial fun a hk => ?_
        refine wpListIn_nil ?_
        refine then_n ?_
        refine x_seq ?_
        cases b74 : (t50.2 == t38.2)
        · rw [b74] at H
          replace H := bifF H
          refine xd_begin (o := o53) (fun W_ => (Bx bx4 51 [.int .i64 p1.Most, .slice Ap1_0 (p1.L).length cp1_0]) W_ ∧ True) mixed rfl rfl fun w81 st82 => ?_
          replace f15 := f15.st st82 (by decide)
          replace f45 := f45.st st82 (by decide)
          replace f5 := f5.st st82 (by decide)
          replace f57 := f57.st st82 (by decide)
          replace f900000 := f900000.st st82 (by decide)
          replace f900019 := f900019.st st82 (by decide)
          replace f900020 := f900020.st st82 (by decide)
          replace hs := hs.locQ st82 hob rfl
          refine xd_take tab hk (k := 6) (is := [0, 1, 2, 3, 4]) (ls' := #[true, true, true, true, true, false, false, false, false, false, false]) (lv := [.agg #[.int .i64 p1.Most, .slice Ap1_0 (p1.L).length cp1_0]]) (ks := [6, 19, 21, 105, 109]) (e' := [(6, .pointer (some ⟨bx14, 0, none⟩)), (19, .slice A43 (t38.1).length c44), (21, .slice A55 (t50.1).length c56), (105, .agg #[.int .i64 p1.Most, .slice Ap1_0 (p1.L).length cp1_0]), (109, .bool (t50.2 == t38.2))]) (by kernel_rfl) rfl rfl (by kernel_rfl) (np_then (np_blk (np_then np_body))) ⟨f5.now, trivial⟩ (fun W_ hS => ⟨(load_box tab rfl rfl hS.1 (k := 0) rfl rfl), trivial⟩) fun a hk => ?_
          rw [b74] at hk
          refine xd_take tab hk (k := 2) (is := [5, 6, 7, 8]) (ls' := #[true, true, true, true, true, true, true, true, true, false, false]) (lv := []) (ks := [6, 105, 113]) (e' := [(6, .pointer (some ⟨bx14, 0, none⟩)), (105, .agg #[.int .i64 p1.Most, .slice Ap1_0 (p1.L).length cp1_0]), (113, .bool false)]) (by kernel_rfl) rfl rfl (by kernel_rfl) (np_then (np_blk (np_then np_body))) ⟨f5.now, trivial⟩ (fun W_ hS => trivial) fun a hk => ?_
          refine xd_op hk (i := 9) (by kernel_rfl) rfl rfl ?_
          refine op_store tab hk (t := 51) (v := .agg #[.int .i64 p1.Most, .slice Ap1_0 (p1.L).length cp1_0]) (b := bx14) (k := 0) (cs' := [.int .i64 p1.Most, .slice Ap1_0 (p1.L).length cp1_0]) rfl rfl rfl rfl rfl rfl f15 rfl rfl fun w83 o84 st85 f15_ => ?_
          replace f45 := f45.st st85 (by decide)
          replace f5 := f5.st st85 (by decide)
          replace f57 := f57.st st85 (by decide)
          replace f900000 := f900000.st st85 (by decide)
          replace f900019 := f900019.st st85 (by decide)
          replace f900020 := f900020.st st85 (by decide)
          replace hs := hs.locQ st85 hob rfl
          replace f15 := f15_
          refine ⟨.inr ⟨f5.now, trivial⟩, ?_⟩
          refine xd_take tab hk (k := 0) (is := [10]) (ls' := #[true, true, true, true, true, true, true, true, true, true, true]) (lv := []) (ks := [6, 7]) (e' := [(6, .pointer (some ⟨bx14, 0, none⟩)), (7, .bool false)]) (by kernel_rfl) rfl rfl (by kernel_rfl) (np_then (np_blk (np_then np_body))) ⟨f5.now, trivial⟩ (fun W_ hS => trivial) fun a hk => ?_
          refine xd_done (by kernel_rfl) ?_
          refine then_n ?_
          refine wpIn_ret ?_
          refine blk_r ?_
          refine then_r ?_
          obtain rfl := Option.some.inj H
          exact x_retG hk (rs := [.cell 6 51, .tmp 7]) (vs := [.agg #[.int .i64 p1.Most, .slice Ap1_0 (p1.L).length cp1_0], .bool false]) rfl ⟨⟨_, rfl, load_box tab rfl rfl f15.now (k := 0) rfl rfl⟩, rfl, trivial⟩ ⟨cl w oi o [2, 3] (fun l_ => if l_ = 1 then LF else if l_ = 2 then Lp0 else if l_ = 3 then Lp0_0 else if l_ = 4 then Lp1_0 else 0) o84, Ap1_0, cp1_0, Ap0_0, cp0_0, rfl, hs.closeF (Lm := [Lp0, Lp0_0]) (Sh := [Lp1_0]) hoa rfl (fun l_ => if l_ = 1 then LF else if l_ = 2 then Lp0 else if l_ = 3 then Lp0_0 else if l_ = 4 then Lp1_0 else 0), f900020.conv (fun _ h_ => hs.closeM_ft (o := o) (ρ := fun l_ => if l_ = 1 then LF else if l_ = 2 then Lp0 else if l_ = 3 then Lp0_0 else if l_ = 4 then Lp1_0 else 0) h_ (lab_at hoa (i := 3) rfl) rfl) (fun _ h_ => hs.closeM_ft (o := o) (ρ := fun l_ => if l_ = 1 then LF else if l_ = 2 then Lp0 else if l_ = 3 then Lp0_0 else if l_ = 4 then Lp1_0 else 0) h_ (lab_at hoa (i := 0) rfl) rfl), hcp1_0, hs.closeM_ft (o := o) (ρ := fun l_ => if l_ = 1 then LF else if l_ = 2 then Lp0 else if l_ = 3 then Lp0_0 else if l_ = 4 then Lp1_0 else 0) f900019 (lab_at hoa (i := 1) rfl) rfl, f900000.conv (fun _ h_ => hs.closeM_ft (o := o) (ρ := fun l_ => if l_ = 1 then LF else if l_ = 2 then Lp0 else if l_ = 3 then Lp0_0 else if l_ = 4 then Lp1_0 else 0) h_ (lab_at hoa (i := 2) rfl) rfl) (fun _ h_ => hs.closeM_ft (o := o) (ρ := fun l_ => if l_ = 1 then LF else if l_ = 2 then Lp0 else if l_ = 3 then Lp0_0 else if l_ = 4 then Lp1_0 else 0) h_ (lab_at hoa (i := 0) rfl) rfl), hcp0_0⟩
        · rw [b74] at H
          replace H := bifT H
          obtain ⟨t89, hc90, H⟩ := bindS H
          refine xd_begin (o := o53) (fun W_ => (Bx bx4 51 [.int .i64 p1.Most, .slice Ap1_0 (p1.L).length cp1_0]) W_ ∧ True) mixed rfl rfl fun w106 st107 => ?_
          replace f15 := f15.st st107 (by decide)
          replace f45 := f45.st st107 (by decide)
          replace f5 := f5.st st107 (by decide)
          replace f57 := f57.st st107 (by decide)
          replace f900000 := f900000.st st107 (by decide)
          replace f900019 := f900019.st st107 (by decide)
          replace f900020 := f900020.st st107 (by decide)
          replace hs := hs.locQ st107 hob rfl
          refine xd_take tab hk (k := 6) (is := [0, 1, 2, 3, 4]) (ls' := #[true, true, true, true, true, false, false, false, false, false, false]) (lv := [.agg #[.int .i64 p1.Most, .slice Ap1_0 (p1.L).length cp1_0]]) (ks := [6, 19, 21, 105, 109]) (e' := [(6, .pointer (some ⟨bx14, 0, none⟩)), (19, .slice A43 (t38.1).length c44), (21, .slice A55 (t50.1).length c56), (105, .agg #[.int .i64 p1.Most, .slice Ap1_0 (p1.L).length cp1_0]), (109, .bool (t50.2 == t38.2))]) (by kernel_rfl) rfl rfl (by kernel_rfl) (np_then (np_blk (np_then np_body))) ⟨f5.now, trivial⟩ (fun W_ hS => ⟨(load_box tab rfl rfl hS.1 (k := 0) rfl rfl), trivial⟩) fun a hk => ?_
          rw [b74] at hk
          refine xd_take tab hk (k := 4) (is := [5, 6]) (ls' := #[true, true, true, true, true, true, true, false, false, false, false]) (lv := []) (ks := [6, 105, 109, 110, 111]) (e' := [(6, .pointer (some ⟨bx14, 0, none⟩)), (105, .agg #[.int .i64 p1.Most, .slice Ap1_0 (p1.L).length cp1_0]), (109, .bool true), (110, .slice A55 (t50.1).length c56), (111, .slice A43 (t38.1).length c44)]) (by kernel_rfl) rfl rfl (by kernel_rfl) (np_then (np_blk (np_then np_body))) ⟨f5.now, trivial⟩ (fun W_ hS => trivial) fun a hk => ?_
          refine xd_op hk (i := 7) (by kernel_rfl) rfl rfl ?_
          refine op_call hk ent_12 (vs := [.slice A55 (t50.1).length c56, .slice A43 (t38.1).length c44]) rfl (tidewracklaw09_Glyphs_calls K A55 c56 t50.1 A43 c44 t38.1 _ o53 _ (f57.imp fun _ h_ => Own.rd h_) hc58 _ f45 hc46   _ hc90) ?_
          rintro _ w111 ⟨o112, rfl, st113⟩
          replace f15 := f15.st st113 (by decide)
          replace f45 := f45.st st113 (by decide)
          replace f5 := f5.st st113 (by decide)
          replace f57 := f57.st st113 (by decide)
          replace f900000 := f900000.st st113 (by decide)
          replace f900019 := f900019.st st113 (by decide)
          replace f900020 := f900020.st st113 (by decide)
          replace hs := hs.locQ st113 hob rfl
          have hk := hk.put 112 (.bool t89) rfl
          refine ⟨.inr ⟨f5.now, trivial⟩, ?_⟩
          refine xd_take tab hk (k := 2) (is := [8]) (ls' := #[true, true, true, true, true, true, true, true, true, false, false]) (lv := []) (ks := [6, 105, 113]) (e' := [(6, .pointer (some ⟨bx14, 0, none⟩)), (105, .agg #[.int .i64 p1.Most, .slice Ap1_0 (p1.L).length cp1_0]), (113, .bool t89)]) (by kernel_rfl) rfl rfl (by kernel_rfl) (np_then (np_blk (np_then np_body))) ⟨f5.now, trivial⟩ (fun W_ hS => trivial) fun a hk => ?_
          refine xd_op hk (i := 9) (by kernel_rfl) rfl rfl ?_
          refine op_store tab hk (t := 51) (v := .agg #[.int .i64 p1.Most, .slice Ap1_0 (p1.L).length cp1_0]) (b := bx14) (k := 0) (cs' := [.int .i64 p1.Most, .slice Ap1_0 (p1.L).length cp1_0]) rfl rfl rfl rfl rfl rfl f15 rfl rfl fun w114 o115 st116 f15_ => ?_
          replace f45 := f45.st st116 (by decide)
          replace f5 := f5.st st116 (by decide)
          replace f57 := f57.st st116 (by decide)
          replace f900000 := f900000.st st116 (by decide)
          replace f900019 := f900019.st st116 (by decide)
          replace f900020 := f900020.st st116 (by decide)
          replace hs := hs.locQ st116 hob rfl
          replace f15 := f15_
          refine ⟨.inr ⟨f5.now, trivial⟩, ?_⟩
          refine xd_take tab hk (k := 0) (is := [10]) (ls' := #[true, true, true, true, true, true, true, true, true, true, true]) (lv := []) (ks := [6, 7]) (e' := [(6, .pointer (some ⟨bx14, 0, none⟩)), (7, .bool t89)]) (by kernel_rfl) rfl rfl (by kernel_rfl) (np_then (np_blk (np_then np_body))) ⟨f5.now, trivial⟩ (fun W_ hS => trivial) fun a hk => ?_
          refine xd_done (by kernel_rfl) ?_
          refine then_n ?_
          refine wpIn_ret ?_
          refine blk_r ?_
          refine then_r ?_
          obtain rfl := Option.some.inj H
          exact x_retG hk (rs := [.cell 6 51, .tmp 7]) (vs := [.agg #[.int .i64 p1.Most, .slice Ap1_0 (p1.L).length cp1_0], .bool t89]) rfl ⟨⟨_, rfl, load_box tab rfl rfl f15.now (k := 0) rfl rfl⟩, rfl, trivial⟩ ⟨cl w oi o [2, 3] (fun l_ => if l_ = 1 then LF else if l_ = 2 then Lp0 else if l_ = 3 then Lp0_0 else if l_ = 4 then Lp1_0 else 0) o115, Ap1_0, cp1_0, Ap0_0, cp0_0, rfl, hs.closeF (Lm := [Lp0, Lp0_0]) (Sh := [Lp1_0]) hoa rfl (fun l_ => if l_ = 1 then LF else if l_ = 2 then Lp0 else if l_ = 3 then Lp0_0 else if l_ = 4 then Lp1_0 else 0), f900020.conv (fun _ h_ => hs.closeM_ft (o := o) (ρ := fun l_ => if l_ = 1 then LF else if l_ = 2 then Lp0 else if l_ = 3 then Lp0_0 else if l_ = 4 then Lp1_0 else 0) h_ (lab_at hoa (i := 3) rfl) rfl) (fun _ h_ => hs.closeM_ft (o := o) (ρ := fun l_ => if l_ = 1 then LF else if l_ = 2 then Lp0 else if l_ = 3 then Lp0_0 else if l_ = 4 then Lp1_0 else 0) h_ (lab_at hoa (i := 0) rfl) rfl), hcp1_0, hs.closeM_ft (o := o) (ρ := fun l_ => if l_ = 1 then LF else if l_ = 2 then Lp0 else if l_ = 3 then Lp0_0 else if l_ = 4 then Lp1_0 else 0) f900019 (lab_at hoa (i := 1) rfl) rfl, f900000.conv (fun _ h_ => hs.closeM_ft (o := o) (ρ := fun l_ => if l_ = 1 then LF else if l_ = 2 then Lp0 else if l_ = 3 then Lp0_0 else if l_ = 4 then Lp1_0 else 0) h_ (lab_at hoa (i := 2) rfl) rfl) (fun _ h_ => hs.closeM_ft (o := o) (ρ := fun l_ => if l_ = 1 then LF else if l_ = 2 then Lp0 else if l_ = 3 then Lp0_0 else if l_ = 4 then Lp1_0 else 0) h_ (lab_at hoa (i := 0) rfl) rfl), hcp0_0⟩
    · rw [b17] at hk H
      replace H := bifT H
      refine x_if hk (b := true) rfl ?_
      refine (show Code.wpIn _ _ _ _ _ _ _ from ?_)
      refine x_seq ?_
      refine wpIn_region_lit ?_
      refine x_run tab hk (k := 3) (lv := [.agg #[.int .i64 p1.Most, .slice Ap1_0 (p1.L).length cp1_0], .int .i64 p2.I]) (ks := [0, 5, 6, 66, 68]) (e' := [(0, .pointer (some ⟨bp0, 0, none⟩)), (5, .pointer (some ⟨bx9, 0, none⟩)), (6, .pointer (some ⟨bx14, 0, none⟩)), (66, .agg #[.int .i64 p1.Most, .slice Ap1_0 (p1.L).length cp1_0]), (68, .int .i64 p2.I)]) rfl ⟨(load_box tab rfl rfl f5.now (k := 0) rfl rfl), (load1 tab rfl ((Bx.cell f10.now 1).trans rfl)), trivial⟩ fun a hk => ?_
      refine x_op hk rfl ?_
      obtain ⟨t120, hc121, H⟩ := bindS H
      refine op_call hk ent_34 (vs := [.agg #[.int .i64 p1.Most, .slice Ap1_0 (p1.L).length cp1_0], .int .i64 p2.I]) rfl (tidewrackref14_Get_calls K Ap1_0 cp1_0 p1 p2.I _ o12 1 4 f900020 hcp1_0 (by decide)   _ hc121) ?_
      rintro _ w122 ⟨o123, A125, c126, A129, c130, rfl, st124, f127, hc128, f131, hc132⟩
      replace f10 := f10.st st124 (by decide)
      replace f15 := f15.st st124 (by decide)
      replace f900000 := f900000.st st124 (by decide)
      replace f900019 := f900019.st st124 (by decide)
      replace f900020 := f900020.st st124 (by decide)
      replace f900040 := f900040.st st124 (by decide)
      replace hs := hs.locQ st124 hob rfl
      have hk := hk.put 69 (.tuple #[.agg #[.int .i64 t120.1.Most, .slice A125 (t120.1.L).length c126], .slice A129 (t120.2.1).length c130, .bool t120.2.2]) rfl
      refine x_run tab hk (k := 4) (lv := []) (ks := [0, 5, 6, 70, 71, 72]) (e' := [(0, .pointer (some ⟨bp0, 0, none⟩)), (5, .pointer (some ⟨bx9, 0, none⟩)), (6, .pointer (some ⟨bx14, 0, none⟩)), (70, .agg #[.int .i64 t120.1.Most, .slice A125 (t120.1.L).length c126]), (71, .slice A129 (t120.2.1).length c130), (72, .bool t120.2.2)]) rfl trivial fun a hk => ?_
      refine x_op hk rfl ?_
      refine op_alloc (o := o123) tab (t := 51) (cs := [.int .i64 0, .slice none 0 0]) rfl rfl 9 fun bx136 w133 o134 st135 f137 => ?_
      replace f10 := f10.st st135 (by decide)
      replace f127 := f127.st st135 (by decide)
      replace f131 := f131.st st135 (by decide)
      replace f15 := f15.st st135 (by decide)
      replace f900000 := f900000.st st135 (by decide)
      replace f900019 := f900019.st st135 (by decide)
      replace f900040 := f900040.st st135 (by decide)
      replace hs := hs.locQ st135 hob rfl
      have hk := hk.put 14 (.pointer (some ⟨bx136, 0, none⟩)) rfl
      refine x_op hk rfl ?_
      refine op_store tab hk (t := 51) (v := .agg #[.int .i64 t120.1.Most, .slice A125 (t120.1.L).length c126]) (b := bx136) (k := 0) (cs' := [.int .i64 t120.1.Most, .slice A125 (t120.1.L).length c126]) rfl rfl rfl rfl rfl rfl f137 rfl rfl fun w138 o139 st140 f137_ => ?_
      replace f10 := f10.st st140 (by decide)
      replace f127 := f127.st st140 (by decide)
      replace f131 := f131.st st140 (by decide)
      replace f15 := f15.st st140 (by decide)
      replace f900000 := f900000.st st140 (by decide)
      replace f900019 := f900019.st st140 (by decide)
      replace f900040 := f900040.st st140 (by decide)
      replace hs := hs.locQ st140 hob rfl
      replace f137 := f137_
      refine x_run tab hk (k := 2) (lv := []) (ks := [0, 5, 6, 14, 15, 16]) (e' := [(0, .pointer (some ⟨bp0, 0, none⟩)), (5, .pointer (some ⟨bx9, 0, none⟩)), (6, .pointer (some ⟨bx14, 0, none⟩)), (14, .pointer (some ⟨bx136, 0, none⟩)), (15, .slice A129 (t120.2.1).length c130), (16, .bool t120.2.2)]) rfl trivial fun a hk => ?_
      refine wpListIn_nil ?_
      refine then_n ?_
      refine x_seq ?_
      refine wpIn_region_lit ?_
      refine x_run tab hk (k := 3) (lv := [.int .i64 p2.I]) (ks := [6, 14, 15, 16, 74, 76]) (e' := [(6, .pointer (some ⟨bx14, 0, none⟩)), (14, .pointer (some ⟨bx136, 0, none⟩)), (15, .slice A129 (t120.2.1).length c130), (16, .bool t120.2.2), (74, .pointer (some ⟨bp0, 0, none⟩)), (76, .int .i64 p2.I)]) rfl ⟨(load1 tab rfl ((Bx.cell f10.now 1).trans rfl)), trivial⟩ fun a hk => ?_
      refine x_op hk rfl ?_
      obtain ⟨t144, hc145, H⟩ := bindS H
      refine op_call hk ent_14 (vs := [.pointer (some ⟨bp0, 0, none⟩), .int .i64 p2.I]) rfl (cache_Cache_Get_calls bp0 Ap0_0 cp0_0 p0 p2.I _ o139 1 2 f900019 3 f900000 hcp0_0 (by decide) 10  _ hc145) ?_
      rintro _ w146 ⟨o147, A149, c150, A154, c155, rfl, st148, f151, hc152, f153, f156, hc157⟩
      replace f127 := f127.st st148 (by decide)
      replace f131 := f131.st st148 (by decide)
      replace f137 := f137.st st148 (by decide)
      replace f15 := f15.st st148 (by decide)
      replace hs := hs.locQ st148 hob rfl
      have hk := hk.put 77 (.tuple #[.slice A149 (t144.1).length c150, .bool t144.2.1]) rfl
      refine x_run tab hk (k := 5) (lv := []) (ks := [6, 14, 15, 16, 17, 18]) (e' := [(6, .pointer (some ⟨bx14, 0, none⟩)), (14, .pointer (some ⟨bx136, 0, none⟩)), (15, .slice A129 (t120.2.1).length c130), (16, .bool t120.2.2), (17, .slice A149 (t144.1).length c150), (18, .bool t144.2.1)]) rfl trivial fun a hk => ?_
      refine wpListIn_nil ?_
      refine then_n ?_
      refine x_seq ?_
      cases b173 : (t144.2.1 == t120.2.2)
      · rw [b173] at H
        replace H := bifF H
        refine xd_begin (o := o147) (fun W_ => (Bx bx136 51 [.int .i64 t120.1.Most, .slice A125 (t120.1.L).length c126]) W_ ∧ True) mixed rfl rfl fun w180 st181 => ?_
        replace f127 := f127.st st181 (by decide)
        replace f131 := f131.st st181 (by decide)
        replace f137 := f137.st st181 (by decide)
        replace f15 := f15.st st181 (by decide)
        replace f151 := f151.st st181 (by decide)
        replace f153 := f153.st st181 (by decide)
        replace f156 := f156.st st181 (by decide)
        replace hs := hs.locQ st181 hob rfl
        refine xd_take tab hk (k := 6) (is := [0, 1, 2, 3, 4]) (ls' := #[true, true, true, true, true, false, false, false, false, false, false]) (lv := [.agg #[.int .i64 t120.1.Most, .slice A125 (t120.1.L).length c126]]) (ks := [6, 15, 17, 80, 84]) (e' := [(6, .pointer (some ⟨bx14, 0, none⟩)), (15, .slice A129 (t120.2.1).length c130), (17, .slice A149 (t144.1).length c150), (80, .agg #[.int .i64 t120.1.Most, .slice A125 (t120.1.L).length c126]), (84, .bool (t144.2.1 == t120.2.2))]) (by kernel_rfl) rfl rfl (by kernel_rfl) (np_then (np_blk (np_then np_body))) ⟨f137.now, trivial⟩ (fun W_ hS => ⟨(load_box tab rfl rfl hS.1 (k := 0) rfl rfl), trivial⟩) fun a hk => ?_
        rw [b173] at hk
        refine xd_take tab hk (k := 2) (is := [5, 6, 7, 8]) (ls' := #[true, true, true, true, true, true, true, true, true, false, false]) (lv := []) (ks := [6, 80, 88]) (e' := [(6, .pointer (some ⟨bx14, 0, none⟩)), (80, .agg #[.int .i64 t120.1.Most, .slice A125 (t120.1.L).length c126]), (88, .bool false)]) (by kernel_rfl) rfl rfl (by kernel_rfl) (np_then (np_blk (np_then np_body))) ⟨f137.now, trivial⟩ (fun W_ hS => trivial) fun a hk => ?_
        refine xd_op hk (i := 9) (by kernel_rfl) rfl rfl ?_
        refine op_store tab hk (t := 51) (v := .agg #[.int .i64 t120.1.Most, .slice A125 (t120.1.L).length c126]) (b := bx14) (k := 0) (cs' := [.int .i64 t120.1.Most, .slice A125 (t120.1.L).length c126]) rfl rfl rfl rfl rfl rfl f15 rfl rfl fun w182 o183 st184 f15_ => ?_
        replace f127 := f127.st st184 (by decide)
        replace f131 := f131.st st184 (by decide)
        replace f137 := f137.st st184 (by decide)
        replace f151 := f151.st st184 (by decide)
        replace f153 := f153.st st184 (by decide)
        replace f156 := f156.st st184 (by decide)
        replace hs := hs.locQ st184 hob rfl
        replace f15 := f15_
        refine ⟨.inr ⟨f137.now, trivial⟩, ?_⟩
        refine xd_take tab hk (k := 0) (is := [10]) (ls' := #[true, true, true, true, true, true, true, true, true, true, true]) (lv := []) (ks := [6, 7]) (e' := [(6, .pointer (some ⟨bx14, 0, none⟩)), (7, .bool false)]) (by kernel_rfl) rfl rfl (by kernel_rfl) (np_then (np_blk (np_then np_body))) ⟨f137.now, trivial⟩ (fun W_ hS => trivial) fun a hk => ?_
        refine xd_done (by kernel_rfl) ?_
        refine then_n ?_
        refine wpIn_ret ?_
        refine blk_r ?_
        refine then_r ?_
        obtain rfl := Option.some.inj H
        exact x_retG hk (rs := [.cell 6 51, .tmp 7]) (vs := [.agg #[.int .i64 t120.1.Most, .slice A125 (t120.1.L).length c126], .bool false]) rfl ⟨⟨_, rfl, load_box tab rfl rfl f15.now (k := 0) rfl rfl⟩, rfl, trivial⟩ ⟨cl w oi o [2, 3] (fun l_ => if l_ = 1 then LF else if l_ = 2 then Lp0 else if l_ = 3 then Lp0_0 else if l_ = 4 then Lp1_0 else 0) o183, A125, c126, A154, c155, rfl, hs.closeF (Lm := [Lp0, Lp0_0]) (Sh := [Lp1_0]) hoa rfl (fun l_ => if l_ = 1 then LF else if l_ = 2 then Lp0 else if l_ = 3 then Lp0_0 else if l_ = 4 then Lp1_0 else 0), f127.conv (fun _ h_ => hs.closeM_ft (o := o) (ρ := fun l_ => if l_ = 1 then LF else if l_ = 2 then Lp0 else if l_ = 3 then Lp0_0 else if l_ = 4 then Lp1_0 else 0) h_ (lab_at hoa (i := 3) rfl) rfl) (fun _ h_ => hs.closeM_ft (o := o) (ρ := fun l_ => if l_ = 1 then LF else if l_ = 2 then Lp0 else if l_ = 3 then Lp0_0 else if l_ = 4 then Lp1_0 else 0) h_ (lab_at hoa (i := 0) rfl) rfl), hc128, hs.closeM_ft (o := o) (ρ := fun l_ => if l_ = 1 then LF else if l_ = 2 then Lp0 else if l_ = 3 then Lp0_0 else if l_ = 4 then Lp1_0 else 0) f153 (lab_at hoa (i := 1) rfl) rfl, f156.conv (fun _ h_ => hs.closeM_ft (o := o) (ρ := fun l_ => if l_ = 1 then LF else if l_ = 2 then Lp0 else if l_ = 3 then Lp0_0 else if l_ = 4 then Lp1_0 else 0) h_ (lab_at hoa (i := 2) rfl) rfl) (fun _ h_ => hs.closeM_ft (o := o) (ρ := fun l_ => if l_ = 1 then LF else if l_ = 2 then Lp0 else if l_ = 3 then Lp0_0 else if l_ = 4 then Lp1_0 else 0) h_ (lab_at hoa (i := 0) rfl) rfl), hc157⟩
      · rw [b173] at H
        replace H := bifT H
        obtain ⟨t188, hc189, H⟩ := bindS H
        refine xd_begin (o := o147) (fun W_ => (Bx bx136 51 [.int .i64 t120.1.Most, .slice A125 (t120.1.L).length c126]) W_ ∧ True) mixed rfl rfl fun w205 st206 => ?_
        replace f127 := f127.st st206 (by decide)
        replace f131 := f131.st st206 (by decide)
        replace f137 := f137.st st206 (by decide)
        replace f15 := f15.st st206 (by decide)
        replace f151 := f151.st st206 (by decide)
        replace f153 := f153.st st206 (by decide)
        replace f156 := f156.st st206 (by decide)
        replace hs := hs.locQ st206 hob rfl
        refine xd_take tab hk (k := 6) (is := [0, 1, 2, 3, 4]) (ls' := #[true, true, true, true, true, false, false, false, false, false, false]) (lv := [.agg #[.int .i64 t120.1.Most, .slice A125 (t120.1.L).length c126]]) (ks := [6, 15, 17, 80, 84]) (e' := [(6, .pointer (some ⟨bx14, 0, none⟩)), (15, .slice A129 (t120.2.1).length c130), (17, .slice A149 (t144.1).length c150), (80, .agg #[.int .i64 t120.1.Most, .slice A125 (t120.1.L).length c126]), (84, .bool (t144.2.1 == t120.2.2))]) (by kernel_rfl) rfl rfl (by kernel_rfl) (np_then (np_blk (np_then np_body))) ⟨f137.now, trivial⟩ (fun W_ hS => ⟨(load_box tab rfl rfl hS.1 (k := 0) rfl rfl), trivial⟩) fun a hk => ?_
        rw [b173] at hk
        refine xd_take tab hk (k := 4) (is := [5, 6]) (ls' := #[true, true, true, true, true, true, true, false, false, false, false]) (lv := []) (ks := [6, 80, 84, 85, 86]) (e' := [(6, .pointer (some ⟨bx14, 0, none⟩)), (80, .agg #[.int .i64 t120.1.Most, .slice A125 (t120.1.L).length c126]), (84, .bool true), (85, .slice A149 (t144.1).length c150), (86, .slice A129 (t120.2.1).length c130)]) (by kernel_rfl) rfl rfl (by kernel_rfl) (np_then (np_blk (np_then np_body))) ⟨f137.now, trivial⟩ (fun W_ hS => trivial) fun a hk => ?_
        refine xd_op hk (i := 7) (by kernel_rfl) rfl rfl ?_
        refine op_call hk ent_12 (vs := [.slice A149 (t144.1).length c150, .slice A129 (t120.2.1).length c130]) rfl (tidewracklaw09_Glyphs_calls K A149 c150 t144.1 A129 c130 t120.2.1 _ o147 _ (f151.imp fun _ h_ => Own.rd h_) hc152 _ f131 hc132   _ hc189) ?_
        rintro _ w210 ⟨o211, rfl, st212⟩
        replace f127 := f127.st st212 (by decide)
        replace f131 := f131.st st212 (by decide)
        replace f137 := f137.st st212 (by decide)
        replace f15 := f15.st st212 (by decide)
        replace f151 := f151.st st212 (by decide)
        replace f153 := f153.st st212 (by decide)
        replace f156 := f156.st st212 (by decide)
        replace hs := hs.locQ st212 hob rfl
        have hk := hk.put 87 (.bool t188) rfl
        refine ⟨.inr ⟨f137.now, trivial⟩, ?_⟩
        refine xd_take tab hk (k := 2) (is := [8]) (ls' := #[true, true, true, true, true, true, true, true, true, false, false]) (lv := []) (ks := [6, 80, 88]) (e' := [(6, .pointer (some ⟨bx14, 0, none⟩)), (80, .agg #[.int .i64 t120.1.Most, .slice A125 (t120.1.L).length c126]), (88, .bool t188)]) (by kernel_rfl) rfl rfl (by kernel_rfl) (np_then (np_blk (np_then np_body))) ⟨f137.now, trivial⟩ (fun W_ hS => trivial) fun a hk => ?_
        refine xd_op hk (i := 9) (by kernel_rfl) rfl rfl ?_
        refine op_store tab hk (t := 51) (v := .agg #[.int .i64 t120.1.Most, .slice A125 (t120.1.L).length c126]) (b := bx14) (k := 0) (cs' := [.int .i64 t120.1.Most, .slice A125 (t120.1.L).length c126]) rfl rfl rfl rfl rfl rfl f15 rfl rfl fun w213 o214 st215 f15_ => ?_
        replace f127 := f127.st st215 (by decide)
        replace f131 := f131.st st215 (by decide)
        replace f137 := f137.st st215 (by decide)
        replace f151 := f151.st st215 (by decide)
        replace f153 := f153.st st215 (by decide)
        replace f156 := f156.st st215 (by decide)
        replace hs := hs.locQ st215 hob rfl
        replace f15 := f15_
        refine ⟨.inr ⟨f137.now, trivial⟩, ?_⟩
        refine xd_take tab hk (k := 0) (is := [10]) (ls' := #[true, true, true, true, true, true, true, true, true, true, true]) (lv := []) (ks := [6, 7]) (e' := [(6, .pointer (some ⟨bx14, 0, none⟩)), (7, .bool t188)]) (by kernel_rfl) rfl rfl (by kernel_rfl) (np_then (np_blk (np_then np_body))) ⟨f137.now, trivial⟩ (fun W_ hS => trivial) fun a hk => ?_
        refine xd_done (by kernel_rfl) ?_
        refine then_n ?_
        refine wpIn_ret ?_
        refine blk_r ?_
        refine then_r ?_
        obtain rfl := Option.some.inj H
        exact x_retG hk (rs := [.cell 6 51, .tmp 7]) (vs := [.agg #[.int .i64 t120.1.Most, .slice A125 (t120.1.L).length c126], .bool t188]) rfl ⟨⟨_, rfl, load_box tab rfl rfl f15.now (k := 0) rfl rfl⟩, rfl, trivial⟩ ⟨cl w oi o [2, 3] (fun l_ => if l_ = 1 then LF else if l_ = 2 then Lp0 else if l_ = 3 then Lp0_0 else if l_ = 4 then Lp1_0 else 0) o214, A125, c126, A154, c155, rfl, hs.closeF (Lm := [Lp0, Lp0_0]) (Sh := [Lp1_0]) hoa rfl (fun l_ => if l_ = 1 then LF else if l_ = 2 then Lp0 else if l_ = 3 then Lp0_0 else if l_ = 4 then Lp1_0 else 0), f127.conv (fun _ h_ => hs.closeM_ft (o := o) (ρ := fun l_ => if l_ = 1 then LF else if l_ = 2 then Lp0 else if l_ = 3 then Lp0_0 else if l_ = 4 then Lp1_0 else 0) h_ (lab_at hoa (i := 3) rfl) rfl) (fun _ h_ => hs.closeM_ft (o := o) (ρ := fun l_ => if l_ = 1 then LF else if l_ = 2 then Lp0 else if l_ = 3 then Lp0_0 else if l_ = 4 then Lp1_0 else 0) h_ (lab_at hoa (i := 0) rfl) rfl), hc128, hs.closeM_ft (o := o) (ρ := fun l_ => if l_ = 1 then LF else if l_ = 2 then Lp0 else if l_ = 3 then Lp0_0 else if l_ = 4 then Lp1_0 else 0) f153 (lab_at hoa (i := 1) rfl) rfl, f156.conv (fun _ h_ => hs.closeM_ft (o := o) (ρ := fun l_ => if l_ = 1 then LF else if l_ = 2 then Lp0 else if l_ = 3 then Lp0_0 else if l_ = 4 then Lp1_0 else 0) h_ (lab_at hoa (i := 2) rfl) rfl) (fun _ h_ => hs.closeM_ft (o := o) (ρ := fun l_ => if l_ = 1 then LF else if l_ = 2 then Lp0 else if l_ = 3 then Lp0_0 else if l_ = 4 then Lp1_0 else 0) h_ (lab_at hoa (i := 0) rfl) rfl), hc157⟩
  · rw [b16] at hk H
    replace H := bifT H
    refine x_if hk (b := true) rfl ?_
    refine (show Code.wpIn _ _ _ _ _ _ _ from ?_)
    refine x_seq ?_
    refine wpIn_region_lit ?_
    refine x_op hk rfl ?_
    refine op_slice (o := o12) tab hk (vs := []) (cs := []) rfl rfl rfl rfl rfl rfl rfl rfl rfl 11 fun bx219 w216 o217 st218 f220 => ?_
    replace f10 := f10.st st218 (by decide)
    replace f15 := f15.st st218 (by decide)
    replace f5 := f5.st st218 (by decide)
    replace f900000 := f900000.st st218 (by decide)
    replace f900019 := f900019.st st218 (by decide)
    replace f900020 := f900020.st st218 (by decide)
    replace f900040 := f900040.st st218 (by decide)
    replace hs := hs.locQ st218 hob rfl
    have f221 : Ft (Own ET59 60 (.slice (some ⟨bx219, 0, none⟩) (([] : List T59)).length 0) ([] : List T59)) w216 o217 11 := f220.imp fun _ h_ => Own.of_box h_ rfl (by simp)
    have hk := hk.put 27 (.slice (some ⟨bx219, 0, none⟩) (([] : List T59)).length 0) rfl
    obtain ⟨q222, H⟩ := ifS H
    obtain ⟨q223, H⟩ := ifS H
    obtain ⟨A224, c225, ak227, f226, hc228⟩ := ask_cut (P := Try.prog) tab (t := 28) rfl rfl f900040 hcp2_0 none (some (.int .i64 (mnI ((p2.L).length : Int) 20))) rfl ⟨q222, (by have := q223; have := hcp2_0; omega), trivial⟩ (by have := q222; have := q223; omega) (by have := q222; have := q223; omega)
    refine x_run tab hk (k := 7) (lv := [.slice Ap2_0 (p2.L).length cp2_0, .slice Ap2_0 (p2.L).length cp2_0, .slice A224 ((List.drop 0 (List.take (Int.toNat (mnI ((p2.L).length : Int) 20)) p2.L))).length c225]) (ks := [0, 4, 5, 6, 27, 34]) (e' := [(0, .pointer (some ⟨bp0, 0, none⟩)), (4, .pointer (some ⟨bx4, 0, none⟩)), (5, .pointer (some ⟨bx9, 0, none⟩)), (6, .pointer (some ⟨bx14, 0, none⟩)), (27, .slice (some ⟨bx219, 0, none⟩) (([] : List T59)).length 0), (34, .slice A224 ((List.drop 0 (List.take (Int.toNat (mnI ((p2.L).length : Int) 20)) p2.L))).length c225)]) rfl ⟨(load1 tab rfl ((Bx.cell f10.now 2).trans rfl)), (load1 tab rfl ((Bx.cell f10.now 2).trans rfl)), (ak227 rfl rfl rfl _), trivial⟩ fun a hk => ?_
    refine x_op hk rfl ?_
    obtain ⟨q232, H⟩ := ifS H
    refine op_append (o := o217) (E := ET59) (xs := ([] : List T59)) (ys := (List.drop 0 (List.take (Int.toNat (mnI ((p2.L).length : Int) 20)) p2.L))) tab hk rfl rfl rfl rfl rfl rfl rfl f221 f226.now q232 fun A233 c234 w229 o230 st231 f235 hc236 => ?_
    replace f10 := f10.st st231 (by decide)
    replace f15 := f15.st st231 (by decide)
    replace f226 := f226.st st231 (by decide)
    replace f5 := f5.st st231 (by decide)
    replace f900000 := f900000.st st231 (by decide)
    replace f900019 := f900019.st st231 (by decide)
    replace f900020 := f900020.st st231 (by decide)
    replace f900040 := f900040.st st231 (by decide)
    replace hs := hs.locQ st231 hob rfl
    have hk := hk.put 35 (.slice A233 ((([] : List T59) ++ (List.drop 0 (List.take (Int.toNat (mnI ((p2.L).length : Int) 20)) p2.L)))).length c234) rfl
    refine x_run tab hk (k := 1) (lv := []) (ks := [0, 4, 5, 6, 8]) (e' := [(0, .pointer (some ⟨bp0, 0, none⟩)), (4, .pointer (some ⟨bx4, 0, none⟩)), (5, .pointer (some ⟨bx9, 0, none⟩)), (6, .pointer (some ⟨bx14, 0, none⟩)), (8, .slice A233 ((([] : List T59) ++ (List.drop 0 (List.take (Int.toNat (mnI ((p2.L).length : Int) 20)) p2.L)))).length c234)]) rfl trivial fun a hk => ?_
    refine wpListIn_nil ?_
    refine then_n ?_
    refine x_seq ?_
    refine x_cut (fun a_ w_ => ∃ o580 : Nat → Nat, ∃ bx581 : Nat, ∃ x583 : Int, ∃ A584 : Option Addr, ∃ c585 : Nat, ∃ l586 : List T87, ∃ x589 : Int, ∃ x590 : Bool, Kn 119 a_ [(0, .pointer (some ⟨bp0, 0, none⟩)), (5, .pointer (some ⟨bx9, 0, none⟩)), (6, .pointer (some ⟨bx14, 0, none⟩)), (8, .slice A233 ((([] : List T59) ++ (List.drop 0 (List.take (Int.toNat (mnI ((p2.L).length : Int) 20)) p2.L)))).length c234), (9, .pointer (some ⟨bx581, 0, none⟩)), (10, .int .i64 x589), (11, .bool x590)] ∧ St [2, 3] w oi w_ o580 ∧ Ft (Bx bx9 30 [.int .i64 p2.Kind, .int .i64 p2.I, .slice Ap2_0 (p2.L).length cp2_0]) w_ o580 48 ∧ Ft (Bx bx14 51 [.int .i64 0, .slice none 0 0]) w_ o580 49 ∧ Ft (Own ET59 60 (.slice A233 ((([] : List T59) ++ (List.drop 0 (List.take (Int.toNat (mnI ((p2.L).length : Int) 20)) p2.L)))).length c234) (([] : List T59) ++ (List.drop 0 (List.take (Int.toNat (mnI ((p2.L).length : Int) 20)) p2.L)))) w_ o580 50 ∧ Ft (Bx bx581 51 [.int .i64 x583, .slice A584 (l586).length c585]) w_ o580 51 ∧ NRd dT87 A584 l586 w_ o580 4 1 ∧ MpN dT71 true Ap0_0 p0.l w_ o580 3 1 ∧ Ft (Bx bp0 63 [.int .i64 p0.most, .int .i64 p0.now, mv Ap0_0]) w_ o580 2 ∧ Ft (RdC ET59 Ap2_0 p2.L) w_ o580 0 ∧ (l586).length ≤ c585 ∧ tidewracklaw14_do_j1 K p0 p2 x583 l586 x589 x590 = some r) ?_ ?_
    rotate_left
    · rintro a w591 ⟨o580, bx581, x583, A584, c585, l586, x589, x590, hk, hs, f10, f15, f235, f582, f587, f900000, f900019, f900040, hc588, H⟩
      rw [tidewracklaw14_do_j1] at H
      refine then_n ?_
      refine x_seq ?_
      refine wpIn_region_lit ?_
      refine x_run tab hk (k := 4) (lv := [.int .i64 p2.I]) (ks := [6, 9, 10, 11, 47, 49, 50]) (e' := [(6, .pointer (some ⟨bx14, 0, none⟩)), (9, .pointer (some ⟨bx581, 0, none⟩)), (10, .int .i64 x589), (11, .bool x590), (47, .pointer (some ⟨bp0, 0, none⟩)), (49, .int .i64 p2.I), (50, .slice A233 ((([] : List T59) ++ (List.drop 0 (List.take (Int.toNat (mnI ((p2.L).length : Int) 20)) p2.L)))).length c234)]) rfl ⟨(load1 tab rfl ((Bx.cell f10.now 1).trans rfl)), trivial⟩ fun a hk => ?_
      refine x_op hk rfl ?_
      obtain ⟨t595, hc596, H⟩ := bindS H
      refine op_call hk ent_10 (vs := [.pointer (some ⟨bp0, 0, none⟩), .int .i64 p2.I, .slice A233 ((([] : List T59) ++ (List.drop 0 (List.take (Int.toNat (mnI ((p2.L).length : Int) 20)) p2.L)))).length c234]) rfl (cache_Cache_Put_calls K bp0 Ap0_0 cp0_0 p0 p2.I A233 c234 (([] : List T59) ++ (List.drop 0 (List.take (Int.toNat (mnI ((p2.L).length : Int) 20)) p2.L))) _ o580 1 2 f900019 3 f900000 hcp0_0 _ (f235.imp fun _ h_ => Own.rd h_) hc236 (by decide) (by decide)   _ hc596) ?_
      rintro _ w597 ⟨o598, A601, c602, rfl, st599, f600, f603, hc604⟩
      replace f15 := f15.st st599 (by decide)
      replace f235 := f235.st st599 (by decide)
      replace f582 := f582.st st599 (by decide)
      replace f587 := f587.st st599 (by decide)
      replace hs := hs.locQ st599 hob rfl
      have hk := hk.put 51 (.tuple #[.int .i64 t595.1, .bool t595.2.1]) rfl
      refine x_run tab hk (k := 5) (lv := []) (ks := [6, 9, 10, 11, 12, 13]) (e' := [(6, .pointer (some ⟨bx14, 0, none⟩)), (9, .pointer (some ⟨bx581, 0, none⟩)), (10, .int .i64 x589), (11, .bool x590), (12, .int .i64 t595.1), (13, .bool t595.2.1)]) rfl trivial fun a hk => ?_
      refine wpListIn_nil ?_
      refine then_n ?_
      refine x_seq ?_
      refine wpIn_region_lit ?_
      refine x_run tab hk (k := 5) (lv := [.agg #[.int .i64 x583, .slice A584 (l586).length c585]]) (ks := [6, 11, 13, 54, 58]) (e' := [(6, .pointer (some ⟨bx14, 0, none⟩)), (11, .bool x590), (13, .bool t595.2.1), (54, .agg #[.int .i64 x583, .slice A584 (l586).length c585]), (58, .bool (t595.1 == x589))]) rfl ⟨(load_box tab rfl rfl f582.now (k := 0) rfl rfl), trivial⟩ fun a hk => ?_
      cases b605 : (t595.1 == x589)
      · rw [b605] at hk H
        replace H := bifF H
        refine x_run tab hk (k := 4) (lv := []) (ks := [6, 54, 62]) (e' := [(6, .pointer (some ⟨bx14, 0, none⟩)), (54, .agg #[.int .i64 x583, .slice A584 (l586).length c585]), (62, .bool false)]) rfl trivial fun a hk => ?_
        refine x_op hk rfl ?_
        refine op_store tab hk (t := 51) (v := .agg #[.int .i64 x583, .slice A584 (l586).length c585]) (b := bx14) (k := 0) (cs' := [.int .i64 x583, .slice A584 (l586).length c585]) rfl rfl rfl rfl rfl rfl f15 rfl rfl fun w606 o607 st608 f15_ => ?_
        replace f587 := f587.st st608 (by decide)
        replace f600 := f600.st st608 (by decide)
        replace f603 := f603.st st608 (by decide)
        replace hs := hs.locQ st608 hob rfl
        replace f15 := f15_
        refine x_run tab hk (k := 1) (lv := []) (ks := [6, 7]) (e' := [(6, .pointer (some ⟨bx14, 0, none⟩)), (7, .bool false)]) rfl trivial fun a hk => ?_
        refine wpListIn_nil ?_
        refine then_n ?_
        refine wpIn_ret ?_
        refine blk_r ?_
        refine then_r ?_
        obtain rfl := Option.some.inj H
        exact x_retG hk (rs := [.cell 6 51, .tmp 7]) (vs := [.agg #[.int .i64 x583, .slice A584 (l586).length c585], .bool false]) rfl ⟨⟨_, rfl, load_box tab rfl rfl f15.now (k := 0) rfl rfl⟩, rfl, trivial⟩ ⟨cl w oi o [2, 3] (fun l_ => if l_ = 1 then LF else if l_ = 2 then Lp0 else if l_ = 3 then Lp0_0 else if l_ = 4 then Lp1_0 else 0) o607, A584, c585, A601, c602, rfl, hs.closeF (Lm := [Lp0, Lp0_0]) (Sh := [Lp1_0]) hoa rfl (fun l_ => if l_ = 1 then LF else if l_ = 2 then Lp0 else if l_ = 3 then Lp0_0 else if l_ = 4 then Lp1_0 else 0), f587.conv (fun _ h_ => hs.closeM_ft (o := o) (ρ := fun l_ => if l_ = 1 then LF else if l_ = 2 then Lp0 else if l_ = 3 then Lp0_0 else if l_ = 4 then Lp1_0 else 0) h_ (lab_at hoa (i := 3) rfl) rfl) (fun _ h_ => hs.closeM_ft (o := o) (ρ := fun l_ => if l_ = 1 then LF else if l_ = 2 then Lp0 else if l_ = 3 then Lp0_0 else if l_ = 4 then Lp1_0 else 0) h_ (lab_at hoa (i := 0) rfl) rfl), hc588, hs.closeM_ft (o := o) (ρ := fun l_ => if l_ = 1 then LF else if l_ = 2 then Lp0 else if l_ = 3 then Lp0_0 else if l_ = 4 then Lp1_0 else 0) f600 (lab_at hoa (i := 1) rfl) rfl, f603.conv (fun _ h_ => hs.closeM_ft (o := o) (ρ := fun l_ => if l_ = 1 then LF else if l_ = 2 then Lp0 else if l_ = 3 then Lp0_0 else if l_ = 4 then Lp1_0 else 0) h_ (lab_at hoa (i := 2) rfl) rfl) (fun _ h_ => hs.closeM_ft (o := o) (ρ := fun l_ => if l_ = 1 then LF else if l_ = 2 then Lp0 else if l_ = 3 then Lp0_0 else if l_ = 4 then Lp1_0 else 0) h_ (lab_at hoa (i := 0) rfl) rfl), hc604⟩
      · rw [b605] at hk H
        replace H := bifT H
        refine x_run tab hk (k := 4) (lv := []) (ks := [6, 54, 62]) (e' := [(6, .pointer (some ⟨bx14, 0, none⟩)), (54, .agg #[.int .i64 x583, .slice A584 (l586).length c585]), (62, .bool (t595.2.1 == x590))]) rfl trivial fun a hk => ?_
        refine x_op hk rfl ?_
        refine op_store tab hk (t := 51) (v := .agg #[.int .i64 x583, .slice A584 (l586).length c585]) (b := bx14) (k := 0) (cs' := [.int .i64 x583, .slice A584 (l586).length c585]) rfl rfl rfl rfl rfl rfl f15 rfl rfl fun w609 o610 st611 f15_ => ?_
        replace f587 := f587.st st611 (by decide)
        replace f600 := f600.st st611 (by decide)
        replace f603 := f603.st st611 (by decide)
        replace hs := hs.locQ st611 hob rfl
        replace f15 := f15_
        refine x_run tab hk (k := 1) (lv := []) (ks := [6, 7]) (e' := [(6, .pointer (some ⟨bx14, 0, none⟩)), (7, .bool (t595.2.1 == x590))]) rfl trivial fun a hk => ?_
        refine wpListIn_nil ?_
        refine then_n ?_
        refine wpIn_ret ?_
        refine blk_r ?_
        refine then_r ?_
        obtain rfl := Option.some.inj H
        exact x_retG hk (rs := [.cell 6 51, .tmp 7]) (vs := [.agg #[.int .i64 x583, .slice A584 (l586).length c585], .bool (t595.2.1 == x590)]) rfl ⟨⟨_, rfl, load_box tab rfl rfl f15.now (k := 0) rfl rfl⟩, rfl, trivial⟩ ⟨cl w oi o [2, 3] (fun l_ => if l_ = 1 then LF else if l_ = 2 then Lp0 else if l_ = 3 then Lp0_0 else if l_ = 4 then Lp1_0 else 0) o610, A584, c585, A601, c602, rfl, hs.closeF (Lm := [Lp0, Lp0_0]) (Sh := [Lp1_0]) hoa rfl (fun l_ => if l_ = 1 then LF else if l_ = 2 then Lp0 else if l_ = 3 then Lp0_0 else if l_ = 4 then Lp1_0 else 0), f587.conv (fun _ h_ => hs.closeM_ft (o := o) (ρ := fun l_ => if l_ = 1 then LF else if l_ = 2 then Lp0 else if l_ = 3 then Lp0_0 else if l_ = 4 then Lp1_0 else 0) h_ (lab_at hoa (i := 3) rfl) rfl) (fun _ h_ => hs.closeM_ft (o := o) (ρ := fun l_ => if l_ = 1 then LF else if l_ = 2 then Lp0 else if l_ = 3 then Lp0_0 else if l_ = 4 then Lp1_0 else 0) h_ (lab_at hoa (i := 0) rfl) rfl), hc588, hs.closeM_ft (o := o) (ρ := fun l_ => if l_ = 1 then LF else if l_ = 2 then Lp0 else if l_ = 3 then Lp0_0 else if l_ = 4 then Lp1_0 else 0) f600 (lab_at hoa (i := 1) rfl) rfl, f603.conv (fun _ h_ => hs.closeM_ft (o := o) (ρ := fun l_ => if l_ = 1 then LF else if l_ = 2 then Lp0 else if l_ = 3 then Lp0_0 else if l_ = 4 then Lp1_0 else 0) h_ (lab_at hoa (i := 2) rfl) rfl) (fun _ h_ => hs.closeM_ft (o := o) (ρ := fun l_ => if l_ = 1 then LF else if l_ = 2 then Lp0 else if l_ = 3 then Lp0_0 else if l_ = 4 then Lp1_0 else 0) h_ (lab_at hoa (i := 0) rfl) rfl), hc604⟩
    obtain ⟨t649, hc650, H⟩ := bindS H
    obtain ⟨t663, hc664, H⟩ := bindS H
    refine xd_begin (o := o230) (fun W_ => (Bx bx9 30 [.int .i64 p2.Kind, .int .i64 p2.I, .slice Ap2_0 (p2.L).length cp2_0]) W_ ∧ (Bx bx4 51 [.int .i64 p1.Most, .slice Ap1_0 (p1.L).length cp1_0]) W_ ∧ True) mixed rfl rfl fun w760 st761 => ?_
    replace f10 := f10.st st761 (by decide)
    replace f15 := f15.st st761 (by decide)
    replace f235 := f235.st st761 (by decide)
    replace f5 := f5.st st761 (by decide)
    replace f900000 := f900000.st st761 (by decide)
    replace f900019 := f900019.st st761 (by decide)
    replace f900020 := f900020.st st761 (by decide)
    replace f900040 := f900040.st st761 (by decide)
    replace hs := hs.locQ st761 hob rfl
    refine xd_abs fun G hG => ?_
    have N815 : ∀ (a_ : Act) (w_ : World), (∃ o809 : Nat → Nat, ∃ A810 : Option Addr, ∃ c811 : Nat, Kn 119 a_ [(0, .pointer (some ⟨bp0, 0, none⟩)), (5, .pointer (some ⟨bx9, 0, none⟩)), (6, .pointer (some ⟨bx14, 0, none⟩)), (8, .slice A233 ((([] : List T59) ++ (List.drop 0 (List.take (Int.toNat (mnI ((p2.L).length : Int) 20)) p2.L)))).length c234), (42, .tuple #[.agg #[.int .i64 t663.1.Most, .slice A810 (t663.1.L).length c811], .int .i64 t663.2.1, .bool t663.2.2])] ∧ St [2, 3] w oi w_ o809 ∧ Ft (Bx bx9 30 [.int .i64 p2.Kind, .int .i64 p2.I, .slice Ap2_0 (p2.L).length cp2_0]) w_ o809 68 ∧ Ft (Bx bx14 51 [.int .i64 0, .slice none 0 0]) w_ o809 69 ∧ Ft (Own ET59 60 (.slice A233 ((([] : List T59) ++ (List.drop 0 (List.take (Int.toNat (mnI ((p2.L).length : Int) 20)) p2.L)))).length c234) (([] : List T59) ++ (List.drop 0 (List.take (Int.toNat (mnI ((p2.L).length : Int) 20)) p2.L)))) w_ o809 70 ∧ Ft (Bx bx4 51 [.int .i64 p1.Most, .slice Ap1_0 (p1.L).length cp1_0]) w_ o809 67 ∧ NRd dT87 A810 t663.1.L w_ o809 4 1 ∧ MpN dT71 true Ap0_0 p0.l w_ o809 3 1 ∧ Ft (Bx bp0 63 [.int .i64 p0.most, .int .i64 p0.now, mv Ap0_0]) w_ o809 2 ∧ NRd dT87 Ap1_0 p1.L w_ o809 4 1 ∧ Ft (RdC ET59 Ap2_0 p2.L) w_ o809 0 ∧ (t663.1.L).length ≤ c811) → G 8 #[true, true, true, true, true, true, false, false, false, false, false, false, false, false] a_ w_ := by
      rintro a w814 ⟨o809, A810, c811, hk, hs, f10, f15, f235, f5, f812, f900000, f900019, f900020, f900040, hc813⟩
      refine xd_of hG ?_
      refine xd_take tab hk (k := 4) (is := [6, 7, 8, 9]) (ls' := #[true, true, true, true, true, true, true, true, true, true, false, false, false, false]) (lv := []) (ks := [0, 5, 6, 8, 43, 44, 45]) (e' := [(0, .pointer (some ⟨bp0, 0, none⟩)), (5, .pointer (some ⟨bx9, 0, none⟩)), (6, .pointer (some ⟨bx14, 0, none⟩)), (8, .slice A233 ((([] : List T59) ++ (List.drop 0 (List.take (Int.toNat (mnI ((p2.L).length : Int) 20)) p2.L)))).length c234), (43, .agg #[.int .i64 t663.1.Most, .slice A810 (t663.1.L).length c811]), (44, .int .i64 t663.2.1), (45, .bool t663.2.2)]) (by kernel_rfl) rfl rfl (by kernel_rfl) (np_then (np_then (np_blk (np_then np_body)))) ⟨f10.now, f5.now, trivial⟩ (fun W_ hS => trivial) fun a hk => ?_
      refine xd_op hk (i := 10) (by kernel_rfl) rfl rfl ?_
      refine op_alloc (o := o809) tab (t := 51) (cs := [.int .i64 0, .slice none 0 0]) rfl rfl 71 fun bx819 w816 o817 st818 f820 => ?_
      replace f10 := f10.st st818 (by decide)
      replace f15 := f15.st st818 (by decide)
      replace f235 := f235.st st818 (by decide)
      replace f5 := f5.st st818 (by decide)
      replace f812 := f812.st st818 (by decide)
      replace f900000 := f900000.st st818 (by decide)
      replace f900019 := f900019.st st818 (by decide)
      replace f900020 := f900020.st st818 (by decide)
      replace f900040 := f900040.st st818 (by decide)
      replace hs := hs.locQ st818 hob rfl
      have hk := hk.put 9 (.pointer (some ⟨bx819, 0, none⟩)) rfl
      refine ⟨.inr ⟨f10.now, f5.now, trivial⟩, ?_⟩
      refine xd_op hk (i := 11) (by kernel_rfl) rfl rfl ?_
      refine op_store tab hk (t := 51) (v := .agg #[.int .i64 t663.1.Most, .slice A810 (t663.1.L).length c811]) (b := bx819) (k := 0) (cs' := [.int .i64 t663.1.Most, .slice A810 (t663.1.L).length c811]) rfl rfl rfl rfl rfl rfl f820 rfl rfl fun w821 o822 st823 f820_ => ?_
      replace f10 := f10.st st823 (by decide)
      replace f15 := f15.st st823 (by decide)
      replace f235 := f235.st st823 (by decide)
      replace f5 := f5.st st823 (by decide)
      replace f812 := f812.st st823 (by decide)
      replace f900000 := f900000.st st823 (by decide)
      replace f900019 := f900019.st st823 (by decide)
      replace f900020 := f900020.st st823 (by decide)
      replace f900040 := f900040.st st823 (by decide)
      replace hs := hs.locQ st823 hob rfl
      replace f820 := f820_
      refine ⟨.inr ⟨f10.now, f5.now, trivial⟩, ?_⟩
      refine xd_take tab hk (k := 0) (is := [12, 13]) (ls' := #[true, true, true, true, true, true, true, true, true, true, true, true, true, true]) (lv := []) (ks := [0, 5, 6, 8, 9, 10, 11]) (e' := [(0, .pointer (some ⟨bp0, 0, none⟩)), (5, .pointer (some ⟨bx9, 0, none⟩)), (6, .pointer (some ⟨bx14, 0, none⟩)), (8, .slice A233 ((([] : List T59) ++ (List.drop 0 (List.take (Int.toNat (mnI ((p2.L).length : Int) 20)) p2.L)))).length c234), (9, .pointer (some ⟨bx819, 0, none⟩)), (10, .int .i64 t663.2.1), (11, .bool t663.2.2)]) (by kernel_rfl) rfl rfl (by kernel_rfl) (np_then (np_then (np_blk (np_then np_body)))) ⟨f10.now, f5.now, trivial⟩ (fun W_ hS => trivial) fun a hk => ?_
      refine xd_done (by kernel_rfl) ?_
      refine then_n ?_
      exact ⟨(fun b_ => (fun l_ => if l_ = 68 then 48 else if l_ = 69 then 49 else if l_ = 70 then 50 else if l_ = 71 then 51 else l_) (o822 b_)), bx819, t663.1.Most, A810, c811, t663.1.L, t663.2.1, t663.2.2, (by exact Kn.pick (ks := [0, 5, 6, 8, 9, 10, 11]) hk rfl), (hs.relabM hob (fun l_ => if l_ = 68 then 48 else if l_ = 69 then 49 else if l_ = 70 then 50 else if l_ = 71 then 51 else l_) (by decide)), (f10.relab (fun l_ => if l_ = 68 then 48 else if l_ = 69 then 49 else if l_ = 70 then 50 else if l_ = 71 then 51 else l_) rfl), (f15.relab (fun l_ => if l_ = 68 then 48 else if l_ = 69 then 49 else if l_ = 70 then 50 else if l_ = 71 then 51 else l_) rfl), (f235.relab (fun l_ => if l_ = 68 then 48 else if l_ = 69 then 49 else if l_ = 70 then 50 else if l_ = 71 then 51 else l_) rfl), (f820.relab (fun l_ => if l_ = 68 then 48 else if l_ = 69 then 49 else if l_ = 70 then 50 else if l_ = 71 then 51 else l_) rfl), (f812.relab (fun l_ => if l_ = 68 then 48 else if l_ = 69 then 49 else if l_ = 70 then 50 else if l_ = 71 then 51 else l_) rfl), (f900000.relab (fun l_ => if l_ = 68 then 48 else if l_ = 69 then 49 else if l_ = 70 then 50 else if l_ = 71 then 51 else l_) rfl), (f900019.relab (fun l_ => if l_ = 68 then 48 else if l_ = 69 then 49 else if l_ = 70 then 50 else if l_ = 71 then 51 else l_) rfl), (f900040.relab (fun l_ => if l_ = 68 then 48 else if l_ = 69 then 49 else if l_ = 70 then 50 else if l_ = 71 then 51 else l_) rfl), hc813, H⟩
    have N848 : ∀ (a_ : Act) (w_ : World), (∃ o840 : Nat → Nat, ∃ bx841 : Nat, ∃ A843 : Option Addr, ∃ c844 : Nat, Kn 119 a_ [(0, .pointer (some ⟨bp0, 0, none⟩)), (5, .pointer (some ⟨bx9, 0, none⟩)), (6, .pointer (some ⟨bx14, 0, none⟩)), (8, .slice A233 ((([] : List T59) ++ (List.drop 0 (List.take (Int.toNat (mnI ((p2.L).length : Int) 20)) p2.L)))).length c234), (9, .pointer (some ⟨bx841, 0, none⟩)), (37, .agg #[.int .i64 p1.Most, .slice Ap1_0 (p1.L).length cp1_0]), (39, .int .i64 p2.I), (41, .slice A843 (t649).length c844)] ∧ St [2, 3] w oi w_ o840 ∧ Ft (Bx bx9 30 [.int .i64 p2.Kind, .int .i64 p2.I, .slice Ap2_0 (p2.L).length cp2_0]) w_ o840 74 ∧ Ft (Bx bx14 51 [.int .i64 0, .slice none 0 0]) w_ o840 75 ∧ Ft (Own ET59 60 (.slice A233 ((([] : List T59) ++ (List.drop 0 (List.take (Int.toNat (mnI ((p2.L).length : Int) 20)) p2.L)))).length c234) (([] : List T59) ++ (List.drop 0 (List.take (Int.toNat (mnI ((p2.L).length : Int) 20)) p2.L)))) w_ o840 76 ∧ Ft (Bx bx4 51 [.int .i64 p1.Most, .slice Ap1_0 (p1.L).length cp1_0]) w_ o840 73 ∧ Ft (Bx bx841 51 [.int .i64 0, .slice none 0 0]) w_ o840 77 ∧ Ft (Own ET75 76 (.slice A843 (t649).length c844) t649) w_ o840 78 ∧ MpN dT71 true Ap0_0 p0.l w_ o840 3 1 ∧ Ft (Bx bp0 63 [.int .i64 p0.most, .int .i64 p0.now, mv Ap0_0]) w_ o840 2 ∧ NRd dT87 Ap1_0 p1.L w_ o840 4 1 ∧ Ft (RdC ET59 Ap2_0 p2.L) w_ o840 0 ∧ (t649).length ≤ c844) → G 8 #[true, true, true, true, true, false, false, false, false, false, true, false, false, false] a_ w_ := by
      rintro a w847 ⟨o840, bx841, A843, c844, hk, hs, f10, f15, f235, f5, f842, f845, f900000, f900019, f900020, f900040, hc846⟩
      refine xd_of hG ?_
      refine xd_op hk (i := 5) (by kernel_rfl) rfl rfl ?_
      obtain ⟨o852, hR853⟩ := relab_ex o840 (fun l_ => if l_ = 78 then 1 else l_)
      replace hs : St [2, 3] w oi w847 o852 := by rw [hR853]; exact (hs.relabM hob (fun l_ => if l_ = 78 then 1 else l_) (by decide))
      replace f10 : Ft (Bx bx9 30 [.int .i64 p2.Kind, .int .i64 p2.I, .slice Ap2_0 (p2.L).length cp2_0]) w847 o852 74 := by rw [hR853]; exact f10.relab (fun l_ => if l_ = 78 then 1 else l_) rfl
      replace f15 : Ft (Bx bx14 51 [.int .i64 0, .slice none 0 0]) w847 o852 75 := by rw [hR853]; exact f15.relab (fun l_ => if l_ = 78 then 1 else l_) rfl
      replace f235 : Ft (Own ET59 60 (.slice A233 ((([] : List T59) ++ (List.drop 0 (List.take (Int.toNat (mnI ((p2.L).length : Int) 20)) p2.L)))).length c234) (([] : List T59) ++ (List.drop 0 (List.take (Int.toNat (mnI ((p2.L).length : Int) 20)) p2.L)))) w847 o852 76 := by rw [hR853]; exact f235.relab (fun l_ => if l_ = 78 then 1 else l_) rfl
      replace f5 : Ft (Bx bx4 51 [.int .i64 p1.Most, .slice Ap1_0 (p1.L).length cp1_0]) w847 o852 73 := by rw [hR853]; exact f5.relab (fun l_ => if l_ = 78 then 1 else l_) rfl
      replace f842 : Ft (Bx bx841 51 [.int .i64 0, .slice none 0 0]) w847 o852 77 := by rw [hR853]; exact f842.relab (fun l_ => if l_ = 78 then 1 else l_) rfl
      replace f845 : Ft (Own ET75 76 (.slice A843 (t649).length c844) t649) w847 o852 1 := by rw [hR853]; exact f845.relab (fun l_ => if l_ = 78 then 1 else l_) rfl
      replace f900000 : MpN dT71 true Ap0_0 p0.l w847 o852 3 1 := by rw [hR853]; exact f900000.relab (fun l_ => if l_ = 78 then 1 else l_) rfl
      replace f900019 : Ft (Bx bp0 63 [.int .i64 p0.most, .int .i64 p0.now, mv Ap0_0]) w847 o852 2 := by rw [hR853]; exact f900019.relab (fun l_ => if l_ = 78 then 1 else l_) rfl
      replace f900020 : NRd dT87 Ap1_0 p1.L w847 o852 4 1 := by rw [hR853]; exact f900020.relab (fun l_ => if l_ = 78 then 1 else l_) rfl
      replace f900040 : Ft (RdC ET59 Ap2_0 p2.L) w847 o852 0 := by rw [hR853]; exact f900040.relab (fun l_ => if l_ = 78 then 1 else l_) rfl
      refine op_call hk ent_33 (vs := [.agg #[.int .i64 p1.Most, .slice Ap1_0 (p1.L).length cp1_0], .int .i64 p2.I, .slice A843 (t649).length c844]) rfl (tidewrackref14_Put_calls K Ap1_0 cp1_0 p1 p2.I A843 c844 t649 _ o852 1 4 f900020 hcp1_0 (f845.imp fun _ h_ => Own.rd h_) hc846 (by decide)   _ hc664) ?_
      rintro _ w854 ⟨o855, A857, c858, rfl, st856, f859, hc860⟩
      replace f10 := f10.st st856 (by decide)
      replace f15 := f15.st st856 (by decide)
      replace f235 := f235.st st856 (by decide)
      replace f5 := f5.st st856 (by decide)
      replace f842 := f842.st st856 (by decide)
      replace f845 := f845.st st856 (by decide)
      replace f900000 := f900000.st st856 (by decide)
      replace f900019 := f900019.st st856 (by decide)
      replace f900020 := f900020.st st856 (by decide)
      replace f900040 := f900040.st st856 (by decide)
      replace hs := hs.locQ st856 hob rfl
      have hk := hk.put 42 (.tuple #[.agg #[.int .i64 t663.1.Most, .slice A857 (t663.1.L).length c858], .int .i64 t663.2.1, .bool t663.2.2]) rfl
      refine ⟨.inr ⟨f10.now, f5.now, trivial⟩, ?_⟩
      refine xd_take tab hk (k := 3) (is := [6, 7, 8, 9]) (ls' := #[true, true, true, true, true, true, true, true, true, true, true, false, false, false]) (lv := []) (ks := [0, 5, 6, 8, 9, 43, 44, 45]) (e' := [(0, .pointer (some ⟨bp0, 0, none⟩)), (5, .pointer (some ⟨bx9, 0, none⟩)), (6, .pointer (some ⟨bx14, 0, none⟩)), (8, .slice A233 ((([] : List T59) ++ (List.drop 0 (List.take (Int.toNat (mnI ((p2.L).length : Int) 20)) p2.L)))).length c234), (9, .pointer (some ⟨bx841, 0, none⟩)), (43, .agg #[.int .i64 t663.1.Most, .slice A857 (t663.1.L).length c858]), (44, .int .i64 t663.2.1), (45, .bool t663.2.2)]) (by kernel_rfl) rfl rfl (by kernel_rfl) (np_then (np_then (np_blk (np_then np_body)))) ⟨f10.now, f5.now, trivial⟩ (fun W_ hS => trivial) fun a hk => ?_
      refine xd_op hk (i := 11) (by kernel_rfl) rfl rfl ?_
      refine op_store tab hk (t := 51) (v := .agg #[.int .i64 t663.1.Most, .slice A857 (t663.1.L).length c858]) (b := bx841) (k := 0) (cs' := [.int .i64 t663.1.Most, .slice A857 (t663.1.L).length c858]) rfl rfl rfl rfl rfl rfl f842 rfl rfl fun w861 o862 st863 f842_ => ?_
      replace f10 := f10.st st863 (by decide)
      replace f15 := f15.st st863 (by decide)
      replace f235 := f235.st st863 (by decide)
      replace f5 := f5.st st863 (by decide)
      replace f845 := f845.st st863 (by decide)
      replace f859 := f859.st st863 (by decide)
      replace f900000 := f900000.st st863 (by decide)
      replace f900019 := f900019.st st863 (by decide)
      replace f900020 := f900020.st st863 (by decide)
      replace f900040 := f900040.st st863 (by decide)
      replace hs := hs.locQ st863 hob rfl
      replace f842 := f842_
      refine ⟨.inr ⟨f10.now, f5.now, trivial⟩, ?_⟩
      refine xd_take tab hk (k := 0) (is := [12, 13]) (ls' := #[true, true, true, true, true, true, true, true, true, true, true, true, true, true]) (lv := []) (ks := [0, 5, 6, 8, 9, 10, 11]) (e' := [(0, .pointer (some ⟨bp0, 0, none⟩)), (5, .pointer (some ⟨bx9, 0, none⟩)), (6, .pointer (some ⟨bx14, 0, none⟩)), (8, .slice A233 ((([] : List T59) ++ (List.drop 0 (List.take (Int.toNat (mnI ((p2.L).length : Int) 20)) p2.L)))).length c234), (9, .pointer (some ⟨bx841, 0, none⟩)), (10, .int .i64 t663.2.1), (11, .bool t663.2.2)]) (by kernel_rfl) rfl rfl (by kernel_rfl) (np_then (np_then (np_blk (np_then np_body)))) ⟨f10.now, f5.now, trivial⟩ (fun W_ hS => trivial) fun a hk => ?_
      refine xd_done (by kernel_rfl) ?_
      refine then_n ?_
      exact ⟨(fun b_ => (fun l_ => if l_ = 74 then 48 else if l_ = 75 then 49 else if l_ = 76 then 50 else if l_ = 77 then 51 else l_) (o862 b_)), bx841, t663.1.Most, A857, c858, t663.1.L, t663.2.1, t663.2.2, (by exact Kn.pick (ks := [0, 5, 6, 8, 9, 10, 11]) hk rfl), (hs.relabM hob (fun l_ => if l_ = 74 then 48 else if l_ = 75 then 49 else if l_ = 76 then 50 else if l_ = 77 then 51 else l_) (by decide)), (f10.relab (fun l_ => if l_ = 74 then 48 else if l_ = 75 then 49 else if l_ = 76 then 50 else if l_ = 77 then 51 else l_) rfl), (f15.relab (fun l_ => if l_ = 74 then 48 else if l_ = 75 then 49 else if l_ = 76 then 50 else if l_ = 77 then 51 else l_) rfl), (f235.relab (fun l_ => if l_ = 74 then 48 else if l_ = 75 then 49 else if l_ = 76 then 50 else if l_ = 77 then 51 else l_) rfl), (f842.relab (fun l_ => if l_ = 74 then 48 else if l_ = 75 then 49 else if l_ = 76 then 50 else if l_ = 77 then 51 else l_) rfl), (f859.relab (fun l_ => if l_ = 74 then 48 else if l_ = 75 then 49 else if l_ = 76 then 50 else if l_ = 77 then 51 else l_) rfl), (f900000.relab (fun l_ => if l_ = 74 then 48 else if l_ = 75 then 49 else if l_ = 76 then 50 else if l_ = 77 then 51 else l_) rfl), (f900019.relab (fun l_ => if l_ = 74 then 48 else if l_ = 75 then 49 else if l_ = 76 then 50 else if l_ = 77 then 51 else l_) rfl), (f900040.relab (fun l_ => if l_ = 74 then 48 else if l_ = 75 then 49 else if l_ = 76 then 50 else if l_ = 77 then 51 else l_) rfl), hc860, H⟩
    have N787 : ∀ (a_ : Act) (w_ : World), (∃ o781 : Nat → Nat, ∃ A782 : Option Addr, ∃ c783 : Nat, Kn 119 a_ [(0, .pointer (some ⟨bp0, 0, none⟩)), (5, .pointer (some ⟨bx9, 0, none⟩)), (6, .pointer (some ⟨bx14, 0, none⟩)), (8, .slice A233 ((([] : List T59) ++ (List.drop 0 (List.take (Int.toNat (mnI ((p2.L).length : Int) 20)) p2.L)))).length c234), (37, .agg #[.int .i64 p1.Most, .slice Ap1_0 (p1.L).length cp1_0]), (39, .int .i64 p2.I), (41, .slice A782 (t649).length c783)] ∧ St [2, 3] w oi w_ o781 ∧ Ft (Bx bx9 30 [.int .i64 p2.Kind, .int .i64 p2.I, .slice Ap2_0 (p2.L).length cp2_0]) w_ o781 63 ∧ Ft (Bx bx14 51 [.int .i64 0, .slice none 0 0]) w_ o781 64 ∧ Ft (Own ET59 60 (.slice A233 ((([] : List T59) ++ (List.drop 0 (List.take (Int.toNat (mnI ((p2.L).length : Int) 20)) p2.L)))).length c234) (([] : List T59) ++ (List.drop 0 (List.take (Int.toNat (mnI ((p2.L).length : Int) 20)) p2.L)))) w_ o781 65 ∧ Ft (Bx bx4 51 [.int .i64 p1.Most, .slice Ap1_0 (p1.L).length cp1_0]) w_ o781 62 ∧ Ft (Own ET75 76 (.slice A782 (t649).length c783) t649) w_ o781 66 ∧ MpN dT71 true Ap0_0 p0.l w_ o781 3 1 ∧ Ft (Bx bp0 63 [.int .i64 p0.most, .int .i64 p0.now, mv Ap0_0]) w_ o781 2 ∧ NRd dT87 Ap1_0 p1.L w_ o781 4 1 ∧ Ft (RdC ET59 Ap2_0 p2.L) w_ o781 0 ∧ (t649).length ≤ c783) → G 9 #[true, true, true, true, true, false, false, false, false, false, false, false, false, false] a_ w_ := by
      rintro a w786 ⟨o781, A782, c783, hk, hs, f10, f15, f235, f5, f784, f900000, f900019, f900020, f900040, hc785⟩
      refine xd_of hG ?_
      refine xd_each [5, 10] (by kernel_rfl) rfl ⟨?_, ?_, trivial⟩
      · refine xd_one hk rfl rfl ?_
        obtain ⟨o791, hR792⟩ := relab_ex o781 (fun l_ => if l_ = 66 then 1 else l_)
        replace hs : St [2, 3] w oi w786 o791 := by rw [hR792]; exact (hs.relabM hob (fun l_ => if l_ = 66 then 1 else l_) (by decide))
        replace f10 : Ft (Bx bx9 30 [.int .i64 p2.Kind, .int .i64 p2.I, .slice Ap2_0 (p2.L).length cp2_0]) w786 o791 63 := by rw [hR792]; exact f10.relab (fun l_ => if l_ = 66 then 1 else l_) rfl
        replace f15 : Ft (Bx bx14 51 [.int .i64 0, .slice none 0 0]) w786 o791 64 := by rw [hR792]; exact f15.relab (fun l_ => if l_ = 66 then 1 else l_) rfl
        replace f235 : Ft (Own ET59 60 (.slice A233 ((([] : List T59) ++ (List.drop 0 (List.take (Int.toNat (mnI ((p2.L).length : Int) 20)) p2.L)))).length c234) (([] : List T59) ++ (List.drop 0 (List.take (Int.toNat (mnI ((p2.L).length : Int) 20)) p2.L)))) w786 o791 65 := by rw [hR792]; exact f235.relab (fun l_ => if l_ = 66 then 1 else l_) rfl
        replace f5 : Ft (Bx bx4 51 [.int .i64 p1.Most, .slice Ap1_0 (p1.L).length cp1_0]) w786 o791 62 := by rw [hR792]; exact f5.relab (fun l_ => if l_ = 66 then 1 else l_) rfl
        replace f784 : Ft (Own ET75 76 (.slice A782 (t649).length c783) t649) w786 o791 1 := by rw [hR792]; exact f784.relab (fun l_ => if l_ = 66 then 1 else l_) rfl
        replace f900000 : MpN dT71 true Ap0_0 p0.l w786 o791 3 1 := by rw [hR792]; exact f900000.relab (fun l_ => if l_ = 66 then 1 else l_) rfl
        replace f900019 : Ft (Bx bp0 63 [.int .i64 p0.most, .int .i64 p0.now, mv Ap0_0]) w786 o791 2 := by rw [hR792]; exact f900019.relab (fun l_ => if l_ = 66 then 1 else l_) rfl
        replace f900020 : NRd dT87 Ap1_0 p1.L w786 o791 4 1 := by rw [hR792]; exact f900020.relab (fun l_ => if l_ = 66 then 1 else l_) rfl
        replace f900040 : Ft (RdC ET59 Ap2_0 p2.L) w786 o791 0 := by rw [hR792]; exact f900040.relab (fun l_ => if l_ = 66 then 1 else l_) rfl
        refine op_call hk ent_33 (vs := [.agg #[.int .i64 p1.Most, .slice Ap1_0 (p1.L).length cp1_0], .int .i64 p2.I, .slice A782 (t649).length c783]) rfl (tidewrackref14_Put_calls K Ap1_0 cp1_0 p1 p2.I A782 c783 t649 _ o791 1 4 f900020 hcp1_0 (f784.imp fun _ h_ => Own.rd h_) hc785 (by decide)   _ hc664) ?_
        rintro _ w793 ⟨o794, A796, c797, rfl, st795, f798, hc799⟩
        replace f10 := f10.st st795 (by decide)
        replace f15 := f15.st st795 (by decide)
        replace f235 := f235.st st795 (by decide)
        replace f5 := f5.st st795 (by decide)
        replace f784 := f784.st st795 (by decide)
        replace f900000 := f900000.st st795 (by decide)
        replace f900019 := f900019.st st795 (by decide)
        replace f900020 := f900020.st st795 (by decide)
        replace f900040 := f900040.st st795 (by decide)
        replace hs := hs.locQ st795 hob rfl
        have hk := hk.put 42 (.tuple #[.agg #[.int .i64 t663.1.Most, .slice A796 (t663.1.L).length c797], .int .i64 t663.2.1, .bool t663.2.2]) rfl
        refine ⟨.inr ⟨f10.now, f5.now, trivial⟩, ?_⟩
        exact xd_to hG rfl (N815 _ _ ⟨(fun b_ => (fun l_ => if l_ = 62 then 67 else if l_ = 63 then 68 else if l_ = 64 then 69 else if l_ = 65 then 70 else l_) (o794 b_)), A796, c797, (by exact Kn.pick (ks := [0, 5, 6, 8, 42]) hk rfl), (hs.relabM hob (fun l_ => if l_ = 62 then 67 else if l_ = 63 then 68 else if l_ = 64 then 69 else if l_ = 65 then 70 else l_) (by decide)), (f10.relab (fun l_ => if l_ = 62 then 67 else if l_ = 63 then 68 else if l_ = 64 then 69 else if l_ = 65 then 70 else l_) rfl), (f15.relab (fun l_ => if l_ = 62 then 67 else if l_ = 63 then 68 else if l_ = 64 then 69 else if l_ = 65 then 70 else l_) rfl), (f235.relab (fun l_ => if l_ = 62 then 67 else if l_ = 63 then 68 else if l_ = 64 then 69 else if l_ = 65 then 70 else l_) rfl), (f5.relab (fun l_ => if l_ = 62 then 67 else if l_ = 63 then 68 else if l_ = 64 then 69 else if l_ = 65 then 70 else l_) rfl), (f798.relab (fun l_ => if l_ = 62 then 67 else if l_ = 63 then 68 else if l_ = 64 then 69 else if l_ = 65 then 70 else l_) rfl), (f900000.relab (fun l_ => if l_ = 62 then 67 else if l_ = 63 then 68 else if l_ = 64 then 69 else if l_ = 65 then 70 else l_) rfl), (f900019.relab (fun l_ => if l_ = 62 then 67 else if l_ = 63 then 68 else if l_ = 64 then 69 else if l_ = 65 then 70 else l_) rfl), (f900020.relab (fun l_ => if l_ = 62 then 67 else if l_ = 63 then 68 else if l_ = 64 then 69 else if l_ = 65 then 70 else l_) rfl), (f900040.relab (fun l_ => if l_ = 62 then 67 else if l_ = 63 then 68 else if l_ = 64 then 69 else if l_ = 65 then 70 else l_) rfl), hc799⟩)
      · refine xd_one hk rfl rfl ?_
        refine op_alloc (o := o781) tab (t := 51) (cs := [.int .i64 0, .slice none 0 0]) rfl rfl 72 fun bx827 w824 o825 st826 f828 => ?_
        replace f10 := f10.st st826 (by decide)
        replace f15 := f15.st st826 (by decide)
        replace f235 := f235.st st826 (by decide)
        replace f5 := f5.st st826 (by decide)
        replace f784 := f784.st st826 (by decide)
        replace f900000 := f900000.st st826 (by decide)
        replace f900019 := f900019.st st826 (by decide)
        replace f900020 := f900020.st st826 (by decide)
        replace f900040 := f900040.st st826 (by decide)
        replace hs := hs.locQ st826 hob rfl
        have hk := hk.put 9 (.pointer (some ⟨bx827, 0, none⟩)) rfl
        refine ⟨.inr ⟨f10.now, f5.now, trivial⟩, ?_⟩
        exact xd_to hG rfl (N848 _ _ ⟨(fun b_ => (fun l_ => if l_ = 62 then 73 else if l_ = 63 then 74 else if l_ = 64 then 75 else if l_ = 65 then 76 else if l_ = 66 then 78 else if l_ = 72 then 77 else l_) (o825 b_)), bx827, A782, c783, (by exact Kn.pick (ks := [0, 5, 6, 8, 9, 37, 39, 41]) hk rfl), (hs.relabM hob (fun l_ => if l_ = 62 then 73 else if l_ = 63 then 74 else if l_ = 64 then 75 else if l_ = 65 then 76 else if l_ = 66 then 78 else if l_ = 72 then 77 else l_) (by decide)), (f10.relab (fun l_ => if l_ = 62 then 73 else if l_ = 63 then 74 else if l_ = 64 then 75 else if l_ = 65 then 76 else if l_ = 66 then 78 else if l_ = 72 then 77 else l_) rfl), (f15.relab (fun l_ => if l_ = 62 then 73 else if l_ = 63 then 74 else if l_ = 64 then 75 else if l_ = 65 then 76 else if l_ = 66 then 78 else if l_ = 72 then 77 else l_) rfl), (f235.relab (fun l_ => if l_ = 62 then 73 else if l_ = 63 then 74 else if l_ = 64 then 75 else if l_ = 65 then 76 else if l_ = 66 then 78 else if l_ = 72 then 77 else l_) rfl), (f5.relab (fun l_ => if l_ = 62 then 73 else if l_ = 63 then 74 else if l_ = 64 then 75 else if l_ = 65 then 76 else if l_ = 66 then 78 else if l_ = 72 then 77 else l_) rfl), (f828.relab (fun l_ => if l_ = 62 then 73 else if l_ = 63 then 74 else if l_ = 64 then 75 else if l_ = 65 then 76 else if l_ = 66 then 78 else if l_ = 72 then 77 else l_) rfl), (f784.relab (fun l_ => if l_ = 62 then 73 else if l_ = 63 then 74 else if l_ = 64 then 75 else if l_ = 65 then 76 else if l_ = 66 then 78 else if l_ = 72 then 77 else l_) rfl), (f900000.relab (fun l_ => if l_ = 62 then 73 else if l_ = 63 then 74 else if l_ = 64 then 75 else if l_ = 65 then 76 else if l_ = 66 then 78 else if l_ = 72 then 77 else l_) rfl), (f900019.relab (fun l_ => if l_ = 62 then 73 else if l_ = 63 then 74 else if l_ = 64 then 75 else if l_ = 65 then 76 else if l_ = 66 then 78 else if l_ = 72 then 77 else l_) rfl), (f900020.relab (fun l_ => if l_ = 62 then 73 else if l_ = 63 then 74 else if l_ = 64 then 75 else if l_ = 65 then 76 else if l_ = 66 then 78 else if l_ = 72 then 77 else l_) rfl), (f900040.relab (fun l_ => if l_ = 62 then 73 else if l_ = 63 then 74 else if l_ = 64 then 75 else if l_ = 65 then 76 else if l_ = 66 then 78 else if l_ = 72 then 77 else l_) rfl), hc785⟩)
    have N880 : ∀ (a_ : Act) (w_ : World), (∃ o876 : Nat → Nat, ∃ bx877 : Nat, Kn 119 a_ [(0, .pointer (some ⟨bp0, 0, none⟩)), (5, .pointer (some ⟨bx9, 0, none⟩)), (6, .pointer (some ⟨bx14, 0, none⟩)), (8, .slice A233 ((([] : List T59) ++ (List.drop 0 (List.take (Int.toNat (mnI ((p2.L).length : Int) 20)) p2.L)))).length c234), (9, .pointer (some ⟨bx877, 0, none⟩)), (37, .agg #[.int .i64 p1.Most, .slice Ap1_0 (p1.L).length cp1_0]), (39, .int .i64 p2.I), (40, .slice A233 ((([] : List T59) ++ (List.drop 0 (List.take (Int.toNat (mnI ((p2.L).length : Int) 20)) p2.L)))).length c234)] ∧ St [2, 3] w oi w_ o876 ∧ Ft (Bx bx9 30 [.int .i64 p2.Kind, .int .i64 p2.I, .slice Ap2_0 (p2.L).length cp2_0]) w_ o876 81 ∧ Ft (Bx bx14 51 [.int .i64 0, .slice none 0 0]) w_ o876 82 ∧ Ft (Own ET59 60 (.slice A233 ((([] : List T59) ++ (List.drop 0 (List.take (Int.toNat (mnI ((p2.L).length : Int) 20)) p2.L)))).length c234) (([] : List T59) ++ (List.drop 0 (List.take (Int.toNat (mnI ((p2.L).length : Int) 20)) p2.L)))) w_ o876 83 ∧ Ft (Bx bx4 51 [.int .i64 p1.Most, .slice Ap1_0 (p1.L).length cp1_0]) w_ o876 80 ∧ Ft (Bx bx877 51 [.int .i64 0, .slice none 0 0]) w_ o876 84 ∧ MpN dT71 true Ap0_0 p0.l w_ o876 3 1 ∧ Ft (Bx bp0 63 [.int .i64 p0.most, .int .i64 p0.now, mv Ap0_0]) w_ o876 2 ∧ NRd dT87 Ap1_0 p1.L w_ o876 4 1 ∧ Ft (RdC ET59 Ap2_0 p2.L) w_ o876 0) → G 9 #[true, true, true, true, false, false, false, false, false, false, true, false, false, false] a_ w_ := by
      rintro a w879 ⟨o876, bx877, hk, hs, f10, f15, f235, f5, f878, f900000, f900019, f900020, f900040⟩
      refine xd_of hG ?_
      refine xd_op hk (i := 4) (by kernel_rfl) rfl rfl ?_
      refine op_call hk ent_13 (vs := [.slice A233 ((([] : List T59) ++ (List.drop 0 (List.take (Int.toNat (mnI ((p2.L).length : Int) 20)) p2.L)))).length c234]) rfl (tidewracklaw14_Told_calls K A233 c234 (([] : List T59) ++ (List.drop 0 (List.take (Int.toNat (mnI ((p2.L).length : Int) 20)) p2.L))) _ o876 _ (f235.imp fun _ h_ => Own.rd h_) hc236 85  _ hc650) ?_
      rintro _ w884 ⟨o885, A887, c888, rfl, st886, f889, hc890⟩
      replace f10 := f10.st st886 (by decide)
      replace f15 := f15.st st886 (by decide)
      replace f235 := f235.st st886 (by decide)
      replace f5 := f5.st st886 (by decide)
      replace f878 := f878.st st886 (by decide)
      replace f900000 := f900000.st st886 (by decide)
      replace f900019 := f900019.st st886 (by decide)
      replace f900020 := f900020.st st886 (by decide)
      replace f900040 := f900040.st st886 (by decide)
      replace hs := hs.locQ st886 hob rfl
      have hk := hk.put 41 (.slice A887 (t649).length c888) rfl
      refine ⟨.inr ⟨f10.now, f5.now, trivial⟩, ?_⟩
      refine xd_op hk (i := 5) (by kernel_rfl) rfl rfl ?_
      obtain ⟨o894, hR895⟩ := relab_ex o885 (fun l_ => if l_ = 85 then 1 else l_)
      replace hs : St [2, 3] w oi w884 o894 := by rw [hR895]; exact (hs.relabM hob (fun l_ => if l_ = 85 then 1 else l_) (by decide))
      replace f10 : Ft (Bx bx9 30 [.int .i64 p2.Kind, .int .i64 p2.I, .slice Ap2_0 (p2.L).length cp2_0]) w884 o894 81 := by rw [hR895]; exact f10.relab (fun l_ => if l_ = 85 then 1 else l_) rfl
      replace f15 : Ft (Bx bx14 51 [.int .i64 0, .slice none 0 0]) w884 o894 82 := by rw [hR895]; exact f15.relab (fun l_ => if l_ = 85 then 1 else l_) rfl
      replace f235 : Ft (Own ET59 60 (.slice A233 ((([] : List T59) ++ (List.drop 0 (List.take (Int.toNat (mnI ((p2.L).length : Int) 20)) p2.L)))).length c234) (([] : List T59) ++ (List.drop 0 (List.take (Int.toNat (mnI ((p2.L).length : Int) 20)) p2.L)))) w884 o894 83 := by rw [hR895]; exact f235.relab (fun l_ => if l_ = 85 then 1 else l_) rfl
      replace f5 : Ft (Bx bx4 51 [.int .i64 p1.Most, .slice Ap1_0 (p1.L).length cp1_0]) w884 o894 80 := by rw [hR895]; exact f5.relab (fun l_ => if l_ = 85 then 1 else l_) rfl
      replace f878 : Ft (Bx bx877 51 [.int .i64 0, .slice none 0 0]) w884 o894 84 := by rw [hR895]; exact f878.relab (fun l_ => if l_ = 85 then 1 else l_) rfl
      replace f889 : Ft (Own ET75 76 (.slice A887 (t649).length c888) t649) w884 o894 1 := by rw [hR895]; exact f889.relab (fun l_ => if l_ = 85 then 1 else l_) rfl
      replace f900000 : MpN dT71 true Ap0_0 p0.l w884 o894 3 1 := by rw [hR895]; exact f900000.relab (fun l_ => if l_ = 85 then 1 else l_) rfl
      replace f900019 : Ft (Bx bp0 63 [.int .i64 p0.most, .int .i64 p0.now, mv Ap0_0]) w884 o894 2 := by rw [hR895]; exact f900019.relab (fun l_ => if l_ = 85 then 1 else l_) rfl
      replace f900020 : NRd dT87 Ap1_0 p1.L w884 o894 4 1 := by rw [hR895]; exact f900020.relab (fun l_ => if l_ = 85 then 1 else l_) rfl
      replace f900040 : Ft (RdC ET59 Ap2_0 p2.L) w884 o894 0 := by rw [hR895]; exact f900040.relab (fun l_ => if l_ = 85 then 1 else l_) rfl
      refine op_call hk ent_33 (vs := [.agg #[.int .i64 p1.Most, .slice Ap1_0 (p1.L).length cp1_0], .int .i64 p2.I, .slice A887 (t649).length c888]) rfl (tidewrackref14_Put_calls K Ap1_0 cp1_0 p1 p2.I A887 c888 t649 _ o894 1 4 f900020 hcp1_0 (f889.imp fun _ h_ => Own.rd h_) hc890 (by decide)   _ hc664) ?_
      rintro _ w896 ⟨o897, A899, c900, rfl, st898, f901, hc902⟩
      replace f10 := f10.st st898 (by decide)
      replace f15 := f15.st st898 (by decide)
      replace f235 := f235.st st898 (by decide)
      replace f5 := f5.st st898 (by decide)
      replace f878 := f878.st st898 (by decide)
      replace f889 := f889.st st898 (by decide)
      replace f900000 := f900000.st st898 (by decide)
      replace f900019 := f900019.st st898 (by decide)
      replace f900020 := f900020.st st898 (by decide)
      replace f900040 := f900040.st st898 (by decide)
      replace hs := hs.locQ st898 hob rfl
      have hk := hk.put 42 (.tuple #[.agg #[.int .i64 t663.1.Most, .slice A899 (t663.1.L).length c900], .int .i64 t663.2.1, .bool t663.2.2]) rfl
      refine ⟨.inr ⟨f10.now, f5.now, trivial⟩, ?_⟩
      refine xd_take tab hk (k := 3) (is := [6, 7, 8, 9]) (ls' := #[true, true, true, true, true, true, true, true, true, true, true, false, false, false]) (lv := []) (ks := [0, 5, 6, 8, 9, 43, 44, 45]) (e' := [(0, .pointer (some ⟨bp0, 0, none⟩)), (5, .pointer (some ⟨bx9, 0, none⟩)), (6, .pointer (some ⟨bx14, 0, none⟩)), (8, .slice A233 ((([] : List T59) ++ (List.drop 0 (List.take (Int.toNat (mnI ((p2.L).length : Int) 20)) p2.L)))).length c234), (9, .pointer (some ⟨bx877, 0, none⟩)), (43, .agg #[.int .i64 t663.1.Most, .slice A899 (t663.1.L).length c900]), (44, .int .i64 t663.2.1), (45, .bool t663.2.2)]) (by kernel_rfl) rfl rfl (by kernel_rfl) (np_then (np_then (np_blk (np_then np_body)))) ⟨f10.now, f5.now, trivial⟩ (fun W_ hS => trivial) fun a hk => ?_
      refine xd_op hk (i := 11) (by kernel_rfl) rfl rfl ?_
      refine op_store tab hk (t := 51) (v := .agg #[.int .i64 t663.1.Most, .slice A899 (t663.1.L).length c900]) (b := bx877) (k := 0) (cs' := [.int .i64 t663.1.Most, .slice A899 (t663.1.L).length c900]) rfl rfl rfl rfl rfl rfl f878 rfl rfl fun w903 o904 st905 f878_ => ?_
      replace f10 := f10.st st905 (by decide)
      replace f15 := f15.st st905 (by decide)
      replace f235 := f235.st st905 (by decide)
      replace f5 := f5.st st905 (by decide)
      replace f889 := f889.st st905 (by decide)
      replace f900000 := f900000.st st905 (by decide)
      replace f900019 := f900019.st st905 (by decide)
      replace f900020 := f900020.st st905 (by decide)
      replace f900040 := f900040.st st905 (by decide)
      replace f901 := f901.st st905 (by decide)
      replace hs := hs.locQ st905 hob rfl
      replace f878 := f878_
      refine ⟨.inr ⟨f10.now, f5.now, trivial⟩, ?_⟩
      refine xd_take tab hk (k := 0) (is := [12, 13]) (ls' := #[true, true, true, true, true, true, true, true, true, true, true, true, true, true]) (lv := []) (ks := [0, 5, 6, 8, 9, 10, 11]) (e' := [(0, .pointer (some ⟨bp0, 0, none⟩)), (5, .pointer (some ⟨bx9, 0, none⟩)), (6, .pointer (some ⟨bx14, 0, none⟩)), (8, .slice A233 ((([] : List T59) ++ (List.drop 0 (List.take (Int.toNat (mnI ((p2.L).length : Int) 20)) p2.L)))).length c234), (9, .pointer (some ⟨bx877, 0, none⟩)), (10, .int .i64 t663.2.1), (11, .bool t663.2.2)]) (by kernel_rfl) rfl rfl (by kernel_rfl) (np_then (np_then (np_blk (np_then np_body)))) ⟨f10.now, f5.now, trivial⟩ (fun W_ hS => trivial) fun a hk => ?_
      refine xd_done (by kernel_rfl) ?_
      refine then_n ?_
      exact ⟨(fun b_ => (fun l_ => if l_ = 81 then 48 else if l_ = 82 then 49 else if l_ = 83 then 50 else if l_ = 84 then 51 else l_) (o904 b_)), bx877, t663.1.Most, A899, c900, t663.1.L, t663.2.1, t663.2.2, (by exact Kn.pick (ks := [0, 5, 6, 8, 9, 10, 11]) hk rfl), (hs.relabM hob (fun l_ => if l_ = 81 then 48 else if l_ = 82 then 49 else if l_ = 83 then 50 else if l_ = 84 then 51 else l_) (by decide)), (f10.relab (fun l_ => if l_ = 81 then 48 else if l_ = 82 then 49 else if l_ = 83 then 50 else if l_ = 84 then 51 else l_) rfl), (f15.relab (fun l_ => if l_ = 81 then 48 else if l_ = 82 then 49 else if l_ = 83 then 50 else if l_ = 84 then 51 else l_) rfl), (f235.relab (fun l_ => if l_ = 81 then 48 else if l_ = 82 then 49 else if l_ = 83 then 50 else if l_ = 84 then 51 else l_) rfl), (f878.relab (fun l_ => if l_ = 81 then 48 else if l_ = 82 then 49 else if l_ = 83 then 50 else if l_ = 84 then 51 else l_) rfl), (f901.relab (fun l_ => if l_ = 81 then 48 else if l_ = 82 then 49 else if l_ = 83 then 50 else if l_ = 84 then 51 else l_) rfl), (f900000.relab (fun l_ => if l_ = 81 then 48 else if l_ = 82 then 49 else if l_ = 83 then 50 else if l_ = 84 then 51 else l_) rfl), (f900019.relab (fun l_ => if l_ = 81 then 48 else if l_ = 82 then 49 else if l_ = 83 then 50 else if l_ = 84 then 51 else l_) rfl), (f900040.relab (fun l_ => if l_ = 81 then 48 else if l_ = 82 then 49 else if l_ = 83 then 50 else if l_ = 84 then 51 else l_) rfl), hc902, H⟩
    refine xd_of hG ?_
    refine xd_take tab hk (k := 10) (is := [0, 1, 2, 3]) (ls' := #[true, true, true, true, false, false, false, false, false, false, false, false, false, false]) (lv := [.agg #[.int .i64 p1.Most, .slice Ap1_0 (p1.L).length cp1_0], .int .i64 p2.I]) (ks := [0, 5, 6, 8, 37, 39, 40]) (e' := [(0, .pointer (some ⟨bp0, 0, none⟩)), (5, .pointer (some ⟨bx9, 0, none⟩)), (6, .pointer (some ⟨bx14, 0, none⟩)), (8, .slice A233 ((([] : List T59) ++ (List.drop 0 (List.take (Int.toNat (mnI ((p2.L).length : Int) 20)) p2.L)))).length c234), (37, .agg #[.int .i64 p1.Most, .slice Ap1_0 (p1.L).length cp1_0]), (39, .int .i64 p2.I), (40, .slice A233 ((([] : List T59) ++ (List.drop 0 (List.take (Int.toNat (mnI ((p2.L).length : Int) 20)) p2.L)))).length c234)]) (by kernel_rfl) rfl rfl (by kernel_rfl) (np_then (np_then (np_blk (np_then np_body)))) ⟨f10.now, f5.now, trivial⟩ (fun W_ hS => ⟨(load_box tab rfl rfl hS.2.1 (k := 0) rfl rfl), (load1 tab rfl ((Bx.cell hS.1 1).trans rfl)), trivial⟩) fun a hk => ?_
    refine xd_each [4, 10] (by kernel_rfl) rfl ⟨?_, ?_, trivial⟩
    · refine xd_one hk rfl rfl ?_
      refine op_call hk ent_13 (vs := [.slice A233 ((([] : List T59) ++ (List.drop 0 (List.take (Int.toNat (mnI ((p2.L).length : Int) 20)) p2.L)))).length c234]) rfl (tidewracklaw14_Told_calls K A233 c234 (([] : List T59) ++ (List.drop 0 (List.take (Int.toNat (mnI ((p2.L).length : Int) 20)) p2.L))) _ o230 _ (f235.imp fun _ h_ => Own.rd h_) hc236 61  _ hc650) ?_
      rintro _ w765 ⟨o766, A768, c769, rfl, st767, f770, hc771⟩
      replace f10 := f10.st st767 (by decide)
      replace f15 := f15.st st767 (by decide)
      replace f235 := f235.st st767 (by decide)
      replace f5 := f5.st st767 (by decide)
      replace f900000 := f900000.st st767 (by decide)
      replace f900019 := f900019.st st767 (by decide)
      replace f900020 := f900020.st st767 (by decide)
      replace f900040 := f900040.st st767 (by decide)
      replace hs := hs.locQ st767 hob rfl
      have hk := hk.put 41 (.slice A768 (t649).length c769) rfl
      refine ⟨.inr ⟨f10.now, f5.now, trivial⟩, ?_⟩
      exact xd_to hG rfl (N787 _ _ ⟨(fun b_ => (fun l_ => if l_ = 5 then 62 else if l_ = 6 then 63 else if l_ = 7 then 64 else if l_ = 11 then 65 else if l_ = 61 then 66 else l_) (o766 b_)), A768, c769, (by exact Kn.pick (ks := [0, 5, 6, 8, 37, 39, 41]) hk rfl), (hs.relabM hob (fun l_ => if l_ = 5 then 62 else if l_ = 6 then 63 else if l_ = 7 then 64 else if l_ = 11 then 65 else if l_ = 61 then 66 else l_) (by decide)), (f10.relab (fun l_ => if l_ = 5 then 62 else if l_ = 6 then 63 else if l_ = 7 then 64 else if l_ = 11 then 65 else if l_ = 61 then 66 else l_) rfl), (f15.relab (fun l_ => if l_ = 5 then 62 else if l_ = 6 then 63 else if l_ = 7 then 64 else if l_ = 11 then 65 else if l_ = 61 then 66 else l_) rfl), (f235.relab (fun l_ => if l_ = 5 then 62 else if l_ = 6 then 63 else if l_ = 7 then 64 else if l_ = 11 then 65 else if l_ = 61 then 66 else l_) rfl), (f5.relab (fun l_ => if l_ = 5 then 62 else if l_ = 6 then 63 else if l_ = 7 then 64 else if l_ = 11 then 65 else if l_ = 61 then 66 else l_) rfl), (f770.relab (fun l_ => if l_ = 5 then 62 else if l_ = 6 then 63 else if l_ = 7 then 64 else if l_ = 11 then 65 else if l_ = 61 then 66 else l_) rfl), (f900000.relab (fun l_ => if l_ = 5 then 62 else if l_ = 6 then 63 else if l_ = 7 then 64 else if l_ = 11 then 65 else if l_ = 61 then 66 else l_) rfl), (f900019.relab (fun l_ => if l_ = 5 then 62 else if l_ = 6 then 63 else if l_ = 7 then 64 else if l_ = 11 then 65 else if l_ = 61 then 66 else l_) rfl), (f900020.relab (fun l_ => if l_ = 5 then 62 else if l_ = 6 then 63 else if l_ = 7 then 64 else if l_ = 11 then 65 else if l_ = 61 then 66 else l_) rfl), (f900040.relab (fun l_ => if l_ = 5 then 62 else if l_ = 6 then 63 else if l_ = 7 then 64 else if l_ = 11 then 65 else if l_ = 61 then 66 else l_) rfl), hc771⟩)
    · refine xd_one hk rfl rfl ?_
      refine op_alloc (o := o230) tab (t := 51) (cs := [.int .i64 0, .slice none 0 0]) rfl rfl 79 fun bx867 w864 o865 st866 f868 => ?_
      replace f10 := f10.st st866 (by decide)
      replace f15 := f15.st st866 (by decide)
      replace f235 := f235.st st866 (by decide)
      replace f5 := f5.st st866 (by decide)
      replace f900000 := f900000.st st866 (by decide)
      replace f900019 := f900019.st st866 (by decide)
      replace f900020 := f900020.st st866 (by decide)
      replace f900040 := f900040.st st866 (by decide)
      replace hs := hs.locQ st866 hob rfl
      have hk := hk.put 9 (.pointer (some ⟨bx867, 0, none⟩)) rfl
      refine ⟨.inr ⟨f10.now, f5.now, trivial⟩, ?_⟩
      exact xd_to hG rfl (N880 _ _ ⟨(fun b_ => (fun l_ => if l_ = 5 then 80 else if l_ = 6 then 81 else if l_ = 7 then 82 else if l_ = 11 then 83 else if l_ = 79 then 84 else l_) (o865 b_)), bx867, (by exact Kn.pick (ks := [0, 5, 6, 8, 9, 37, 39, 40]) hk rfl), (hs.relabM hob (fun l_ => if l_ = 5 then 80 else if l_ = 6 then 81 else if l_ = 7 then 82 else if l_ = 11 then 83 else if l_ = 79 then 84 else l_) (by decide)), (f10.relab (fun l_ => if l_ = 5 then 80 else if l_ = 6 then 81 else if l_ = 7 then 82 else if l_ = 11 then 83 else if l_ = 79 then 84 else l_) rfl), (f15.relab (fun l_ => if l_ = 5 then 80 else if l_ = 6 then 81 else if l_ = 7 then 82 else if l_ = 11 then 83 else if l_ = 79 then 84 else l_) rfl), (f235.relab (fun l_ => if l_ = 5 then 80 else if l_ = 6 then 81 else if l_ = 7 then 82 else if l_ = 11 then 83 else if l_ = 79 then 84 else l_) rfl), (f5.relab (fun l_ => if l_ = 5 then 80 else if l_ = 6 then 81 else if l_ = 7 then 82 else if l_ = 11 then 83 else if l_ = 79 then 84 else l_) rfl), (f868.relab (fun l_ => if l_ = 5 then 80 else if l_ = 6 then 81 else if l_ = 7 then 82 else if l_ = 11 then 83 else if l_ = 79 then 84 else l_) rfl), (f900000.relab (fun l_ => if l_ = 5 then 80 else if l_ = 6 then 81 else if l_ = 7 then 82 else if l_ = 11 then 83 else if l_ = 79 then 84 else l_) rfl), (f900019.relab (fun l_ => if l_ = 5 then 80 else if l_ = 6 then 81 else if l_ = 7 then 82 else if l_ = 11 then 83 else if l_ = 79 then 84 else l_) rfl), (f900020.relab (fun l_ => if l_ = 5 then 80 else if l_ = 6 then 81 else if l_ = 7 then 82 else if l_ = 11 then 83 else if l_ = 79 then 84 else l_) rfl), (f900040.relab (fun l_ => if l_ = 5 then 80 else if l_ = 6 then 81 else if l_ = 7 then 82 else if l_ = 11 then 83 else if l_ = 79 then 84 else l_) rfl)⟩)

/-! tidewrack/tidewracklaw01.Same -/
theorem tidewracklaw01_Same_calls (K : Nat) (Ap0 : Option Addr) (cp0 : Nat) (p0 : List Int) (Ap1 : Option Addr) (cp1 : Nat) (p1 : List Int) (w : World) (o : Nat → Nat) (Lp0 : Nat) (hp0 : Ft (RdC (encInt .i64) Ap0 p0) w o Lp0) (hcp0 : (p0).length ≤ cp0) (Lp1 : Nat) (hp1 : Ft (RdC (encInt .i64) Ap1 p1) w o Lp1) (hcp1 : (p1).length ≤ cp1)  (r : Bool) (H : tidewracklaw01_Same K p0 p1 = some r) :
    Calls Try.prog 37 #[.slice Ap0 (p0).length cp0, .slice Ap1 (p1).length cp1] w (Ret fun v_ w' => ∃ o' : Nat → Nat, v_ = .bool r ∧ St [] w o w' o') := by
  refine x_enter (vs := [.slice Ap0 (p0).length cp0, .slice Ap1 (p1).length cp1]) Try.func37 rfl rfl rfl fun a hk => ?_
  obtain ⟨o0, hs, h0⟩ := St.start w o
  have f900000 := h0 _ _ hp0
  have f900020 := h0 _ _ hp1
  clear h0
  rw [tidewracklaw01_Same] at H
  refine x_seq ?_
  refine wpIn_region_lit ?_
  refine x_run tab hk (k := 1) (lv := []) (ks := [0, 1]) (e' := [(0, .slice Ap0 (p0).length cp0), (1, .slice Ap1 (p1).length cp1)]) rfl trivial fun a hk => ?_
  refine wpListIn_nil ?_
  refine then_n ?_
  refine x_seq ?_
  refine x_seq ?_
  refine wpIn_region_lit ?_
  refine x_run tab hk (k := 5) (lv := []) (ks := [0, 1, 10]) (e' := [(0, .slice Ap0 (p0).length cp0), (1, .slice Ap1 (p1).length cp1), (10, .bool (((p0).length : Int) != ((p1).length : Int)))]) rfl trivial fun a hk => ?_
  refine wpListIn_nil ?_
  refine then_n ?_
  cases b1 : (((p0).length : Int) != ((p1).length : Int))
  · rw [b1] at hk H
    replace H := bifF H
    refine x_if hk (b := false) rfl ?_
    refine (show Code.wpIn _ _ _ _ _ _ _ from ?_)
    refine wpIn_skip ?_
    refine then_n ?_
    refine x_mid (fun a_ w_ => ∃ o62 : Nat → Nat, Kn 26 a_ [] ∧ St [] w (fun _ => 0) w_ o62 ∧ tidewracklaw01_Same_j1 = some r) ?_ ?_
    rotate_left
    · rintro a w63 ⟨o62, hk, hs, H⟩
      rw [tidewracklaw01_Same_j1] at H
      refine x_seq ?_
      refine wpIn_region_lit ?_
      refine x_run tab hk (k := 1) (lv := []) (ks := [4]) (e' := [(4, .bool true)]) rfl trivial fun a hk => ?_
      refine wpListIn_nil ?_
      refine then_n ?_
      refine wpIn_ret ?_
      obtain rfl := Option.some.inj H
      exact x_retG hk (rs := [.tmp 4]) (vs := [.bool true]) rfl ⟨rfl, trivial⟩ ⟨fun b_ => if b_ < w.heap.size then o b_ else (fun _ => 0) (o62 b_), rfl, hs.close0 o (fun _ => 0)⟩
    refine x_seq ?_
    refine wpIn_region_lit ?_
    refine x_run tab hk (k := 3) (lv := []) (ks := [0, 1, 12, 13]) (e' := [(0, .slice Ap0 (p0).length cp0), (1, .slice Ap1 (p1).length cp1), (12, .int .i64 ((p0).length : Int)), (13, .int .i64 0)]) rfl trivial fun a hk => ?_
    refine wpListIn_nil ?_
    refine then_n ?_
    refine wpIn_block ?_
    refine x_loop (fun j_ a_ w_ => ∃ o83 : Nat → Nat, ∃ x84 : Int, Kn 26 a_ [(0, .slice Ap0 (p0).length cp0), (1, .slice Ap1 (p1).length cp1), (12, .int .i64 ((p0).length : Int)), (13, .int .i64 x84)] ∧ St [] w (fun _ => 0) w_ o83 ∧ Ft (RdC (encInt .i64) Ap0 p0) w_ o83 0 ∧ Ft (RdC (encInt .i64) Ap1 p1) w_ o83 0 ∧ tidewracklaw01_Same_l2 p0 p1 j_ x84 = some r) (k := K) ⟨o0, 0, (by exact Kn.pick (ks := [0, 1, 12, 13]) hk rfl), hs, f900000, f900020, H⟩ (by rintro _ _ ⟨_, _, _, _, _, _, H_⟩; exact absurd (show (none : Option Bool) = some r from H_) (by simp)) ?_
    rintro k102 a w101 ⟨o83, x84, hk, hs, f900000, f900020, H⟩
    rw [tidewracklaw01_Same_l2] at H
    obtain ⟨lp103, hlp104⟩ : ∃ lp_, lp_ = tidewracklaw01_Same_l2 p0 p1 k102 := ⟨_, rfl⟩
    rw [← hlp104] at H
    refine x_seq ?_
    refine wpIn_region_lit ?_
    refine x_run tab hk (k := 1) (lv := []) (ks := [0, 1, 12, 13, 14]) (e' := [(0, .slice Ap0 (p0).length cp0), (1, .slice Ap1 (p1).length cp1), (12, .int .i64 ((p0).length : Int)), (13, .int .i64 x84), (14, .bool (decide (x84 < ((p0).length : Int))))]) rfl trivial fun a hk => ?_
    refine wpListIn_nil ?_
    refine then_n ?_
    refine x_seq ?_
    cases b105 : (decide (x84 < ((p0).length : Int)))
    · rw [b105] at hk H
      replace H := bifF H
      refine x_if hk (b := false) rfl ?_
      refine (show Code.wpIn _ _ _ _ _ _ _ from ?_)
      refine wpIn_exit ?_
      refine then_x ?_
      refine then_x ?_
      refine blk_x ?_
      refine then_n ?_
      exact ⟨o83, (by exact Kn.pick (ks := []) hk rfl), hs, H⟩
    · rw [b105] at hk H
      replace H := bifT H
      refine x_if hk (b := true) rfl ?_
      refine (show Code.wpIn _ _ _ _ _ _ _ from ?_)
      refine wpIn_skip ?_
      refine then_n ?_
      refine x_seq ?_
      refine wpIn_block ?_
      refine x_seq ?_
      refine wpIn_region_lit ?_
      refine x_run tab hk (k := 2) (lv := []) (ks := [0, 1, 5, 12, 13]) (e' := [(0, .slice Ap0 (p0).length cp0), (1, .slice Ap1 (p1).length cp1), (5, .int .i64 x84), (12, .int .i64 ((p0).length : Int)), (13, .int .i64 x84)]) rfl trivial fun a hk => ?_
      refine wpListIn_nil ?_
      refine then_n ?_
      refine x_seq ?_
      refine xd_begin (o := o83) (fun W_ => (RdC (encInt .i64) Ap0 p0) W_ ∧ (RdC (encInt .i64) Ap1 p1) W_ ∧ True) mixed rfl rfl fun w114 st115 => ?_
      replace f900000 := f900000.st st115 (by decide)
      replace f900020 := f900020.st st115 (by decide)
      replace hs := hs.loc0 st115 (by decide)
      obtain ⟨q116, H⟩ := ifS H
      obtain ⟨ad117, hAad117⟩ := RdC.addr f900000.now q116
      have hk_C := hk
      have f900000_C := f900000
      have f900020_C := f900020
      subst hAad117
      have hk := hk_C
      clear hk_C
      have f900000 := f900000_C
      clear f900000_C
      have f900020 := f900020_C
      clear f900020_C
      obtain ⟨q118, H⟩ := ifS H
      obtain ⟨ad119, hAad119⟩ := RdC.addr f900020.now q118
      have hk_C := hk
      have f900000_C := f900000
      have f900020_C := f900020
      subst hAad119
      have hk := hk_C
      clear hk_C
      have f900000 := f900000_C
      clear f900000_C
      have f900020 := f900020_C
      clear f900020_C
      refine xd_take tab hk (k := 0) (is := [0, 1, 2, 3, 4, 5, 6, 7, 8]) (ls' := #[true, true, true, true, true, true, true, true, true]) (lv := [.int .i64 (rdD 0 p0 x84), .int .i64 (rdD 0 p1 x84)]) (ks := [0, 1, 12, 13, 24]) (e' := [(0, .slice (some ad117) (p0).length cp0), (1, .slice (some ad119) (p1).length cp1), (12, .int .i64 ((p0).length : Int)), (13, .int .i64 x84), (24, .bool ((rdD 0 p0 x84) != (rdD 0 p1 x84)))]) (by kernel_rfl) rfl rfl (by kernel_rfl) (np_then (np_blk (np_then (np_then (np_blk (np_then np_body)))))) ⟨f900000.now, f900020.now, trivial⟩ (fun W_ hS => ⟨q116, (load1 tab rfl (RdC.at0 (E := (encInt .i64)) (d := 0) (i := x84) hS.1 q116 rfl)), q118, (load1 tab rfl (RdC.at0 (E := (encInt .i64)) (d := 0) (i := x84) hS.2.1 q118 rfl)), trivial⟩) fun a hk => ?_
      refine xd_done (by kernel_rfl) ?_
      refine then_n ?_
      cases b120 : ((rdD 0 p0 x84) != (rdD 0 p1 x84))
      · rw [b120] at hk H
        replace H := bifF H
        refine x_if hk (b := false) rfl ?_
        refine (show Code.wpIn _ _ _ _ _ _ _ from ?_)
        refine wpIn_skip ?_
        refine blk_n ?_
        refine then_n ?_
        refine wpIn_region_lit ?_
        refine x_run tab hk (k := 2) (lv := []) (ks := [0, 1, 12, 13]) (e' := [(0, .slice (some ad117) (p0).length cp0), (1, .slice (some ad119) (p1).length cp1), (12, .int .i64 ((p0).length : Int)), (13, .int .i64 (IntKind.wrap .i64 (x84 + 1)))]) rfl trivial fun a hk => ?_
        refine wpListIn_nil ?_
        refine then_n ?_
        exact ⟨k102, Nat.le_refl _, o83, (IntKind.wrap .i64 (x84 + 1)), (by exact Kn.pick (ks := [0, 1, 12, 13]) hk rfl), hs, f900000, f900020, (hlp104 ▸ H)⟩
      · rw [b120] at hk H
        replace H := bifT H
        refine x_if hk (b := true) rfl ?_
        refine (show Code.wpIn _ _ _ _ _ _ _ from ?_)
        refine x_seq ?_
        refine wpIn_region_lit ?_
        refine x_run tab hk (k := 1) (lv := []) (ks := [4]) (e' := [(4, .bool false)]) rfl trivial fun a hk => ?_
        refine wpListIn_nil ?_
        refine then_n ?_
        refine wpIn_ret ?_
        refine blk_r ?_
        refine then_r ?_
        refine then_r ?_
        refine blk_r ?_
        refine then_r ?_
        obtain rfl := Option.some.inj H
        exact x_retG hk (rs := [.tmp 4]) (vs := [.bool false]) rfl ⟨rfl, trivial⟩ ⟨fun b_ => if b_ < w.heap.size then o b_ else (fun _ => 0) (o83 b_), rfl, hs.close0 o (fun _ => 0)⟩
  · rw [b1] at hk H
    replace H := bifT H
    refine x_if hk (b := true) rfl ?_
    refine (show Code.wpIn _ _ _ _ _ _ _ from ?_)
    refine x_seq ?_
    refine wpIn_region_lit ?_
    refine x_run tab hk (k := 1) (lv := []) (ks := [4]) (e' := [(4, .bool false)]) rfl trivial fun a hk => ?_
    refine wpListIn_nil ?_
    refine then_n ?_
    refine wpIn_ret ?_
    refine then_r ?_
    obtain rfl := Option.some.inj H
    exact x_retG hk (rs := [.tmp 4]) (vs := [.bool false]) rfl ⟨rfl, trivial⟩ ⟨fun b_ => if b_ < w.heap.size then o b_ else (fun _ => 0) (o0 b_), rfl, hs.close0 o (fun _ => 0)⟩

/-! tidewrack/tidewrackref13.near -/
theorem tidewrackref13_near_calls (p0 : Int) (w : World) (o : Nat → Nat)   (r : Int) (H : tidewrackref13_near p0 = some r) :
    Calls Try.prog 75 #[.int .i64 p0] w (Ret fun v_ w' => ∃ o' : Nat → Nat, v_ = .int .i64 r ∧ St [] w o w' o') := by
  refine x_enter (vs := [.int .i64 p0]) Try.func75 rfl rfl rfl fun a hk => ?_
  obtain ⟨o0, hs, h0⟩ := St.start w o
  clear h0
  rw [tidewrackref13_near] at H
  refine x_seq ?_
  refine wpIn_region_lit ?_
  refine x_run tab hk (k := 1) (lv := []) (ks := [0]) (e' := [(0, .int .i64 p0)]) rfl trivial fun a hk => ?_
  refine wpListIn_nil ?_
  refine then_n ?_
  refine x_seq ?_
  refine x_seq ?_
  refine wpIn_region_lit ?_
  refine x_run tab hk (k := 2) (lv := []) (ks := [0, 4]) (e' := [(0, .int .i64 p0), (4, .bool (decide (p0 < (-1152921504606846976))))]) rfl trivial fun a hk => ?_
  refine wpListIn_nil ?_
  refine then_n ?_
  cases b1 : (decide (p0 < (-1152921504606846976)))
  · rw [b1] at hk H
    replace H := bifF H
    refine x_if hk (b := false) rfl ?_
    refine (show Code.wpIn _ _ _ _ _ _ _ from ?_)
    refine wpIn_skip ?_
    refine then_n ?_
    refine x_seq ?_
    refine x_seq ?_
    refine wpIn_region_lit ?_
    refine x_run tab hk (k := 2) (lv := []) (ks := [0, 6]) (e' := [(0, .int .i64 p0), (6, .bool (decide (p0 > (1152921504606846976 : Int))))]) rfl trivial fun a hk => ?_
    refine wpListIn_nil ?_
    refine then_n ?_
    cases b2 : (decide (p0 > (1152921504606846976 : Int)))
    · rw [b2] at hk H
      replace H := bifF H
      refine x_if hk (b := false) rfl ?_
      refine (show Code.wpIn _ _ _ _ _ _ _ from ?_)
      refine wpIn_skip ?_
      refine then_n ?_
      refine x_seq ?_
      refine wpIn_region_lit ?_
      refine x_run tab hk (k := 2) (lv := []) (ks := [2]) (e' := [(2, .int .i64 p0)]) rfl trivial fun a hk => ?_
      refine wpListIn_nil ?_
      refine then_n ?_
      refine wpIn_ret ?_
      obtain rfl := Option.some.inj H
      exact x_retG hk (rs := [.tmp 2]) (vs := [.int .i64 p0]) rfl ⟨rfl, trivial⟩ ⟨fun b_ => if b_ < w.heap.size then o b_ else (fun _ => 0) (o0 b_), rfl, hs.close0 o (fun _ => 0)⟩
    · rw [b2] at hk H
      replace H := bifT H
      refine x_if hk (b := true) rfl ?_
      refine (show Code.wpIn _ _ _ _ _ _ _ from ?_)
      refine x_seq ?_
      refine wpIn_region_lit ?_
      refine x_run tab hk (k := 1) (lv := []) (ks := [2]) (e' := [(2, .int .i64 1152921504606846976)]) rfl trivial fun a hk => ?_
      refine wpListIn_nil ?_
      refine then_n ?_
      refine wpIn_ret ?_
      refine then_r ?_
      obtain rfl := Option.some.inj H
      exact x_retG hk (rs := [.tmp 2]) (vs := [.int .i64 1152921504606846976]) rfl ⟨rfl, trivial⟩ ⟨fun b_ => if b_ < w.heap.size then o b_ else (fun _ => 0) (o0 b_), rfl, hs.close0 o (fun _ => 0)⟩
  · rw [b1] at hk H
    replace H := bifT H
    refine x_if hk (b := true) rfl ?_
    refine (show Code.wpIn _ _ _ _ _ _ _ from ?_)
    refine x_seq ?_
    refine wpIn_region_lit ?_
    refine x_run tab hk (k := 1) (lv := []) (ks := [2]) (e' := [(2, .int .i64 (-1152921504606846976))]) rfl trivial fun a hk => ?_
    refine wpListIn_nil ?_
    refine then_n ?_
    refine wpIn_ret ?_
    refine then_r ?_
    obtain rfl := Option.some.inj H
    exact x_retG hk (rs := [.tmp 2]) (vs := [.int .i64 (-1152921504606846976)]) rfl ⟨rfl, trivial⟩ ⟨fun b_ => if b_ < w.heap.size then o b_ else (fun _ => 0) (o0 b_), rfl, hs.close0 o (fun _ => 0)⟩

/-! tidewrack/tidewrackref13.Fit -/
theorem tidewrackref13_Fit_calls (p0 : T44) (w : World) (o : Nat → Nat)   (r : T44) (H : tidewrackref13_Fit p0 = some r) :
    Calls Try.prog 69 #[.agg #[.int .i64 p0.From, .int .i64 p0.To]] w (Ret fun v_ w' => ∃ o' : Nat → Nat, v_ = .agg #[.int .i64 r.From, .int .i64 r.To] ∧ St [] w o w' o') := by
  refine x_enter (vs := [.agg #[.int .i64 p0.From, .int .i64 p0.To]]) Try.func69 rfl rfl rfl fun a hk => ?_
  obtain ⟨o0, hs, h0⟩ := St.start w o
  clear h0
  rw [tidewrackref13_Fit] at H
  refine x_seq ?_
  refine wpIn_region_lit ?_
  refine x_op hk rfl ?_
  refine op_box (o := o0) (t := 102) (v := .agg #[.int .i64 p0.From, .int .i64 p0.To]) (cs := [.int .i64 p0.From, .int .i64 p0.To]) hk rfl rfl 1 fun bx4 w1 o2 st3 f5 => ?_
  replace hs := hs.loc0 st3 (by decide)
  have hk := hk.put 1 (.pointer (some ⟨bx4, 0, none⟩)) rfl
  refine x_op hk rfl ?_
  refine op_alloc (o := o2) tab (t := 102) (cs := [.int .i64 0, .int .i64 0]) rfl rfl 2 fun bx9 w6 o7 st8 f10 => ?_
  replace f5 := f5.st st8 (by decide)
  replace hs := hs.loc0 st8 (by decide)
  have hk := hk.put 2 (.pointer (some ⟨bx9, 0, none⟩)) rfl
  refine wpListIn_nil ?_
  refine then_n ?_
  refine x_seq ?_
  refine xd_begin (o := o7) (fun W_ => (Bx bx4 102 [.int .i64 p0.From, .int .i64 p0.To]) W_ ∧ True) mixed rfl rfl fun w46 st47 => ?_
  replace f10 := f10.st st47 (by decide)
  replace f5 := f5.st st47 (by decide)
  replace hs := hs.loc0 st47 (by decide)
  refine xd_take tab hk (k := 4) (is := [0, 1, 3, 4]) (ls' := #[true, true, false, true, true, false, false, false]) (lv := [.int .i64 p0.From, .int .i64 p0.To]) (ks := [2, 4, 7]) (e' := [(2, .pointer (some ⟨bx9, 0, none⟩)), (4, .int .i64 p0.From), (7, .int .i64 p0.To)]) (by kernel_rfl) rfl rfl (by kernel_rfl) (np_then np_body) ⟨f5.now, trivial⟩ (fun W_ hS => ⟨(load1 tab rfl ((Bx.cell hS.1 0).trans rfl)), (load1 tab rfl ((Bx.cell hS.1 1).trans rfl)), trivial⟩) fun a hk => ?_
  refine xd_op hk (i := 2) (by kernel_rfl) rfl rfl ?_
  obtain ⟨t51, hc52, H⟩ := bindS H
  refine op_call hk ent_75 (vs := [.int .i64 p0.From]) rfl (tidewrackref13_near_calls p0.From _ o7    _ hc52) ?_
  rintro _ w53 ⟨o54, rfl, st55⟩
  replace f10 := f10.st st55 (by decide)
  replace f5 := f5.st st55 (by decide)
  replace hs := hs.loc0 st55 (by decide)
  have hk := hk.put 5 (.int .i64 t51) rfl
  refine ⟨.inr ⟨f5.now, trivial⟩, ?_⟩
  refine xd_op hk (i := 5) (by kernel_rfl) rfl rfl ?_
  obtain ⟨t59, hc60, H⟩ := bindS H
  refine op_call hk ent_75 (vs := [.int .i64 p0.To]) rfl (tidewrackref13_near_calls p0.To _ o54    _ hc60) ?_
  rintro _ w61 ⟨o62, rfl, st63⟩
  replace f10 := f10.st st63 (by decide)
  replace f5 := f5.st st63 (by decide)
  replace hs := hs.loc0 st63 (by decide)
  have hk := hk.put 8 (.int .i64 t59) rfl
  refine ⟨.inr ⟨f5.now, trivial⟩, ?_⟩
  refine xd_take tab hk (k := 1) (is := [6]) (ls' := #[true, true, true, true, true, true, true, false]) (lv := []) (ks := [2, 9]) (e' := [(2, .pointer (some ⟨bx9, 0, none⟩)), (9, .agg #[.int .i64 t51, .int .i64 t59])]) (by kernel_rfl) rfl rfl (by kernel_rfl) (np_then np_body) ⟨f5.now, trivial⟩ (fun W_ hS => trivial) fun a hk => ?_
  refine xd_op hk (i := 7) (by kernel_rfl) rfl rfl ?_
  refine op_store tab hk (t := 102) (v := .agg #[.int .i64 t51, .int .i64 t59]) (b := bx9) (k := 0) (cs' := [.int .i64 t51, .int .i64 t59]) rfl rfl rfl rfl rfl rfl f10 rfl rfl fun w64 o65 st66 f10_ => ?_
  replace f5 := f5.st st66 (by decide)
  replace hs := hs.loc0 st66 (by decide)
  replace f10 := f10_
  refine ⟨.inl (by kernel_rfl), ?_⟩
  refine xd_done (by kernel_rfl) ?_
  refine then_n ?_
  refine wpIn_ret ?_
  obtain rfl := Option.some.inj H
  exact x_retG hk (rs := [.cell 2 102]) (vs := [.agg #[.int .i64 t51, .int .i64 t59]]) rfl ⟨⟨_, rfl, load_box tab rfl rfl f10.now (k := 0) rfl rfl⟩, trivial⟩ ⟨fun b_ => if b_ < w.heap.size then o b_ else (fun _ => 0) (o65 b_), rfl, hs.close0 o (fun _ => 0)⟩

/-! tidewrack/tidewrackref13.one -/
theorem tidewrackref13_one_calls (p0 : T44) (w : World) (o : Nat → Nat)   (R0 : Nat) (r : List T44) (H : tidewrackref13_one p0 = some r) :
    Calls Try.prog 56 #[.agg #[.int .i64 p0.From, .int .i64 p0.To]] w (Ret fun v_ w' => ∃ o' : Nat → Nat, ∃ A0 : Option Addr, ∃ c0 : Nat, v_ = .slice A0 (r).length c0 ∧ St [] w o w' o' ∧ Ft (Own ET44 102 (.slice A0 (r).length c0) r) w' o' R0 ∧ (r).length ≤ c0) := by
  refine x_enter (vs := [.agg #[.int .i64 p0.From, .int .i64 p0.To]]) Try.func56 rfl rfl rfl fun a hk => ?_
  obtain ⟨o0, hs, h0⟩ := St.start w o
  clear h0
  rw [tidewrackref13_one] at H
  refine x_seq ?_
  refine wpIn_region_lit ?_
  refine x_op hk rfl ?_
  refine op_box (o := o0) (t := 102) (v := .agg #[.int .i64 p0.From, .int .i64 p0.To]) (cs := [.int .i64 p0.From, .int .i64 p0.To]) hk rfl rfl 1 fun bx4 w1 o2 st3 f5 => ?_
  replace hs := hs.loc0 st3 (by decide)
  have hk := hk.put 1 (.pointer (some ⟨bx4, 0, none⟩)) rfl
  refine x_run tab hk (k := 1) (lv := []) (ks := [1]) (e' := [(1, .pointer (some ⟨bx4, 0, none⟩))]) rfl trivial fun a hk => ?_
  refine wpListIn_nil ?_
  refine then_n ?_
  refine x_seq ?_
  refine wpIn_region_lit ?_
  refine x_run tab hk (k := 1) (lv := [.agg #[.int .i64 p0.From, .int .i64 p0.To]]) (ks := [1, 3]) (e' := [(1, .pointer (some ⟨bx4, 0, none⟩)), (3, .agg #[.int .i64 p0.From, .int .i64 p0.To])]) rfl ⟨(load_box tab rfl rfl f5.now (k := 0) rfl rfl), trivial⟩ fun a hk => ?_
  refine x_op hk rfl ?_
  obtain ⟨t9, hc10, H⟩ := bindS H
  refine op_call hk ent_69 (vs := [.agg #[.int .i64 p0.From, .int .i64 p0.To]]) rfl (tidewrackref13_Fit_calls p0 _ o2    _ hc10) ?_
  rintro _ w11 ⟨o12, rfl, st13⟩
  replace f5 := f5.st st13 (by decide)
  replace hs := hs.loc0 st13 (by decide)
  have hk := hk.put 4 (.agg #[.int .i64 t9.From, .int .i64 t9.To]) rfl
  refine x_op hk rfl ?_
  refine op_store tab hk (t := 102) (v := .agg #[.int .i64 t9.From, .int .i64 t9.To]) (b := bx4) (k := 0) (cs' := [.int .i64 t9.From, .int .i64 t9.To]) rfl rfl rfl rfl rfl rfl f5 rfl rfl fun w14 o15 st16 f5_ => ?_
  replace hs := hs.loc0 st16 (by decide)
  replace f5 := f5_
  refine wpListIn_nil ?_
  refine then_n ?_
  refine x_seq ?_
  refine x_seq ?_
  refine wpIn_region_lit ?_
  refine x_run tab hk (k := 5) (lv := [.int .i64 t9.To, .int .i64 t9.From]) (ks := [1, 9]) (e' := [(1, .pointer (some ⟨bx4, 0, none⟩)), (9, .bool (decide (t9.To ≤ t9.From)))]) rfl ⟨(load1 tab rfl ((Bx.cell f5.now 1).trans rfl)), (load1 tab rfl ((Bx.cell f5.now 0).trans rfl)), trivial⟩ fun a hk => ?_
  refine wpListIn_nil ?_
  refine then_n ?_
  cases b17 : (decide (t9.To ≤ t9.From))
  · rw [b17] at hk H
    replace H := bifF H
    refine x_if hk (b := false) rfl ?_
    refine (show Code.wpIn _ _ _ _ _ _ _ from ?_)
    refine wpIn_skip ?_
    refine then_n ?_
    refine x_seq ?_
    refine wpIn_region_lit ?_
    refine x_run tab hk (k := 1) (lv := [.agg #[.int .i64 t9.From, .int .i64 t9.To]]) (ks := [10]) (e' := [(10, .agg #[.int .i64 t9.From, .int .i64 t9.To])]) rfl ⟨(load_box tab rfl rfl f5.now (k := 0) rfl rfl), trivial⟩ fun a hk => ?_
    refine x_op hk rfl ?_
    refine op_slice (o := o15) tab hk (vs := [.agg #[.int .i64 t9.From, .int .i64 t9.To]]) (cs := [.int .i64 t9.From, .int .i64 t9.To]) rfl rfl rfl rfl rfl rfl rfl rfl rfl 2 fun bx21 w18 o19 st20 f22 => ?_
    replace hs := hs.loc0 st20 (by decide)
    have f23 : Ft (Own ET44 102 (.slice (some ⟨bx21, 0, none⟩) (([t9] : List T44)).length 1) ([t9] : List T44)) w18 o19 2 := f22.imp fun _ h_ => Own.of_box h_ rfl (by simp)
    have hk := hk.put 11 (.slice (some ⟨bx21, 0, none⟩) (([t9] : List T44)).length 1) rfl
    refine x_run tab hk (k := 1) (lv := []) (ks := [2]) (e' := [(2, .slice (some ⟨bx21, 0, none⟩) (([t9] : List T44)).length 1)]) rfl trivial fun a hk => ?_
    refine wpListIn_nil ?_
    refine then_n ?_
    refine wpIn_ret ?_
    obtain rfl := Option.some.inj H
    exact x_retG hk (rs := [.tmp 2]) (vs := [.slice (some ⟨bx21, 0, none⟩) (([t9] : List T44)).length 1]) rfl ⟨rfl, trivial⟩ ⟨fun b_ => if b_ < w.heap.size then o b_ else (fun _ => R0) (o19 b_), (some ⟨bx21, 0, none⟩), 1, rfl, hs.close0 o (fun _ => R0), hs.close_ft (o := o) (ρ := fun _ => R0) f23 (by decide) rfl, (Nat.le_refl _)⟩
  · rw [b17] at hk H
    replace H := bifT H
    refine x_if hk (b := true) rfl ?_
    refine (show Code.wpIn _ _ _ _ _ _ _ from ?_)
    refine x_seq ?_
    refine wpIn_region_lit ?_
    refine x_run tab hk (k := 1) (lv := []) (ks := [2]) (e' := [(2, .slice none 0 0)]) rfl trivial fun a hk => ?_
    refine wpListIn_nil ?_
    refine then_n ?_
    refine wpIn_ret ?_
    refine then_r ?_
    obtain rfl := Option.some.inj H
    exact x_retG hk (rs := [.tmp 2]) (vs := [.slice none 0 0]) rfl ⟨rfl, trivial⟩ ⟨fun b_ => if b_ < w.heap.size then o b_ else (fun _ => 0) (o15 b_), none, 0, rfl, hs.close0 o (fun _ => 0), (Ft.of_all (fun _ => Own.nil _ _ _) _ _ _), (by simp)⟩

/-! tidewrack/tidewrackref13.Has -/
theorem tidewrackref13_Has_calls (K : Nat) (Ap0 : Option Addr) (cp0 : Nat) (p0 : List T44) (p1 : Int) (w : World) (o : Nat → Nat) (Lp0 : Nat) (hp0 : Ft (RdC ET44 Ap0 p0) w o Lp0) (hcp0 : (p0).length ≤ cp0)  (r : Bool) (H : tidewrackref13_Has K p0 p1 = some r) :
    Calls Try.prog 68 #[.slice Ap0 (p0).length cp0, .int .i64 p1] w (Ret fun v_ w' => ∃ o' : Nat → Nat, v_ = .bool r ∧ St [] w o w' o') := by
  refine x_enter (vs := [.slice Ap0 (p0).length cp0, .int .i64 p1]) Try.func68 rfl rfl rfl fun a hk => ?_
  obtain ⟨o0, hs, h0⟩ := St.start w o
  have f900000 := h0 _ _ hp0
  clear h0
  rw [tidewrackref13_Has] at H
  refine x_seq ?_
  refine wpIn_region_lit ?_
  refine x_run tab hk (k := 1) (lv := []) (ks := [0, 1]) (e' := [(0, .slice Ap0 (p0).length cp0), (1, .int .i64 p1)]) rfl trivial fun a hk => ?_
  refine wpListIn_nil ?_
  refine then_n ?_
  refine x_mid (fun a_ w_ => ∃ o52 : Nat → Nat, Kn 24 a_ [] ∧ St [] w (fun _ => 0) w_ o52 ∧ tidewrackref13_Has_j1 = some r) ?_ ?_
  rotate_left
  · rintro a w53 ⟨o52, hk, hs, H⟩
    rw [tidewrackref13_Has_j1] at H
    refine x_seq ?_
    refine wpIn_region_lit ?_
    refine x_run tab hk (k := 1) (lv := []) (ks := [4]) (e' := [(4, .bool false)]) rfl trivial fun a hk => ?_
    refine wpListIn_nil ?_
    refine then_n ?_
    refine wpIn_ret ?_
    obtain rfl := Option.some.inj H
    exact x_retG hk (rs := [.tmp 4]) (vs := [.bool false]) rfl ⟨rfl, trivial⟩ ⟨fun b_ => if b_ < w.heap.size then o b_ else (fun _ => 0) (o52 b_), rfl, hs.close0 o (fun _ => 0)⟩
  refine x_seq ?_
  refine wpIn_region_lit ?_
  refine x_run tab hk (k := 3) (lv := []) (ks := [1, 7, 8, 9]) (e' := [(1, .int .i64 p1), (7, .slice Ap0 (p0).length cp0), (8, .int .i64 ((p0).length : Int)), (9, .int .i64 0)]) rfl trivial fun a hk => ?_
  refine wpListIn_nil ?_
  refine then_n ?_
  refine wpIn_block ?_
  refine x_loop (fun j_ a_ w_ => ∃ o70 : Nat → Nat, ∃ x71 : Int, Kn 24 a_ [(1, .int .i64 p1), (7, .slice Ap0 (p0).length cp0), (8, .int .i64 ((p0).length : Int)), (9, .int .i64 x71)] ∧ St [] w (fun _ => 0) w_ o70 ∧ Ft (RdC ET44 Ap0 p0) w_ o70 0 ∧ tidewrackref13_Has_l2 p0 p1 j_ x71 = some r) (k := K) ⟨o0, 0, (by exact Kn.pick (ks := [1, 7, 8, 9]) hk rfl), hs, f900000, H⟩ (by rintro _ _ ⟨_, _, _, _, _, H_⟩; exact absurd (show (none : Option Bool) = some r from H_) (by simp)) ?_
  rintro k86 a w85 ⟨o70, x71, hk, hs, f900000, H⟩
  rw [tidewrackref13_Has_l2] at H
  obtain ⟨lp87, hlp88⟩ : ∃ lp_, lp_ = tidewrackref13_Has_l2 p0 p1 k86 := ⟨_, rfl⟩
  rw [← hlp88] at H
  refine x_seq ?_
  refine wpIn_region_lit ?_
  refine x_run tab hk (k := 1) (lv := []) (ks := [1, 7, 8, 9, 10]) (e' := [(1, .int .i64 p1), (7, .slice Ap0 (p0).length cp0), (8, .int .i64 ((p0).length : Int)), (9, .int .i64 x71), (10, .bool (decide (x71 < ((p0).length : Int))))]) rfl trivial fun a hk => ?_
  refine wpListIn_nil ?_
  refine then_n ?_
  refine x_seq ?_
  cases b89 : (decide (x71 < ((p0).length : Int)))
  · rw [b89] at hk H
    replace H := bifF H
    refine x_if hk (b := false) rfl ?_
    refine (show Code.wpIn _ _ _ _ _ _ _ from ?_)
    refine wpIn_exit ?_
    refine then_x ?_
    refine then_x ?_
    refine blk_x ?_
    refine then_n ?_
    exact ⟨o70, (by exact Kn.pick (ks := []) hk rfl), hs, H⟩
  · rw [b89] at hk H
    replace H := bifT H
    refine x_if hk (b := true) rfl ?_
    refine (show Code.wpIn _ _ _ _ _ _ _ from ?_)
    refine wpIn_skip ?_
    refine then_n ?_
    refine x_seq ?_
    refine wpIn_block ?_
    refine x_seq ?_
    refine wpIn_region_lit ?_
    obtain ⟨q90, H⟩ := ifS H
    obtain ⟨ad91, hAad91⟩ := RdC.addr f900000.now q90
    have hk_C := hk
    have f900000_C := f900000
    subst hAad91
    have hk := hk_C
    clear hk_C
    have f900000 := f900000_C
    clear f900000_C
    refine x_run tab hk (k := 2) (lv := [.agg #[.int .i64 ((rdD zT44 p0 x71).From), .int .i64 ((rdD zT44 p0 x71).To)]]) (ks := [1, 7, 8, 9, 12]) (e' := [(1, .int .i64 p1), (7, .slice (some ad91) (p0).length cp0), (8, .int .i64 ((p0).length : Int)), (9, .int .i64 x71), (12, .agg #[.int .i64 ((rdD zT44 p0 x71).From), .int .i64 ((rdD zT44 p0 x71).To)])]) rfl ⟨q90, (load_elem (E := ET44) (i := x71) (dx := zT44) tab rfl rfl f900000.now q90), trivial⟩ fun a hk => ?_
    refine x_op hk rfl ?_
    refine op_alloc (o := o70) tab (t := 102) (cs := [.int .i64 0, .int .i64 0]) rfl rfl 6 fun bx95 w92 o93 st94 f96 => ?_
    replace f900000 := f900000.st st94 (by decide)
    replace hs := hs.loc0 st94 (by decide)
    have hk := hk.put 6 (.pointer (some ⟨bx95, 0, none⟩)) rfl
    refine x_op hk rfl ?_
    refine op_store tab hk (t := 102) (v := .agg #[.int .i64 ((rdD zT44 p0 x71).From), .int .i64 ((rdD zT44 p0 x71).To)]) (b := bx95) (k := 0) (cs' := [.int .i64 ((rdD zT44 p0 x71).From), .int .i64 ((rdD zT44 p0 x71).To)]) rfl rfl rfl rfl rfl rfl f96 rfl rfl fun w97 o98 st99 f96_ => ?_
    replace f900000 := f900000.st st99 (by decide)
    replace hs := hs.loc0 st99 (by decide)
    replace f96 := f96_
    refine wpListIn_nil ?_
    refine then_n ?_
    refine x_seq ?_
    refine wpIn_region_lit ?_
    refine x_run tab hk (k := 5) (lv := [.int .i64 ((rdD zT44 p0 x71).From)]) (ks := [1, 6, 7, 8, 9, 17]) (e' := [(1, .int .i64 p1), (6, .pointer (some ⟨bx95, 0, none⟩)), (7, .slice (some ad91) (p0).length cp0), (8, .int .i64 ((p0).length : Int)), (9, .int .i64 x71), (17, .bool (decide (p1 ≥ ((rdD zT44 p0 x71).From))))]) rfl ⟨(load1 tab rfl ((Bx.cell f96.now 0).trans rfl)), trivial⟩ fun a hk => ?_
    cases b100 : (decide (p1 ≥ ((rdD zT44 p0 x71).From)))
    · rw [b100] at hk H
      replace H := bifF H
      refine x_run tab hk (k := 5) (lv := []) (ks := [1, 7, 8, 9, 22]) (e' := [(1, .int .i64 p1), (7, .slice (some ad91) (p0).length cp0), (8, .int .i64 ((p0).length : Int)), (9, .int .i64 x71), (22, .bool false)]) rfl trivial fun a hk => ?_
      refine wpListIn_nil ?_
      refine then_n ?_
      refine x_if hk (b := false) rfl ?_
      refine (show Code.wpIn _ _ _ _ _ _ _ from ?_)
      refine wpIn_skip ?_
      refine blk_n ?_
      refine then_n ?_
      refine wpIn_region_lit ?_
      refine x_run tab hk (k := 2) (lv := []) (ks := [1, 7, 8, 9]) (e' := [(1, .int .i64 p1), (7, .slice (some ad91) (p0).length cp0), (8, .int .i64 ((p0).length : Int)), (9, .int .i64 (IntKind.wrap .i64 (x71 + 1)))]) rfl trivial fun a hk => ?_
      refine wpListIn_nil ?_
      refine then_n ?_
      exact ⟨k86, Nat.le_refl _, o98, (IntKind.wrap .i64 (x71 + 1)), (by exact Kn.pick (ks := [1, 7, 8, 9]) hk rfl), hs, f900000, (hlp88 ▸ H)⟩
    · rw [b100] at hk H
      replace H := bifT H
      refine x_run tab hk (k := 5) (lv := [.int .i64 ((rdD zT44 p0 x71).To)]) (ks := [1, 7, 8, 9, 22]) (e' := [(1, .int .i64 p1), (7, .slice (some ad91) (p0).length cp0), (8, .int .i64 ((p0).length : Int)), (9, .int .i64 x71), (22, .bool (decide (p1 < ((rdD zT44 p0 x71).To))))]) rfl ⟨(load1 tab rfl ((Bx.cell f96.now 1).trans rfl)), trivial⟩ fun a hk => ?_
      refine wpListIn_nil ?_
      refine then_n ?_
      cases b101 : (decide (p1 < ((rdD zT44 p0 x71).To)))
      · rw [b101] at hk H
        replace H := bifF H
        refine x_if hk (b := false) rfl ?_
        refine (show Code.wpIn _ _ _ _ _ _ _ from ?_)
        refine wpIn_skip ?_
        refine blk_n ?_
        refine then_n ?_
        refine wpIn_region_lit ?_
        refine x_run tab hk (k := 2) (lv := []) (ks := [1, 7, 8, 9]) (e' := [(1, .int .i64 p1), (7, .slice (some ad91) (p0).length cp0), (8, .int .i64 ((p0).length : Int)), (9, .int .i64 (IntKind.wrap .i64 (x71 + 1)))]) rfl trivial fun a hk => ?_
        refine wpListIn_nil ?_
        refine then_n ?_
        exact ⟨k86, Nat.le_refl _, o98, (IntKind.wrap .i64 (x71 + 1)), (by exact Kn.pick (ks := [1, 7, 8, 9]) hk rfl), hs, f900000, (hlp88 ▸ H)⟩
      · rw [b101] at hk H
        replace H := bifT H
        refine x_if hk (b := true) rfl ?_
        refine (show Code.wpIn _ _ _ _ _ _ _ from ?_)
        refine x_seq ?_
        refine wpIn_region_lit ?_
        refine x_run tab hk (k := 1) (lv := []) (ks := [4]) (e' := [(4, .bool true)]) rfl trivial fun a hk => ?_
        refine wpListIn_nil ?_
        refine then_n ?_
        refine wpIn_ret ?_
        refine blk_r ?_
        refine then_r ?_
        refine then_r ?_
        refine blk_r ?_
        refine then_r ?_
        obtain rfl := Option.some.inj H
        exact x_retG hk (rs := [.tmp 4]) (vs := [.bool true]) rfl ⟨rfl, trivial⟩ ⟨fun b_ => if b_ < w.heap.size then o b_ else (fun _ => 0) (o98 b_), rfl, hs.close0 o (fun _ => 0)⟩

end Go.Proofs.Ythmlldkmgdjeoaa
