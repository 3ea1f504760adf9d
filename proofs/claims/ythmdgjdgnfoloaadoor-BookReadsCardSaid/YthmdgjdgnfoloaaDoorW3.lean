/- Walks, printed by an own program: the machine's calls compute the plain functions. -/
import Derived.Test.YthmdgjdgnfoloaaDoorW2
set_option linter.unusedVariables false
set_option linter.unusedSimpArgs false
namespace Go.Proofs.YthmdgjdgnfoloaaDoor
open Go Go.Proofs.XC
/-! tidewrack/tidewrackref12.Add -/
theorem tidewrackref12_Add_calls (K : Nat) (Ap0_0 : Option Addr) (cp0_0 : Nat) (Ap0_1 : Option Addr) (cp0_1 : Nat) (p0 : T32) (Ap1_0 : Option Addr) (cp1_0 : Nat) (p1 : T37) (w : World) (o : Nat → Nat) (LF : Nat) (Lp0_0 : Nat) (hp0_0 : NRd (dRows ET69) Ap0_0 p0.L w o Lp0_0 LF) (hcp0_0 : (p0.L).length ≤ cp0_0) (hp0_1 : Ft (RdC ET69 Ap0_1 p0.Begun) w o LF) (hcp0_1 : (p0.Begun).length ≤ cp0_1) (Lp1_0 : Nat) (hp1_0 : Ft (RdC ET84 Ap1_0 p1.L) w o Lp1_0) (hcp1_0 : (p1.L).length ≤ cp1_0) (hd0 : ([LF] : List Nat).Nodup) (hd1 : Lp0_0 ∉ [LF]) (hd2 : Lp1_0 ∉ [LF]) (R0 : Nat) (r : T32) (H : tidewrackref12_Add K p0 p1 = some r) :
    Calls Tryd.prog 13 #[.agg #[.slice Ap0_0 (p0.L).length cp0_0, .slice Ap0_1 (p0.Begun).length cp0_1], .agg #[.slice Ap1_0 (p1.L).length cp1_0, .bool p1.Wrapped]] w (Ret fun v_ w' => ∃ o' : Nat → Nat, ∃ A0 : Option Addr, ∃ c0 : Nat, ∃ A1 : Option Addr, ∃ c1 : Nat, v_ = .agg #[.slice A0 (r.L).length c0, .slice A1 (r.Begun).length c1] ∧ St [] w o w' o' ∧ NOwn (dRows ET69) 31 A0 c0 (r.L) w' o' R0 LF ∧ (r.L).length ≤ c0 ∧ Ft (RdC ET69 A1 (r.Begun)) w' o' LF ∧ (r.Begun).length ≤ c1) := by
  refine x_enter (vs := [.agg #[.slice Ap0_0 (p0.L).length cp0_0, .slice Ap0_1 (p0.Begun).length cp0_1], .agg #[.slice Ap1_0 (p1.L).length cp1_0, .bool p1.Wrapped]]) Tryd.func13 rfl rfl rfl fun a hk => ?_
  obtain ⟨oi, hs0, h0, h1, hob, hoz, hoa⟩ := St.startM2 w o (m := 1) hd0 rfl
  have hs := hs0 []
  have f900000 := hp0_0.conv (fun P_ => h0 P_ _ hd1) (fun _ h_ => h1 0 1 h_ rfl rfl)
  have f900001 := h1 0 1 hp0_1 rfl rfl
  have f900020 := h0 _ _ hd2 hp1_0
  clear h0 h1 hs0
  rw [tidewrackref12_Add] at H
  refine x_seq ?_
  refine wpIn_region_lit ?_
  refine x_op hk rfl ?_
  refine op_box (o := oi) (t := 33) (v := .agg #[.slice Ap0_0 (p0.L).length cp0_0, .slice Ap0_1 (p0.Begun).length cp0_1]) (cs := [.slice Ap0_0 (p0.L).length cp0_0, .slice Ap0_1 (p0.Begun).length cp0_1]) hk rfl rfl 2 fun bx4 w1 o2 st3 f5 => ?_
  replace f900000 := f900000.st st3 (by decide)
  replace f900001 := f900001.st st3 (by decide)
  replace f900020 := f900020.st st3 (by decide)
  replace hs := hs.locQ st3 hob rfl
  have hk := hk.put 2 (.pointer (some ⟨bx4, 0, none⟩)) rfl
  refine x_op hk rfl ?_
  refine op_box (o := o2) (t := 38) (v := .agg #[.slice Ap1_0 (p1.L).length cp1_0, .bool p1.Wrapped]) (cs := [.slice Ap1_0 (p1.L).length cp1_0, .bool p1.Wrapped]) hk rfl rfl 3 fun bx9 w6 o7 st8 f10 => ?_
  replace f5 := f5.st st8 (by decide)
  replace f900000 := f900000.st st8 (by decide)
  replace f900001 := f900001.st st8 (by decide)
  replace f900020 := f900020.st st8 (by decide)
  replace hs := hs.locQ st8 hob rfl
  have hk := hk.put 3 (.pointer (some ⟨bx9, 0, none⟩)) rfl
  refine x_op hk rfl ?_
  refine op_alloc (o := o7) tab (t := 33) (cs := [.slice none 0 0, .slice none 0 0]) rfl rfl 4 fun bx14 w11 o12 st13 f15 => ?_
  replace f10 := f10.st st13 (by decide)
  replace f5 := f5.st st13 (by decide)
  replace f900000 := f900000.st st13 (by decide)
  replace f900001 := f900001.st st13 (by decide)
  replace f900020 := f900020.st st13 (by decide)
  replace hs := hs.locQ st13 hob rfl
  have hk := hk.put 4 (.pointer (some ⟨bx14, 0, none⟩)) rfl
  refine wpListIn_nil ?_
  refine then_n ?_
  refine x_seq ?_
  obtain ⟨q59, H⟩ := ifS H
  obtain ⟨t67, hc68, H⟩ := bindS H
  obtain ⟨q79, H⟩ := ifS H
  refine xd_begin (o := o12) (fun W_ => (Bx bx9 38 [.slice Ap1_0 (p1.L).length cp1_0, .bool p1.Wrapped]) W_ ∧ (Bx bx4 33 [.slice Ap0_0 (p0.L).length cp0_0, .slice Ap0_1 (p0.Begun).length cp0_1]) W_ ∧ True) mixed rfl rfl fun w114 st115 => ?_
  replace f10 := f10.st st115 (by decide)
  replace f15 := f15.st st115 (by decide)
  replace f5 := f5.st st115 (by decide)
  replace f900000 := f900000.st st115 (by decide)
  replace f900001 := f900001.st st115 (by decide)
  replace f900020 := f900020.st st115 (by decide)
  replace hs := hs.locQ st115 hob rfl
  refine xd_take tab hk (k := 5) (is := [1, 2, 4]) (ls' := #[false, true, true, false, true, false, false, false]) (lv := [.slice Ap0_1 (p0.Begun).length cp0_1, .agg #[.slice Ap1_0 (p1.L).length cp1_0, .bool p1.Wrapped]]) (ks := [2, 3, 4, 9, 11]) (e' := [(2, .pointer (some ⟨bx4, 0, none⟩)), (3, .pointer (some ⟨bx9, 0, none⟩)), (4, .pointer (some ⟨bx14, 0, none⟩)), (9, .slice Ap0_1 (p0.Begun).length cp0_1), (11, .agg #[.slice Ap1_0 (p1.L).length cp1_0, .bool p1.Wrapped])]) (by kernel_rfl) rfl rfl (by kernel_rfl) (np_then np_body) ⟨f10.now, f5.now, trivial⟩ (fun W_ hS => ⟨(load1 tab rfl ((Bx.cell hS.2.1 1).trans rfl)), (load_box tab rfl rfl hS.1 (k := 0) rfl rfl), trivial⟩) fun a hk => ?_
  refine xd_op hk (i := 0) (by kernel_rfl) rfl rfl ?_
  refine op_slice (o := o12) tab hk (vs := []) (cs := []) rfl rfl rfl rfl rfl rfl rfl rfl rfl 11 fun bx119 w116 o117 st118 f120 => ?_
  replace f10 := f10.st st118 (by decide)
  replace f15 := f15.st st118 (by decide)
  replace f5 := f5.st st118 (by decide)
  replace f900000 := f900000.st st118 (by decide)
  replace f900001 := f900001.st st118 (by decide)
  replace f900020 := f900020.st st118 (by decide)
  replace hs := hs.locQ st118 hob rfl
  have f121 : Ft (Own ET69 70 (.slice (some ⟨bx119, 0, none⟩) (([] : List T69)).length 0) ([] : List T69)) w116 o117 11 := f120.imp fun _ h_ => Own.of_box h_ rfl (by simp)
  have hk := hk.put 7 (.slice (some ⟨bx119, 0, none⟩) (([] : List T69)).length 0) rfl
  refine ⟨.inr ⟨f10.now, f5.now, trivial⟩, ?_⟩
  refine xd_op hk (i := 3) (by kernel_rfl) rfl rfl ?_
  refine op_append (o := o117) (E := ET69) (xs := ([] : List T69)) (ys := p0.Begun) tab hk rfl rfl rfl rfl rfl rfl rfl f121 f900001.now q59 fun A125 c126 w122 o123 st124 f127 hc128 => ?_
  replace f10 := f10.st st124 (by decide)
  replace f15 := f15.st st124 (by decide)
  replace f5 := f5.st st124 (by decide)
  replace f900000 := f900000.st st124 (by decide)
  replace f900001 := f900001.st st124 (by decide)
  replace f900020 := f900020.st st124 (by decide)
  replace hs := hs.locQ st124 hob rfl
  have hk := hk.put 10 (.slice A125 ((([] : List T69) ++ p0.Begun)).length c126) rfl
  refine ⟨.inr ⟨f10.now, f5.now, trivial⟩, ?_⟩
  refine xd_op hk (i := 5) (by kernel_rfl) rfl rfl ?_
  refine op_call hk ent_37 (vs := [.agg #[.slice Ap1_0 (p1.L).length cp1_0, .bool p1.Wrapped]]) rfl (tidewrackref09_Glyphs_calls K Ap1_0 cp1_0 p1 _ o123 _ f900020 hcp1_0 12  _ hc68) ?_
  rintro _ w132 ⟨o133, A135, c136, rfl, st134, f137, hc138⟩
  replace f10 := f10.st st134 (by decide)
  replace f127 := f127.st st134 (by decide)
  replace f15 := f15.st st134 (by decide)
  replace f5 := f5.st st134 (by decide)
  replace f900000 := f900000.st st134 (by decide)
  replace f900001 := f900001.st st134 (by decide)
  replace f900020 := f900020.st st134 (by decide)
  replace hs := hs.locQ st134 hob rfl
  have hk := hk.put 12 (.slice A135 (t67).length c136) rfl
  refine ⟨.inr ⟨f10.now, f5.now, trivial⟩, ?_⟩
  refine xd_op hk (i := 6) (by kernel_rfl) rfl rfl ?_
  refine op_append2 (o := o133) (E := ET69) (xs := (([] : List T69) ++ p0.Begun)) (ys := t67) tab hk rfl rfl rfl rfl rfl rfl rfl rfl f127 (Own.rd f137.now) q79 fun A142 c143 w139 o140 st141 f144 hc145 => ?_
  replace f10 := f10.st st141 (by decide)
  replace f137 := f137.st st141 (by decide)
  replace f15 := f15.st st141 (by decide)
  replace f5 := f5.st st141 (by decide)
  replace f900000 := f900000.st st141 (by decide)
  replace f900001 := f900001.st st141 (by decide)
  replace f900020 := f900020.st st141 (by decide)
  replace hs := hs.locQ st141 hob rfl
  have hk := hk.put 13 (.slice A142 (((([] : List T69) ++ p0.Begun) ++ t67)).length c143) rfl
  refine ⟨.inr ⟨f10.now, f5.now, trivial⟩, ?_⟩
  refine xd_take tab hk (k := 0) (is := [7]) (ls' := #[true, true, true, true, true, true, true, true]) (lv := []) (ks := [2, 3, 4, 5]) (e' := [(2, .pointer (some ⟨bx4, 0, none⟩)), (3, .pointer (some ⟨bx9, 0, none⟩)), (4, .pointer (some ⟨bx14, 0, none⟩)), (5, .slice A142 (((([] : List T69) ++ p0.Begun) ++ t67)).length c143)]) (by kernel_rfl) rfl rfl (by kernel_rfl) (np_then np_body) ⟨f10.now, f5.now, trivial⟩ (fun W_ hS => trivial) fun a hk => ?_
  refine xd_done (by kernel_rfl) ?_
  refine then_n ?_
  refine x_seq ?_
  refine wpIn_region_lit ?_
  refine x_op hk rfl ?_
  refine op_slice (o := o140) tab hk (vs := []) (cs := []) rfl rfl rfl rfl rfl rfl rfl rfl rfl 13 fun bx149 w146 o147 st148 f150 => ?_
  replace f10 := f10.st st148 (by decide)
  replace f144 := f144.st st148 (by decide)
  replace f15 := f15.st st148 (by decide)
  replace f5 := f5.st st148 (by decide)
  replace f900000 := f900000.st st148 (by decide)
  replace f900001 := f900001.st st148 (by decide)
  replace f900020 := f900020.st st148 (by decide)
  replace hs := hs.locQ st148 hob rfl
  have f151 : NOwn (dRows ET69) 31 (some ⟨bx149, 0, none⟩) 0 ([] : List (List T69)) w146 o147 13 1 := NOwn.lit f150 [] rfl (Inn.nilF _ _ _ _) rfl (Nat.le_of_ble_eq_true rfl)
  have hk := hk.put 14 (.slice (some ⟨bx149, 0, none⟩) (([] : List (List T69))).length 0) rfl
  refine x_run tab hk (k := 2) (lv := [.slice Ap0_0 (p0.L).length cp0_0]) (ks := [3, 4, 5, 14, 16]) (e' := [(3, .pointer (some ⟨bx9, 0, none⟩)), (4, .pointer (some ⟨bx14, 0, none⟩)), (5, .slice A142 (((([] : List T69) ++ p0.Begun) ++ t67)).length c143), (14, .slice (some ⟨bx149, 0, none⟩) (([] : List (List T69))).length 0), (16, .slice Ap0_0 (p0.L).length cp0_0)]) rfl ⟨(load1 tab rfl ((Bx.cell f5.now 0).trans rfl)), trivial⟩ fun a hk => ?_
  refine x_op hk rfl ?_
  obtain ⟨q155, H⟩ := ifS H
  refine op_appendN (o := o147) (D := (dRows ET69)) (xs := ([] : List (List T69))) (ys := p0.L) tab hk rfl rfl rfl rfl rfl rfl rfl f151 f900000 (by decide) q155 fun A156 c157 w152 o153 st154 f158 hc159 => ?_
  replace f10 := f10.st st154 (by decide)
  replace f144 := f144.st st154 (by decide)
  replace f15 := f15.st st154 (by decide)
  replace f900000 := f900000.st st154 (by decide)
  replace f900020 := f900020.st st154 (by decide)
  replace hs := hs.locQ st154 hob rfl
  have hk := hk.put 17 (.slice A156 ((([] : List (List T69)) ++ p0.L)).length c157) rfl
  refine x_run tab hk (k := 1) (lv := []) (ks := [3, 4, 5, 6]) (e' := [(3, .pointer (some ⟨bx9, 0, none⟩)), (4, .pointer (some ⟨bx14, 0, none⟩)), (5, .slice A142 (((([] : List T69) ++ p0.Begun) ++ t67)).length c143), (6, .slice A156 ((([] : List (List T69)) ++ p0.L)).length c157)]) rfl trivial fun a hk => ?_
  refine wpListIn_nil ?_
  refine then_n ?_
  refine x_mid (fun a_ w_ => ∃ o313 : Nat → Nat, ∃ A314 : Option Addr, ∃ c315 : Nat, ∃ l316 : List T69, ∃ A319 : Option Addr, ∃ c320 : Nat, ∃ l321 : List (List T69), Kn 39 a_ [(3, .pointer (some ⟨bx9, 0, none⟩)), (4, .pointer (some ⟨bx14, 0, none⟩)), (5, .slice A314 (l316).length c315), (6, .slice A319 (l321).length c320)] ∧ St [] w oi w_ o313 ∧ Ft (Bx bx9 38 [.slice Ap1_0 (p1.L).length cp1_0, .bool p1.Wrapped]) w_ o313 29 ∧ Ft (Bx bx14 33 [.slice none 0 0, .slice none 0 0]) w_ o313 30 ∧ Ft (RdC ET69 A314 l316) w_ o313 1 ∧ NOwn (dRows ET69) 31 A319 c320 l321 w_ o313 31 1 ∧ Ft (RdC ET84 Ap1_0 p1.L) w_ o313 0 ∧ (l316).length ≤ c315 ∧ (l321).length ≤ c320 ∧ tidewrackref12_Add_j1 p1 l316 l321 = some r) ?_ ?_
  rotate_left
  · rintro a w324 ⟨o313, A314, c315, l316, A319, c320, l321, hk, hs, f10, f15, f317, f322, f900020, hc318, hc323, H⟩
    rw [tidewrackref12_Add_j1] at H
    refine x_seq ?_
    refine x_seq ?_
    refine wpIn_region_lit ?_
    refine x_run tab hk (k := 3) (lv := [.bool p1.Wrapped]) (ks := [4, 5, 6, 30]) (e' := [(4, .pointer (some ⟨bx14, 0, none⟩)), (5, .slice A314 (l316).length c315), (6, .slice A319 (l321).length c320), (30, .bool (!p1.Wrapped))]) rfl ⟨(load1 tab rfl ((Bx.cell f10.now 1).trans rfl)), trivial⟩ fun a hk => ?_
    refine wpListIn_nil ?_
    refine then_n ?_
    cases b325 : (!p1.Wrapped)
    · rw [b325] at hk H
      replace H := bifF H
      refine x_if hk (b := false) rfl ?_
      refine (show Code.wpIn _ _ _ _ _ _ _ from ?_)
      refine wpIn_skip ?_
      refine then_n ?_
      refine x_seq ?_
      refine wpIn_region_lit ?_
      refine x_run tab hk (k := 3) (lv := []) (ks := [4, 38]) (e' := [(4, .pointer (some ⟨bx14, 0, none⟩)), (38, .agg #[.slice A319 (l321).length c320, .slice A314 (l316).length c315])]) rfl trivial fun a hk => ?_
      refine x_op hk rfl ?_
      refine op_store tab hk (t := 33) (v := .agg #[.slice A319 (l321).length c320, .slice A314 (l316).length c315]) (b := bx14) (k := 0) (cs' := [.slice A319 (l321).length c320, .slice A314 (l316).length c315]) rfl rfl rfl rfl rfl rfl f15 rfl rfl fun w326 o327 st328 f15_ => ?_
      replace f317 := f317.st st328 (by decide)
      replace f322 := f322.st st328 (by decide)
      replace hs := hs.locQ st328 hob rfl
      replace f15 := f15_
      refine wpListIn_nil ?_
      refine then_n ?_
      refine wpIn_ret ?_
      obtain rfl := Option.some.inj H
      exact x_retG hk (rs := [.cell 4 33]) (vs := [.agg #[.slice A319 (l321).length c320, .slice A314 (l316).length c315]]) rfl ⟨⟨_, rfl, load_box tab rfl rfl f15.now (k := 0) rfl rfl⟩, trivial⟩ ⟨fun b_ => if b_ < w.heap.size then o b_ else (fun l_ => if l_ = 1 then LF else if l_ = 31 then R0 else 0) (o327 b_), A319, c320, A314, c315, rfl, hs.closeF (Lm := []) (Sh := []) hoa rfl (fun l_ => if l_ = 1 then LF else if l_ = 31 then R0 else 0), f322.conv (fun _ h_ => hs.closeM_ft (o := o) (ρ := fun l_ => if l_ = 1 then LF else if l_ = 31 then R0 else 0) h_ (lab_none hob rfl) rfl) (fun _ h_ => hs.closeM_ft (o := o) (ρ := fun l_ => if l_ = 1 then LF else if l_ = 31 then R0 else 0) h_ (lab_at hoa (i := 0) rfl) rfl), hc323, hs.closeM_ft (o := o) (ρ := fun l_ => if l_ = 1 then LF else if l_ = 31 then R0 else 0) f317 (lab_at hoa (i := 0) rfl) rfl, hc318⟩
    · rw [b325] at hk H
      replace H := bifT H
      refine x_if hk (b := true) rfl ?_
      refine (show Code.wpIn _ _ _ _ _ _ _ from ?_)
      refine x_seq ?_
      refine wpIn_region_lit ?_
      refine x_run tab hk (k := 2) (lv := []) (ks := [4, 31, 32]) (e' := [(4, .pointer (some ⟨bx14, 0, none⟩)), (31, .slice A319 (l321).length c320), (32, .slice A314 (l316).length c315)]) rfl trivial fun a hk => ?_
      refine x_op hk rfl ?_
      refine op_slice (o := o313) tab hk (vs := [.slice A314 (l316).length c315]) (cs := [.slice A314 (l316).length c315]) rfl rfl rfl rfl rfl rfl rfl rfl rfl 32 fun bx332 w329 o330 st331 f333 => ?_
      replace f15 := f15.st st331 (by decide)
      replace f317 := f317.st st331 (by decide)
      replace f322 := f322.st st331 (by decide)
      replace hs := hs.locQ st331 hob rfl
      have f334 : NOwn (dRows ET69) 31 (some ⟨bx332, 0, none⟩) 1 ([l316] : List (List T69)) w329 o330 32 1 := NOwn.lit f333 [⟨A314, c315, l316⟩] rfl (Inn.consF f317 hc318 (Inn.nilF _ _ _ _)) rfl (Nat.le_of_ble_eq_true rfl)
      have hk := hk.put 33 (.slice (some ⟨bx332, 0, none⟩) (([l316] : List (List T69))).length 1) rfl
      refine x_op hk rfl ?_
      obtain ⟨q338, H⟩ := ifS H
      refine op_appendN (o := o330) (D := (dRows ET69)) (xs := l321) (ys := ([l316] : List (List T69))) tab hk rfl rfl rfl rfl rfl rfl rfl f322 f334.rd (by decide) q338 fun A339 c340 w335 o336 st337 f341 hc342 => ?_
      replace f15 := f15.st st337 (by decide)
      replace f317 := f317.st st337 (by decide)
      replace f334 := f334.st st337 (by decide)
      replace hs := hs.locQ st337 hob rfl
      have hk := hk.put 34 (.slice A339 ((l321 ++ ([l316] : List (List T69)))).length c340) rfl
      refine x_run tab hk (k := 1) (lv := []) (ks := [4, 35]) (e' := [(4, .pointer (some ⟨bx14, 0, none⟩)), (35, .agg #[.slice A339 ((l321 ++ ([l316] : List (List T69)))).length c340, .slice none 0 0])]) rfl trivial fun a hk => ?_
      refine x_op hk rfl ?_
      refine op_store tab hk (t := 33) (v := .agg #[.slice A339 ((l321 ++ ([l316] : List (List T69)))).length c340, .slice none 0 0]) (b := bx14) (k := 0) (cs' := [.slice A339 ((l321 ++ ([l316] : List (List T69)))).length c340, .slice none 0 0]) rfl rfl rfl rfl rfl rfl f15 rfl rfl fun w343 o344 st345 f15_ => ?_
      replace f341 := f341.st st345 (by decide)
      replace hs := hs.locQ st345 hob rfl
      replace f15 := f15_
      refine wpListIn_nil ?_
      refine then_n ?_
      refine wpIn_ret ?_
      refine then_r ?_
      obtain rfl := Option.some.inj H
      exact x_retG hk (rs := [.cell 4 33]) (vs := [.agg #[.slice A339 ((l321 ++ ([l316] : List (List T69)))).length c340, .slice none 0 0]]) rfl ⟨⟨_, rfl, load_box tab rfl rfl f15.now (k := 0) rfl rfl⟩, trivial⟩ ⟨fun b_ => if b_ < w.heap.size then o b_ else (fun l_ => if l_ = 1 then LF else if l_ = 31 then R0 else 0) (o344 b_), A339, c340, none, 0, rfl, hs.closeF (Lm := []) (Sh := []) hoa rfl (fun l_ => if l_ = 1 then LF else if l_ = 31 then R0 else 0), f341.conv (fun _ h_ => hs.closeM_ft (o := o) (ρ := fun l_ => if l_ = 1 then LF else if l_ = 31 then R0 else 0) h_ (lab_none hob rfl) rfl) (fun _ h_ => hs.closeM_ft (o := o) (ρ := fun l_ => if l_ = 1 then LF else if l_ = 31 then R0 else 0) h_ (lab_at hoa (i := 0) rfl) rfl), hc342, (Ft.of_all (fun _ h_ => absurd h_ (by simp)) _ _ _), (by simp)⟩
  refine wpIn_block ?_
  refine x_loop (fun j_ a_ w_ => ∃ o417 : Nat → Nat, ∃ A418 : Option Addr, ∃ c419 : Nat, ∃ l420 : List T69, ∃ A423 : Option Addr, ∃ c424 : Nat, ∃ l425 : List (List T69), Kn 39 a_ [(3, .pointer (some ⟨bx9, 0, none⟩)), (4, .pointer (some ⟨bx14, 0, none⟩)), (5, .slice A418 (l420).length c419), (6, .slice A423 (l425).length c424)] ∧ St [] w oi w_ o417 ∧ Ft (Bx bx9 38 [.slice Ap1_0 (p1.L).length cp1_0, .bool p1.Wrapped]) w_ o417 43 ∧ Ft (Bx bx14 33 [.slice none 0 0, .slice none 0 0]) w_ o417 44 ∧ Ft (RdC ET69 A418 l420) w_ o417 1 ∧ NOwn (dRows ET69) 31 A423 c424 l425 w_ o417 45 1 ∧ Ft (RdC ET84 Ap1_0 p1.L) w_ o417 0 ∧ (l420).length ≤ c419 ∧ (l425).length ≤ c424 ∧ tidewrackref12_Add_l2 p1 j_ l420 l425 = some r) (k := K) ⟨(fun b_ => (fun l_ => if l_ = 3 then 43 else if l_ = 4 then 44 else if l_ = 11 then 1 else if l_ = 13 then 45 else l_) (o153 b_)), A142, c143, ((([] : List T69) ++ p0.Begun) ++ t67), A156, c157, (([] : List (List T69)) ++ p0.L), (by exact Kn.pick (ks := [3, 4, 5, 6]) hk rfl), (hs.relabM hob (fun l_ => if l_ = 3 then 43 else if l_ = 4 then 44 else if l_ = 11 then 1 else if l_ = 13 then 45 else l_) (by decide)), (f10.relab (fun l_ => if l_ = 3 then 43 else if l_ = 4 then 44 else if l_ = 11 then 1 else if l_ = 13 then 45 else l_) rfl), (f15.relab (fun l_ => if l_ = 3 then 43 else if l_ = 4 then 44 else if l_ = 11 then 1 else if l_ = 13 then 45 else l_) rfl), ((f144.imp fun _ h_ => Own.rd h_).relab (fun l_ => if l_ = 3 then 43 else if l_ = 4 then 44 else if l_ = 11 then 1 else if l_ = 13 then 45 else l_) rfl), (f158.relab (fun l_ => if l_ = 3 then 43 else if l_ = 4 then 44 else if l_ = 11 then 1 else if l_ = 13 then 45 else l_) rfl), (f900020.relab (fun l_ => if l_ = 3 then 43 else if l_ = 4 then 44 else if l_ = 11 then 1 else if l_ = 13 then 45 else l_) rfl), hc145, hc159, H⟩ (by rintro _ _ ⟨_, _, _, _, _, _, _, _, _, _, _, _, _, _, _, _, H_⟩; exact absurd (show (none : Option T32) = some r from H_) (by simp)) ?_
  rintro k455 a w454 ⟨o417, A418, c419, l420, A423, c424, l425, hk, hs, f10, f15, f421, f426, f900020, hc422, hc427, H⟩
  rw [tidewrackref12_Add_l2] at H
  obtain ⟨lp456, hlp457⟩ : ∃ lp_, lp_ = tidewrackref12_Add_l2 p1 k455 := ⟨_, rfl⟩
  rw [← hlp457] at H
  refine x_seq ?_
  refine x_seq ?_
  refine wpIn_region_lit ?_
  refine x_run tab hk (k := 3) (lv := []) (ks := [3, 4, 5, 6, 20]) (e' := [(3, .pointer (some ⟨bx9, 0, none⟩)), (4, .pointer (some ⟨bx14, 0, none⟩)), (5, .slice A418 (l420).length c419), (6, .slice A423 (l425).length c424), (20, .bool (decide (((l420).length : Int) ≥ (1024 : Int))))]) rfl trivial fun a hk => ?_
  refine wpListIn_nil ?_
  refine then_n ?_
  cases b458 : (decide (((l420).length : Int) ≥ (1024 : Int)))
  · rw [b458] at hk H
    replace H := bifF H
    refine x_if hk (b := false) rfl ?_
    refine (show Code.wpIn _ _ _ _ _ _ _ from ?_)
    refine wpIn_exit ?_
    refine then_x ?_
    refine then_x ?_
    refine blk_x ?_
    refine then_n ?_
    exact ⟨(fun b_ => (fun l_ => if l_ = 43 then 29 else if l_ = 44 then 30 else if l_ = 45 then 31 else l_) (o417 b_)), A418, c419, l420, A423, c424, l425, (by exact Kn.pick (ks := [3, 4, 5, 6]) hk rfl), (hs.relabM hob (fun l_ => if l_ = 43 then 29 else if l_ = 44 then 30 else if l_ = 45 then 31 else l_) (by decide)), (f10.relab (fun l_ => if l_ = 43 then 29 else if l_ = 44 then 30 else if l_ = 45 then 31 else l_) rfl), (f15.relab (fun l_ => if l_ = 43 then 29 else if l_ = 44 then 30 else if l_ = 45 then 31 else l_) rfl), (f421.relab (fun l_ => if l_ = 43 then 29 else if l_ = 44 then 30 else if l_ = 45 then 31 else l_) rfl), (f426.relab (fun l_ => if l_ = 43 then 29 else if l_ = 44 then 30 else if l_ = 45 then 31 else l_) rfl), (f900020.relab (fun l_ => if l_ = 43 then 29 else if l_ = 44 then 30 else if l_ = 45 then 31 else l_) rfl), hc422, hc427, H⟩
  · rw [b458] at hk H
    replace H := bifT H
    refine x_if hk (b := true) rfl ?_
    refine (show Code.wpIn _ _ _ _ _ _ _ from ?_)
    refine wpIn_skip ?_
    refine then_n ?_
    refine wpIn_block ?_
    refine x_seq ?_
    refine wpIn_region_lit ?_
    obtain ⟨q459, H⟩ := ifS H
    obtain ⟨A460, c461, ak463, f462, hc464⟩ := ask_cut (P := Tryd.prog) tab (t := 31) rfl rfl f421 hc422 none (some (.int .i64 1024)) rfl ⟨(show 0 ≤ (1024 : Int) from by decide), (by have := q459; have := hc422; omega), trivial⟩ (by have := (show 0 ≤ (1024 : Int) from by decide); have := q459; omega) (by have := (show 0 ≤ (1024 : Int) from by decide); have := q459; omega)
    refine x_run tab hk (k := 3) (lv := [.slice A460 ((List.drop 0 (List.take (Int.toNat 1024) l420))).length c461]) (ks := [3, 4, 5, 21, 23]) (e' := [(3, .pointer (some ⟨bx9, 0, none⟩)), (4, .pointer (some ⟨bx14, 0, none⟩)), (5, .slice A418 (l420).length c419), (21, .slice A423 (l425).length c424), (23, .slice A460 ((List.drop 0 (List.take (Int.toNat 1024) l420))).length c461)]) rfl ⟨(ak463 rfl rfl rfl _), trivial⟩ fun a hk => ?_
    refine x_op hk rfl ?_
    refine op_slice (o := o417) tab hk (vs := [.slice A460 ((List.drop 0 (List.take (Int.toNat 1024) l420))).length c461]) (cs := [.slice A460 ((List.drop 0 (List.take (Int.toNat 1024) l420))).length c461]) rfl rfl rfl rfl rfl rfl rfl rfl rfl 47 fun bx468 w465 o466 st467 f469 => ?_
    replace f10 := f10.st st467 (by decide)
    replace f15 := f15.st st467 (by decide)
    replace f421 := f421.st st467 (by decide)
    replace f426 := f426.st st467 (by decide)
    replace f462 := f462.st st467 (by decide)
    replace f900020 := f900020.st st467 (by decide)
    replace hs := hs.locQ st467 hob rfl
    have f470 : NOwn (dRows ET69) 31 (some ⟨bx468, 0, none⟩) 1 ([(List.drop 0 (List.take (Int.toNat 1024) l420))] : List (List T69)) w465 o466 47 1 := NOwn.lit f469 [⟨A460, c461, (List.drop 0 (List.take (Int.toNat 1024) l420))⟩] rfl (Inn.consF f462 hc464 (Inn.nilF _ _ _ _)) rfl (Nat.le_of_ble_eq_true rfl)
    have hk := hk.put 24 (.slice (some ⟨bx468, 0, none⟩) (([(List.drop 0 (List.take (Int.toNat 1024) l420))] : List (List T69))).length 1) rfl
    refine x_op hk rfl ?_
    obtain ⟨q474, H⟩ := ifS H
    refine op_appendN (o := o466) (D := (dRows ET69)) (xs := l425) (ys := ([(List.drop 0 (List.take (Int.toNat 1024) l420))] : List (List T69))) tab hk rfl rfl rfl rfl rfl rfl rfl f426 f470.rd (by decide) q474 fun A475 c476 w471 o472 st473 f477 hc478 => ?_
    replace f10 := f10.st st473 (by decide)
    replace f15 := f15.st st473 (by decide)
    replace f421 := f421.st st473 (by decide)
    replace f462 := f462.st st473 (by decide)
    replace f470 := f470.st st473 (by decide)
    replace f900020 := f900020.st st473 (by decide)
    replace hs := hs.locQ st473 hob rfl
    have hk := hk.put 25 (.slice A475 ((l425 ++ ([(List.drop 0 (List.take (Int.toNat 1024) l420))] : List (List T69)))).length c476) rfl
    refine x_run tab hk (k := 1) (lv := []) (ks := [3, 4, 5, 6]) (e' := [(3, .pointer (some ⟨bx9, 0, none⟩)), (4, .pointer (some ⟨bx14, 0, none⟩)), (5, .slice A418 (l420).length c419), (6, .slice A475 ((l425 ++ ([(List.drop 0 (List.take (Int.toNat 1024) l420))] : List (List T69)))).length c476)]) rfl trivial fun a hk => ?_
    refine wpListIn_nil ?_
    refine then_n ?_
    refine wpIn_region_lit ?_
    obtain ⟨A479, c480, ak482, f481, hc483⟩ := ask_cut (P := Tryd.prog) tab (t := 31) rfl rfl f421 hc422 (some (.int .i64 1024)) none rfl ⟨(show 0 ≤ (1024 : Int) from by decide), (by have := q459; omega), trivial⟩ (by have := (show 0 ≤ (1024 : Int) from by decide); have := q459; omega) (Nat.le_refl _)
    refine x_run tab hk (k := 3) (lv := [.slice A479 ((List.drop (Int.toNat 1024) (List.take (l420).length l420))).length c480]) (ks := [3, 4, 5, 6]) (e' := [(3, .pointer (some ⟨bx9, 0, none⟩)), (4, .pointer (some ⟨bx14, 0, none⟩)), (5, .slice A479 ((List.drop (Int.toNat 1024) (List.take (l420).length l420))).length c480), (6, .slice A475 ((l425 ++ ([(List.drop 0 (List.take (Int.toNat 1024) l420))] : List (List T69)))).length c476)]) rfl ⟨(ak482 rfl rfl rfl _), trivial⟩ fun a hk => ?_
    refine wpListIn_nil ?_
    refine blk_n ?_
    refine then_n ?_
    exact ⟨k455, Nat.le_refl _, o472, A479, c480, (List.drop (Int.toNat 1024) (List.take (l420).length l420)), A475, c476, (l425 ++ ([(List.drop 0 (List.take (Int.toNat 1024) l420))] : List (List T69))), (by exact Kn.pick (ks := [3, 4, 5, 6]) hk rfl), hs, f10, f15, f481, f477, f900020, hc483, hc478, (hlp457 ▸ H)⟩

/-! tidewrack/tidewracklaw09.Glyphs -/
theorem tidewracklaw09_Glyphs_calls (K : Nat) (Ap0 : Option Addr) (cp0 : Nat) (p0 : List T49) (Ap1 : Option Addr) (cp1 : Nat) (p1 : List T69) (w : World) (o : Nat → Nat) (Lp0 : Nat) (hp0 : Ft (RdC ET49 Ap0 p0) w o Lp0) (hcp0 : (p0).length ≤ cp0) (Lp1 : Nat) (hp1 : Ft (RdC ET69 Ap1 p1) w o Lp1) (hcp1 : (p1).length ≤ cp1)  (r : Bool) (H : tidewracklaw09_Glyphs K p0 p1 = some r) :
    Calls Tryd.prog 26 #[.slice Ap0 (p0).length cp0, .slice Ap1 (p1).length cp1] w (Ret fun v_ w' => ∃ o' : Nat → Nat, v_ = .bool r ∧ St [] w o w' o') := by
  refine x_enter (vs := [.slice Ap0 (p0).length cp0, .slice Ap1 (p1).length cp1]) Tryd.func26 rfl rfl rfl fun a hk => ?_
  obtain ⟨o0, hs, h0⟩ := St.start w o
  have f900000 := h0 _ _ hp0
  have f900020 := h0 _ _ hp1
  clear h0
  rw [tidewracklaw09_Glyphs] at H
  refine x_seq ?_
  refine wpIn_region_lit ?_
  refine x_run tab hk (k := 1) (lv := []) (ks := [0, 1]) (e' := [(0, .slice Ap0 (p0).length cp0), (1, .slice Ap1 (p1).length cp1)]) rfl trivial fun a hk => ?_
  refine wpListIn_nil ?_
  refine then_n ?_
  refine x_seq ?_
  refine x_seq ?_
  refine wpIn_region_lit ?_
  refine x_run tab hk (k := 5) (lv := []) (ks := [0, 1, 11]) (e' := [(0, .slice Ap0 (p0).length cp0), (1, .slice Ap1 (p1).length cp1), (11, .bool (((p0).length : Int) != ((p1).length : Int)))]) rfl trivial fun a hk => ?_
  refine wpListIn_nil ?_
  refine then_n ?_
  cases b1 : (((p0).length : Int) != ((p1).length : Int))
  · rw [b1] at hk H
    replace H := bifF H
    refine x_if hk (b := false) rfl ?_
    refine (show Code.wpIn _ _ _ _ _ _ _ from ?_)
    refine wpIn_skip ?_
    refine then_n ?_
    refine x_mid (fun a_ w_ => ∃ o83 : Nat → Nat, Kn 39 a_ [] ∧ St [] w (fun _ => 0) w_ o83 ∧ tidewracklaw09_Glyphs_j1 = some r) ?_ ?_
    rotate_left
    · rintro a w84 ⟨o83, hk, hs, H⟩
      rw [tidewracklaw09_Glyphs_j1] at H
      refine x_seq ?_
      refine wpIn_region_lit ?_
      refine x_run tab hk (k := 1) (lv := []) (ks := [4]) (e' := [(4, .bool true)]) rfl trivial fun a hk => ?_
      refine wpListIn_nil ?_
      refine then_n ?_
      refine wpIn_ret ?_
      obtain rfl := Option.some.inj H
      exact x_retG hk (rs := [.tmp 4]) (vs := [.bool true]) rfl ⟨rfl, trivial⟩ ⟨fun b_ => if b_ < w.heap.size then o b_ else (fun _ => 0) (o83 b_), rfl, hs.close0 o (fun _ => 0)⟩
    refine x_seq ?_
    refine wpIn_region_lit ?_
    refine x_run tab hk (k := 3) (lv := []) (ks := [1, 12, 13, 14]) (e' := [(1, .slice Ap1 (p1).length cp1), (12, .slice Ap0 (p0).length cp0), (13, .int .i64 ((p0).length : Int)), (14, .int .i64 0)]) rfl trivial fun a hk => ?_
    refine wpListIn_nil ?_
    refine then_n ?_
    refine wpIn_block ?_
    refine x_loop (fun j_ a_ w_ => ∃ o111 : Nat → Nat, ∃ x112 : Int, Kn 39 a_ [(1, .slice Ap1 (p1).length cp1), (12, .slice Ap0 (p0).length cp0), (13, .int .i64 ((p0).length : Int)), (14, .int .i64 x112)] ∧ St [] w (fun _ => 0) w_ o111 ∧ Ft (RdC ET49 Ap0 p0) w_ o111 0 ∧ Ft (RdC ET69 Ap1 p1) w_ o111 0 ∧ tidewracklaw09_Glyphs_l2 p0 p1 j_ x112 = some r) (k := K) ⟨o0, 0, (by exact Kn.pick (ks := [1, 12, 13, 14]) hk rfl), hs, f900000, f900020, H⟩ (by rintro _ _ ⟨_, _, _, _, _, _, H_⟩; exact absurd (show (none : Option Bool) = some r from H_) (by simp)) ?_
    rintro k137 a w136 ⟨o111, x112, hk, hs, f900000, f900020, H⟩
    rw [tidewracklaw09_Glyphs_l2] at H
    obtain ⟨lp138, hlp139⟩ : ∃ lp_, lp_ = tidewracklaw09_Glyphs_l2 p0 p1 k137 := ⟨_, rfl⟩
    rw [← hlp139] at H
    refine x_seq ?_
    refine wpIn_region_lit ?_
    refine x_run tab hk (k := 1) (lv := []) (ks := [1, 12, 13, 14, 15]) (e' := [(1, .slice Ap1 (p1).length cp1), (12, .slice Ap0 (p0).length cp0), (13, .int .i64 ((p0).length : Int)), (14, .int .i64 x112), (15, .bool (decide (x112 < ((p0).length : Int))))]) rfl trivial fun a hk => ?_
    refine wpListIn_nil ?_
    refine then_n ?_
    refine x_seq ?_
    cases b140 : (decide (x112 < ((p0).length : Int)))
    · rw [b140] at hk H
      replace H := bifF H
      refine x_if hk (b := false) rfl ?_
      refine (show Code.wpIn _ _ _ _ _ _ _ from ?_)
      refine wpIn_exit ?_
      refine then_x ?_
      refine then_x ?_
      refine blk_x ?_
      refine then_n ?_
      exact ⟨o111, (by exact Kn.pick (ks := []) hk rfl), hs, H⟩
    · rw [b140] at hk H
      replace H := bifT H
      refine x_if hk (b := true) rfl ?_
      refine (show Code.wpIn _ _ _ _ _ _ _ from ?_)
      refine wpIn_skip ?_
      refine then_n ?_
      refine x_seq ?_
      refine wpIn_block ?_
      refine x_seq ?_
      refine wpIn_region_lit ?_
      obtain ⟨q141, H⟩ := ifS H
      obtain ⟨ad142, hAad142⟩ := RdC.addr f900000.now q141
      have hk_C := hk
      have f900000_C := f900000
      have f900020_C := f900020
      subst hAad142
      have hk := hk_C
      clear hk_C
      have f900000 := f900000_C
      clear f900000_C
      have f900020 := f900020_C
      clear f900020_C
      refine x_run tab hk (k := 3) (lv := [.agg #[.int .i32 ((rdD zT49 p0 x112).Rune), .int .i64 ((rdD zT49 p0 x112).Style)]]) (ks := [1, 12, 13, 14, 16, 18]) (e' := [(1, .slice Ap1 (p1).length cp1), (12, .slice (some ad142) (p0).length cp0), (13, .int .i64 ((p0).length : Int)), (14, .int .i64 x112), (16, .int .i64 x112), (18, .agg #[.int .i32 ((rdD zT49 p0 x112).Rune), .int .i64 ((rdD zT49 p0 x112).Style)])]) rfl ⟨q141, (load_elem (E := ET49) (i := x112) (dx := zT49) tab rfl rfl f900000.now q141), trivial⟩ fun a hk => ?_
      refine x_op hk rfl ?_
      refine op_alloc (o := o111) tab (t := 50) (cs := [.int .i32 0, .int .i64 0]) rfl rfl 6 fun bx146 w143 o144 st145 f147 => ?_
      replace f900000 := f900000.st st145 (by decide)
      replace f900020 := f900020.st st145 (by decide)
      replace hs := hs.loc0 st145 (by decide)
      have hk := hk.put 6 (.pointer (some ⟨bx146, 0, none⟩)) rfl
      refine x_run tab hk (k := 1) (lv := []) (ks := [1, 5, 6, 12, 13, 14, 18]) (e' := [(1, .slice Ap1 (p1).length cp1), (5, .int .i64 x112), (6, .pointer (some ⟨bx146, 0, none⟩)), (12, .slice (some ad142) (p0).length cp0), (13, .int .i64 ((p0).length : Int)), (14, .int .i64 x112), (18, .agg #[.int .i32 ((rdD zT49 p0 x112).Rune), .int .i64 ((rdD zT49 p0 x112).Style)])]) rfl trivial fun a hk => ?_
      refine x_op hk rfl ?_
      refine op_store tab hk (t := 50) (v := .agg #[.int .i32 ((rdD zT49 p0 x112).Rune), .int .i64 ((rdD zT49 p0 x112).Style)]) (b := bx146) (k := 0) (cs' := [.int .i32 ((rdD zT49 p0 x112).Rune), .int .i64 ((rdD zT49 p0 x112).Style)]) rfl rfl rfl rfl rfl rfl f147 rfl rfl fun w148 o149 st150 f147_ => ?_
      replace f900000 := f900000.st st150 (by decide)
      replace f900020 := f900020.st st150 (by decide)
      replace hs := hs.loc0 st150 (by decide)
      replace f147 := f147_
      refine wpListIn_nil ?_
      refine then_n ?_
      refine x_seq ?_
      refine xd_begin (o := o149) (fun W_ => (Bx bx146 50 [.int .i32 ((rdD zT49 p0 x112).Rune), .int .i64 ((rdD zT49 p0 x112).Style)]) W_ ∧ (RdC ET69 Ap1 p1) W_ ∧ True) mixed rfl rfl fun w157 st158 => ?_
      replace f147 := f147.st st158 (by decide)
      replace f900000 := f900000.st st158 (by decide)
      replace f900020 := f900020.st st158 (by decide)
      replace hs := hs.loc0 st158 (by decide)
      obtain ⟨q159, H⟩ := ifS H
      obtain ⟨ad160, hAad160⟩ := RdC.addr f900020.now q159
      have hk_C := hk
      have f147_C := f147
      have f900000_C := f900000
      have f900020_C := f900020
      subst hAad160
      have hk := hk_C
      clear hk_C
      have f147 := f147_C
      clear f147_C
      have f900000 := f900000_C
      clear f900000_C
      have f900020 := f900020_C
      clear f900020_C
      refine xd_take tab hk (k := 9) (is := [0, 1, 2, 3, 4, 5, 6, 7, 8, 9]) (ls' := #[true, true, true, true, true, true, true, true, true, true, false, false, false, false, false, false, false, false, false]) (lv := [.int .i32 ((rdD zT49 p0 x112).Rune), .int .i64 ((rdD zT69 p1 x112).Rune)]) (ks := [1, 5, 6, 12, 13, 14, 28]) (e' := [(1, .slice (some ad160) (p1).length cp1), (5, .int .i64 x112), (6, .pointer (some ⟨bx146, 0, none⟩)), (12, .slice (some ad142) (p0).length cp0), (13, .int .i64 ((p0).length : Int)), (14, .int .i64 x112), (28, .bool ((IntKind.wrap .i64 ((rdD zT49 p0 x112).Rune)) != ((rdD zT69 p1 x112).Rune)))]) (by kernel_rfl) rfl rfl (by kernel_rfl) (np_then (np_blk (np_then (np_then (np_blk (np_then np_body)))))) ⟨f147.now, f900020.now, trivial⟩ (fun W_ hS => ⟨(load1 tab rfl ((Bx.cell hS.1 0).trans rfl)), q159, (load1 tab rfl (RdC.at (E := ET69) (d := zT69) (i := x112) (j := 0) hS.2.1 q159 rfl)), trivial⟩) fun a hk => ?_
      cases b161 : ((IntKind.wrap .i64 ((rdD zT49 p0 x112).Rune)) != ((rdD zT69 p1 x112).Rune))
      · rw [b161] at hk H
        replace H := bifF H
        refine xd_take tab hk (k := 0) (is := [10, 11, 12, 13, 14, 15, 16, 17, 18]) (ls' := #[true, true, true, true, true, true, true, true, true, true, true, true, true, true, true, true, true, true, true]) (lv := [.int .i64 ((rdD zT49 p0 x112).Style), .int .i64 ((rdD zT69 p1 x112).Style)]) (ks := [1, 12, 13, 14, 37]) (e' := [(1, .slice (some ad160) (p1).length cp1), (12, .slice (some ad142) (p0).length cp0), (13, .int .i64 ((p0).length : Int)), (14, .int .i64 x112), (37, .bool (((rdD zT49 p0 x112).Style) != ((rdD zT69 p1 x112).Style)))]) (by kernel_rfl) rfl rfl (by kernel_rfl) (np_then (np_blk (np_then (np_then (np_blk (np_then np_body)))))) ⟨f147.now, f900020.now, trivial⟩ (fun W_ hS => ⟨(load1 tab rfl ((Bx.cell hS.1 1).trans rfl)), q159, (load1 tab rfl (RdC.at (E := ET69) (d := zT69) (i := x112) (j := 1) hS.2.1 q159 rfl)), trivial⟩) fun a hk => ?_
        refine xd_done (by kernel_rfl) ?_
        refine then_n ?_
        cases b162 : (((rdD zT49 p0 x112).Style) != ((rdD zT69 p1 x112).Style))
        · rw [b162] at hk H
          replace H := bifF H
          refine x_if hk (b := false) rfl ?_
          refine (show Code.wpIn _ _ _ _ _ _ _ from ?_)
          refine wpIn_skip ?_
          refine blk_n ?_
          refine then_n ?_
          refine wpIn_region_lit ?_
          refine x_run tab hk (k := 2) (lv := []) (ks := [1, 12, 13, 14]) (e' := [(1, .slice (some ad160) (p1).length cp1), (12, .slice (some ad142) (p0).length cp0), (13, .int .i64 ((p0).length : Int)), (14, .int .i64 (IntKind.wrap .i64 (x112 + 1)))]) rfl trivial fun a hk => ?_
          refine wpListIn_nil ?_
          refine then_n ?_
          exact ⟨k137, Nat.le_refl _, o149, (IntKind.wrap .i64 (x112 + 1)), (by exact Kn.pick (ks := [1, 12, 13, 14]) hk rfl), hs, f900000, f900020, (hlp139 ▸ H)⟩
        · rw [b162] at hk H
          replace H := bifT H
          refine x_if hk (b := true) rfl ?_
          refine (show Code.wpIn _ _ _ _ _ _ _ from ?_)
          refine x_seq ?_
          refine wpIn_region_lit ?_
          refine x_run tab hk (k := 1) (lv := []) (ks := [4]) (e' := [(4, .bool false)]) rfl trivial fun a hk => ?_
          refine wpListIn_nil ?_
          refine then_n ?_
          refine wpIn_ret ?_
          refine blk_r ?_
          refine then_r ?_
          refine then_r ?_
          refine blk_r ?_
          refine then_r ?_
          obtain rfl := Option.some.inj H
          exact x_retG hk (rs := [.tmp 4]) (vs := [.bool false]) rfl ⟨rfl, trivial⟩ ⟨fun b_ => if b_ < w.heap.size then o b_ else (fun _ => 0) (o149 b_), rfl, hs.close0 o (fun _ => 0)⟩
      · rw [b161] at hk H
        replace H := bifT H
        refine xd_take tab hk (k := 0) (is := [10, 11, 12, 13, 14, 15, 16, 17, 18]) (ls' := #[true, true, true, true, true, true, true, true, true, true, true, true, true, true, true, true, true, true, true]) (lv := []) (ks := [1, 12, 13, 14, 37]) (e' := [(1, .slice (some ad160) (p1).length cp1), (12, .slice (some ad142) (p0).length cp0), (13, .int .i64 ((p0).length : Int)), (14, .int .i64 x112), (37, .bool true)]) (by kernel_rfl) rfl rfl (by kernel_rfl) (np_then (np_blk (np_then (np_then (np_blk (np_then np_body)))))) ⟨f147.now, f900020.now, trivial⟩ (fun W_ hS => trivial) fun a hk => ?_
        refine xd_done (by kernel_rfl) ?_
        refine then_n ?_
        refine x_if hk (b := true) rfl ?_
        refine (show Code.wpIn _ _ _ _ _ _ _ from ?_)
        refine x_seq ?_
        refine wpIn_region_lit ?_
        refine x_run tab hk (k := 1) (lv := []) (ks := [4]) (e' := [(4, .bool false)]) rfl trivial fun a hk => ?_
        refine wpListIn_nil ?_
        refine then_n ?_
        refine wpIn_ret ?_
        refine blk_r ?_
        refine then_r ?_
        refine then_r ?_
        refine blk_r ?_
        refine then_r ?_
        obtain rfl := Option.some.inj H
        exact x_retG hk (rs := [.tmp 4]) (vs := [.bool false]) rfl ⟨rfl, trivial⟩ ⟨fun b_ => if b_ < w.heap.size then o b_ else (fun _ => 0) (o149 b_), rfl, hs.close0 o (fun _ => 0)⟩
  · rw [b1] at hk H
    replace H := bifT H
    refine x_if hk (b := true) rfl ?_
    refine (show Code.wpIn _ _ _ _ _ _ _ from ?_)
    refine x_seq ?_
    refine wpIn_region_lit ?_
    refine x_run tab hk (k := 1) (lv := []) (ks := [4]) (e' := [(4, .bool false)]) rfl trivial fun a hk => ?_
    refine wpListIn_nil ?_
    refine then_n ?_
    refine wpIn_ret ?_
    refine then_r ?_
    obtain rfl := Option.some.inj H
    exact x_retG hk (rs := [.tmp 4]) (vs := [.bool false]) rfl ⟨rfl, trivial⟩ ⟨fun b_ => if b_ < w.heap.size then o b_ else (fun _ => 0) (o0 b_), rfl, hs.close0 o (fun _ => 0)⟩

/-! tidewrack/tidewracklaw12.Is -/
theorem tidewracklaw12_Is_calls (K : Nat) (bp0 : Nat) (Ap0_0 : Option Addr) (cp0_0 : Nat) (Ap0_1 : Option Addr) (cp0_1 : Nat) (Ap0_2 : Option Addr) (cp0_2 : Nat) (p0 : T75) (Ap1_0 : Option Addr) (cp1_0 : Nat) (Ap1_1 : Option Addr) (cp1_1 : Nat) (p1 : T32) (w : World) (o : Nat → Nat) (LF : Nat) (Lp0 : Nat) (hp0 : Ft (Bx bp0 76 [.slice Ap0_0 (p0.l).length cp0_0, .slice Ap0_1 (p0.chains).length cp0_1, .slice Ap0_2 (p0.begun).length cp0_2]) w o Lp0) (Lp0_0 : Nat) (hp0_0 : NRd (dRows ET49) Ap0_0 p0.l w o Lp0_0 LF) (hcp0_0 : (p0.l).length ≤ cp0_0) (Lp0_1 : Nat) (hp0_1 : Ft (RdC (encInt .i64) Ap0_1 p0.chains) w o Lp0_1) (hcp0_1 : (p0.chains).length ≤ cp0_1) (Lp0_2 : Nat) (hp0_2 : Ft (RdC ET49 Ap0_2 p0.begun) w o Lp0_2) (hcp0_2 : (p0.begun).length ≤ cp0_2) (Lp1_0 : Nat) (hp1_0 : NRd (dRows ET69) Ap1_0 p1.L w o Lp1_0 LF) (hcp1_0 : (p1.L).length ≤ cp1_0) (hp1_1 : Ft (RdC ET69 Ap1_1 p1.Begun) w o LF) (hcp1_1 : (p1.Begun).length ≤ cp1_1) (hd0 : ([LF] : List Nat).Nodup) (hd1 : Lp0_0 ∉ [LF]) (hd2 : Lp0_1 ∉ [LF]) (hd3 : Lp0_2 ∉ [LF]) (hd4 : Lp0 ∉ [LF]) (hd5 : Lp1_0 ∉ [LF]) (r : Bool) (H : tidewracklaw12_Is K p0 p1 = some r) :
    Calls Tryd.prog 18 #[.pointer (some ⟨bp0, 0, none⟩), .agg #[.slice Ap1_0 (p1.L).length cp1_0, .slice Ap1_1 (p1.Begun).length cp1_1]] w (Ret fun v_ w' => ∃ o' : Nat → Nat, v_ = .bool r ∧ St [] w o w' o') := by
  refine x_enter (vs := [.pointer (some ⟨bp0, 0, none⟩), .agg #[.slice Ap1_0 (p1.L).length cp1_0, .slice Ap1_1 (p1.Begun).length cp1_1]]) Tryd.func18 rfl rfl rfl fun a hk => ?_
  obtain ⟨oi, hs0, h0, h1, hob, hoz, hoa⟩ := St.startM2 w o (m := 1) hd0 rfl
  have hs := hs0 []
  have f900000 := hp0_0.conv (fun P_ => h0 P_ _ hd1) (fun _ h_ => h1 0 1 h_ rfl rfl)
  have f900001 := h0 _ _ hd2 hp0_1
  have f900002 := h0 _ _ hd3 hp0_2
  have f900019 := h0 _ _ hd4 hp0
  have f900020 := hp1_0.conv (fun P_ => h0 P_ _ hd5) (fun _ h_ => h1 0 1 h_ rfl rfl)
  have f900021 := h1 0 1 hp1_1 rfl rfl
  clear h0 h1 hs0
  rw [tidewracklaw12_Is] at H
  refine x_seq ?_
  refine wpIn_region_lit ?_
  refine x_op hk rfl ?_
  refine op_box (o := oi) (t := 33) (v := .agg #[.slice Ap1_0 (p1.L).length cp1_0, .slice Ap1_1 (p1.Begun).length cp1_1]) (cs := [.slice Ap1_0 (p1.L).length cp1_0, .slice Ap1_1 (p1.Begun).length cp1_1]) hk rfl rfl 2 fun bx4 w1 o2 st3 f5 => ?_
  replace f900000 := f900000.st st3 (by decide)
  replace f900001 := f900001.st st3 (by decide)
  replace f900002 := f900002.st st3 (by decide)
  replace f900019 := f900019.st st3 (by decide)
  replace f900020 := f900020.st st3 (by decide)
  replace f900021 := f900021.st st3 (by decide)
  replace hs := hs.locQ st3 hob rfl
  have hk := hk.put 3 (.pointer (some ⟨bx4, 0, none⟩)) rfl
  refine x_run tab hk (k := 1) (lv := []) (ks := [0, 3]) (e' := [(0, .pointer (some ⟨bp0, 0, none⟩)), (3, .pointer (some ⟨bx4, 0, none⟩))]) rfl trivial fun a hk => ?_
  refine wpListIn_nil ?_
  refine then_n ?_
  refine x_mid (fun a_ w_ => ∃ o128 : Nat → Nat, Kn 76 a_ [(0, .pointer (some ⟨bp0, 0, none⟩)), (3, .pointer (some ⟨bx4, 0, none⟩))] ∧ St [] w oi w_ o128 ∧ Ft (Bx bx4 33 [.slice Ap1_0 (p1.L).length cp1_0, .slice Ap1_1 (p1.Begun).length cp1_1]) w_ o128 7 ∧ NRd (dRows ET49) Ap0_0 p0.l w_ o128 0 1 ∧ Ft (RdC (encInt .i64) Ap0_1 p0.chains) w_ o128 0 ∧ Ft (RdC ET49 Ap0_2 p0.begun) w_ o128 0 ∧ Ft (Bx bp0 76 [.slice Ap0_0 (p0.l).length cp0_0, .slice Ap0_1 (p0.chains).length cp0_1, .slice Ap0_2 (p0.begun).length cp0_2]) w_ o128 0 ∧ NRd (dRows ET69) Ap1_0 p1.L w_ o128 0 1 ∧ Ft (RdC ET69 Ap1_1 p1.Begun) w_ o128 1 ∧ tidewracklaw12_Is_j1 K p0 p1 = some r) ?_ ?_
  rotate_left
  · rintro a w129 ⟨o128, hk, hs, f5, f900000, f900001, f900002, f900019, f900020, f900021, H⟩
    rw [tidewracklaw12_Is_j1] at H
    refine x_mid (fun a_ w_ => ∃ o232 : Nat → Nat, Kn 76 a_ [(0, .pointer (some ⟨bp0, 0, none⟩))] ∧ St [] w oi w_ o232 ∧ NRd (dRows ET49) Ap0_0 p0.l w_ o232 0 1 ∧ Ft (RdC (encInt .i64) Ap0_1 p0.chains) w_ o232 0 ∧ Ft (RdC ET49 Ap0_2 p0.begun) w_ o232 0 ∧ Ft (Bx bp0 76 [.slice Ap0_0 (p0.l).length cp0_0, .slice Ap0_1 (p0.chains).length cp0_1, .slice Ap0_2 (p0.begun).length cp0_2]) w_ o232 0 ∧ tidewracklaw12_Is_j2 p0 = some r) ?_ ?_
    rotate_left
    · rintro a w233 ⟨o232, hk, hs, f900000, f900001, f900002, f900019, H⟩
      rw [tidewracklaw12_Is_j2] at H
      refine x_seq ?_
      refine wpIn_region_lit ?_
      refine x_run tab hk (k := 1) (lv := []) (ks := [0, 51]) (e' := [(0, .pointer (some ⟨bp0, 0, none⟩)), (51, .pointer (some ⟨bp0, 0, none⟩))]) rfl trivial fun a hk => ?_
      refine x_op hk rfl ?_
      obtain ⟨t237, hc238, H⟩ := bindS H
      refine op_call hk ent_17 (vs := [.pointer (some ⟨bp0, 0, none⟩), .int .i64 (-1)]) rfl (book_Book_Line_calls bp0 Ap0_0 cp0_0 Ap0_1 cp0_1 Ap0_2 cp0_2 p0 (-1) _ o232 1 0 f900019 _ f900000 hcp0_0 _ f900001 hcp0_1 _ f900002 hcp0_2 (by decide) (by decide) (by decide) (by decide) (by decide) 11  _ hc238) ?_
      rintro _ w239 ⟨o240, A242, c243, rfl, st241, f244, hc245⟩
      replace f900000 := f900000.st st241 (by decide)
      replace f900001 := f900001.st st241 (by decide)
      replace f900002 := f900002.st st241 (by decide)
      replace f900019 := f900019.st st241 (by decide)
      replace hs := hs.locQ st241 hob rfl
      have hk := hk.put 52 (.tuple #[.slice A242 (t237.1).length c243, .bool t237.2]) rfl
      refine x_run tab hk (k := 5) (lv := []) (ks := [0, 9, 10]) (e' := [(0, .pointer (some ⟨bp0, 0, none⟩)), (9, .slice A242 (t237.1).length c243), (10, .bool t237.2)]) rfl trivial fun a hk => ?_
      refine wpListIn_nil ?_
      refine then_n ?_
      refine x_seq ?_
      refine wpIn_region_lit ?_
      refine x_run tab hk (k := 2) (lv := []) (ks := [9, 10, 56, 57]) (e' := [(9, .slice A242 (t237.1).length c243), (10, .bool t237.2), (56, .pointer (some ⟨bp0, 0, none⟩)), (57, .pointer (some ⟨bp0, 0, none⟩))]) rfl trivial fun a hk => ?_
      refine x_op hk rfl ?_
      obtain ⟨t249, hc250, H⟩ := bindS H
      refine op_call hk ent_16 (vs := [.pointer (some ⟨bp0, 0, none⟩)]) rfl (book_Book_Len_calls bp0 Ap0_0 cp0_0 Ap0_1 cp0_1 Ap0_2 cp0_2 p0 _ o240 1 0 f900019 _ f900000 hcp0_0 _ f900001 hcp0_1 _ f900002 hcp0_2 (by decide) (by decide) (by decide) (by decide) (by decide)   _ hc250) ?_
      rintro _ w251 ⟨o252, rfl, st253⟩
      replace f244 := f244.st st253 (by decide)
      replace f900000 := f900000.st st253 (by decide)
      replace f900001 := f900001.st st253 (by decide)
      replace f900002 := f900002.st st253 (by decide)
      replace f900019 := f900019.st st253 (by decide)
      replace hs := hs.locQ st253 hob rfl
      have hk := hk.put 58 (.int .i64 t249) rfl
      refine x_op hk rfl ?_
      obtain ⟨t257, hc258, H⟩ := bindS H
      refine op_call hk ent_17 (vs := [.pointer (some ⟨bp0, 0, none⟩), .int .i64 t249]) rfl (book_Book_Line_calls bp0 Ap0_0 cp0_0 Ap0_1 cp0_1 Ap0_2 cp0_2 p0 t249 _ o252 1 0 f900019 _ f900000 hcp0_0 _ f900001 hcp0_1 _ f900002 hcp0_2 (by decide) (by decide) (by decide) (by decide) (by decide) 12  _ hc258) ?_
      rintro _ w259 ⟨o260, A262, c263, rfl, st261, f264, hc265⟩
      replace f244 := f244.st st261 (by decide)
      replace f900000 := f900000.st st261 (by decide)
      replace f900001 := f900001.st st261 (by decide)
      replace f900002 := f900002.st st261 (by decide)
      replace f900019 := f900019.st st261 (by decide)
      replace hs := hs.locQ st261 hob rfl
      have hk := hk.put 59 (.tuple #[.slice A262 (t257.1).length c263, .bool t257.2]) rfl
      refine x_run tab hk (k := 5) (lv := []) (ks := [9, 10, 11, 12]) (e' := [(9, .slice A242 (t237.1).length c243), (10, .bool t237.2), (11, .slice A262 (t257.1).length c263), (12, .bool t257.2)]) rfl trivial fun a hk => ?_
      refine wpListIn_nil ?_
      refine then_n ?_
      refine x_seq ?_
      refine wpIn_region_lit ?_
      refine x_run tab hk (k := 3) (lv := []) (ks := [9, 11, 12, 64]) (e' := [(9, .slice A242 (t237.1).length c243), (11, .slice A262 (t257.1).length c263), (12, .bool t257.2), (64, .bool (!t237.2))]) rfl trivial fun a hk => ?_
      cases b266 : (!t237.2)
      · rw [b266] at hk H
        replace H := bifF H
        refine x_run tab hk (k := 10) (lv := []) (ks := [68, 74]) (e' := [(68, .bool false), (74, undef)]) rfl trivial fun a hk => ?_
        refine x_run tab hk (k := 2) (lv := []) (ks := [4]) (e' := [(4, .bool false)]) rfl trivial fun a hk => ?_
        refine wpListIn_nil ?_
        refine then_n ?_
        refine wpIn_ret ?_
        obtain rfl := Option.some.inj H
        exact x_retG hk (rs := [.tmp 4]) (vs := [.bool false]) rfl ⟨rfl, trivial⟩ ⟨fun b_ => if b_ < w.heap.size then o b_ else (fun l_ => if l_ = 1 then LF else 0) (o260 b_), rfl, hs.closeF (Lm := []) (Sh := []) hoa rfl (fun l_ => if l_ = 1 then LF else 0)⟩
      · rw [b266] at hk H
        replace H := bifT H
        refine x_run tab hk (k := 4) (lv := []) (ks := [9, 11, 68]) (e' := [(9, .slice A242 (t237.1).length c243), (11, .slice A262 (t257.1).length c263), (68, .bool (!t257.2))]) rfl trivial fun a hk => ?_
        cases b267 : (!t257.2)
        · rw [b267] at hk H
          replace H := bifF H
          refine x_run tab hk (k := 8) (lv := []) (ks := [4]) (e' := [(4, .bool false)]) rfl trivial fun a hk => ?_
          refine wpListIn_nil ?_
          refine then_n ?_
          refine wpIn_ret ?_
          obtain rfl := Option.some.inj H
          exact x_retG hk (rs := [.tmp 4]) (vs := [.bool false]) rfl ⟨rfl, trivial⟩ ⟨fun b_ => if b_ < w.heap.size then o b_ else (fun l_ => if l_ = 1 then LF else 0) (o260 b_), rfl, hs.closeF (Lm := []) (Sh := []) hoa rfl (fun l_ => if l_ = 1 then LF else 0)⟩
        · rw [b267] at hk H
          replace H := bifT H
          refine x_run tab hk (k := 8) (lv := []) (ks := [4]) (e' := [(4, .bool ((IntKind.wrap .i64 (((t237.1).length : Int) + ((t257.1).length : Int))) == (0 : Int)))]) rfl trivial fun a hk => ?_
          refine wpListIn_nil ?_
          refine then_n ?_
          refine wpIn_ret ?_
          obtain rfl := Option.some.inj H
          exact x_retG hk (rs := [.tmp 4]) (vs := [.bool ((IntKind.wrap .i64 (((t237.1).length : Int) + ((t257.1).length : Int))) == (0 : Int))]) rfl ⟨rfl, trivial⟩ ⟨fun b_ => if b_ < w.heap.size then o b_ else (fun l_ => if l_ = 1 then LF else 0) (o260 b_), rfl, hs.closeF (Lm := []) (Sh := []) hoa rfl (fun l_ => if l_ = 1 then LF else 0)⟩
    refine x_seq ?_
    refine wpIn_region_lit ?_
    refine x_run tab hk (k := 4) (lv := [.slice Ap1_0 (p1.L).length cp1_0]) (ks := [0, 28, 29, 30]) (e' := [(0, .pointer (some ⟨bp0, 0, none⟩)), (28, .slice Ap1_0 (p1.L).length cp1_0), (29, .int .i64 ((p1.L).length : Int)), (30, .int .i64 0)]) rfl ⟨(load1 tab rfl ((Bx.cell f5.now 0).trans rfl)), trivial⟩ fun a hk => ?_
    refine wpListIn_nil ?_
    refine then_n ?_
    refine wpIn_block ?_
    refine x_loop (fun j_ a_ w_ => ∃ o301 : Nat → Nat, ∃ x302 : Int, Kn 76 a_ [(0, .pointer (some ⟨bp0, 0, none⟩)), (28, .slice Ap1_0 (p1.L).length cp1_0), (29, .int .i64 ((p1.L).length : Int)), (30, .int .i64 x302)] ∧ St [] w oi w_ o301 ∧ NRd (dRows ET49) Ap0_0 p0.l w_ o301 0 1 ∧ Ft (RdC (encInt .i64) Ap0_1 p0.chains) w_ o301 0 ∧ Ft (RdC ET49 Ap0_2 p0.begun) w_ o301 0 ∧ Ft (Bx bp0 76 [.slice Ap0_0 (p0.l).length cp0_0, .slice Ap0_1 (p0.chains).length cp0_1, .slice Ap0_2 (p0.begun).length cp0_2]) w_ o301 0 ∧ NRd (dRows ET69) Ap1_0 p1.L w_ o301 0 1 ∧ tidewracklaw12_Is_l3 K p0 p1 j_ x302 = some r) (k := K) ⟨o128, 0, (by exact Kn.pick (ks := [0, 28, 29, 30]) hk rfl), hs, f900000, f900001, f900002, f900019, f900020, H⟩ (by rintro _ _ ⟨_, _, _, _, _, _, _, _, _, H_⟩; exact absurd (show (none : Option Bool) = some r from H_) (by simp)) ?_
    rintro k334 a w333 ⟨o301, x302, hk, hs, f900000, f900001, f900002, f900019, f900020, H⟩
    rw [tidewracklaw12_Is_l3] at H
    obtain ⟨lp335, hlp336⟩ : ∃ lp_, lp_ = tidewracklaw12_Is_l3 K p0 p1 k334 := ⟨_, rfl⟩
    rw [← hlp336] at H
    refine x_seq ?_
    refine wpIn_region_lit ?_
    refine x_run tab hk (k := 1) (lv := []) (ks := [0, 28, 29, 30, 31]) (e' := [(0, .pointer (some ⟨bp0, 0, none⟩)), (28, .slice Ap1_0 (p1.L).length cp1_0), (29, .int .i64 ((p1.L).length : Int)), (30, .int .i64 x302), (31, .bool (decide (x302 < ((p1.L).length : Int))))]) rfl trivial fun a hk => ?_
    refine wpListIn_nil ?_
    refine then_n ?_
    refine x_seq ?_
    cases b337 : (decide (x302 < ((p1.L).length : Int)))
    · rw [b337] at hk H
      replace H := bifF H
      refine x_if hk (b := false) rfl ?_
      refine (show Code.wpIn _ _ _ _ _ _ _ from ?_)
      refine wpIn_exit ?_
      refine then_x ?_
      refine then_x ?_
      refine blk_x ?_
      refine then_n ?_
      exact ⟨o301, (by exact Kn.pick (ks := [0]) hk rfl), hs, f900000, f900001, f900002, f900019, H⟩
    · rw [b337] at hk H
      replace H := bifT H
      refine x_if hk (b := true) rfl ?_
      refine (show Code.wpIn _ _ _ _ _ _ _ from ?_)
      refine wpIn_skip ?_
      refine then_n ?_
      refine x_seq ?_
      refine wpIn_block ?_
      refine x_seq ?_
      refine wpIn_region_lit ?_
      obtain ⟨q338, H⟩ := ifS H
      obtain ⟨ad339, hAad339⟩ := NRd.addr f900020 q338
      have hk_C := hk
      have f900000_C := f900000
      have f900001_C := f900001
      have f900002_C := f900002
      have f900019_C := f900019
      have f900020_C := f900020
      subst hAad339
      have hk := hk_C
      clear hk_C
      have f900000 := f900000_C
      clear f900000_C
      have f900001 := f900001_C
      clear f900001_C
      have f900002 := f900002_C
      clear f900002_C
      have f900019 := f900019_C
      clear f900019_C
      have f900020 := f900020_C
      clear f900020_C
      obtain ⟨A340, c341, f342, f343, hc344⟩ := NRd.row f900020 (P := Tryd.prog) tab (t := 31) rfl (i := x302) q338
      refine x_run tab hk (k := 5) (lv := [.slice A340 ((rdD [] p1.L x302)).length c341]) (ks := [0, 5, 6, 28, 29, 30]) (e' := [(0, .pointer (some ⟨bp0, 0, none⟩)), (5, .int .i64 x302), (6, .slice A340 ((rdD [] p1.L x302)).length c341), (28, .slice (some ad339) (p1.L).length cp1_0), (29, .int .i64 ((p1.L).length : Int)), (30, .int .i64 x302)]) rfl ⟨q338, f342.now, trivial⟩ fun a hk => ?_
      refine wpListIn_nil ?_
      refine then_n ?_
      refine x_seq ?_
      refine wpIn_region_lit ?_
      refine x_run tab hk (k := 2) (lv := []) (ks := [0, 6, 28, 29, 30, 36, 37]) (e' := [(0, .pointer (some ⟨bp0, 0, none⟩)), (6, .slice A340 ((rdD [] p1.L x302)).length c341), (28, .slice (some ad339) (p1.L).length cp1_0), (29, .int .i64 ((p1.L).length : Int)), (30, .int .i64 x302), (36, .pointer (some ⟨bp0, 0, none⟩)), (37, .int .i64 x302)]) rfl trivial fun a hk => ?_
      refine x_op hk rfl ?_
      obtain ⟨t348, hc349, H⟩ := bindS H
      refine op_call hk ent_17 (vs := [.pointer (some ⟨bp0, 0, none⟩), .int .i64 x302]) rfl (book_Book_Line_calls bp0 Ap0_0 cp0_0 Ap0_1 cp0_1 Ap0_2 cp0_2 p0 x302 _ o301 1 0 f900019 _ f900000 hcp0_0 _ f900001 hcp0_1 _ f900002 hcp0_2 (by decide) (by decide) (by decide) (by decide) (by decide) 15  _ hc349) ?_
      rintro _ w350 ⟨o351, A353, c354, rfl, st352, f355, hc356⟩
      replace f343 := f343.st st352 (by decide)
      replace f900000 := f900000.st st352 (by decide)
      replace f900001 := f900001.st st352 (by decide)
      replace f900002 := f900002.st st352 (by decide)
      replace f900019 := f900019.st st352 (by decide)
      replace f900020 := f900020.st st352 (by decide)
      replace hs := hs.locQ st352 hob rfl
      have hk := hk.put 38 (.tuple #[.slice A353 (t348.1).length c354, .bool t348.2]) rfl
      refine x_run tab hk (k := 5) (lv := []) (ks := [0, 6, 7, 8, 28, 29, 30]) (e' := [(0, .pointer (some ⟨bp0, 0, none⟩)), (6, .slice A340 ((rdD [] p1.L x302)).length c341), (7, .slice A353 (t348.1).length c354), (8, .bool t348.2), (28, .slice (some ad339) (p1.L).length cp1_0), (29, .int .i64 ((p1.L).length : Int)), (30, .int .i64 x302)]) rfl trivial fun a hk => ?_
      refine wpListIn_nil ?_
      refine then_n ?_
      refine x_seq ?_
      refine wpIn_region_lit ?_
      refine x_run tab hk (k := 3) (lv := []) (ks := [0, 6, 7, 28, 29, 30, 43]) (e' := [(0, .pointer (some ⟨bp0, 0, none⟩)), (6, .slice A340 ((rdD [] p1.L x302)).length c341), (7, .slice A353 (t348.1).length c354), (28, .slice (some ad339) (p1.L).length cp1_0), (29, .int .i64 ((p1.L).length : Int)), (30, .int .i64 x302), (43, .bool (!t348.2))]) rfl trivial fun a hk => ?_
      cases b357 : (!t348.2)
      · rw [b357] at hk H
        replace H := bifF H
        refine x_run tab hk (k := 2) (lv := []) (ks := [0, 28, 29, 30, 43, 44, 45]) (e' := [(0, .pointer (some ⟨bp0, 0, none⟩)), (28, .slice (some ad339) (p1.L).length cp1_0), (29, .int .i64 ((p1.L).length : Int)), (30, .int .i64 x302), (43, .bool false), (44, .slice A353 (t348.1).length c354), (45, .slice A340 ((rdD [] p1.L x302)).length c341)]) rfl trivial fun a hk => ?_
        refine x_op hk rfl ?_
        obtain ⟨t361, hc362, H⟩ := bindS H
        refine op_call hk ent_26 (vs := [.slice A353 (t348.1).length c354, .slice A340 ((rdD [] p1.L x302)).length c341]) rfl (tidewracklaw09_Glyphs_calls K A353 c354 t348.1 A340 c341 (rdD [] p1.L x302) _ o351 _ (f355.imp fun _ h_ => Own.rd h_) hc356 _ f343 hc344   _ hc362) ?_
        rintro _ w363 ⟨o364, rfl, st365⟩
        replace f343 := f343.st st365 (by decide)
        replace f355 := f355.st st365 (by decide)
        replace f900000 := f900000.st st365 (by decide)
        replace f900001 := f900001.st st365 (by decide)
        replace f900002 := f900002.st st365 (by decide)
        replace f900019 := f900019.st st365 (by decide)
        replace f900020 := f900020.st st365 (by decide)
        replace hs := hs.locQ st365 hob rfl
        have hk := hk.put 46 (.bool t361) rfl
        refine x_run tab hk (k := 2) (lv := []) (ks := [0, 28, 29, 30, 48]) (e' := [(0, .pointer (some ⟨bp0, 0, none⟩)), (28, .slice (some ad339) (p1.L).length cp1_0), (29, .int .i64 ((p1.L).length : Int)), (30, .int .i64 x302), (48, .bool (!t361))]) rfl trivial fun a hk => ?_
        refine wpListIn_nil ?_
        refine then_n ?_
        cases b366 : (!t361)
        · rw [b366] at hk H
          replace H := bifF H
          refine x_if hk (b := false) rfl ?_
          refine (show Code.wpIn _ _ _ _ _ _ _ from ?_)
          refine wpIn_skip ?_
          refine blk_n ?_
          refine then_n ?_
          refine wpIn_region_lit ?_
          refine x_run tab hk (k := 2) (lv := []) (ks := [0, 28, 29, 30]) (e' := [(0, .pointer (some ⟨bp0, 0, none⟩)), (28, .slice (some ad339) (p1.L).length cp1_0), (29, .int .i64 ((p1.L).length : Int)), (30, .int .i64 (IntKind.wrap .i64 (x302 + 1)))]) rfl trivial fun a hk => ?_
          refine wpListIn_nil ?_
          refine then_n ?_
          exact ⟨k334, Nat.le_refl _, o364, (IntKind.wrap .i64 (x302 + 1)), (by exact Kn.pick (ks := [0, 28, 29, 30]) hk rfl), hs, f900000, f900001, f900002, f900019, f900020, (hlp336 ▸ H)⟩
        · rw [b366] at hk H
          replace H := bifT H
          refine x_if hk (b := true) rfl ?_
          refine (show Code.wpIn _ _ _ _ _ _ _ from ?_)
          refine x_seq ?_
          refine wpIn_region_lit ?_
          refine x_run tab hk (k := 1) (lv := []) (ks := [4]) (e' := [(4, .bool false)]) rfl trivial fun a hk => ?_
          refine wpListIn_nil ?_
          refine then_n ?_
          refine wpIn_ret ?_
          refine blk_r ?_
          refine then_r ?_
          refine then_r ?_
          refine blk_r ?_
          refine then_r ?_
          obtain rfl := Option.some.inj H
          exact x_retG hk (rs := [.tmp 4]) (vs := [.bool false]) rfl ⟨rfl, trivial⟩ ⟨fun b_ => if b_ < w.heap.size then o b_ else (fun l_ => if l_ = 1 then LF else 0) (o364 b_), rfl, hs.closeF (Lm := []) (Sh := []) hoa rfl (fun l_ => if l_ = 1 then LF else 0)⟩
      · rw [b357] at hk H
        replace H := bifT H
        refine x_run tab hk (k := 5) (lv := []) (ks := [0, 28, 29, 30, 48]) (e' := [(0, .pointer (some ⟨bp0, 0, none⟩)), (28, .slice (some ad339) (p1.L).length cp1_0), (29, .int .i64 ((p1.L).length : Int)), (30, .int .i64 x302), (48, .bool true)]) rfl trivial fun a hk => ?_
        refine wpListIn_nil ?_
        refine then_n ?_
        refine x_if hk (b := true) rfl ?_
        refine (show Code.wpIn _ _ _ _ _ _ _ from ?_)
        refine x_seq ?_
        refine wpIn_region_lit ?_
        refine x_run tab hk (k := 1) (lv := []) (ks := [4]) (e' := [(4, .bool false)]) rfl trivial fun a hk => ?_
        refine wpListIn_nil ?_
        refine then_n ?_
        refine wpIn_ret ?_
        refine blk_r ?_
        refine then_r ?_
        refine then_r ?_
        refine blk_r ?_
        refine then_r ?_
        obtain rfl := Option.some.inj H
        exact x_retG hk (rs := [.tmp 4]) (vs := [.bool false]) rfl ⟨rfl, trivial⟩ ⟨fun b_ => if b_ < w.heap.size then o b_ else (fun l_ => if l_ = 1 then LF else 0) (o351 b_), rfl, hs.closeF (Lm := []) (Sh := []) hoa rfl (fun l_ => if l_ = 1 then LF else 0)⟩
  refine x_seq ?_
  obtain ⟨t399, hc400, H⟩ := bindS H
  cases b404 : (t399 != ((p1.L).length : Int))
  · rw [b404] at H
    replace H := bifF H
    obtain ⟨t408, hc409, H⟩ := bindS H
    obtain ⟨t420, hc421, H⟩ := bindS H
    refine xd_begin (o := o2) (fun W_ => (Bx bx4 33 [.slice Ap1_0 (p1.L).length cp1_0, .slice Ap1_1 (p1.Begun).length cp1_1]) W_ ∧ True) mixed rfl rfl fun w447 st448 => ?_
    replace f5 := f5.st st448 (by decide)
    replace f900000 := f900000.st st448 (by decide)
    replace f900001 := f900001.st st448 (by decide)
    replace f900002 := f900002.st st448 (by decide)
    replace f900019 := f900019.st st448 (by decide)
    replace f900020 := f900020.st st448 (by decide)
    replace f900021 := f900021.st st448 (by decide)
    replace hs := hs.locQ st448 hob rfl
    refine xd_take tab hk (k := 10) (is := [0, 2, 3, 4]) (ls' := #[true, false, true, true, true, false, false, false, false, false, false, false, false, false]) (lv := [.slice Ap1_0 (p1.L).length cp1_0]) (ks := [0, 3, 13, 17]) (e' := [(0, .pointer (some ⟨bp0, 0, none⟩)), (3, .pointer (some ⟨bx4, 0, none⟩)), (13, .pointer (some ⟨bp0, 0, none⟩)), (17, .int .i64 ((p1.L).length : Int))]) (by kernel_rfl) rfl rfl (by kernel_rfl) (np_then (np_then np_body)) ⟨f5.now, trivial⟩ (fun W_ hS => ⟨(load1 tab rfl ((Bx.cell hS.1 0).trans rfl)), trivial⟩) fun a hk => ?_
    refine xd_op hk (i := 1) (by kernel_rfl) rfl rfl ?_
    refine op_call hk ent_16 (vs := [.pointer (some ⟨bp0, 0, none⟩)]) rfl (book_Book_Len_calls bp0 Ap0_0 cp0_0 Ap0_1 cp0_1 Ap0_2 cp0_2 p0 _ o2 1 0 f900019 _ f900000 hcp0_0 _ f900001 hcp0_1 _ f900002 hcp0_2 (by decide) (by decide) (by decide) (by decide) (by decide)   _ hc400) ?_
    rintro _ w452 ⟨o453, rfl, st454⟩
    replace f5 := f5.st st454 (by decide)
    replace f900000 := f900000.st st454 (by decide)
    replace f900001 := f900001.st st454 (by decide)
    replace f900002 := f900002.st st454 (by decide)
    replace f900019 := f900019.st st454 (by decide)
    replace f900020 := f900020.st st454 (by decide)
    replace f900021 := f900021.st st454 (by decide)
    replace hs := hs.locQ st454 hob rfl
    have hk := hk.put 14 (.int .i64 t399) rfl
    refine ⟨.inr ⟨f5.now, trivial⟩, ?_⟩
    refine xd_take tab hk (k := 7) (is := [5, 6]) (ls' := #[true, true, true, true, true, true, true, false, false, false, false, false, false, false]) (lv := []) (ks := [0, 3, 19]) (e' := [(0, .pointer (some ⟨bp0, 0, none⟩)), (3, .pointer (some ⟨bx4, 0, none⟩)), (19, .bool (t399 != ((p1.L).length : Int)))]) (by kernel_rfl) rfl rfl (by kernel_rfl) (np_then (np_then np_body)) ⟨f5.now, trivial⟩ (fun W_ hS => trivial) fun a hk => ?_
    rw [b404] at hk
    refine xd_take tab hk (k := 4) (is := [7, 9, 10]) (ls' := #[true, true, true, true, true, true, true, true, false, true, true, false, false, false]) (lv := [.slice Ap1_1 (p1.Begun).length cp1_1]) (ks := [0, 3, 19, 20, 23]) (e' := [(0, .pointer (some ⟨bp0, 0, none⟩)), (3, .pointer (some ⟨bx4, 0, none⟩)), (19, .bool false), (20, .pointer (some ⟨bp0, 0, none⟩)), (23, .slice Ap1_1 (p1.Begun).length cp1_1)]) (by kernel_rfl) rfl rfl (by kernel_rfl) (np_then (np_then np_body)) ⟨f5.now, trivial⟩ (fun W_ hS => ⟨(load1 tab rfl ((Bx.cell hS.1 1).trans rfl)), trivial⟩) fun a hk => ?_
    refine xd_op hk (i := 8) (by kernel_rfl) rfl rfl ?_
    refine op_call hk ent_15 (vs := [.pointer (some ⟨bp0, 0, none⟩)]) rfl (book_Book_Begun_calls bp0 Ap0_0 cp0_0 Ap0_1 cp0_1 Ap0_2 cp0_2 p0 _ o453 1 0 f900019 _ f900000 hcp0_0 _ f900001 hcp0_1 _ f900002 hcp0_2 (by decide) (by decide) (by decide) (by decide) (by decide) 19  _ hc409) ?_
    rintro _ w458 ⟨o459, A461, c462, rfl, st460, f463, hc464⟩
    replace f5 := f5.st st460 (by decide)
    replace f900000 := f900000.st st460 (by decide)
    replace f900001 := f900001.st st460 (by decide)
    replace f900002 := f900002.st st460 (by decide)
    replace f900019 := f900019.st st460 (by decide)
    replace f900020 := f900020.st st460 (by decide)
    replace f900021 := f900021.st st460 (by decide)
    replace hs := hs.locQ st460 hob rfl
    have hk := hk.put 21 (.slice A461 (t408).length c462) rfl
    refine ⟨.inr ⟨f5.now, trivial⟩, ?_⟩
    refine xd_op hk (i := 11) (by kernel_rfl) rfl rfl ?_
    refine op_call hk ent_26 (vs := [.slice A461 (t408).length c462, .slice Ap1_1 (p1.Begun).length cp1_1]) rfl (tidewracklaw09_Glyphs_calls K A461 c462 t408 Ap1_1 cp1_1 p1.Begun _ o459 _ (f463.imp fun _ h_ => Own.rd h_) hc464 _ f900021 hcp1_1   _ hc421) ?_
    rintro _ w468 ⟨o469, rfl, st470⟩
    replace f463 := f463.st st470 (by decide)
    replace f5 := f5.st st470 (by decide)
    replace f900000 := f900000.st st470 (by decide)
    replace f900001 := f900001.st st470 (by decide)
    replace f900002 := f900002.st st470 (by decide)
    replace f900019 := f900019.st st470 (by decide)
    replace f900020 := f900020.st st470 (by decide)
    replace f900021 := f900021.st st470 (by decide)
    replace hs := hs.locQ st470 hob rfl
    have hk := hk.put 24 (.bool t420) rfl
    refine ⟨.inr ⟨f5.now, trivial⟩, ?_⟩
    refine xd_take tab hk (k := 0) (is := [12, 13]) (ls' := #[true, true, true, true, true, true, true, true, true, true, true, true, true, true]) (lv := []) (ks := [0, 3, 26]) (e' := [(0, .pointer (some ⟨bp0, 0, none⟩)), (3, .pointer (some ⟨bx4, 0, none⟩)), (26, .bool (!t420))]) (by kernel_rfl) rfl rfl (by kernel_rfl) (np_then (np_then np_body)) ⟨f5.now, trivial⟩ (fun W_ hS => trivial) fun a hk => ?_
    refine xd_done (by kernel_rfl) ?_
    refine then_n ?_
    cases b471 : (!t420)
    · rw [b471] at hk H
      replace H := bifF H
      refine x_if hk (b := false) rfl ?_
      refine (show Code.wpIn _ _ _ _ _ _ _ from ?_)
      refine wpIn_skip ?_
      refine then_n ?_
      exact ⟨(fun b_ => (fun l_ => if l_ = 2 then 7 else l_) (o469 b_)), (by exact Kn.pick (ks := [0, 3]) hk rfl), (hs.relabM hob (fun l_ => if l_ = 2 then 7 else l_) (by decide)), (f5.relab (fun l_ => if l_ = 2 then 7 else l_) rfl), (f900000.relab (fun l_ => if l_ = 2 then 7 else l_) rfl), (f900001.relab (fun l_ => if l_ = 2 then 7 else l_) rfl), (f900002.relab (fun l_ => if l_ = 2 then 7 else l_) rfl), (f900019.relab (fun l_ => if l_ = 2 then 7 else l_) rfl), (f900020.relab (fun l_ => if l_ = 2 then 7 else l_) rfl), (f900021.relab (fun l_ => if l_ = 2 then 7 else l_) rfl), H⟩
    · rw [b471] at hk H
      replace H := bifT H
      refine x_if hk (b := true) rfl ?_
      refine (show Code.wpIn _ _ _ _ _ _ _ from ?_)
      refine x_seq ?_
      refine wpIn_region_lit ?_
      refine x_run tab hk (k := 1) (lv := []) (ks := [4]) (e' := [(4, .bool false)]) rfl trivial fun a hk => ?_
      refine wpListIn_nil ?_
      refine then_n ?_
      refine wpIn_ret ?_
      refine then_r ?_
      obtain rfl := Option.some.inj H
      exact x_retG hk (rs := [.tmp 4]) (vs := [.bool false]) rfl ⟨rfl, trivial⟩ ⟨fun b_ => if b_ < w.heap.size then o b_ else (fun l_ => if l_ = 1 then LF else 0) (o469 b_), rfl, hs.closeF (Lm := []) (Sh := []) hoa rfl (fun l_ => if l_ = 1 then LF else 0)⟩
  · rw [b404] at H
    replace H := bifT H
    refine xd_begin (o := o2) (fun W_ => (Bx bx4 33 [.slice Ap1_0 (p1.L).length cp1_0, .slice Ap1_1 (p1.Begun).length cp1_1]) W_ ∧ True) mixed rfl rfl fun w478 st479 => ?_
    replace f5 := f5.st st479 (by decide)
    replace f900000 := f900000.st st479 (by decide)
    replace f900001 := f900001.st st479 (by decide)
    replace f900002 := f900002.st st479 (by decide)
    replace f900019 := f900019.st st479 (by decide)
    replace f900020 := f900020.st st479 (by decide)
    replace f900021 := f900021.st st479 (by decide)
    replace hs := hs.locQ st479 hob rfl
    refine xd_take tab hk (k := 10) (is := [0, 2, 3, 4]) (ls' := #[true, false, true, true, true, false, false, false, false, false, false, false, false, false]) (lv := [.slice Ap1_0 (p1.L).length cp1_0]) (ks := [0, 3, 13, 17]) (e' := [(0, .pointer (some ⟨bp0, 0, none⟩)), (3, .pointer (some ⟨bx4, 0, none⟩)), (13, .pointer (some ⟨bp0, 0, none⟩)), (17, .int .i64 ((p1.L).length : Int))]) (by kernel_rfl) rfl rfl (by kernel_rfl) (np_then (np_then np_body)) ⟨f5.now, trivial⟩ (fun W_ hS => ⟨(load1 tab rfl ((Bx.cell hS.1 0).trans rfl)), trivial⟩) fun a hk => ?_
    refine xd_op hk (i := 1) (by kernel_rfl) rfl rfl ?_
    refine op_call hk ent_16 (vs := [.pointer (some ⟨bp0, 0, none⟩)]) rfl (book_Book_Len_calls bp0 Ap0_0 cp0_0 Ap0_1 cp0_1 Ap0_2 cp0_2 p0 _ o2 1 0 f900019 _ f900000 hcp0_0 _ f900001 hcp0_1 _ f900002 hcp0_2 (by decide) (by decide) (by decide) (by decide) (by decide)   _ hc400) ?_
    rintro _ w483 ⟨o484, rfl, st485⟩
    replace f5 := f5.st st485 (by decide)
    replace f900000 := f900000.st st485 (by decide)
    replace f900001 := f900001.st st485 (by decide)
    replace f900002 := f900002.st st485 (by decide)
    replace f900019 := f900019.st st485 (by decide)
    replace f900020 := f900020.st st485 (by decide)
    replace f900021 := f900021.st st485 (by decide)
    replace hs := hs.locQ st485 hob rfl
    have hk := hk.put 14 (.int .i64 t399) rfl
    refine ⟨.inr ⟨f5.now, trivial⟩, ?_⟩
    refine xd_take tab hk (k := 7) (is := [5, 6]) (ls' := #[true, true, true, true, true, true, true, false, false, false, false, false, false, false]) (lv := []) (ks := [0, 3, 19]) (e' := [(0, .pointer (some ⟨bp0, 0, none⟩)), (3, .pointer (some ⟨bx4, 0, none⟩)), (19, .bool (t399 != ((p1.L).length : Int)))]) (by kernel_rfl) rfl rfl (by kernel_rfl) (np_then (np_then np_body)) ⟨f5.now, trivial⟩ (fun W_ hS => trivial) fun a hk => ?_
    rw [b404] at hk
    refine xd_take tab hk (k := 0) (is := [7, 8, 9, 10, 11, 12, 13]) (ls' := #[true, true, true, true, true, true, true, true, true, true, true, true, true, true]) (lv := []) (ks := [0, 3, 26]) (e' := [(0, .pointer (some ⟨bp0, 0, none⟩)), (3, .pointer (some ⟨bx4, 0, none⟩)), (26, .bool true)]) (by kernel_rfl) rfl rfl (by kernel_rfl) (np_then (np_then np_body)) ⟨f5.now, trivial⟩ (fun W_ hS => trivial) fun a hk => ?_
    refine xd_done (by kernel_rfl) ?_
    refine then_n ?_
    refine x_if hk (b := true) rfl ?_
    refine (show Code.wpIn _ _ _ _ _ _ _ from ?_)
    refine x_seq ?_
    refine wpIn_region_lit ?_
    refine x_run tab hk (k := 1) (lv := []) (ks := [4]) (e' := [(4, .bool false)]) rfl trivial fun a hk => ?_
    refine wpListIn_nil ?_
    refine then_n ?_
    refine wpIn_ret ?_
    refine then_r ?_
    obtain rfl := Option.some.inj H
    exact x_retG hk (rs := [.tmp 4]) (vs := [.bool false]) rfl ⟨rfl, trivial⟩ ⟨fun b_ => if b_ < w.heap.size then o b_ else (fun l_ => if l_ = 1 then LF else 0) (o484 b_), rfl, hs.closeF (Lm := []) (Sh := []) hoa rfl (fun l_ => if l_ = 1 then LF else 0)⟩

/-! tidewrack/tidewracklaw12.BookLong -/
set_option maxHeartbeats 4000000 in
theorem tidewracklaw12_BookLong_calls (K : Nat) (p0 : Int) (p1 : Int) (w : World) (o : Nat → Nat) (Lg0 : Nat) (hg0 : Ft (RdC ET111 (some ⟨0, 0, none⟩) glob0) w o Lg0) (Lg1 : Nat) (hg1 : Ft (RdC ET111 (some ⟨1, 0, none⟩) glob1) w o Lg1) (Lg2 : Nat) (hg2 : Ft (RdC (encInt .u32) (some ⟨2, 0, none⟩) glob2) w o Lg2)   (r : Bool) (H : tidewracklaw12_BookLong K p0 p1 = some r) :
    Calls Tryd.prog 3 #[.int .i64 p0, .int .i64 p1] w (Ret fun v_ w' => ∃ o' : Nat → Nat, v_ = .bool r ∧ St [] w o w' o') := by
  refine x_enter (vs := [.int .i64 p0, .int .i64 p1]) Tryd.func3 rfl rfl rfl fun a hk => ?_
  obtain ⟨o0, hs, h0⟩ := St.start w o
  have fg0 := h0 _ _ hg0
  have fg1 := h0 _ _ hg1
  have fg2 := h0 _ _ hg2
  clear h0
  rw [tidewracklaw12_BookLong] at H
  refine x_seq ?_
  refine wpIn_region_lit ?_
  refine x_run tab hk (k := 1) (lv := []) (ks := [0, 1]) (e' := [(0, .int .i64 p0), (1, .int .i64 p1)]) rfl trivial fun a hk => ?_
  refine wpListIn_nil ?_
  refine then_n ?_
  refine x_seq ?_
  refine x_seq ?_
  refine wpIn_region_lit ?_
  refine x_op hk rfl ?_
  obtain ⟨t4, hc5, H⟩ := bindS H
  refine op_call hk ent_9 (vs := []) rfl (tidewracklaw12_awake_calls K  _ o0 0 fg0 0 fg1 0 fg2   _ hc5) ?_
  rintro _ w6 ⟨o7, rfl, st8⟩
  replace fg0 := fg0.st st8 (by decide)
  replace fg1 := fg1.st st8 (by decide)
  replace fg2 := fg2.st st8 (by decide)
  replace hs := hs.loc0 st8 (by decide)
  have hk := hk.put 12 (.bool t4) rfl
  refine x_run tab hk (k := 1) (lv := []) (ks := [0, 1, 13]) (e' := [(0, .int .i64 p0), (1, .int .i64 p1), (13, .bool (!t4))]) rfl trivial fun a hk => ?_
  refine wpListIn_nil ?_
  refine then_n ?_
  cases b9 : (!t4)
  · rw [b9] at hk H
    replace H := bifF H
    refine x_if hk (b := false) rfl ?_
    refine (show Code.wpIn _ _ _ _ _ _ _ from ?_)
    refine wpIn_skip ?_
    refine then_n ?_
    refine x_seq ?_
    refine wpIn_region_lit ?_
    refine x_op hk rfl ?_
    obtain ⟨t13, hc14, H⟩ := bindS H
    refine op_call hk ent_10 (vs := []) rfl (book_New_calls  _ o7 1 (by decide) 2 3 4 5  _ hc14) ?_
    rintro _ w15 ⟨o16, bx18, A20, c21, A24, c25, A28, c29, rfl, st17, f19, f22, hc23, f26, hc27, f30, hc31⟩
    replace fg0 := fg0.st st17 (by decide)
    replace fg1 := fg1.st st17 (by decide)
    replace fg2 := fg2.st st17 (by decide)
    replace hs := hs.loc0 st17 (by decide)
    have hk := hk.put 14 (.pointer (some ⟨bx18, 0, none⟩)) rfl
    refine x_run tab hk (k := 1) (lv := []) (ks := [0, 1, 5]) (e' := [(0, .int .i64 p0), (1, .int .i64 p1), (5, .pointer (some ⟨bx18, 0, none⟩))]) rfl trivial fun a hk => ?_
    refine wpListIn_nil ?_
    refine then_n ?_
    refine x_seq ?_
    refine x_seq ?_
    refine wpIn_region_lit ?_
    refine x_run tab hk (k := 2) (lv := []) (ks := [0, 1, 5, 16]) (e' := [(0, .int .i64 p0), (1, .int .i64 p1), (5, .pointer (some ⟨bx18, 0, none⟩)), (16, .bool false)]) rfl trivial fun a hk => ?_
    refine wpListIn_nil ?_
    refine then_n ?_
    refine x_if hk (b := false) rfl ?_
    refine (show Code.wpIn _ _ _ _ _ _ _ from ?_)
    refine wpIn_skip ?_
    refine then_n ?_
    refine x_seq ?_
    refine wpIn_region_lit ?_
    refine x_run tab hk (k := 3) (lv := []) (ks := [0, 1, 5]) (e' := [(0, .int .i64 (bits .and .i64 p0 1023)), (1, .int .i64 p1), (5, .pointer (some ⟨bx18, 0, none⟩))]) rfl trivial fun a hk => ?_
    refine wpListIn_nil ?_
    refine then_n ?_
    refine x_seq ?_
    refine wpIn_region_lit ?_
    refine x_run tab hk (k := 3) (lv := []) (ks := [0, 1, 5]) (e' := [(0, .int .i64 (bits .and .i64 p0 1023)), (1, .int .i64 (bits .and .i64 p1 7)), (5, .pointer (some ⟨bx18, 0, none⟩))]) rfl trivial fun a hk => ?_
    refine wpListIn_nil ?_
    refine then_n ?_
    refine x_seq ?_
    refine wpIn_region_lit ?_
    refine x_run tab hk (k := 1) (lv := []) (ks := [0, 1, 5, 21]) (e' := [(0, .int .i64 (bits .and .i64 p0 1023)), (1, .int .i64 (bits .and .i64 p1 7)), (5, .pointer (some ⟨bx18, 0, none⟩)), (21, .int .i64 (bits .and .i64 p0 1023))]) rfl trivial fun a hk => ?_
    refine x_op hk rfl ?_
    obtain ⟨t35, hc36, H⟩ := bindS H
    refine op_call hk ent_11 (vs := [.int .i64 (bits .and .i64 p0 1023), .int .i64 3]) rfl (row_Blank_calls K (bits .and .i64 p0 1023) 3 _ o16  6  _ hc36) ?_
    rintro _ w37 ⟨o38, A40, c41, rfl, st39, f42, hc43⟩
    replace f19 := f19.st st39 (by decide)
    replace f22 := f22.st st39 (by decide)
    replace f26 := f26.st st39 (by decide)
    replace f30 := f30.st st39 (by decide)
    replace fg0 := fg0.st st39 (by decide)
    replace fg1 := fg1.st st39 (by decide)
    replace fg2 := fg2.st st39 (by decide)
    replace hs := hs.loc0 st39 (by decide)
    have hk := hk.put 22 (.agg #[.slice A40 (t35.Cells).length c41, .bool t35.Wrapped]) rfl
    refine x_op hk rfl ?_
    refine op_alloc (o := o38) tab (t := 27) (cs := [.slice none 0 0, .bool false]) rfl rfl 7 fun bx47 w44 o45 st46 f48 => ?_
    replace f19 := f19.st st46 (by decide)
    replace f22 := f22.st st46 (by decide)
    replace f26 := f26.st st46 (by decide)
    replace f30 := f30.st st46 (by decide)
    replace f42 := f42.st st46 (by decide)
    replace fg0 := fg0.st st46 (by decide)
    replace fg1 := fg1.st st46 (by decide)
    replace fg2 := fg2.st st46 (by decide)
    replace hs := hs.loc0 st46 (by decide)
    have hk := hk.put 6 (.pointer (some ⟨bx47, 0, none⟩)) rfl
    refine x_op hk rfl ?_
    refine op_store tab hk (t := 27) (v := .agg #[.slice A40 (t35.Cells).length c41, .bool t35.Wrapped]) (b := bx47) (k := 0) (cs' := [.slice A40 (t35.Cells).length c41, .bool t35.Wrapped]) rfl rfl rfl rfl rfl rfl f48 rfl rfl fun w49 o50 st51 f48_ => ?_
    replace f19 := f19.st st51 (by decide)
    replace f22 := f22.st st51 (by decide)
    replace f26 := f26.st st51 (by decide)
    replace f30 := f30.st st51 (by decide)
    replace f42 := f42.st st51 (by decide)
    replace fg0 := fg0.st st51 (by decide)
    replace fg1 := fg1.st st51 (by decide)
    replace fg2 := fg2.st st51 (by decide)
    replace hs := hs.loc0 st51 (by decide)
    replace f48 := f48_
    refine wpListIn_nil ?_
    refine then_n ?_
    refine x_seq ?_
    refine wpIn_region_lit ?_
    refine x_run tab hk (k := 1) (lv := []) (ks := [0, 1, 5, 6, 23]) (e' := [(0, .int .i64 (bits .and .i64 p0 1023)), (1, .int .i64 (bits .and .i64 p1 7)), (5, .pointer (some ⟨bx18, 0, none⟩)), (6, .pointer (some ⟨bx47, 0, none⟩)), (23, .pointer (some ((⟨bx47, 0, none⟩ : Addr).add 1)))]) rfl trivial fun a hk => ?_
    refine x_op hk rfl ?_
    refine op_store tab hk (t := 4) (v := .bool true) (b := bx47) (k := 1) (cs' := [.slice A40 (t35.Cells).length c41, .bool true]) rfl rfl rfl rfl rfl rfl f48 rfl rfl fun w52 o53 st54 f48_ => ?_
    replace f19 := f19.st st54 (by decide)
    replace f22 := f22.st st54 (by decide)
    replace f26 := f26.st st54 (by decide)
    replace f30 := f30.st st54 (by decide)
    replace f42 := f42.st st54 (by decide)
    replace fg0 := fg0.st st54 (by decide)
    replace fg1 := fg1.st st54 (by decide)
    replace fg2 := fg2.st st54 (by decide)
    replace hs := hs.loc0 st54 (by decide)
    replace f48 := f48_
    refine wpListIn_nil ?_
    refine then_n ?_
    refine x_seq ?_
    refine wpIn_region_lit ?_
    refine x_run tab hk (k := 1) (lv := []) (ks := [0, 1, 5, 6, 24]) (e' := [(0, .int .i64 (bits .and .i64 p0 1023)), (1, .int .i64 (bits .and .i64 p1 7)), (5, .pointer (some ⟨bx18, 0, none⟩)), (6, .pointer (some ⟨bx47, 0, none⟩)), (24, .agg #[.slice none 0 0, .slice none 0 0])]) rfl trivial fun a hk => ?_
    refine x_op hk rfl ?_
    refine op_alloc (o := o53) tab (t := 33) (cs := [.slice none 0 0, .slice none 0 0]) rfl rfl 8 fun bx58 w55 o56 st57 f59 => ?_
    replace f19 := f19.st st57 (by decide)
    replace f22 := f22.st st57 (by decide)
    replace f26 := f26.st st57 (by decide)
    replace f30 := f30.st st57 (by decide)
    replace f42 := f42.st st57 (by decide)
    replace f48 := f48.st st57 (by decide)
    replace fg0 := fg0.st st57 (by decide)
    replace fg1 := fg1.st st57 (by decide)
    replace fg2 := fg2.st st57 (by decide)
    replace hs := hs.loc0 st57 (by decide)
    have hk := hk.put 7 (.pointer (some ⟨bx58, 0, none⟩)) rfl
    refine x_op hk rfl ?_
    refine op_store tab hk (t := 33) (v := .agg #[.slice none 0 0, .slice none 0 0]) (b := bx58) (k := 0) (cs' := [.slice none 0 0, .slice none 0 0]) rfl rfl rfl rfl rfl rfl f59 rfl rfl fun w60 o61 st62 f59_ => ?_
    replace f19 := f19.st st62 (by decide)
    replace f22 := f22.st st62 (by decide)
    replace f26 := f26.st st62 (by decide)
    replace f30 := f30.st st62 (by decide)
    replace f42 := f42.st st62 (by decide)
    replace f48 := f48.st st62 (by decide)
    replace fg0 := fg0.st st62 (by decide)
    replace fg1 := fg1.st st62 (by decide)
    replace fg2 := fg2.st st62 (by decide)
    replace hs := hs.loc0 st62 (by decide)
    replace f59 := f59_
    refine wpListIn_nil ?_
    refine then_n ?_
    refine x_mid (fun a_ w_ => ∃ o643 : Nat → Nat, ∃ A644 : Option Addr, ∃ c645 : Nat, ∃ l646 : List (List T49), ∃ A649 : Option Addr, ∃ c650 : Nat, ∃ l651 : List Int, ∃ A654 : Option Addr, ∃ c655 : Nat, ∃ l656 : List T49, ∃ A659 : Option Addr, ∃ c660 : Nat, ∃ l661 : List (List T69), ∃ A664 : Option Addr, ∃ c665 : Nat, ∃ l666 : List T69, Kn 76 a_ [(0, .int .i64 (bits .and .i64 p0 1023)), (1, .int .i64 (bits .and .i64 p1 7)), (5, .pointer (some ⟨bx18, 0, none⟩)), (7, .pointer (some ⟨bx58, 0, none⟩))] ∧ St [] w (fun _ => 0) w_ o643 ∧ Ft (Bx bx18 76 [.slice A644 (l646).length c645, .slice A649 (l651).length c650, .slice A654 (l656).length c655]) w_ o643 67 ∧ Ft (Bx bx58 33 [.slice A659 (l661).length c660, .slice A664 (l666).length c665]) w_ o643 69 ∧ NOwn (dRows ET49) 40 A644 c645 l646 w_ o643 64 1 ∧ Ft (Own (encInt .i64) 3 (.slice A649 (l651).length c650) l651) w_ o643 65 ∧ Ft (Own ET49 50 (.slice A654 (l656).length c655) l656) w_ o643 66 ∧ NOwn (dRows ET69) 31 A659 c660 l661 w_ o643 68 1 ∧ Ft (RdC ET69 A664 l666) w_ o643 1 ∧ Ft (RdC ET111 (some ⟨0, 0, none⟩) glob0) w_ o643 0 ∧ Ft (RdC ET111 (some ⟨1, 0, none⟩) glob1) w_ o643 0 ∧ Ft (RdC (encInt .u32) (some ⟨2, 0, none⟩) glob2) w_ o643 0 ∧ (l646).length ≤ c645 ∧ (l651).length ≤ c650 ∧ (l656).length ≤ c655 ∧ (l661).length ≤ c660 ∧ (l666).length ≤ c665 ∧ tidewracklaw12_BookLong_j1 K p0 p1 l646 l651 l656 l661 l666 = some r) ?_ ?_
    rotate_left
    · rintro a w669 ⟨o643, A644, c645, l646, A649, c650, l651, A654, c655, l656, A659, c660, l661, A664, c665, l666, hk, hs, f19, f59, f647, f652, f657, f662, f667, fg0, fg1, fg2, hc648, hc653, hc658, hc663, hc668, H⟩
      rw [tidewracklaw12_BookLong_j1] at H
      refine x_seq ?_
      refine wpIn_region_lit ?_
      refine x_run tab hk (k := 1) (lv := []) (ks := [0, 1, 5, 7, 37]) (e' := [(0, .int .i64 (bits .and .i64 p0 1023)), (1, .int .i64 (bits .and .i64 p1 7)), (5, .pointer (some ⟨bx18, 0, none⟩)), (7, .pointer (some ⟨bx58, 0, none⟩)), (37, .pointer (some ⟨bx18, 0, none⟩))]) rfl trivial fun a hk => ?_
      refine x_op hk rfl ?_
      obtain ⟨t673, hc674, H⟩ := bindS H
      refine op_call hk ent_15 (vs := [.pointer (some ⟨bx18, 0, none⟩)]) rfl (book_Book_Begun_calls bx18 A644 c645 A649 c650 A654 c655 (⟨l646, l651, l656⟩ : T75) _ o643 1 67 f19 _ f647.rd hc648 _ (f652.imp fun _ h_ => Own.rd h_) hc653 _ (f657.imp fun _ h_ => Own.rd h_) hc658 (by decide) (by decide) (by decide) (by decide) (by decide) 70  _ hc674) ?_
      rintro _ w675 ⟨o676, A678, c679, rfl, st677, f680, hc681⟩
      replace f19 := f19.st st677 (by decide)
      replace f59 := f59.st st677 (by decide)
      replace f647 := f647.st st677 (by decide)
      replace f652 := f652.st st677 (by decide)
      replace f657 := f657.st st677 (by decide)
      replace f662 := f662.st st677 (by decide)
      replace f667 := f667.st st677 (by decide)
      replace fg0 := fg0.st st677 (by decide)
      replace fg1 := fg1.st st677 (by decide)
      replace fg2 := fg2.st st677 (by decide)
      replace hs := hs.loc0 st677 (by decide)
      have hk := hk.put 38 (.slice A678 (t673).length c679) rfl
      refine x_run tab hk (k := 2) (lv := []) (ks := [0, 1, 5, 7, 8]) (e' := [(0, .int .i64 (bits .and .i64 p0 1023)), (1, .int .i64 (bits .and .i64 p1 7)), (5, .pointer (some ⟨bx18, 0, none⟩)), (7, .pointer (some ⟨bx58, 0, none⟩)), (8, .int .i64 ((t673).length : Int))]) rfl trivial fun a hk => ?_
      refine wpListIn_nil ?_
      refine then_n ?_
      refine x_mid (fun a_ w_ => ∃ o748 : Nat → Nat, ∃ x749 : Int, Kn 76 a_ [(0, .int .i64 (bits .and .i64 p0 1023)), (1, .int .i64 (bits .and .i64 p1 7)), (5, .pointer (some ⟨bx18, 0, none⟩)), (7, .pointer (some ⟨bx58, 0, none⟩)), (8, .int .i64 x749)] ∧ St [] w (fun _ => 0) w_ o748 ∧ Ft (Bx bx18 76 [.slice A644 (l646).length c645, .slice A649 (l651).length c650, .slice A654 (l656).length c655]) w_ o748 89 ∧ Ft (Bx bx58 33 [.slice A659 (l661).length c660, .slice A664 (l666).length c665]) w_ o748 91 ∧ NOwn (dRows ET49) 40 A644 c645 l646 w_ o748 86 1 ∧ Ft (Own (encInt .i64) 3 (.slice A649 (l651).length c650) l651) w_ o748 87 ∧ Ft (Own ET49 50 (.slice A654 (l656).length c655) l656) w_ o748 88 ∧ NOwn (dRows ET69) 31 A659 c660 l661 w_ o748 90 1 ∧ Ft (RdC ET69 A664 l666) w_ o748 1 ∧ Ft (RdC ET111 (some ⟨0, 0, none⟩) glob0) w_ o748 0 ∧ Ft (RdC ET111 (some ⟨1, 0, none⟩) glob1) w_ o748 0 ∧ Ft (RdC (encInt .u32) (some ⟨2, 0, none⟩) glob2) w_ o748 0 ∧ tidewracklaw12_BookLong_j2 K p0 p1 l646 l651 l656 l661 l666 x749 = some r) ?_ ?_
      rotate_left
      · rintro a w750 ⟨o748, x749, hk, hs, f19, f59, f647, f652, f657, f662, f667, fg0, fg1, fg2, H⟩
        rw [tidewracklaw12_BookLong_j2] at H
        refine x_seq ?_
        refine wpIn_region_lit ?_
        refine x_run tab hk (k := 7) (lv := []) (ks := [5, 7, 65]) (e' := [(5, .pointer (some ⟨bx18, 0, none⟩)), (7, .pointer (some ⟨bx58, 0, none⟩)), (65, .bool (x749 == (IntKind.wrap .i64 ((mnI (bits .and .i64 p0 1023) 1000) * (bits .and .i64 p1 7)))))]) rfl trivial fun a hk => ?_
        cases b751 : (x749 == (IntKind.wrap .i64 ((mnI (bits .and .i64 p0 1023) 1000) * (bits .and .i64 p1 7))))
        · rw [b751] at hk H
          replace H := bifF H
          refine x_run tab hk (k := 10) (lv := []) (ks := [75]) (e' := [(75, .bool false)]) rfl trivial fun a hk => ?_
          refine x_run tab hk (k := 1) (lv := []) (ks := [4]) (e' := [(4, .bool false)]) rfl trivial fun a hk => ?_
          refine wpListIn_nil ?_
          refine then_n ?_
          refine wpIn_ret ?_
          obtain rfl := Option.some.inj H
          exact x_retG hk (rs := [.tmp 4]) (vs := [.bool false]) rfl ⟨rfl, trivial⟩ ⟨fun b_ => if b_ < w.heap.size then o b_ else (fun _ => 0) (o748 b_), rfl, hs.close0 o (fun _ => 0)⟩
        · rw [b751] at hk H
          replace H := bifT H
          refine x_run tab hk (k := 2) (lv := [.agg #[.slice A659 (l661).length c660, .slice A664 (l666).length c665]]) (ks := [5, 65, 66, 67]) (e' := [(5, .pointer (some ⟨bx18, 0, none⟩)), (65, .bool true), (66, .pointer (some ⟨bx18, 0, none⟩)), (67, .agg #[.slice A659 (l661).length c660, .slice A664 (l666).length c665])]) rfl ⟨(load_box tab rfl rfl f59.now (k := 0) rfl rfl), trivial⟩ fun a hk => ?_
          refine x_op hk rfl ?_
          obtain ⟨t755, hc756, H⟩ := bindS H
          refine op_call hk ent_18 (vs := [.pointer (some ⟨bx18, 0, none⟩), .agg #[.slice A659 (l661).length c660, .slice A664 (l666).length c665]]) rfl (tidewracklaw12_Is_calls K bx18 A644 c645 A649 c650 A654 c655 (⟨l646, l651, l656⟩ : T75) A659 c660 A664 c665 (⟨l661, l666⟩ : T32) _ o748 1 89 f19 _ f647.rd hc648 _ (f652.imp fun _ h_ => Own.rd h_) hc653 _ (f657.imp fun _ h_ => Own.rd h_) hc658 _ f662.rd hc663 f667 hc668 (by decide) (by decide) (by decide) (by decide) (by decide) (by decide)   _ hc756) ?_
          rintro _ w757 ⟨o758, rfl, st759⟩
          replace f19 := f19.st st759 (by decide)
          replace f647 := f647.st st759 (by decide)
          replace f652 := f652.st st759 (by decide)
          replace f657 := f657.st st759 (by decide)
          replace f662 := f662.st st759 (by decide)
          replace f667 := f667.st st759 (by decide)
          replace fg0 := fg0.st st759 (by decide)
          replace fg1 := fg1.st st759 (by decide)
          replace fg2 := fg2.st st759 (by decide)
          replace hs := hs.loc0 st759 (by decide)
          have hk := hk.put 68 (.bool t755) rfl
          refine x_run tab hk (k := 2) (lv := []) (ks := [5, 70]) (e' := [(5, .pointer (some ⟨bx18, 0, none⟩)), (70, .bool t755)]) rfl trivial fun a hk => ?_
          cases b760 : t755
          · rw [b760] at hk H
            replace H := bifF H
            refine x_run tab hk (k := 6) (lv := []) (ks := [4]) (e' := [(4, .bool false)]) rfl trivial fun a hk => ?_
            refine wpListIn_nil ?_
            refine then_n ?_
            refine wpIn_ret ?_
            obtain rfl := Option.some.inj H
            exact x_retG hk (rs := [.tmp 4]) (vs := [.bool false]) rfl ⟨rfl, trivial⟩ ⟨fun b_ => if b_ < w.heap.size then o b_ else (fun _ => 0) (o758 b_), rfl, hs.close0 o (fun _ => 0)⟩
          · rw [b760] at hk H
            replace H := bifT H
            refine x_run tab hk (k := 1) (lv := []) (ks := [70, 71]) (e' := [(70, .bool true), (71, .pointer (some ⟨bx18, 0, none⟩))]) rfl trivial fun a hk => ?_
            refine x_op hk rfl ?_
            obtain ⟨t764, hc765, H⟩ := bindS H
            refine op_call hk ent_15 (vs := [.pointer (some ⟨bx18, 0, none⟩)]) rfl (book_Book_Begun_calls bx18 A644 c645 A649 c650 A654 c655 (⟨l646, l651, l656⟩ : T75) _ o758 1 89 f19 _ f647.rd hc648 _ (f652.imp fun _ h_ => Own.rd h_) hc653 _ (f657.imp fun _ h_ => Own.rd h_) hc658 (by decide) (by decide) (by decide) (by decide) (by decide) 92  _ hc765) ?_
            rintro _ w766 ⟨o767, A769, c770, rfl, st768, f771, hc772⟩
            replace f19 := f19.st st768 (by decide)
            replace f647 := f647.st st768 (by decide)
            replace f652 := f652.st st768 (by decide)
            replace f657 := f657.st st768 (by decide)
            replace fg0 := fg0.st st768 (by decide)
            replace fg1 := fg1.st st768 (by decide)
            replace fg2 := fg2.st st768 (by decide)
            replace hs := hs.loc0 st768 (by decide)
            have hk := hk.put 72 (.slice A769 (t764).length c770) rfl
            refine x_run tab hk (k := 4) (lv := []) (ks := [4]) (e' := [(4, .bool (decide (((t764).length : Int) < (1024 : Int))))]) rfl trivial fun a hk => ?_
            refine wpListIn_nil ?_
            refine then_n ?_
            refine wpIn_ret ?_
            obtain rfl := Option.some.inj H
            exact x_retG hk (rs := [.tmp 4]) (vs := [.bool (decide (((t764).length : Int) < (1024 : Int)))]) rfl ⟨rfl, trivial⟩ ⟨fun b_ => if b_ < w.heap.size then o b_ else (fun _ => 0) (o767 b_), rfl, hs.close0 o (fun _ => 0)⟩
      refine x_seq ?_
      refine wpIn_region_lit ?_
      refine x_run tab hk (k := 1) (lv := []) (ks := [0, 1, 5, 7, 8, 40]) (e' := [(0, .int .i64 (bits .and .i64 p0 1023)), (1, .int .i64 (bits .and .i64 p1 7)), (5, .pointer (some ⟨bx18, 0, none⟩)), (7, .pointer (some ⟨bx58, 0, none⟩)), (8, .int .i64 ((t673).length : Int)), (40, .pointer (some ⟨bx18, 0, none⟩))]) rfl trivial fun a hk => ?_
      refine x_op hk rfl ?_
      obtain ⟨t776, hc777, H⟩ := bindS H
      refine op_call hk ent_16 (vs := [.pointer (some ⟨bx18, 0, none⟩)]) rfl (book_Book_Len_calls bx18 A644 c645 A649 c650 A654 c655 (⟨l646, l651, l656⟩ : T75) _ o676 1 67 f19 _ f647.rd hc648 _ (f652.imp fun _ h_ => Own.rd h_) hc653 _ (f657.imp fun _ h_ => Own.rd h_) hc658 (by decide) (by decide) (by decide) (by decide) (by decide)   _ hc777) ?_
      rintro _ w778 ⟨o779, rfl, st780⟩
      replace f19 := f19.st st780 (by decide)
      replace f59 := f59.st st780 (by decide)
      replace f647 := f647.st st780 (by decide)
      replace f652 := f652.st st780 (by decide)
      replace f657 := f657.st st780 (by decide)
      replace f662 := f662.st st780 (by decide)
      replace f667 := f667.st st780 (by decide)
      replace fg0 := fg0.st st780 (by decide)
      replace fg1 := fg1.st st780 (by decide)
      replace fg2 := fg2.st st780 (by decide)
      replace hs := hs.loc0 st780 (by decide)
      have hk := hk.put 41 (.int .i64 t776) rfl
      refine x_run tab hk (k := 1) (lv := []) (ks := [0, 1, 5, 7, 8, 41, 42]) (e' := [(0, .int .i64 (bits .and .i64 p0 1023)), (1, .int .i64 (bits .and .i64 p1 7)), (5, .pointer (some ⟨bx18, 0, none⟩)), (7, .pointer (some ⟨bx58, 0, none⟩)), (8, .int .i64 ((t673).length : Int)), (41, .int .i64 t776), (42, .int .i64 0)]) rfl trivial fun a hk => ?_
      refine wpListIn_nil ?_
      refine then_n ?_
      refine wpIn_block ?_
      refine x_loop (fun j_ a_ w_ => ∃ o798 : Nat → Nat, ∃ x799 : Int, ∃ x800 : Int, Kn 76 a_ [(0, .int .i64 (bits .and .i64 p0 1023)), (1, .int .i64 (bits .and .i64 p1 7)), (5, .pointer (some ⟨bx18, 0, none⟩)), (7, .pointer (some ⟨bx58, 0, none⟩)), (8, .int .i64 x799), (41, .int .i64 t776), (42, .int .i64 x800)] ∧ St [] w (fun _ => 0) w_ o798 ∧ Ft (Bx bx18 76 [.slice A644 (l646).length c645, .slice A649 (l651).length c650, .slice A654 (l656).length c655]) w_ o798 103 ∧ Ft (Bx bx58 33 [.slice A659 (l661).length c660, .slice A664 (l666).length c665]) w_ o798 105 ∧ NOwn (dRows ET49) 40 A644 c645 l646 w_ o798 100 1 ∧ Ft (Own (encInt .i64) 3 (.slice A649 (l651).length c650) l651) w_ o798 101 ∧ Ft (Own ET49 50 (.slice A654 (l656).length c655) l656) w_ o798 102 ∧ NOwn (dRows ET69) 31 A659 c660 l661 w_ o798 104 1 ∧ Ft (RdC ET69 A664 l666) w_ o798 1 ∧ Ft (RdC ET111 (some ⟨0, 0, none⟩) glob0) w_ o798 0 ∧ Ft (RdC ET111 (some ⟨1, 0, none⟩) glob1) w_ o798 0 ∧ Ft (RdC (encInt .u32) (some ⟨2, 0, none⟩) glob2) w_ o798 0 ∧ tidewracklaw12_BookLong_l3 K p0 p1 l646 l651 l656 l661 l666 t776 j_ x799 x800 = some r) (k := K) ⟨(fun b_ => (fun l_ => if l_ = 64 then 100 else if l_ = 65 then 101 else if l_ = 66 then 102 else if l_ = 67 then 103 else if l_ = 68 then 104 else if l_ = 69 then 105 else l_) (o779 b_)), ((t673).length : Int), 0, (by exact Kn.pick (ks := [0, 1, 5, 7, 8, 41, 42]) hk rfl), (hs.relab0 (fun l_ => if l_ = 64 then 100 else if l_ = 65 then 101 else if l_ = 66 then 102 else if l_ = 67 then 103 else if l_ = 68 then 104 else if l_ = 69 then 105 else l_) rfl), (f19.relab (fun l_ => if l_ = 64 then 100 else if l_ = 65 then 101 else if l_ = 66 then 102 else if l_ = 67 then 103 else if l_ = 68 then 104 else if l_ = 69 then 105 else l_) rfl), (f59.relab (fun l_ => if l_ = 64 then 100 else if l_ = 65 then 101 else if l_ = 66 then 102 else if l_ = 67 then 103 else if l_ = 68 then 104 else if l_ = 69 then 105 else l_) rfl), (f647.relab (fun l_ => if l_ = 64 then 100 else if l_ = 65 then 101 else if l_ = 66 then 102 else if l_ = 67 then 103 else if l_ = 68 then 104 else if l_ = 69 then 105 else l_) rfl), (f652.relab (fun l_ => if l_ = 64 then 100 else if l_ = 65 then 101 else if l_ = 66 then 102 else if l_ = 67 then 103 else if l_ = 68 then 104 else if l_ = 69 then 105 else l_) rfl), (f657.relab (fun l_ => if l_ = 64 then 100 else if l_ = 65 then 101 else if l_ = 66 then 102 else if l_ = 67 then 103 else if l_ = 68 then 104 else if l_ = 69 then 105 else l_) rfl), (f662.relab (fun l_ => if l_ = 64 then 100 else if l_ = 65 then 101 else if l_ = 66 then 102 else if l_ = 67 then 103 else if l_ = 68 then 104 else if l_ = 69 then 105 else l_) rfl), (f667.relab (fun l_ => if l_ = 64 then 100 else if l_ = 65 then 101 else if l_ = 66 then 102 else if l_ = 67 then 103 else if l_ = 68 then 104 else if l_ = 69 then 105 else l_) rfl), (fg0.relab (fun l_ => if l_ = 64 then 100 else if l_ = 65 then 101 else if l_ = 66 then 102 else if l_ = 67 then 103 else if l_ = 68 then 104 else if l_ = 69 then 105 else l_) rfl), (fg1.relab (fun l_ => if l_ = 64 then 100 else if l_ = 65 then 101 else if l_ = 66 then 102 else if l_ = 67 then 103 else if l_ = 68 then 104 else if l_ = 69 then 105 else l_) rfl), (fg2.relab (fun l_ => if l_ = 64 then 100 else if l_ = 65 then 101 else if l_ = 66 then 102 else if l_ = 67 then 103 else if l_ = 68 then 104 else if l_ = 69 then 105 else l_) rfl), H⟩ (by rintro _ _ ⟨_, _, _, _, _, _, _, _, _, _, _, _, _, _, _, H_⟩; exact absurd (show (none : Option Bool) = some r from H_) (by simp)) ?_
      rintro k816 a w815 ⟨o798, x799, x800, hk, hs, f19, f59, f647, f652, f657, f662, f667, fg0, fg1, fg2, H⟩
      rw [tidewracklaw12_BookLong_l3] at H
      obtain ⟨lp817, hlp818⟩ : ∃ lp_, lp_ = tidewracklaw12_BookLong_l3 K p0 p1 l646 l651 l656 l661 l666 t776 k816 := ⟨_, rfl⟩
      rw [← hlp818] at H
      refine x_seq ?_
      refine wpIn_region_lit ?_
      refine x_run tab hk (k := 1) (lv := []) (ks := [0, 1, 5, 7, 8, 41, 42, 43]) (e' := [(0, .int .i64 (bits .and .i64 p0 1023)), (1, .int .i64 (bits .and .i64 p1 7)), (5, .pointer (some ⟨bx18, 0, none⟩)), (7, .pointer (some ⟨bx58, 0, none⟩)), (8, .int .i64 x799), (41, .int .i64 t776), (42, .int .i64 x800), (43, .bool (decide (x800 < t776)))]) rfl trivial fun a hk => ?_
      refine wpListIn_nil ?_
      refine then_n ?_
      refine x_seq ?_
      cases b819 : (decide (x800 < t776))
      · rw [b819] at hk H
        replace H := bifF H
        refine x_if hk (b := false) rfl ?_
        refine (show Code.wpIn _ _ _ _ _ _ _ from ?_)
        refine wpIn_exit ?_
        refine then_x ?_
        refine then_x ?_
        refine blk_x ?_
        refine then_n ?_
        exact ⟨(fun b_ => (fun l_ => if l_ = 100 then 86 else if l_ = 101 then 87 else if l_ = 102 then 88 else if l_ = 103 then 89 else if l_ = 104 then 90 else if l_ = 105 then 91 else l_) (o798 b_)), x799, (by exact Kn.pick (ks := [0, 1, 5, 7, 8]) hk rfl), (hs.relab0 (fun l_ => if l_ = 100 then 86 else if l_ = 101 then 87 else if l_ = 102 then 88 else if l_ = 103 then 89 else if l_ = 104 then 90 else if l_ = 105 then 91 else l_) rfl), (f19.relab (fun l_ => if l_ = 100 then 86 else if l_ = 101 then 87 else if l_ = 102 then 88 else if l_ = 103 then 89 else if l_ = 104 then 90 else if l_ = 105 then 91 else l_) rfl), (f59.relab (fun l_ => if l_ = 100 then 86 else if l_ = 101 then 87 else if l_ = 102 then 88 else if l_ = 103 then 89 else if l_ = 104 then 90 else if l_ = 105 then 91 else l_) rfl), (f647.relab (fun l_ => if l_ = 100 then 86 else if l_ = 101 then 87 else if l_ = 102 then 88 else if l_ = 103 then 89 else if l_ = 104 then 90 else if l_ = 105 then 91 else l_) rfl), (f652.relab (fun l_ => if l_ = 100 then 86 else if l_ = 101 then 87 else if l_ = 102 then 88 else if l_ = 103 then 89 else if l_ = 104 then 90 else if l_ = 105 then 91 else l_) rfl), (f657.relab (fun l_ => if l_ = 100 then 86 else if l_ = 101 then 87 else if l_ = 102 then 88 else if l_ = 103 then 89 else if l_ = 104 then 90 else if l_ = 105 then 91 else l_) rfl), (f662.relab (fun l_ => if l_ = 100 then 86 else if l_ = 101 then 87 else if l_ = 102 then 88 else if l_ = 103 then 89 else if l_ = 104 then 90 else if l_ = 105 then 91 else l_) rfl), (f667.relab (fun l_ => if l_ = 100 then 86 else if l_ = 101 then 87 else if l_ = 102 then 88 else if l_ = 103 then 89 else if l_ = 104 then 90 else if l_ = 105 then 91 else l_) rfl), (fg0.relab (fun l_ => if l_ = 100 then 86 else if l_ = 101 then 87 else if l_ = 102 then 88 else if l_ = 103 then 89 else if l_ = 104 then 90 else if l_ = 105 then 91 else l_) rfl), (fg1.relab (fun l_ => if l_ = 100 then 86 else if l_ = 101 then 87 else if l_ = 102 then 88 else if l_ = 103 then 89 else if l_ = 104 then 90 else if l_ = 105 then 91 else l_) rfl), (fg2.relab (fun l_ => if l_ = 100 then 86 else if l_ = 101 then 87 else if l_ = 102 then 88 else if l_ = 103 then 89 else if l_ = 104 then 90 else if l_ = 105 then 91 else l_) rfl), H⟩
      · rw [b819] at hk H
        replace H := bifT H
        refine x_if hk (b := true) rfl ?_
        refine (show Code.wpIn _ _ _ _ _ _ _ from ?_)
        refine wpIn_skip ?_
        refine then_n ?_
        refine x_seq ?_
        refine wpIn_block ?_
        refine x_seq ?_
        refine wpIn_region_lit ?_
        refine x_run tab hk (k := 2) (lv := []) (ks := [0, 1, 5, 7, 8, 9, 41, 42]) (e' := [(0, .int .i64 (bits .and .i64 p0 1023)), (1, .int .i64 (bits .and .i64 p1 7)), (5, .pointer (some ⟨bx18, 0, none⟩)), (7, .pointer (some ⟨bx58, 0, none⟩)), (8, .int .i64 x799), (9, .int .i64 x800), (41, .int .i64 t776), (42, .int .i64 x800)]) rfl trivial fun a hk => ?_
        refine wpListIn_nil ?_
        refine then_n ?_
        refine x_seq ?_
        refine wpIn_region_lit ?_
        refine x_run tab hk (k := 2) (lv := []) (ks := [0, 1, 5, 7, 8, 41, 42, 46, 47]) (e' := [(0, .int .i64 (bits .and .i64 p0 1023)), (1, .int .i64 (bits .and .i64 p1 7)), (5, .pointer (some ⟨bx18, 0, none⟩)), (7, .pointer (some ⟨bx58, 0, none⟩)), (8, .int .i64 x799), (41, .int .i64 t776), (42, .int .i64 x800), (46, .pointer (some ⟨bx18, 0, none⟩)), (47, .int .i64 x800)]) rfl trivial fun a hk => ?_
        refine x_op hk rfl ?_
        obtain ⟨t823, hc824, H⟩ := bindS H
        refine op_call hk ent_17 (vs := [.pointer (some ⟨bx18, 0, none⟩), .int .i64 x800]) rfl (book_Book_Line_calls bx18 A644 c645 A649 c650 A654 c655 (⟨l646, l651, l656⟩ : T75) x800 _ o798 1 103 f19 _ f647.rd hc648 _ (f652.imp fun _ h_ => Own.rd h_) hc653 _ (f657.imp fun _ h_ => Own.rd h_) hc658 (by decide) (by decide) (by decide) (by decide) (by decide) 107  _ hc824) ?_
        rintro _ w825 ⟨o826, A828, c829, rfl, st827, f830, hc831⟩
        replace f19 := f19.st st827 (by decide)
        replace f59 := f59.st st827 (by decide)
        replace f647 := f647.st st827 (by decide)
        replace f652 := f652.st st827 (by decide)
        replace f657 := f657.st st827 (by decide)
        replace f662 := f662.st st827 (by decide)
        replace f667 := f667.st st827 (by decide)
        replace fg0 := fg0.st st827 (by decide)
        replace fg1 := fg1.st st827 (by decide)
        replace fg2 := fg2.st st827 (by decide)
        replace hs := hs.loc0 st827 (by decide)
        have hk := hk.put 48 (.tuple #[.slice A828 (t823.1).length c829, .bool t823.2]) rfl
        refine x_run tab hk (k := 5) (lv := []) (ks := [0, 1, 5, 7, 8, 10, 41, 42]) (e' := [(0, .int .i64 (bits .and .i64 p0 1023)), (1, .int .i64 (bits .and .i64 p1 7)), (5, .pointer (some ⟨bx18, 0, none⟩)), (7, .pointer (some ⟨bx58, 0, none⟩)), (8, .int .i64 x799), (10, .slice A828 (t823.1).length c829), (41, .int .i64 t776), (42, .int .i64 x800)]) rfl trivial fun a hk => ?_
        refine wpListIn_nil ?_
        refine then_n ?_
        refine x_seq ?_
        refine x_seq ?_
        refine wpIn_region_lit ?_
        refine x_run tab hk (k := 3) (lv := []) (ks := [0, 1, 5, 7, 8, 10, 41, 42, 53]) (e' := [(0, .int .i64 (bits .and .i64 p0 1023)), (1, .int .i64 (bits .and .i64 p1 7)), (5, .pointer (some ⟨bx18, 0, none⟩)), (7, .pointer (some ⟨bx58, 0, none⟩)), (8, .int .i64 x799), (10, .slice A828 (t823.1).length c829), (41, .int .i64 t776), (42, .int .i64 x800), (53, .bool (((t823.1).length : Int) != (1024 : Int)))]) rfl trivial fun a hk => ?_
        refine wpListIn_nil ?_
        refine then_n ?_
        cases b832 : (((t823.1).length : Int) != (1024 : Int))
        · rw [b832] at hk H
          replace H := bifF H
          refine x_if hk (b := false) rfl ?_
          refine (show Code.wpIn _ _ _ _ _ _ _ from ?_)
          refine wpIn_skip ?_
          refine then_n ?_
          refine wpIn_region_lit ?_
          refine x_run tab hk (k := 5) (lv := []) (ks := [0, 1, 5, 7, 8, 41, 42]) (e' := [(0, .int .i64 (bits .and .i64 p0 1023)), (1, .int .i64 (bits .and .i64 p1 7)), (5, .pointer (some ⟨bx18, 0, none⟩)), (7, .pointer (some ⟨bx58, 0, none⟩)), (8, .int .i64 (IntKind.wrap .i64 (x799 + ((t823.1).length : Int)))), (41, .int .i64 t776), (42, .int .i64 x800)]) rfl trivial fun a hk => ?_
          refine wpListIn_nil ?_
          refine blk_n ?_
          refine then_n ?_
          refine wpIn_region_lit ?_
          refine x_run tab hk (k := 2) (lv := []) (ks := [0, 1, 5, 7, 8, 41, 42]) (e' := [(0, .int .i64 (bits .and .i64 p0 1023)), (1, .int .i64 (bits .and .i64 p1 7)), (5, .pointer (some ⟨bx18, 0, none⟩)), (7, .pointer (some ⟨bx58, 0, none⟩)), (8, .int .i64 (IntKind.wrap .i64 (x799 + ((t823.1).length : Int)))), (41, .int .i64 t776), (42, .int .i64 (IntKind.wrap .i64 (x800 + 1)))]) rfl trivial fun a hk => ?_
          refine wpListIn_nil ?_
          refine then_n ?_
          exact ⟨k816, Nat.le_refl _, o826, (IntKind.wrap .i64 (x799 + ((t823.1).length : Int))), (IntKind.wrap .i64 (x800 + 1)), (by exact Kn.pick (ks := [0, 1, 5, 7, 8, 41, 42]) hk rfl), hs, f19, f59, f647, f652, f657, f662, f667, fg0, fg1, fg2, (hlp818 ▸ H)⟩
        · rw [b832] at hk H
          replace H := bifT H
          refine x_if hk (b := true) rfl ?_
          refine (show Code.wpIn _ _ _ _ _ _ _ from ?_)
          refine x_seq ?_
          refine wpIn_region_lit ?_
          refine x_run tab hk (k := 1) (lv := []) (ks := [4]) (e' := [(4, .bool false)]) rfl trivial fun a hk => ?_
          refine wpListIn_nil ?_
          refine then_n ?_
          refine wpIn_ret ?_
          refine then_r ?_
          refine blk_r ?_
          refine then_r ?_
          refine then_r ?_
          refine blk_r ?_
          refine then_r ?_
          obtain rfl := Option.some.inj H
          exact x_retG hk (rs := [.tmp 4]) (vs := [.bool false]) rfl ⟨rfl, trivial⟩ ⟨fun b_ => if b_ < w.heap.size then o b_ else (fun _ => 0) (o826 b_), rfl, hs.close0 o (fun _ => 0)⟩
    refine x_seq ?_
    refine wpIn_region_lit ?_
    refine x_run tab hk (k := 2) (lv := []) (ks := [0, 1, 5, 6, 7, 25, 26]) (e' := [(0, .int .i64 (bits .and .i64 p0 1023)), (1, .int .i64 (bits .and .i64 p1 7)), (5, .pointer (some ⟨bx18, 0, none⟩)), (6, .pointer (some ⟨bx47, 0, none⟩)), (7, .pointer (some ⟨bx58, 0, none⟩)), (25, .int .i64 (bits .and .i64 p1 7)), (26, .int .i64 0)]) rfl trivial fun a hk => ?_
    refine wpListIn_nil ?_
    refine then_n ?_
    refine wpIn_block ?_
    refine x_loop (fun j_ a_ w_ => ∃ o1112 : Nat → Nat, ∃ A1113 : Option Addr, ∃ c1114 : Nat, ∃ l1115 : List (List T49), ∃ A1118 : Option Addr, ∃ c1119 : Nat, ∃ l1120 : List Int, ∃ A1123 : Option Addr, ∃ c1124 : Nat, ∃ l1125 : List T49, ∃ A1128 : Option Addr, ∃ c1129 : Nat, ∃ l1130 : List (List T69), ∃ A1133 : Option Addr, ∃ c1134 : Nat, ∃ l1135 : List T69, ∃ x1138 : Int, Kn 76 a_ [(0, .int .i64 (bits .and .i64 p0 1023)), (1, .int .i64 (bits .and .i64 p1 7)), (5, .pointer (some ⟨bx18, 0, none⟩)), (6, .pointer (some ⟨bx47, 0, none⟩)), (7, .pointer (some ⟨bx58, 0, none⟩)), (25, .int .i64 (bits .and .i64 p1 7)), (26, .int .i64 x1138)] ∧ St [] w (fun _ => 0) w_ o1112 ∧ NOwn (dRows ET49) 40 A1113 c1114 l1115 w_ o1112 140 1 ∧ Ft (Own (encInt .i64) 3 (.slice A1118 (l1120).length c1119) l1120) w_ o1112 141 ∧ Ft (Own ET49 50 (.slice A1123 (l1125).length c1124) l1125) w_ o1112 142 ∧ NOwn (dRows ET69) 31 A1128 c1129 l1130 w_ o1112 145 1 ∧ Ft (RdC ET69 A1133 l1135) w_ o1112 1 ∧ Ft (Bx bx18 76 [.slice A1113 (l1115).length c1114, .slice A1118 (l1120).length c1119, .slice A1123 (l1125).length c1124]) w_ o1112 143 ∧ Ft (Own ET82 83 (.slice A40 (t35.Cells).length c41) t35.Cells) w_ o1112 1 ∧ Ft (Bx bx47 27 [.slice A40 (t35.Cells).length c41, .bool true]) w_ o1112 144 ∧ Ft (Bx bx58 33 [.slice A1128 (l1130).length c1129, .slice A1133 (l1135).length c1134]) w_ o1112 146 ∧ Ft (RdC ET111 (some ⟨0, 0, none⟩) glob0) w_ o1112 0 ∧ Ft (RdC ET111 (some ⟨1, 0, none⟩) glob1) w_ o1112 0 ∧ Ft (RdC (encInt .u32) (some ⟨2, 0, none⟩) glob2) w_ o1112 0 ∧ (l1115).length ≤ c1114 ∧ (l1120).length ≤ c1119 ∧ (l1125).length ≤ c1124 ∧ (l1130).length ≤ c1129 ∧ (l1135).length ≤ c1134 ∧ tidewracklaw12_BookLong_l4 K p0 p1 t35 j_ l1115 l1120 l1125 l1130 l1135 x1138 = some r) (k := K) ⟨(fun b_ => (fun l_ => if l_ = 2 then 143 else if l_ = 3 then 140 else if l_ = 4 then 141 else if l_ = 5 then 142 else if l_ = 6 then 1 else if l_ = 7 then 144 else if l_ = 8 then 146 else l_) (o61 b_)), A20, c21, t13.l, A24, c25, t13.chains, A28, c29, t13.begun, none, 0, ([] : List (List T69)), none, 0, ([] : List T69), 0, (by exact Kn.pick (ks := [0, 1, 5, 6, 7, 25, 26]) hk rfl), (hs.relab0 (fun l_ => if l_ = 2 then 143 else if l_ = 3 then 140 else if l_ = 4 then 141 else if l_ = 5 then 142 else if l_ = 6 then 1 else if l_ = 7 then 144 else if l_ = 8 then 146 else l_) rfl), (f22.relab (fun l_ => if l_ = 2 then 143 else if l_ = 3 then 140 else if l_ = 4 then 141 else if l_ = 5 then 142 else if l_ = 6 then 1 else if l_ = 7 then 144 else if l_ = 8 then 146 else l_) rfl), (f26.relab (fun l_ => if l_ = 2 then 143 else if l_ = 3 then 140 else if l_ = 4 then 141 else if l_ = 5 then 142 else if l_ = 6 then 1 else if l_ = 7 then 144 else if l_ = 8 then 146 else l_) rfl), (f30.relab (fun l_ => if l_ = 2 then 143 else if l_ = 3 then 140 else if l_ = 4 then 141 else if l_ = 5 then 142 else if l_ = 6 then 1 else if l_ = 7 then 144 else if l_ = 8 then 146 else l_) rfl), (NOwn.nil _ _ _ _ _ _), (Ft.of_all (fun _ => (fun h_ => absurd h_ (by simp))) _ _ _), (f19.relab (fun l_ => if l_ = 2 then 143 else if l_ = 3 then 140 else if l_ = 4 then 141 else if l_ = 5 then 142 else if l_ = 6 then 1 else if l_ = 7 then 144 else if l_ = 8 then 146 else l_) rfl), (f42.relab (fun l_ => if l_ = 2 then 143 else if l_ = 3 then 140 else if l_ = 4 then 141 else if l_ = 5 then 142 else if l_ = 6 then 1 else if l_ = 7 then 144 else if l_ = 8 then 146 else l_) rfl), (f48.relab (fun l_ => if l_ = 2 then 143 else if l_ = 3 then 140 else if l_ = 4 then 141 else if l_ = 5 then 142 else if l_ = 6 then 1 else if l_ = 7 then 144 else if l_ = 8 then 146 else l_) rfl), (f59.relab (fun l_ => if l_ = 2 then 143 else if l_ = 3 then 140 else if l_ = 4 then 141 else if l_ = 5 then 142 else if l_ = 6 then 1 else if l_ = 7 then 144 else if l_ = 8 then 146 else l_) rfl), (fg0.relab (fun l_ => if l_ = 2 then 143 else if l_ = 3 then 140 else if l_ = 4 then 141 else if l_ = 5 then 142 else if l_ = 6 then 1 else if l_ = 7 then 144 else if l_ = 8 then 146 else l_) rfl), (fg1.relab (fun l_ => if l_ = 2 then 143 else if l_ = 3 then 140 else if l_ = 4 then 141 else if l_ = 5 then 142 else if l_ = 6 then 1 else if l_ = 7 then 144 else if l_ = 8 then 146 else l_) rfl), (fg2.relab (fun l_ => if l_ = 2 then 143 else if l_ = 3 then 140 else if l_ = 4 then 141 else if l_ = 5 then 142 else if l_ = 6 then 1 else if l_ = 7 then 144 else if l_ = 8 then 146 else l_) rfl), hc23, hc27, hc31, (by simp), (by simp), H⟩ (by rintro _ _ ⟨_, _, _, _, _, _, _, _, _, _, _, _, _, _, _, _, _, _, _, _, _, _, _, _, _, _, _, _, _, _, _, _, _, _, _, _, H_⟩; exact absurd (show (none : Option Bool) = some r from H_) (by simp)) ?_
    rintro k1260 a w1259 ⟨o1112, A1113, c1114, l1115, A1118, c1119, l1120, A1123, c1124, l1125, A1128, c1129, l1130, A1133, c1134, l1135, x1138, hk, hs, f1116, f1121, f1126, f1131, f1136, f19, f42, f48, f59, fg0, fg1, fg2, hc1117, hc1122, hc1127, hc1132, hc1137, H⟩
    rw [tidewracklaw12_BookLong_l4] at H
    obtain ⟨lp1261, hlp1262⟩ : ∃ lp_, lp_ = tidewracklaw12_BookLong_l4 K p0 p1 t35 k1260 := ⟨_, rfl⟩
    rw [← hlp1262] at H
    refine x_seq ?_
    refine wpIn_region_lit ?_
    refine x_run tab hk (k := 1) (lv := []) (ks := [0, 1, 5, 6, 7, 25, 26, 27]) (e' := [(0, .int .i64 (bits .and .i64 p0 1023)), (1, .int .i64 (bits .and .i64 p1 7)), (5, .pointer (some ⟨bx18, 0, none⟩)), (6, .pointer (some ⟨bx47, 0, none⟩)), (7, .pointer (some ⟨bx58, 0, none⟩)), (25, .int .i64 (bits .and .i64 p1 7)), (26, .int .i64 x1138), (27, .bool (decide (x1138 < (bits .and .i64 p1 7))))]) rfl trivial fun a hk => ?_
    refine wpListIn_nil ?_
    refine then_n ?_
    refine x_seq ?_
    cases b1263 : (decide (x1138 < (bits .and .i64 p1 7)))
    · rw [b1263] at hk H
      replace H := bifF H
      refine x_if hk (b := false) rfl ?_
      refine (show Code.wpIn _ _ _ _ _ _ _ from ?_)
      refine wpIn_exit ?_
      refine then_x ?_
      refine then_x ?_
      refine blk_x ?_
      refine then_n ?_
      exact ⟨(fun b_ => (fun l_ => if l_ = 140 then 64 else if l_ = 141 then 65 else if l_ = 142 then 66 else if l_ = 143 then 67 else if l_ = 145 then 68 else if l_ = 146 then 69 else l_) (o1112 b_)), A1113, c1114, l1115, A1118, c1119, l1120, A1123, c1124, l1125, A1128, c1129, l1130, A1133, c1134, l1135, (by exact Kn.pick (ks := [0, 1, 5, 7]) hk rfl), (hs.relab0 (fun l_ => if l_ = 140 then 64 else if l_ = 141 then 65 else if l_ = 142 then 66 else if l_ = 143 then 67 else if l_ = 145 then 68 else if l_ = 146 then 69 else l_) rfl), (f19.relab (fun l_ => if l_ = 140 then 64 else if l_ = 141 then 65 else if l_ = 142 then 66 else if l_ = 143 then 67 else if l_ = 145 then 68 else if l_ = 146 then 69 else l_) rfl), (f59.relab (fun l_ => if l_ = 140 then 64 else if l_ = 141 then 65 else if l_ = 142 then 66 else if l_ = 143 then 67 else if l_ = 145 then 68 else if l_ = 146 then 69 else l_) rfl), (f1116.relab (fun l_ => if l_ = 140 then 64 else if l_ = 141 then 65 else if l_ = 142 then 66 else if l_ = 143 then 67 else if l_ = 145 then 68 else if l_ = 146 then 69 else l_) rfl), (f1121.relab (fun l_ => if l_ = 140 then 64 else if l_ = 141 then 65 else if l_ = 142 then 66 else if l_ = 143 then 67 else if l_ = 145 then 68 else if l_ = 146 then 69 else l_) rfl), (f1126.relab (fun l_ => if l_ = 140 then 64 else if l_ = 141 then 65 else if l_ = 142 then 66 else if l_ = 143 then 67 else if l_ = 145 then 68 else if l_ = 146 then 69 else l_) rfl), (f1131.relab (fun l_ => if l_ = 140 then 64 else if l_ = 141 then 65 else if l_ = 142 then 66 else if l_ = 143 then 67 else if l_ = 145 then 68 else if l_ = 146 then 69 else l_) rfl), (f1136.relab (fun l_ => if l_ = 140 then 64 else if l_ = 141 then 65 else if l_ = 142 then 66 else if l_ = 143 then 67 else if l_ = 145 then 68 else if l_ = 146 then 69 else l_) rfl), (fg0.relab (fun l_ => if l_ = 140 then 64 else if l_ = 141 then 65 else if l_ = 142 then 66 else if l_ = 143 then 67 else if l_ = 145 then 68 else if l_ = 146 then 69 else l_) rfl), (fg1.relab (fun l_ => if l_ = 140 then 64 else if l_ = 141 then 65 else if l_ = 142 then 66 else if l_ = 143 then 67 else if l_ = 145 then 68 else if l_ = 146 then 69 else l_) rfl), (fg2.relab (fun l_ => if l_ = 140 then 64 else if l_ = 141 then 65 else if l_ = 142 then 66 else if l_ = 143 then 67 else if l_ = 145 then 68 else if l_ = 146 then 69 else l_) rfl), hc1117, hc1122, hc1127, hc1132, hc1137, H⟩
    · rw [b1263] at hk H
      replace H := bifT H
      refine x_if hk (b := true) rfl ?_
      refine (show Code.wpIn _ _ _ _ _ _ _ from ?_)
      refine wpIn_skip ?_
      refine then_n ?_
      refine x_seq ?_
      refine wpIn_block ?_
      refine x_seq ?_
      refine wpIn_region_lit ?_
      refine x_run tab hk (k := 2) (lv := [.agg #[.slice A40 (t35.Cells).length c41, .bool true]]) (ks := [0, 1, 5, 6, 7, 25, 26, 28, 29]) (e' := [(0, .int .i64 (bits .and .i64 p0 1023)), (1, .int .i64 (bits .and .i64 p1 7)), (5, .pointer (some ⟨bx18, 0, none⟩)), (6, .pointer (some ⟨bx47, 0, none⟩)), (7, .pointer (some ⟨bx58, 0, none⟩)), (25, .int .i64 (bits .and .i64 p1 7)), (26, .int .i64 x1138), (28, .pointer (some ⟨bx18, 0, none⟩)), (29, .agg #[.slice A40 (t35.Cells).length c41, .bool true])]) rfl ⟨(load_box tab rfl rfl f48.now (k := 0) rfl rfl), trivial⟩ fun a hk => ?_
      refine x_op hk rfl ?_
      refine op_slice (o := o1112) tab hk (vs := [.agg #[.slice A40 (t35.Cells).length c41, .bool true]]) (cs := [.slice A40 (t35.Cells).length c41, .bool true]) rfl rfl rfl rfl rfl rfl rfl rfl rfl 154 fun bx1267 w1264 o1265 st1266 f1268 => ?_
      replace f1116 := f1116.st st1266 (by decide)
      replace f1121 := f1121.st st1266 (by decide)
      replace f1126 := f1126.st st1266 (by decide)
      replace f1131 := f1131.st st1266 (by decide)
      replace f1136 := f1136.st st1266 (by decide)
      replace f19 := f19.st st1266 (by decide)
      replace f42 := f42.st st1266 (by decide)
      replace f48 := f48.st st1266 (by decide)
      replace f59 := f59.st st1266 (by decide)
      replace fg0 := fg0.st st1266 (by decide)
      replace fg1 := fg1.st st1266 (by decide)
      replace fg2 := fg2.st st1266 (by decide)
      replace hs := hs.loc0 st1266 (by decide)
      have f1269 : NOwn dT26 27 (some ⟨bx1267, 0, none⟩) 1 ([(⟨t35.Cells, true⟩ : T26)] : List T26) w1264 o1265 154 1 := NOwn.litD (D := dT26) f1268 [(⟨(⟨t35.Cells, true⟩ : T26), A40, c41⟩ : NT26)] rfl (Inn.consD (D := dT26) (r := (⟨(⟨t35.Cells, true⟩ : T26), A40, c41⟩ : NT26)) ((f42.imp fun _ h_ => Own.rd h_).imp fun _ h_ => ⟨h_, hc43⟩) (Inn.nilD _ _ _ _)) rfl (Nat.le_of_ble_eq_true rfl)
      have hk := hk.put 30 (.slice (some ⟨bx1267, 0, none⟩) (([(⟨t35.Cells, true⟩ : T26)] : List T26)).length 1) rfl
      refine x_op hk rfl ?_
      obtain ⟨t1273, hc1274, H⟩ := bindS H
      refine op_call hk ent_12 (vs := [.pointer (some ⟨bx18, 0, none⟩), .slice (some ⟨bx1267, 0, none⟩) (([(⟨t35.Cells, true⟩ : T26)] : List T26)).length 1]) rfl (book_Book_Add_calls K bx18 A1113 c1114 A1118 c1119 A1123 c1124 (⟨l1115, l1120, l1125⟩ : T75) (some ⟨bx1267, 0, none⟩) 1 ([(⟨t35.Cells, true⟩ : T26)] : List T26) _ o1265 1 0 fg2 143 f19 140 f1116 hc1117 141 f1121 hc1122 142 f1126 hc1127 _ f1269.rd (Nat.le_refl _) (by decide) (by decide) (by decide)   _ hc1274) ?_
      rintro _ w1275 ⟨o1276, A1279, c1280, A1283, c1284, A1287, c1288, rfl, st1277, f1278, f1281, hc1282, f1285, hc1286, f1289, hc1290⟩
      replace f1131 := f1131.st st1277 (by decide)
      replace f1136 := f1136.st st1277 (by decide)
      replace f1269 := f1269.st st1277 (by decide)
      replace f42 := f42.st st1277 (by decide)
      replace f48 := f48.st st1277 (by decide)
      replace f59 := f59.st st1277 (by decide)
      replace fg0 := fg0.st st1277 (by decide)
      replace fg1 := fg1.st st1277 (by decide)
      replace fg2 := fg2.st st1277 (by decide)
      replace hs := hs.loc0 st1277 (by decide)
      have hk := hk.put 31 (.int .i64 t1273.1) rfl
      refine wpListIn_nil ?_
      refine then_n ?_
      refine xd_begin (o := o1276) (fun W_ => (Bx bx47 27 [.slice A40 (t35.Cells).length c41, .bool true]) W_ ∧ (Bx bx58 33 [.slice A1128 (l1130).length c1129, .slice A1133 (l1135).length c1134]) W_ ∧ True) mixed rfl rfl fun w1350 st1351 => ?_
      replace f1131 := f1131.st st1351 (by decide)
      replace f1136 := f1136.st st1351 (by decide)
      replace f1269 := f1269.st st1351 (by decide)
      replace f1278 := f1278.st st1351 (by decide)
      replace f1281 := f1281.st st1351 (by decide)
      replace f1285 := f1285.st st1351 (by decide)
      replace f1289 := f1289.st st1351 (by decide)
      replace f42 := f42.st st1351 (by decide)
      replace f48 := f48.st st1351 (by decide)
      replace f59 := f59.st st1351 (by decide)
      replace fg0 := fg0.st st1351 (by decide)
      replace fg1 := fg1.st st1351 (by decide)
      replace fg2 := fg2.st st1351 (by decide)
      replace hs := hs.loc0 st1351 (by decide)
      refine xd_take tab hk (k := 3) (is := [0, 1]) (ls' := #[true, true, false, false, false]) (lv := [.agg #[.slice A1128 (l1130).length c1129, .slice A1133 (l1135).length c1134], .agg #[.slice A40 (t35.Cells).length c41, .bool true]]) (ks := [0, 1, 5, 6, 7, 25, 26, 32, 33]) (e' := [(0, .int .i64 (bits .and .i64 p0 1023)), (1, .int .i64 (bits .and .i64 p1 7)), (5, .pointer (some ⟨bx18, 0, none⟩)), (6, .pointer (some ⟨bx47, 0, none⟩)), (7, .pointer (some ⟨bx58, 0, none⟩)), (25, .int .i64 (bits .and .i64 p1 7)), (26, .int .i64 x1138), (32, .agg #[.slice A1128 (l1130).length c1129, .slice A1133 (l1135).length c1134]), (33, .agg #[.slice A40 (t35.Cells).length c41, .bool true])]) (by kernel_rfl) rfl rfl (by kernel_rfl) (np_blk (np_then (np_then (np_blk (np_then np_body))))) ⟨f48.now, f59.now, trivial⟩ (fun W_ hS => ⟨(load_box tab rfl rfl hS.2.1 (k := 0) rfl rfl), (load_box tab rfl rfl hS.1 (k := 0) rfl rfl), trivial⟩) fun a hk => ?_
      refine xd_op hk (i := 2) (by kernel_rfl) rfl rfl ?_
      obtain ⟨t1355, hc1356, H⟩ := bindS H
      refine op_call hk ent_14 (vs := [.agg #[.slice A40 (t35.Cells).length c41, .bool true]]) rfl (tidewracklaw09_Told_calls K A40 c41 (⟨t35.Cells, true⟩ : T26) _ o1276 _ (f42.imp fun _ h_ => Own.rd h_) hc43 159  _ hc1356) ?_
      rintro _ w1357 ⟨o1358, A1360, c1361, rfl, st1359, f1362, hc1363⟩
      replace f1131 := f1131.st st1359 (by decide)
      replace f1136 := f1136.st st1359 (by decide)
      replace f1269 := f1269.st st1359 (by decide)
      replace f1278 := f1278.st st1359 (by decide)
      replace f1281 := f1281.st st1359 (by decide)
      replace f1285 := f1285.st st1359 (by decide)
      replace f1289 := f1289.st st1359 (by decide)
      replace f42 := f42.st st1359 (by decide)
      replace f48 := f48.st st1359 (by decide)
      replace f59 := f59.st st1359 (by decide)
      replace fg0 := fg0.st st1359 (by decide)
      replace fg1 := fg1.st st1359 (by decide)
      replace fg2 := fg2.st st1359 (by decide)
      replace hs := hs.loc0 st1359 (by decide)
      have hk := hk.put 34 (.agg #[.slice A1360 (t1355.L).length c1361, .bool t1355.Wrapped]) rfl
      refine ⟨.inr ⟨f48.now, f59.now, trivial⟩, ?_⟩
      refine xd_op hk (i := 3) (by kernel_rfl) rfl rfl ?_
      obtain ⟨t1367, hc1368, H⟩ := bindS H
      refine op_call hk ent_13 (vs := [.agg #[.slice A1128 (l1130).length c1129, .slice A1133 (l1135).length c1134], .agg #[.slice A1360 (t1355.L).length c1361, .bool t1355.Wrapped]]) rfl (tidewrackref12_Add_calls K A1128 c1129 A1133 c1134 (⟨l1130, l1135⟩ : T32) A1360 c1361 t1355 _ o1358 1 _ f1131.rd hc1132 f1136 hc1137 _ (f1362.imp fun _ h_ => Own.rd h_) hc1363 (by decide) (by decide) (by decide) 160  _ hc1368) ?_
      rintro _ w1369 ⟨o1370, A1372, c1373, A1376, c1377, rfl, st1371, f1374, hc1375, f1378, hc1379⟩
      replace f1131 := f1131.st st1371 (by decide)
      replace f1136 := f1136.st st1371 (by decide)
      replace f1278 := f1278.st st1371 (by decide)
      replace f1281 := f1281.st st1371 (by decide)
      replace f1285 := f1285.st st1371 (by decide)
      replace f1289 := f1289.st st1371 (by decide)
      replace f1362 := f1362.st st1371 (by decide)
      replace f42 := f42.st st1371 (by decide)
      replace f48 := f48.st st1371 (by decide)
      replace f59 := f59.st st1371 (by decide)
      replace fg0 := fg0.st st1371 (by decide)
      replace fg1 := fg1.st st1371 (by decide)
      replace fg2 := fg2.st st1371 (by decide)
      replace hs := hs.loc0 st1371 (by decide)
      have hk := hk.put 35 (.agg #[.slice A1372 (t1367.L).length c1373, .slice A1376 (t1367.Begun).length c1377]) rfl
      refine ⟨.inr ⟨f48.now, f59.now, trivial⟩, ?_⟩
      refine xd_op hk (i := 4) (by kernel_rfl) rfl rfl ?_
      refine op_store tab hk (t := 33) (v := .agg #[.slice A1372 (t1367.L).length c1373, .slice A1376 (t1367.Begun).length c1377]) (b := bx58) (k := 0) (cs' := [.slice A1372 (t1367.L).length c1373, .slice A1376 (t1367.Begun).length c1377]) rfl rfl rfl rfl rfl rfl f59 rfl rfl fun w1380 o1381 st1382 f59_ => ?_
      replace f1131 := f1131.st st1382 (by decide)
      replace f1136 := f1136.st st1382 (by decide)
      replace f1278 := f1278.st st1382 (by decide)
      replace f1281 := f1281.st st1382 (by decide)
      replace f1285 := f1285.st st1382 (by decide)
      replace f1289 := f1289.st st1382 (by decide)
      replace f1362 := f1362.st st1382 (by decide)
      replace f1374 := f1374.st st1382 (by decide)
      replace f1378 := f1378.st st1382 (by decide)
      replace f42 := f42.st st1382 (by decide)
      replace f48 := f48.st st1382 (by decide)
      replace fg0 := fg0.st st1382 (by decide)
      replace fg1 := fg1.st st1382 (by decide)
      replace fg2 := fg2.st st1382 (by decide)
      replace hs := hs.loc0 st1382 (by decide)
      replace f59 := f59_
      refine ⟨.inl (by kernel_rfl), ?_⟩
      refine xd_done (by kernel_rfl) ?_
      refine blk_n ?_
      refine then_n ?_
      refine wpIn_region_lit ?_
      refine x_run tab hk (k := 2) (lv := []) (ks := [0, 1, 5, 6, 7, 25, 26]) (e' := [(0, .int .i64 (bits .and .i64 p0 1023)), (1, .int .i64 (bits .and .i64 p1 7)), (5, .pointer (some ⟨bx18, 0, none⟩)), (6, .pointer (some ⟨bx47, 0, none⟩)), (7, .pointer (some ⟨bx58, 0, none⟩)), (25, .int .i64 (bits .and .i64 p1 7)), (26, .int .i64 (IntKind.wrap .i64 (x1138 + 1)))]) rfl trivial fun a hk => ?_
      refine wpListIn_nil ?_
      refine then_n ?_
      exact ⟨k1260, Nat.le_refl _, (fun b_ => (fun l_ => if l_ = 160 then 145 else l_) (o1381 b_)), A1279, c1280, t1273.2.l, A1283, c1284, t1273.2.chains, A1287, c1288, t1273.2.begun, A1372, c1373, t1367.L, A1376, c1377, t1367.Begun, (IntKind.wrap .i64 (x1138 + 1)), (by exact Kn.pick (ks := [0, 1, 5, 6, 7, 25, 26]) hk rfl), (hs.relab0 (fun l_ => if l_ = 160 then 145 else l_) rfl), (f1281.relab (fun l_ => if l_ = 160 then 145 else l_) rfl), (f1285.relab (fun l_ => if l_ = 160 then 145 else l_) rfl), (f1289.relab (fun l_ => if l_ = 160 then 145 else l_) rfl), (f1374.relab (fun l_ => if l_ = 160 then 145 else l_) rfl), (f1378.relab (fun l_ => if l_ = 160 then 145 else l_) rfl), (f1278.relab (fun l_ => if l_ = 160 then 145 else l_) rfl), (f42.relab (fun l_ => if l_ = 160 then 145 else l_) rfl), (f48.relab (fun l_ => if l_ = 160 then 145 else l_) rfl), (f59.relab (fun l_ => if l_ = 160 then 145 else l_) rfl), (fg0.relab (fun l_ => if l_ = 160 then 145 else l_) rfl), (fg1.relab (fun l_ => if l_ = 160 then 145 else l_) rfl), (fg2.relab (fun l_ => if l_ = 160 then 145 else l_) rfl), hc1282, hc1286, hc1290, hc1375, hc1379, (hlp1262 ▸ H)⟩
  · rw [b9] at hk H
    replace H := bifT H
    refine x_if hk (b := true) rfl ?_
    refine (show Code.wpIn _ _ _ _ _ _ _ from ?_)
    refine x_seq ?_
    refine wpIn_region_lit ?_
    refine x_run tab hk (k := 1) (lv := []) (ks := [4]) (e' := [(4, .bool false)]) rfl trivial fun a hk => ?_
    refine wpListIn_nil ?_
    refine then_n ?_
    refine wpIn_ret ?_
    refine then_r ?_
    obtain rfl := Option.some.inj H
    exact x_retG hk (rs := [.tmp 4]) (vs := [.bool false]) rfl ⟨rfl, trivial⟩ ⟨fun b_ => if b_ < w.heap.size then o b_ else (fun _ => 0) (o7 b_), rfl, hs.close0 o (fun _ => 0)⟩

/-! tidewrack/tidewracklaw12.BookBlanks -/
set_option maxHeartbeats 4000000 in
theorem tidewracklaw12_BookBlanks_calls (K : Nat) (p0 : Int) (p1 : Int) (p2 : Int) (w : World) (o : Nat → Nat) (Lg0 : Nat) (hg0 : Ft (RdC ET111 (some ⟨0, 0, none⟩) glob0) w o Lg0) (Lg1 : Nat) (hg1 : Ft (RdC ET111 (some ⟨1, 0, none⟩) glob1) w o Lg1) (Lg2 : Nat) (hg2 : Ft (RdC (encInt .u32) (some ⟨2, 0, none⟩) glob2) w o Lg2)   (r : Bool) (H : tidewracklaw12_BookBlanks K p0 p1 p2 = some r) :
    Calls Tryd.prog 5 #[.int .i64 p0, .int .i64 p1, .int .i64 p2] w (Ret fun v_ w' => ∃ o' : Nat → Nat, v_ = .bool r ∧ St [] w o w' o') := by
  refine x_enter (vs := [.int .i64 p0, .int .i64 p1, .int .i64 p2]) Tryd.func5 rfl rfl rfl fun a hk => ?_
  obtain ⟨o0, hs, h0⟩ := St.start w o
  have fg0 := h0 _ _ hg0
  have fg1 := h0 _ _ hg1
  have fg2 := h0 _ _ hg2
  clear h0
  rw [tidewracklaw12_BookBlanks] at H
  refine x_seq ?_
  refine wpIn_region_lit ?_
  refine x_run tab hk (k := 1) (lv := []) (ks := [0, 1, 2]) (e' := [(0, .int .i64 p0), (1, .int .i64 p1), (2, .int .i64 p2)]) rfl trivial fun a hk => ?_
  refine wpListIn_nil ?_
  refine then_n ?_
  refine x_seq ?_
  refine x_seq ?_
  refine wpIn_region_lit ?_
  refine x_op hk rfl ?_
  obtain ⟨t4, hc5, H⟩ := bindS H
  refine op_call hk ent_9 (vs := []) rfl (tidewracklaw12_awake_calls K  _ o0 0 fg0 0 fg1 0 fg2   _ hc5) ?_
  rintro _ w6 ⟨o7, rfl, st8⟩
  replace fg0 := fg0.st st8 (by decide)
  replace fg1 := fg1.st st8 (by decide)
  replace fg2 := fg2.st st8 (by decide)
  replace hs := hs.loc0 st8 (by decide)
  have hk := hk.put 12 (.bool t4) rfl
  refine x_run tab hk (k := 1) (lv := []) (ks := [0, 1, 2, 13]) (e' := [(0, .int .i64 p0), (1, .int .i64 p1), (2, .int .i64 p2), (13, .bool (!t4))]) rfl trivial fun a hk => ?_
  refine wpListIn_nil ?_
  refine then_n ?_
  cases b9 : (!t4)
  · rw [b9] at hk H
    replace H := bifF H
    refine x_if hk (b := false) rfl ?_
    refine (show Code.wpIn _ _ _ _ _ _ _ from ?_)
    refine wpIn_skip ?_
    refine then_n ?_
    refine x_seq ?_
    refine wpIn_region_lit ?_
    refine x_run tab hk (k := 9) (lv := []) (ks := [0, 1, 2]) (e' := [(0, .int .i64 (bits .and .i64 p0 31)), (1, .int .i64 (bits .and .i64 p1 63)), (2, .int .i64 (bits .and .i64 p2 3))]) rfl trivial fun a hk => ?_
    refine wpListIn_nil ?_
    refine then_n ?_
    refine x_seq ?_
    refine wpIn_region_lit ?_
    refine x_op hk rfl ?_
    obtain ⟨t13, hc14, H⟩ := bindS H
    refine op_call hk ent_10 (vs := []) rfl (book_New_calls  _ o7 1 (by decide) 2 3 4 5  _ hc14) ?_
    rintro _ w15 ⟨o16, bx18, A20, c21, A24, c25, A28, c29, rfl, st17, f19, f22, hc23, f26, hc27, f30, hc31⟩
    replace fg0 := fg0.st st17 (by decide)
    replace fg1 := fg1.st st17 (by decide)
    replace fg2 := fg2.st st17 (by decide)
    replace hs := hs.loc0 st17 (by decide)
    have hk := hk.put 20 (.pointer (some ⟨bx18, 0, none⟩)) rfl
    refine x_run tab hk (k := 1) (lv := []) (ks := [0, 1, 2, 7]) (e' := [(0, .int .i64 (bits .and .i64 p0 31)), (1, .int .i64 (bits .and .i64 p1 63)), (2, .int .i64 (bits .and .i64 p2 3)), (7, .pointer (some ⟨bx18, 0, none⟩))]) rfl trivial fun a hk => ?_
    refine wpListIn_nil ?_
    refine then_n ?_
    refine x_seq ?_
    refine x_seq ?_
    refine wpIn_region_lit ?_
    refine x_run tab hk (k := 2) (lv := []) (ks := [0, 1, 2, 7, 22]) (e' := [(0, .int .i64 (bits .and .i64 p0 31)), (1, .int .i64 (bits .and .i64 p1 63)), (2, .int .i64 (bits .and .i64 p2 3)), (7, .pointer (some ⟨bx18, 0, none⟩)), (22, .bool false)]) rfl trivial fun a hk => ?_
    refine wpListIn_nil ?_
    refine then_n ?_
    refine x_if hk (b := false) rfl ?_
    refine (show Code.wpIn _ _ _ _ _ _ _ from ?_)
    refine wpIn_skip ?_
    refine then_n ?_
    refine x_mid (fun a_ w_ => ∃ o232 : Nat → Nat, ∃ A233 : Option Addr, ∃ c234 : Nat, ∃ l235 : List (List T49), ∃ A238 : Option Addr, ∃ c239 : Nat, ∃ l240 : List Int, ∃ A243 : Option Addr, ∃ c244 : Nat, ∃ l245 : List T49, Kn 86 a_ [(0, .int .i64 (bits .and .i64 p0 31)), (1, .int .i64 (bits .and .i64 p1 63)), (2, .int .i64 (bits .and .i64 p2 3)), (7, .pointer (some ⟨bx18, 0, none⟩))] ∧ St [] w (fun _ => 0) w_ o232 ∧ Ft (Bx bx18 76 [.slice A233 (l235).length c234, .slice A238 (l240).length c239, .slice A243 (l245).length c244]) w_ o232 23 ∧ NOwn (dRows ET49) 40 A233 c234 l235 w_ o232 20 1 ∧ Ft (Own (encInt .i64) 3 (.slice A238 (l240).length c239) l240) w_ o232 21 ∧ Ft (Own ET49 50 (.slice A243 (l245).length c244) l245) w_ o232 22 ∧ Ft (RdC ET111 (some ⟨0, 0, none⟩) glob0) w_ o232 0 ∧ Ft (RdC ET111 (some ⟨1, 0, none⟩) glob1) w_ o232 0 ∧ Ft (RdC (encInt .u32) (some ⟨2, 0, none⟩) glob2) w_ o232 0 ∧ (l235).length ≤ c234 ∧ (l240).length ≤ c239 ∧ (l245).length ≤ c244 ∧ tidewracklaw12_BookBlanks_j1 K p0 p1 p2 l235 l240 l245 = some r) ?_ ?_
    rotate_left
    · rintro a w248 ⟨o232, A233, c234, l235, A238, c239, l240, A243, c244, l245, hk, hs, f19, f236, f241, f246, fg0, fg1, fg2, hc237, hc242, hc247, H⟩
      rw [tidewracklaw12_BookBlanks_j1] at H
      refine x_mid (fun a_ w_ => ∃ o321 : Nat → Nat, Kn 86 a_ [(0, .int .i64 (bits .and .i64 p0 31)), (7, .pointer (some ⟨bx18, 0, none⟩))] ∧ St [] w (fun _ => 0) w_ o321 ∧ Ft (Bx bx18 76 [.slice A233 (l235).length c234, .slice A238 (l240).length c239, .slice A243 (l245).length c244]) w_ o321 38 ∧ NOwn (dRows ET49) 40 A233 c234 l235 w_ o321 35 1 ∧ Ft (Own (encInt .i64) 3 (.slice A238 (l240).length c239) l240) w_ o321 36 ∧ Ft (Own ET49 50 (.slice A243 (l245).length c244) l245) w_ o321 37 ∧ Ft (RdC ET111 (some ⟨0, 0, none⟩) glob0) w_ o321 0 ∧ Ft (RdC ET111 (some ⟨1, 0, none⟩) glob1) w_ o321 0 ∧ Ft (RdC (encInt .u32) (some ⟨2, 0, none⟩) glob2) w_ o321 0 ∧ tidewracklaw12_BookBlanks_j2 p0 l235 l240 l245 = some r) ?_ ?_
      rotate_left
      · rintro a w322 ⟨o321, hk, hs, f19, f236, f241, f246, fg0, fg1, fg2, H⟩
        rw [tidewracklaw12_BookBlanks_j2] at H
        refine x_seq ?_
        refine wpIn_region_lit ?_
        refine x_run tab hk (k := 1) (lv := []) (ks := [0, 7, 74]) (e' := [(0, .int .i64 (bits .and .i64 p0 31)), (7, .pointer (some ⟨bx18, 0, none⟩)), (74, .pointer (some ⟨bx18, 0, none⟩))]) rfl trivial fun a hk => ?_
        refine x_op hk rfl ?_
        obtain ⟨t326, hc327, H⟩ := bindS H
        refine op_call hk ent_15 (vs := [.pointer (some ⟨bx18, 0, none⟩)]) rfl (book_Book_Begun_calls bx18 A233 c234 A238 c239 A243 c244 (⟨l235, l240, l245⟩ : T75) _ o321 1 38 f19 _ f236.rd hc237 _ (f241.imp fun _ h_ => Own.rd h_) hc242 _ (f246.imp fun _ h_ => Own.rd h_) hc247 (by decide) (by decide) (by decide) (by decide) (by decide) 39  _ hc327) ?_
        rintro _ w328 ⟨o329, A331, c332, rfl, st330, f333, hc334⟩
        replace f19 := f19.st st330 (by decide)
        replace f236 := f236.st st330 (by decide)
        replace f241 := f241.st st330 (by decide)
        replace f246 := f246.st st330 (by decide)
        replace fg0 := fg0.st st330 (by decide)
        replace fg1 := fg1.st st330 (by decide)
        replace fg2 := fg2.st st330 (by decide)
        replace hs := hs.loc0 st330 (by decide)
        have hk := hk.put 75 (.slice A331 (t326).length c332) rfl
        refine x_run tab hk (k := 3) (lv := []) (ks := [0, 7, 78]) (e' := [(0, .int .i64 (bits .and .i64 p0 31)), (7, .pointer (some ⟨bx18, 0, none⟩)), (78, .bool (((t326).length : Int) == (0 : Int)))]) rfl trivial fun a hk => ?_
        cases b335 : (((t326).length : Int) == (0 : Int))
        · rw [b335] at hk H
          replace H := bifF H
          refine x_run tab hk (k := 8) (lv := []) (ks := [6]) (e' := [(6, .bool false)]) rfl trivial fun a hk => ?_
          refine wpListIn_nil ?_
          refine then_n ?_
          refine wpIn_ret ?_
          obtain rfl := Option.some.inj H
          exact x_retG hk (rs := [.tmp 6]) (vs := [.bool false]) rfl ⟨rfl, trivial⟩ ⟨fun b_ => if b_ < w.heap.size then o b_ else (fun _ => 0) (o329 b_), rfl, hs.close0 o (fun _ => 0)⟩
        · rw [b335] at hk H
          replace H := bifT H
          refine x_run tab hk (k := 3) (lv := []) (ks := [78, 80, 81]) (e' := [(78, .bool true), (80, .bool ((bits .and .i64 p0 31) == (0 : Int))), (81, .pointer (some ⟨bx18, 0, none⟩))]) rfl trivial fun a hk => ?_
          refine x_op hk rfl ?_
          obtain ⟨t339, hc340, H⟩ := bindS H
          refine op_call hk ent_16 (vs := [.pointer (some ⟨bx18, 0, none⟩)]) rfl (book_Book_Len_calls bx18 A233 c234 A238 c239 A243 c244 (⟨l235, l240, l245⟩ : T75) _ o329 1 38 f19 _ f236.rd hc237 _ (f241.imp fun _ h_ => Own.rd h_) hc242 _ (f246.imp fun _ h_ => Own.rd h_) hc247 (by decide) (by decide) (by decide) (by decide) (by decide)   _ hc340) ?_
          rintro _ w341 ⟨o342, rfl, st343⟩
          replace f19 := f19.st st343 (by decide)
          replace f236 := f236.st st343 (by decide)
          replace f241 := f241.st st343 (by decide)
          replace f246 := f246.st st343 (by decide)
          replace fg0 := fg0.st st343 (by decide)
          replace fg1 := fg1.st st343 (by decide)
          replace fg2 := fg2.st st343 (by decide)
          replace hs := hs.loc0 st343 (by decide)
          have hk := hk.put 82 (.int .i64 t339) rfl
          refine x_run tab hk (k := 4) (lv := []) (ks := [6]) (e' := [(6, .bool (((bits .and .i64 p0 31) == (0 : Int)) == (t339 == (0 : Int))))]) rfl trivial fun a hk => ?_
          refine wpListIn_nil ?_
          refine then_n ?_
          refine wpIn_ret ?_
          obtain rfl := Option.some.inj H
          exact x_retG hk (rs := [.tmp 6]) (vs := [.bool (((bits .and .i64 p0 31) == (0 : Int)) == (t339 == (0 : Int)))]) rfl ⟨rfl, trivial⟩ ⟨fun b_ => if b_ < w.heap.size then o b_ else (fun _ => 0) (o342 b_), rfl, hs.close0 o (fun _ => 0)⟩
      refine x_seq ?_
      refine wpIn_region_lit ?_
      refine x_run tab hk (k := 2) (lv := []) (ks := [0, 1, 2, 7, 42, 43]) (e' := [(0, .int .i64 (bits .and .i64 p0 31)), (1, .int .i64 (bits .and .i64 p1 63)), (2, .int .i64 (bits .and .i64 p2 3)), (7, .pointer (some ⟨bx18, 0, none⟩)), (42, .int .i64 (bits .and .i64 p0 31)), (43, .int .i64 0)]) rfl trivial fun a hk => ?_
      refine wpListIn_nil ?_
      refine then_n ?_
      refine wpIn_block ?_
      refine x_loop (fun j_ a_ w_ => ∃ o367 : Nat → Nat, ∃ x368 : Int, Kn 86 a_ [(0, .int .i64 (bits .and .i64 p0 31)), (1, .int .i64 (bits .and .i64 p1 63)), (2, .int .i64 (bits .and .i64 p2 3)), (7, .pointer (some ⟨bx18, 0, none⟩)), (42, .int .i64 (bits .and .i64 p0 31)), (43, .int .i64 x368)] ∧ St [] w (fun _ => 0) w_ o367 ∧ Ft (Bx bx18 76 [.slice A233 (l235).length c234, .slice A238 (l240).length c239, .slice A243 (l245).length c244]) w_ o367 48 ∧ NOwn (dRows ET49) 40 A233 c234 l235 w_ o367 45 1 ∧ Ft (Own (encInt .i64) 3 (.slice A238 (l240).length c239) l240) w_ o367 46 ∧ Ft (Own ET49 50 (.slice A243 (l245).length c244) l245) w_ o367 47 ∧ Ft (RdC ET111 (some ⟨0, 0, none⟩) glob0) w_ o367 0 ∧ Ft (RdC ET111 (some ⟨1, 0, none⟩) glob1) w_ o367 0 ∧ Ft (RdC (encInt .u32) (some ⟨2, 0, none⟩) glob2) w_ o367 0 ∧ tidewracklaw12_BookBlanks_l3 p0 p1 p2 l235 l240 l245 j_ x368 = some r) (k := K) ⟨(fun b_ => (fun l_ => if l_ = 20 then 45 else if l_ = 21 then 46 else if l_ = 22 then 47 else if l_ = 23 then 48 else l_) (o232 b_)), 0, (by exact Kn.pick (ks := [0, 1, 2, 7, 42, 43]) hk rfl), (hs.relab0 (fun l_ => if l_ = 20 then 45 else if l_ = 21 then 46 else if l_ = 22 then 47 else if l_ = 23 then 48 else l_) rfl), (f19.relab (fun l_ => if l_ = 20 then 45 else if l_ = 21 then 46 else if l_ = 22 then 47 else if l_ = 23 then 48 else l_) rfl), (f236.relab (fun l_ => if l_ = 20 then 45 else if l_ = 21 then 46 else if l_ = 22 then 47 else if l_ = 23 then 48 else l_) rfl), (f241.relab (fun l_ => if l_ = 20 then 45 else if l_ = 21 then 46 else if l_ = 22 then 47 else if l_ = 23 then 48 else l_) rfl), (f246.relab (fun l_ => if l_ = 20 then 45 else if l_ = 21 then 46 else if l_ = 22 then 47 else if l_ = 23 then 48 else l_) rfl), (fg0.relab (fun l_ => if l_ = 20 then 45 else if l_ = 21 then 46 else if l_ = 22 then 47 else if l_ = 23 then 48 else l_) rfl), (fg1.relab (fun l_ => if l_ = 20 then 45 else if l_ = 21 then 46 else if l_ = 22 then 47 else if l_ = 23 then 48 else l_) rfl), (fg2.relab (fun l_ => if l_ = 20 then 45 else if l_ = 21 then 46 else if l_ = 22 then 47 else if l_ = 23 then 48 else l_) rfl), H⟩ (by rintro _ _ ⟨_, _, _, _, _, _, _, _, _, _, _, H_⟩; exact absurd (show (none : Option Bool) = some r from H_) (by simp)) ?_
      rintro k390 a w389 ⟨o367, x368, hk, hs, f19, f236, f241, f246, fg0, fg1, fg2, H⟩
      rw [tidewracklaw12_BookBlanks_l3] at H
      obtain ⟨lp391, hlp392⟩ : ∃ lp_, lp_ = tidewracklaw12_BookBlanks_l3 p0 p1 p2 l235 l240 l245 k390 := ⟨_, rfl⟩
      rw [← hlp392] at H
      refine x_seq ?_
      refine wpIn_region_lit ?_
      refine x_run tab hk (k := 1) (lv := []) (ks := [0, 1, 2, 7, 42, 43, 44]) (e' := [(0, .int .i64 (bits .and .i64 p0 31)), (1, .int .i64 (bits .and .i64 p1 63)), (2, .int .i64 (bits .and .i64 p2 3)), (7, .pointer (some ⟨bx18, 0, none⟩)), (42, .int .i64 (bits .and .i64 p0 31)), (43, .int .i64 x368), (44, .bool (decide (x368 < (bits .and .i64 p0 31))))]) rfl trivial fun a hk => ?_
      refine wpListIn_nil ?_
      refine then_n ?_
      refine x_seq ?_
      cases b393 : (decide (x368 < (bits .and .i64 p0 31)))
      · rw [b393] at hk H
        replace H := bifF H
        refine x_if hk (b := false) rfl ?_
        refine (show Code.wpIn _ _ _ _ _ _ _ from ?_)
        refine wpIn_exit ?_
        refine then_x ?_
        refine then_x ?_
        refine blk_x ?_
        refine then_n ?_
        exact ⟨(fun b_ => (fun l_ => if l_ = 45 then 35 else if l_ = 46 then 36 else if l_ = 47 then 37 else if l_ = 48 then 38 else l_) (o367 b_)), (by exact Kn.pick (ks := [0, 7]) hk rfl), (hs.relab0 (fun l_ => if l_ = 45 then 35 else if l_ = 46 then 36 else if l_ = 47 then 37 else if l_ = 48 then 38 else l_) rfl), (f19.relab (fun l_ => if l_ = 45 then 35 else if l_ = 46 then 36 else if l_ = 47 then 37 else if l_ = 48 then 38 else l_) rfl), (f236.relab (fun l_ => if l_ = 45 then 35 else if l_ = 46 then 36 else if l_ = 47 then 37 else if l_ = 48 then 38 else l_) rfl), (f241.relab (fun l_ => if l_ = 45 then 35 else if l_ = 46 then 36 else if l_ = 47 then 37 else if l_ = 48 then 38 else l_) rfl), (f246.relab (fun l_ => if l_ = 45 then 35 else if l_ = 46 then 36 else if l_ = 47 then 37 else if l_ = 48 then 38 else l_) rfl), (fg0.relab (fun l_ => if l_ = 45 then 35 else if l_ = 46 then 36 else if l_ = 47 then 37 else if l_ = 48 then 38 else l_) rfl), (fg1.relab (fun l_ => if l_ = 45 then 35 else if l_ = 46 then 36 else if l_ = 47 then 37 else if l_ = 48 then 38 else l_) rfl), (fg2.relab (fun l_ => if l_ = 45 then 35 else if l_ = 46 then 36 else if l_ = 47 then 37 else if l_ = 48 then 38 else l_) rfl), H⟩
      · rw [b393] at hk H
        replace H := bifT H
        refine x_if hk (b := true) rfl ?_
        refine (show Code.wpIn _ _ _ _ _ _ _ from ?_)
        refine wpIn_skip ?_
        refine then_n ?_
        refine x_seq ?_
        refine wpIn_block ?_
        refine x_seq ?_
        refine wpIn_region_lit ?_
        refine x_run tab hk (k := 2) (lv := []) (ks := [0, 1, 2, 7, 9, 42, 43]) (e' := [(0, .int .i64 (bits .and .i64 p0 31)), (1, .int .i64 (bits .and .i64 p1 63)), (2, .int .i64 (bits .and .i64 p2 3)), (7, .pointer (some ⟨bx18, 0, none⟩)), (9, .int .i64 x368), (42, .int .i64 (bits .and .i64 p0 31)), (43, .int .i64 x368)]) rfl trivial fun a hk => ?_
        refine wpListIn_nil ?_
        refine then_n ?_
        refine x_seq ?_
        refine wpIn_region_lit ?_
        refine x_run tab hk (k := 2) (lv := []) (ks := [0, 1, 2, 7, 42, 43, 47, 48]) (e' := [(0, .int .i64 (bits .and .i64 p0 31)), (1, .int .i64 (bits .and .i64 p1 63)), (2, .int .i64 (bits .and .i64 p2 3)), (7, .pointer (some ⟨bx18, 0, none⟩)), (42, .int .i64 (bits .and .i64 p0 31)), (43, .int .i64 x368), (47, .pointer (some ⟨bx18, 0, none⟩)), (48, .int .i64 x368)]) rfl trivial fun a hk => ?_
        refine x_op hk rfl ?_
        obtain ⟨t397, hc398, H⟩ := bindS H
        refine op_call hk ent_17 (vs := [.pointer (some ⟨bx18, 0, none⟩), .int .i64 x368]) rfl (book_Book_Line_calls bx18 A233 c234 A238 c239 A243 c244 (⟨l235, l240, l245⟩ : T75) x368 _ o367 1 48 f19 _ f236.rd hc237 _ (f241.imp fun _ h_ => Own.rd h_) hc242 _ (f246.imp fun _ h_ => Own.rd h_) hc247 (by decide) (by decide) (by decide) (by decide) (by decide) 50  _ hc398) ?_
        rintro _ w399 ⟨o400, A402, c403, rfl, st401, f404, hc405⟩
        replace f19 := f19.st st401 (by decide)
        replace f236 := f236.st st401 (by decide)
        replace f241 := f241.st st401 (by decide)
        replace f246 := f246.st st401 (by decide)
        replace fg0 := fg0.st st401 (by decide)
        replace fg1 := fg1.st st401 (by decide)
        replace fg2 := fg2.st st401 (by decide)
        replace hs := hs.loc0 st401 (by decide)
        have hk := hk.put 49 (.tuple #[.slice A402 (t397.1).length c403, .bool t397.2]) rfl
        refine x_run tab hk (k := 5) (lv := []) (ks := [0, 1, 2, 7, 10, 11, 42, 43]) (e' := [(0, .int .i64 (bits .and .i64 p0 31)), (1, .int .i64 (bits .and .i64 p1 63)), (2, .int .i64 (bits .and .i64 p2 3)), (7, .pointer (some ⟨bx18, 0, none⟩)), (10, .slice A402 (t397.1).length c403), (11, .bool t397.2), (42, .int .i64 (bits .and .i64 p0 31)), (43, .int .i64 x368)]) rfl trivial fun a hk => ?_
        refine wpListIn_nil ?_
        refine then_n ?_
        refine x_seq ?_
        refine wpIn_region_lit ?_
        refine x_run tab hk (k := 3) (lv := []) (ks := [0, 1, 2, 7, 10, 42, 43, 54]) (e' := [(0, .int .i64 (bits .and .i64 p0 31)), (1, .int .i64 (bits .and .i64 p1 63)), (2, .int .i64 (bits .and .i64 p2 3)), (7, .pointer (some ⟨bx18, 0, none⟩)), (10, .slice A402 (t397.1).length c403), (42, .int .i64 (bits .and .i64 p0 31)), (43, .int .i64 x368), (54, .bool (!t397.2))]) rfl trivial fun a hk => ?_
        cases b406 : (!t397.2)
        · rw [b406] at hk H
          replace H := bifF H
          refine x_run tab hk (k := 3) (lv := []) (ks := [0, 1, 2, 7, 10, 42, 43, 54, 57]) (e' := [(0, .int .i64 (bits .and .i64 p0 31)), (1, .int .i64 (bits .and .i64 p1 63)), (2, .int .i64 (bits .and .i64 p2 3)), (7, .pointer (some ⟨bx18, 0, none⟩)), (10, .slice A402 (t397.1).length c403), (42, .int .i64 (bits .and .i64 p0 31)), (43, .int .i64 x368), (54, .bool false), (57, .bool ((bits .and .i64 p2 3) == (0 : Int)))]) rfl trivial fun a hk => ?_
          cases b407 : ((bits .and .i64 p2 3) == (0 : Int))
          · rw [b407] at hk H
            replace H := bifF H
            refine x_run tab hk (k := 9) (lv := []) (ks := [0, 1, 2, 7, 10, 42, 43, 63, 66]) (e' := [(0, .int .i64 (bits .and .i64 p0 31)), (1, .int .i64 (bits .and .i64 p1 63)), (2, .int .i64 (bits .and .i64 p2 3)), (7, .pointer (some ⟨bx18, 0, none⟩)), (10, .slice A402 (t397.1).length c403), (42, .int .i64 (bits .and .i64 p0 31)), (43, .int .i64 x368), (63, .bool false), (66, .bool ((bits .and .i64 p2 3) != (0 : Int)))]) rfl trivial fun a hk => ?_
            cases b408 : ((bits .and .i64 p2 3) != (0 : Int))
            · rw [b408] at hk H
              replace H := bifF H
              refine x_run tab hk (k := 6) (lv := []) (ks := [0, 1, 2, 7, 42, 43, 72]) (e' := [(0, .int .i64 (bits .and .i64 p0 31)), (1, .int .i64 (bits .and .i64 p1 63)), (2, .int .i64 (bits .and .i64 p2 3)), (7, .pointer (some ⟨bx18, 0, none⟩)), (42, .int .i64 (bits .and .i64 p0 31)), (43, .int .i64 x368), (72, .bool false)]) rfl trivial fun a hk => ?_
              refine wpListIn_nil ?_
              refine then_n ?_
              refine x_if hk (b := false) rfl ?_
              refine (show Code.wpIn _ _ _ _ _ _ _ from ?_)
              refine wpIn_skip ?_
              refine blk_n ?_
              refine then_n ?_
              refine wpIn_region_lit ?_
              refine x_run tab hk (k := 2) (lv := []) (ks := [0, 1, 2, 7, 42, 43]) (e' := [(0, .int .i64 (bits .and .i64 p0 31)), (1, .int .i64 (bits .and .i64 p1 63)), (2, .int .i64 (bits .and .i64 p2 3)), (7, .pointer (some ⟨bx18, 0, none⟩)), (42, .int .i64 (bits .and .i64 p0 31)), (43, .int .i64 (IntKind.wrap .i64 (x368 + 1)))]) rfl trivial fun a hk => ?_
              refine wpListIn_nil ?_
              refine then_n ?_
              exact ⟨k390, Nat.le_refl _, o400, (IntKind.wrap .i64 (x368 + 1)), (by exact Kn.pick (ks := [0, 1, 2, 7, 42, 43]) hk rfl), hs, f19, f236, f241, f246, fg0, fg1, fg2, (hlp392 ▸ H)⟩
            · rw [b408] at hk H
              replace H := bifT H
              refine x_run tab hk (k := 6) (lv := []) (ks := [0, 1, 2, 7, 42, 43, 72]) (e' := [(0, .int .i64 (bits .and .i64 p0 31)), (1, .int .i64 (bits .and .i64 p1 63)), (2, .int .i64 (bits .and .i64 p2 3)), (7, .pointer (some ⟨bx18, 0, none⟩)), (42, .int .i64 (bits .and .i64 p0 31)), (43, .int .i64 x368), (72, .bool (((t397.1).length : Int) != (bits .and .i64 p1 63)))]) rfl trivial fun a hk => ?_
              refine wpListIn_nil ?_
              refine then_n ?_
              cases b409 : (((t397.1).length : Int) != (bits .and .i64 p1 63))
              · rw [b409] at hk H
                replace H := bifF H
                refine x_if hk (b := false) rfl ?_
                refine (show Code.wpIn _ _ _ _ _ _ _ from ?_)
                refine wpIn_skip ?_
                refine blk_n ?_
                refine then_n ?_
                refine wpIn_region_lit ?_
                refine x_run tab hk (k := 2) (lv := []) (ks := [0, 1, 2, 7, 42, 43]) (e' := [(0, .int .i64 (bits .and .i64 p0 31)), (1, .int .i64 (bits .and .i64 p1 63)), (2, .int .i64 (bits .and .i64 p2 3)), (7, .pointer (some ⟨bx18, 0, none⟩)), (42, .int .i64 (bits .and .i64 p0 31)), (43, .int .i64 (IntKind.wrap .i64 (x368 + 1)))]) rfl trivial fun a hk => ?_
                refine wpListIn_nil ?_
                refine then_n ?_
                exact ⟨k390, Nat.le_refl _, o400, (IntKind.wrap .i64 (x368 + 1)), (by exact Kn.pick (ks := [0, 1, 2, 7, 42, 43]) hk rfl), hs, f19, f236, f241, f246, fg0, fg1, fg2, (hlp392 ▸ H)⟩
              · rw [b409] at hk H
                replace H := bifT H
                refine x_if hk (b := true) rfl ?_
                refine (show Code.wpIn _ _ _ _ _ _ _ from ?_)
                refine x_seq ?_
                refine wpIn_region_lit ?_
                refine x_run tab hk (k := 1) (lv := []) (ks := [6]) (e' := [(6, .bool false)]) rfl trivial fun a hk => ?_
                refine wpListIn_nil ?_
                refine then_n ?_
                refine wpIn_ret ?_
                refine blk_r ?_
                refine then_r ?_
                refine then_r ?_
                refine blk_r ?_
                refine then_r ?_
                obtain rfl := Option.some.inj H
                exact x_retG hk (rs := [.tmp 6]) (vs := [.bool false]) rfl ⟨rfl, trivial⟩ ⟨fun b_ => if b_ < w.heap.size then o b_ else (fun _ => 0) (o400 b_), rfl, hs.close0 o (fun _ => 0)⟩
          · rw [b407] at hk H
            replace H := bifT H
            refine x_run tab hk (k := 6) (lv := []) (ks := [0, 1, 2, 7, 10, 42, 43, 63]) (e' := [(0, .int .i64 (bits .and .i64 p0 31)), (1, .int .i64 (bits .and .i64 p1 63)), (2, .int .i64 (bits .and .i64 p2 3)), (7, .pointer (some ⟨bx18, 0, none⟩)), (10, .slice A402 (t397.1).length c403), (42, .int .i64 (bits .and .i64 p0 31)), (43, .int .i64 x368), (63, .bool (((t397.1).length : Int) != (0 : Int)))]) rfl trivial fun a hk => ?_
            cases b410 : (((t397.1).length : Int) != (0 : Int))
            · rw [b410] at hk H
              replace H := bifF H
              refine x_run tab hk (k := 3) (lv := []) (ks := [0, 1, 2, 7, 10, 42, 43, 63, 66]) (e' := [(0, .int .i64 (bits .and .i64 p0 31)), (1, .int .i64 (bits .and .i64 p1 63)), (2, .int .i64 (bits .and .i64 p2 3)), (7, .pointer (some ⟨bx18, 0, none⟩)), (10, .slice A402 (t397.1).length c403), (42, .int .i64 (bits .and .i64 p0 31)), (43, .int .i64 x368), (63, .bool false), (66, .bool ((bits .and .i64 p2 3) != (0 : Int)))]) rfl trivial fun a hk => ?_
              cases b411 : ((bits .and .i64 p2 3) != (0 : Int))
              · rw [b411] at hk H
                replace H := bifF H
                refine x_run tab hk (k := 6) (lv := []) (ks := [0, 1, 2, 7, 42, 43, 72]) (e' := [(0, .int .i64 (bits .and .i64 p0 31)), (1, .int .i64 (bits .and .i64 p1 63)), (2, .int .i64 (bits .and .i64 p2 3)), (7, .pointer (some ⟨bx18, 0, none⟩)), (42, .int .i64 (bits .and .i64 p0 31)), (43, .int .i64 x368), (72, .bool false)]) rfl trivial fun a hk => ?_
                refine wpListIn_nil ?_
                refine then_n ?_
                refine x_if hk (b := false) rfl ?_
                refine (show Code.wpIn _ _ _ _ _ _ _ from ?_)
                refine wpIn_skip ?_
                refine blk_n ?_
                refine then_n ?_
                refine wpIn_region_lit ?_
                refine x_run tab hk (k := 2) (lv := []) (ks := [0, 1, 2, 7, 42, 43]) (e' := [(0, .int .i64 (bits .and .i64 p0 31)), (1, .int .i64 (bits .and .i64 p1 63)), (2, .int .i64 (bits .and .i64 p2 3)), (7, .pointer (some ⟨bx18, 0, none⟩)), (42, .int .i64 (bits .and .i64 p0 31)), (43, .int .i64 (IntKind.wrap .i64 (x368 + 1)))]) rfl trivial fun a hk => ?_
                refine wpListIn_nil ?_
                refine then_n ?_
                exact ⟨k390, Nat.le_refl _, o400, (IntKind.wrap .i64 (x368 + 1)), (by exact Kn.pick (ks := [0, 1, 2, 7, 42, 43]) hk rfl), hs, f19, f236, f241, f246, fg0, fg1, fg2, (hlp392 ▸ H)⟩
              · rw [b411] at hk H
                replace H := bifT H
                refine x_run tab hk (k := 6) (lv := []) (ks := [0, 1, 2, 7, 42, 43, 72]) (e' := [(0, .int .i64 (bits .and .i64 p0 31)), (1, .int .i64 (bits .and .i64 p1 63)), (2, .int .i64 (bits .and .i64 p2 3)), (7, .pointer (some ⟨bx18, 0, none⟩)), (42, .int .i64 (bits .and .i64 p0 31)), (43, .int .i64 x368), (72, .bool (((t397.1).length : Int) != (bits .and .i64 p1 63)))]) rfl trivial fun a hk => ?_
                refine wpListIn_nil ?_
                refine then_n ?_
                cases b412 : (((t397.1).length : Int) != (bits .and .i64 p1 63))
                · rw [b412] at hk H
                  replace H := bifF H
                  refine x_if hk (b := false) rfl ?_
                  refine (show Code.wpIn _ _ _ _ _ _ _ from ?_)
                  refine wpIn_skip ?_
                  refine blk_n ?_
                  refine then_n ?_
                  refine wpIn_region_lit ?_
                  refine x_run tab hk (k := 2) (lv := []) (ks := [0, 1, 2, 7, 42, 43]) (e' := [(0, .int .i64 (bits .and .i64 p0 31)), (1, .int .i64 (bits .and .i64 p1 63)), (2, .int .i64 (bits .and .i64 p2 3)), (7, .pointer (some ⟨bx18, 0, none⟩)), (42, .int .i64 (bits .and .i64 p0 31)), (43, .int .i64 (IntKind.wrap .i64 (x368 + 1)))]) rfl trivial fun a hk => ?_
                  refine wpListIn_nil ?_
                  refine then_n ?_
                  exact ⟨k390, Nat.le_refl _, o400, (IntKind.wrap .i64 (x368 + 1)), (by exact Kn.pick (ks := [0, 1, 2, 7, 42, 43]) hk rfl), hs, f19, f236, f241, f246, fg0, fg1, fg2, (hlp392 ▸ H)⟩
                · rw [b412] at hk H
                  replace H := bifT H
                  refine x_if hk (b := true) rfl ?_
                  refine (show Code.wpIn _ _ _ _ _ _ _ from ?_)
                  refine x_seq ?_
                  refine wpIn_region_lit ?_
                  refine x_run tab hk (k := 1) (lv := []) (ks := [6]) (e' := [(6, .bool false)]) rfl trivial fun a hk => ?_
                  refine wpListIn_nil ?_
                  refine then_n ?_
                  refine wpIn_ret ?_
                  refine blk_r ?_
                  refine then_r ?_
                  refine then_r ?_
                  refine blk_r ?_
                  refine then_r ?_
                  obtain rfl := Option.some.inj H
                  exact x_retG hk (rs := [.tmp 6]) (vs := [.bool false]) rfl ⟨rfl, trivial⟩ ⟨fun b_ => if b_ < w.heap.size then o b_ else (fun _ => 0) (o400 b_), rfl, hs.close0 o (fun _ => 0)⟩
            · rw [b410] at hk H
              replace H := bifT H
              refine x_run tab hk (k := 9) (lv := []) (ks := [0, 1, 2, 7, 42, 43, 72]) (e' := [(0, .int .i64 (bits .and .i64 p0 31)), (1, .int .i64 (bits .and .i64 p1 63)), (2, .int .i64 (bits .and .i64 p2 3)), (7, .pointer (some ⟨bx18, 0, none⟩)), (42, .int .i64 (bits .and .i64 p0 31)), (43, .int .i64 x368), (72, .bool true)]) rfl trivial fun a hk => ?_
              refine wpListIn_nil ?_
              refine then_n ?_
              refine x_if hk (b := true) rfl ?_
              refine (show Code.wpIn _ _ _ _ _ _ _ from ?_)
              refine x_seq ?_
              refine wpIn_region_lit ?_
              refine x_run tab hk (k := 1) (lv := []) (ks := [6]) (e' := [(6, .bool false)]) rfl trivial fun a hk => ?_
              refine wpListIn_nil ?_
              refine then_n ?_
              refine wpIn_ret ?_
              refine blk_r ?_
              refine then_r ?_
              refine then_r ?_
              refine blk_r ?_
              refine then_r ?_
              obtain rfl := Option.some.inj H
              exact x_retG hk (rs := [.tmp 6]) (vs := [.bool false]) rfl ⟨rfl, trivial⟩ ⟨fun b_ => if b_ < w.heap.size then o b_ else (fun _ => 0) (o400 b_), rfl, hs.close0 o (fun _ => 0)⟩
        · rw [b406] at hk H
          replace H := bifT H
          refine x_run tab hk (k := 17) (lv := []) (ks := [0, 1, 2, 7, 42, 43, 63, 71]) (e' := [(0, .int .i64 (bits .and .i64 p0 31)), (1, .int .i64 (bits .and .i64 p1 63)), (2, .int .i64 (bits .and .i64 p2 3)), (7, .pointer (some ⟨bx18, 0, none⟩)), (42, .int .i64 (bits .and .i64 p0 31)), (43, .int .i64 x368), (63, .bool true), (71, undef)]) rfl trivial fun a hk => ?_
          refine x_run tab hk (k := 1) (lv := []) (ks := [0, 1, 2, 7, 42, 43, 72]) (e' := [(0, .int .i64 (bits .and .i64 p0 31)), (1, .int .i64 (bits .and .i64 p1 63)), (2, .int .i64 (bits .and .i64 p2 3)), (7, .pointer (some ⟨bx18, 0, none⟩)), (42, .int .i64 (bits .and .i64 p0 31)), (43, .int .i64 x368), (72, .bool true)]) rfl trivial fun a hk => ?_
          refine wpListIn_nil ?_
          refine then_n ?_
          refine x_if hk (b := true) rfl ?_
          refine (show Code.wpIn _ _ _ _ _ _ _ from ?_)
          refine x_seq ?_
          refine wpIn_region_lit ?_
          refine x_run tab hk (k := 1) (lv := []) (ks := [6]) (e' := [(6, .bool false)]) rfl trivial fun a hk => ?_
          refine wpListIn_nil ?_
          refine then_n ?_
          refine wpIn_ret ?_
          refine blk_r ?_
          refine then_r ?_
          refine then_r ?_
          refine blk_r ?_
          refine then_r ?_
          obtain rfl := Option.some.inj H
          exact x_retG hk (rs := [.tmp 6]) (vs := [.bool false]) rfl ⟨rfl, trivial⟩ ⟨fun b_ => if b_ < w.heap.size then o b_ else (fun _ => 0) (o400 b_), rfl, hs.close0 o (fun _ => 0)⟩
    refine x_seq ?_
    refine wpIn_region_lit ?_
    refine x_run tab hk (k := 2) (lv := []) (ks := [0, 1, 2, 7, 23, 24]) (e' := [(0, .int .i64 (bits .and .i64 p0 31)), (1, .int .i64 (bits .and .i64 p1 63)), (2, .int .i64 (bits .and .i64 p2 3)), (7, .pointer (some ⟨bx18, 0, none⟩)), (23, .int .i64 (bits .and .i64 p0 31)), (24, .int .i64 0)]) rfl trivial fun a hk => ?_
    refine wpListIn_nil ?_
    refine then_n ?_
    refine wpIn_block ?_
    refine x_loop (fun j_ a_ w_ => ∃ o468 : Nat → Nat, ∃ A469 : Option Addr, ∃ c470 : Nat, ∃ l471 : List (List T49), ∃ A474 : Option Addr, ∃ c475 : Nat, ∃ l476 : List Int, ∃ A479 : Option Addr, ∃ c480 : Nat, ∃ l481 : List T49, ∃ x484 : Int, Kn 86 a_ [(0, .int .i64 (bits .and .i64 p0 31)), (1, .int .i64 (bits .and .i64 p1 63)), (2, .int .i64 (bits .and .i64 p2 3)), (7, .pointer (some ⟨bx18, 0, none⟩)), (23, .int .i64 (bits .and .i64 p0 31)), (24, .int .i64 x484)] ∧ St [] w (fun _ => 0) w_ o468 ∧ Ft (Bx bx18 76 [.slice A469 (l471).length c470, .slice A474 (l476).length c475, .slice A479 (l481).length c480]) w_ o468 60 ∧ NOwn (dRows ET49) 40 A469 c470 l471 w_ o468 57 1 ∧ Ft (Own (encInt .i64) 3 (.slice A474 (l476).length c475) l476) w_ o468 58 ∧ Ft (Own ET49 50 (.slice A479 (l481).length c480) l481) w_ o468 59 ∧ Ft (RdC ET111 (some ⟨0, 0, none⟩) glob0) w_ o468 0 ∧ Ft (RdC ET111 (some ⟨1, 0, none⟩) glob1) w_ o468 0 ∧ Ft (RdC (encInt .u32) (some ⟨2, 0, none⟩) glob2) w_ o468 0 ∧ (l471).length ≤ c470 ∧ (l476).length ≤ c475 ∧ (l481).length ≤ c480 ∧ tidewracklaw12_BookBlanks_l4 K p0 p1 p2 j_ l471 l476 l481 x484 = some r) (k := K) ⟨(fun b_ => (fun l_ => if l_ = 2 then 60 else if l_ = 3 then 57 else if l_ = 4 then 58 else if l_ = 5 then 59 else l_) (o16 b_)), A20, c21, t13.l, A24, c25, t13.chains, A28, c29, t13.begun, 0, (by exact Kn.pick (ks := [0, 1, 2, 7, 23, 24]) hk rfl), (hs.relab0 (fun l_ => if l_ = 2 then 60 else if l_ = 3 then 57 else if l_ = 4 then 58 else if l_ = 5 then 59 else l_) rfl), (f19.relab (fun l_ => if l_ = 2 then 60 else if l_ = 3 then 57 else if l_ = 4 then 58 else if l_ = 5 then 59 else l_) rfl), (f22.relab (fun l_ => if l_ = 2 then 60 else if l_ = 3 then 57 else if l_ = 4 then 58 else if l_ = 5 then 59 else l_) rfl), (f26.relab (fun l_ => if l_ = 2 then 60 else if l_ = 3 then 57 else if l_ = 4 then 58 else if l_ = 5 then 59 else l_) rfl), (f30.relab (fun l_ => if l_ = 2 then 60 else if l_ = 3 then 57 else if l_ = 4 then 58 else if l_ = 5 then 59 else l_) rfl), (fg0.relab (fun l_ => if l_ = 2 then 60 else if l_ = 3 then 57 else if l_ = 4 then 58 else if l_ = 5 then 59 else l_) rfl), (fg1.relab (fun l_ => if l_ = 2 then 60 else if l_ = 3 then 57 else if l_ = 4 then 58 else if l_ = 5 then 59 else l_) rfl), (fg2.relab (fun l_ => if l_ = 2 then 60 else if l_ = 3 then 57 else if l_ = 4 then 58 else if l_ = 5 then 59 else l_) rfl), hc23, hc27, hc31, H⟩ (by rintro _ _ ⟨_, _, _, _, _, _, _, _, _, _, _, _, _, _, _, _, _, _, _, _, _, _, _, H_⟩; exact absurd (show (none : Option Bool) = some r from H_) (by simp)) ?_
    rintro k538 a w537 ⟨o468, A469, c470, l471, A474, c475, l476, A479, c480, l481, x484, hk, hs, f19, f472, f477, f482, fg0, fg1, fg2, hc473, hc478, hc483, H⟩
    rw [tidewracklaw12_BookBlanks_l4] at H
    obtain ⟨lp539, hlp540⟩ : ∃ lp_, lp_ = tidewracklaw12_BookBlanks_l4 K p0 p1 p2 k538 := ⟨_, rfl⟩
    rw [← hlp540] at H
    refine x_seq ?_
    refine wpIn_region_lit ?_
    refine x_run tab hk (k := 1) (lv := []) (ks := [0, 1, 2, 7, 23, 24, 25]) (e' := [(0, .int .i64 (bits .and .i64 p0 31)), (1, .int .i64 (bits .and .i64 p1 63)), (2, .int .i64 (bits .and .i64 p2 3)), (7, .pointer (some ⟨bx18, 0, none⟩)), (23, .int .i64 (bits .and .i64 p0 31)), (24, .int .i64 x484), (25, .bool (decide (x484 < (bits .and .i64 p0 31))))]) rfl trivial fun a hk => ?_
    refine wpListIn_nil ?_
    refine then_n ?_
    refine x_seq ?_
    cases b541 : (decide (x484 < (bits .and .i64 p0 31)))
    · rw [b541] at hk H
      replace H := bifF H
      refine x_if hk (b := false) rfl ?_
      refine (show Code.wpIn _ _ _ _ _ _ _ from ?_)
      refine wpIn_exit ?_
      refine then_x ?_
      refine then_x ?_
      refine blk_x ?_
      refine then_n ?_
      exact ⟨(fun b_ => (fun l_ => if l_ = 57 then 20 else if l_ = 58 then 21 else if l_ = 59 then 22 else if l_ = 60 then 23 else l_) (o468 b_)), A469, c470, l471, A474, c475, l476, A479, c480, l481, (by exact Kn.pick (ks := [0, 1, 2, 7]) hk rfl), (hs.relab0 (fun l_ => if l_ = 57 then 20 else if l_ = 58 then 21 else if l_ = 59 then 22 else if l_ = 60 then 23 else l_) rfl), (f19.relab (fun l_ => if l_ = 57 then 20 else if l_ = 58 then 21 else if l_ = 59 then 22 else if l_ = 60 then 23 else l_) rfl), (f472.relab (fun l_ => if l_ = 57 then 20 else if l_ = 58 then 21 else if l_ = 59 then 22 else if l_ = 60 then 23 else l_) rfl), (f477.relab (fun l_ => if l_ = 57 then 20 else if l_ = 58 then 21 else if l_ = 59 then 22 else if l_ = 60 then 23 else l_) rfl), (f482.relab (fun l_ => if l_ = 57 then 20 else if l_ = 58 then 21 else if l_ = 59 then 22 else if l_ = 60 then 23 else l_) rfl), (fg0.relab (fun l_ => if l_ = 57 then 20 else if l_ = 58 then 21 else if l_ = 59 then 22 else if l_ = 60 then 23 else l_) rfl), (fg1.relab (fun l_ => if l_ = 57 then 20 else if l_ = 58 then 21 else if l_ = 59 then 22 else if l_ = 60 then 23 else l_) rfl), (fg2.relab (fun l_ => if l_ = 57 then 20 else if l_ = 58 then 21 else if l_ = 59 then 22 else if l_ = 60 then 23 else l_) rfl), hc473, hc478, hc483, H⟩
    · rw [b541] at hk H
      replace H := bifT H
      refine x_if hk (b := true) rfl ?_
      refine (show Code.wpIn _ _ _ _ _ _ _ from ?_)
      refine wpIn_skip ?_
      refine then_n ?_
      refine x_seq ?_
      refine wpIn_block ?_
      refine x_seq ?_
      refine wpIn_region_lit ?_
      refine x_run tab hk (k := 2) (lv := []) (ks := [0, 1, 2, 7, 8, 23, 24]) (e' := [(0, .int .i64 (bits .and .i64 p0 31)), (1, .int .i64 (bits .and .i64 p1 63)), (2, .int .i64 (bits .and .i64 p2 3)), (7, .pointer (some ⟨bx18, 0, none⟩)), (8, .int .i64 x484), (23, .int .i64 (bits .and .i64 p0 31)), (24, .int .i64 x484)]) rfl trivial fun a hk => ?_
      refine wpListIn_nil ?_
      refine then_n ?_
      refine x_seq ?_
      refine wpIn_region_lit ?_
      refine x_run tab hk (k := 3) (lv := []) (ks := [0, 1, 2, 7, 8, 23, 24, 27, 28, 29]) (e' := [(0, .int .i64 (bits .and .i64 p0 31)), (1, .int .i64 (bits .and .i64 p1 63)), (2, .int .i64 (bits .and .i64 p2 3)), (7, .pointer (some ⟨bx18, 0, none⟩)), (8, .int .i64 x484), (23, .int .i64 (bits .and .i64 p0 31)), (24, .int .i64 x484), (27, .pointer (some ⟨bx18, 0, none⟩)), (28, .int .i64 (bits .and .i64 p1 63)), (29, .int .i64 (bits .and .i64 p2 3))]) rfl trivial fun a hk => ?_
      refine x_op hk rfl ?_
      obtain ⟨t545, hc546, H⟩ := bindS H
      refine op_call hk ent_11 (vs := [.int .i64 (bits .and .i64 p1 63), .int .i64 (bits .and .i64 p2 3)]) rfl (row_Blank_calls K (bits .and .i64 p1 63) (bits .and .i64 p2 3) _ o468  63  _ hc546) ?_
      rintro _ w547 ⟨o548, A550, c551, rfl, st549, f552, hc553⟩
      replace f19 := f19.st st549 (by decide)
      replace f472 := f472.st st549 (by decide)
      replace f477 := f477.st st549 (by decide)
      replace f482 := f482.st st549 (by decide)
      replace fg0 := fg0.st st549 (by decide)
      replace fg1 := fg1.st st549 (by decide)
      replace fg2 := fg2.st st549 (by decide)
      replace hs := hs.loc0 st549 (by decide)
      have hk := hk.put 30 (.agg #[.slice A550 (t545.Cells).length c551, .bool t545.Wrapped]) rfl
      refine x_op hk rfl ?_
      obtain ⟨o557, hR558⟩ := relab_ex o548 (fun l_ => if l_ = 63 then 1 else l_)
      replace hs : St [] w (fun _ => 0) w547 o557 := by rw [hR558]; exact (hs.relab0 (fun l_ => if l_ = 63 then 1 else l_) rfl)
      replace f19 : Ft (Bx bx18 76 [.slice A469 (l471).length c470, .slice A474 (l476).length c475, .slice A479 (l481).length c480]) w547 o557 60 := by rw [hR558]; exact f19.relab (fun l_ => if l_ = 63 then 1 else l_) rfl
      replace f472 : NOwn (dRows ET49) 40 A469 c470 l471 w547 o557 57 1 := by rw [hR558]; exact f472.relab (fun l_ => if l_ = 63 then 1 else l_) rfl
      replace f477 : Ft (Own (encInt .i64) 3 (.slice A474 (l476).length c475) l476) w547 o557 58 := by rw [hR558]; exact f477.relab (fun l_ => if l_ = 63 then 1 else l_) rfl
      replace f482 : Ft (Own ET49 50 (.slice A479 (l481).length c480) l481) w547 o557 59 := by rw [hR558]; exact f482.relab (fun l_ => if l_ = 63 then 1 else l_) rfl
      replace f552 : Ft (Own ET82 83 (.slice A550 (t545.Cells).length c551) t545.Cells) w547 o557 1 := by rw [hR558]; exact f552.relab (fun l_ => if l_ = 63 then 1 else l_) rfl
      replace fg0 : Ft (RdC ET111 (some ⟨0, 0, none⟩) glob0) w547 o557 0 := by rw [hR558]; exact fg0.relab (fun l_ => if l_ = 63 then 1 else l_) rfl
      replace fg1 : Ft (RdC ET111 (some ⟨1, 0, none⟩) glob1) w547 o557 0 := by rw [hR558]; exact fg1.relab (fun l_ => if l_ = 63 then 1 else l_) rfl
      replace fg2 : Ft (RdC (encInt .u32) (some ⟨2, 0, none⟩) glob2) w547 o557 0 := by rw [hR558]; exact fg2.relab (fun l_ => if l_ = 63 then 1 else l_) rfl
      refine op_slice (o := o557) tab hk (vs := [.agg #[.slice A550 (t545.Cells).length c551, .bool t545.Wrapped]]) (cs := [.slice A550 (t545.Cells).length c551, .bool t545.Wrapped]) rfl rfl rfl rfl rfl rfl rfl rfl rfl 64 fun bx559 w554 o555 st556 f560 => ?_
      replace f19 := f19.st st556 (by decide)
      replace f472 := f472.st st556 (by decide)
      replace f477 := f477.st st556 (by decide)
      replace f482 := f482.st st556 (by decide)
      replace f552 := f552.st st556 (by decide)
      replace fg0 := fg0.st st556 (by decide)
      replace fg1 := fg1.st st556 (by decide)
      replace fg2 := fg2.st st556 (by decide)
      replace hs := hs.loc0 st556 (by decide)
      have f561 : NOwn dT26 27 (some ⟨bx559, 0, none⟩) 1 ([t545] : List T26) w554 o555 64 1 := NOwn.litD (D := dT26) f560 [(⟨t545, A550, c551⟩ : NT26)] rfl (Inn.consD (D := dT26) (r := (⟨t545, A550, c551⟩ : NT26)) ((f552.imp fun _ h_ => Own.rd h_).imp fun _ h_ => ⟨h_, hc553⟩) (Inn.nilD _ _ _ _)) rfl (Nat.le_of_ble_eq_true rfl)
      have hk := hk.put 31 (.slice (some ⟨bx559, 0, none⟩) (([t545] : List T26)).length 1) rfl
      refine x_op hk rfl ?_
      obtain ⟨t565, hc566, H⟩ := bindS H
      refine op_call hk ent_12 (vs := [.pointer (some ⟨bx18, 0, none⟩), .slice (some ⟨bx559, 0, none⟩) (([t545] : List T26)).length 1]) rfl (book_Book_Add_calls K bx18 A469 c470 A474 c475 A479 c480 (⟨l471, l476, l481⟩ : T75) (some ⟨bx559, 0, none⟩) 1 ([t545] : List T26) _ o555 1 0 fg2 60 f19 57 f472 hc473 58 f477 hc478 59 f482 hc483 _ f561.rd (Nat.le_refl _) (by decide) (by decide) (by decide)   _ hc566) ?_
      rintro _ w567 ⟨o568, A571, c572, A575, c576, A579, c580, rfl, st569, f570, f573, hc574, f577, hc578, f581, hc582⟩
      replace f552 := f552.st st569 (by decide)
      replace f561 := f561.st st569 (by decide)
      replace fg0 := fg0.st st569 (by decide)
      replace fg1 := fg1.st st569 (by decide)
      replace fg2 := fg2.st st569 (by decide)
      replace hs := hs.loc0 st569 (by decide)
      have hk := hk.put 32 (.int .i64 t565.1) rfl
      refine x_run tab hk (k := 2) (lv := []) (ks := [0, 1, 2, 7, 8, 23, 24, 34]) (e' := [(0, .int .i64 (bits .and .i64 p0 31)), (1, .int .i64 (bits .and .i64 p1 63)), (2, .int .i64 (bits .and .i64 p2 3)), (7, .pointer (some ⟨bx18, 0, none⟩)), (8, .int .i64 x484), (23, .int .i64 (bits .and .i64 p0 31)), (24, .int .i64 x484), (34, .bool (t565.1 != (1 : Int)))]) rfl trivial fun a hk => ?_
      cases b583 : (t565.1 != (1 : Int))
      · rw [b583] at hk H
        replace H := bifF H
        refine x_run tab hk (k := 1) (lv := []) (ks := [0, 1, 2, 7, 8, 23, 24, 34, 35]) (e' := [(0, .int .i64 (bits .and .i64 p0 31)), (1, .int .i64 (bits .and .i64 p1 63)), (2, .int .i64 (bits .and .i64 p2 3)), (7, .pointer (some ⟨bx18, 0, none⟩)), (8, .int .i64 x484), (23, .int .i64 (bits .and .i64 p0 31)), (24, .int .i64 x484), (34, .bool false), (35, .pointer (some ⟨bx18, 0, none⟩))]) rfl trivial fun a hk => ?_
        refine x_op hk rfl ?_
        obtain ⟨t587, hc588, H⟩ := bindS H
        refine op_call hk ent_16 (vs := [.pointer (some ⟨bx18, 0, none⟩)]) rfl (book_Book_Len_calls bx18 A571 c572 A575 c576 A579 c580 t565.2 _ o568 1 60 f570 _ f573.rd hc574 _ (f577.imp fun _ h_ => Own.rd h_) hc578 _ (f581.imp fun _ h_ => Own.rd h_) hc582 (by decide) (by decide) (by decide) (by decide) (by decide)   _ hc588) ?_
        rintro _ w589 ⟨o590, rfl, st591⟩
        replace f570 := f570.st st591 (by decide)
        replace f573 := f573.st st591 (by decide)
        replace f577 := f577.st st591 (by decide)
        replace f581 := f581.st st591 (by decide)
        replace fg0 := fg0.st st591 (by decide)
        replace fg1 := fg1.st st591 (by decide)
        replace fg2 := fg2.st st591 (by decide)
        replace hs := hs.loc0 st591 (by decide)
        have hk := hk.put 36 (.int .i64 t587) rfl
        refine x_run tab hk (k := 4) (lv := []) (ks := [0, 1, 2, 7, 23, 24, 40]) (e' := [(0, .int .i64 (bits .and .i64 p0 31)), (1, .int .i64 (bits .and .i64 p1 63)), (2, .int .i64 (bits .and .i64 p2 3)), (7, .pointer (some ⟨bx18, 0, none⟩)), (23, .int .i64 (bits .and .i64 p0 31)), (24, .int .i64 x484), (40, .bool (t587 != (IntKind.wrap .i64 (x484 + 1))))]) rfl trivial fun a hk => ?_
        refine wpListIn_nil ?_
        refine then_n ?_
        cases b592 : (t587 != (IntKind.wrap .i64 (x484 + 1)))
        · rw [b592] at hk H
          replace H := bifF H
          refine x_if hk (b := false) rfl ?_
          refine (show Code.wpIn _ _ _ _ _ _ _ from ?_)
          refine wpIn_skip ?_
          refine blk_n ?_
          refine then_n ?_
          refine wpIn_region_lit ?_
          refine x_run tab hk (k := 2) (lv := []) (ks := [0, 1, 2, 7, 23, 24]) (e' := [(0, .int .i64 (bits .and .i64 p0 31)), (1, .int .i64 (bits .and .i64 p1 63)), (2, .int .i64 (bits .and .i64 p2 3)), (7, .pointer (some ⟨bx18, 0, none⟩)), (23, .int .i64 (bits .and .i64 p0 31)), (24, .int .i64 (IntKind.wrap .i64 (x484 + 1)))]) rfl trivial fun a hk => ?_
          refine wpListIn_nil ?_
          refine then_n ?_
          exact ⟨k538, Nat.le_refl _, o590, A571, c572, t565.2.l, A575, c576, t565.2.chains, A579, c580, t565.2.begun, (IntKind.wrap .i64 (x484 + 1)), (by exact Kn.pick (ks := [0, 1, 2, 7, 23, 24]) hk rfl), hs, f570, f573, f577, f581, fg0, fg1, fg2, hc574, hc578, hc582, (hlp540 ▸ H)⟩
        · rw [b592] at hk H
          replace H := bifT H
          refine x_if hk (b := true) rfl ?_
          refine (show Code.wpIn _ _ _ _ _ _ _ from ?_)
          refine x_seq ?_
          refine wpIn_region_lit ?_
          refine x_run tab hk (k := 1) (lv := []) (ks := [6]) (e' := [(6, .bool false)]) rfl trivial fun a hk => ?_
          refine wpListIn_nil ?_
          refine then_n ?_
          refine wpIn_ret ?_
          refine blk_r ?_
          refine then_r ?_
          refine then_r ?_
          refine blk_r ?_
          refine then_r ?_
          obtain rfl := Option.some.inj H
          exact x_retG hk (rs := [.tmp 6]) (vs := [.bool false]) rfl ⟨rfl, trivial⟩ ⟨fun b_ => if b_ < w.heap.size then o b_ else (fun _ => 0) (o590 b_), rfl, hs.close0 o (fun _ => 0)⟩
      · rw [b583] at hk H
        replace H := bifT H
        refine x_run tab hk (k := 6) (lv := []) (ks := [0, 1, 2, 7, 23, 24, 40]) (e' := [(0, .int .i64 (bits .and .i64 p0 31)), (1, .int .i64 (bits .and .i64 p1 63)), (2, .int .i64 (bits .and .i64 p2 3)), (7, .pointer (some ⟨bx18, 0, none⟩)), (23, .int .i64 (bits .and .i64 p0 31)), (24, .int .i64 x484), (40, .bool true)]) rfl trivial fun a hk => ?_
        refine wpListIn_nil ?_
        refine then_n ?_
        refine x_if hk (b := true) rfl ?_
        refine (show Code.wpIn _ _ _ _ _ _ _ from ?_)
        refine x_seq ?_
        refine wpIn_region_lit ?_
        refine x_run tab hk (k := 1) (lv := []) (ks := [6]) (e' := [(6, .bool false)]) rfl trivial fun a hk => ?_
        refine wpListIn_nil ?_
        refine then_n ?_
        refine wpIn_ret ?_
        refine blk_r ?_
        refine then_r ?_
        refine then_r ?_
        refine blk_r ?_
        refine then_r ?_
        obtain rfl := Option.some.inj H
        exact x_retG hk (rs := [.tmp 6]) (vs := [.bool false]) rfl ⟨rfl, trivial⟩ ⟨fun b_ => if b_ < w.heap.size then o b_ else (fun _ => 0) (o568 b_), rfl, hs.close0 o (fun _ => 0)⟩
  · rw [b9] at hk H
    replace H := bifT H
    refine x_if hk (b := true) rfl ?_
    refine (show Code.wpIn _ _ _ _ _ _ _ from ?_)
    refine x_seq ?_
    refine wpIn_region_lit ?_
    refine x_run tab hk (k := 1) (lv := []) (ks := [6]) (e' := [(6, .bool false)]) rfl trivial fun a hk => ?_
    refine wpListIn_nil ?_
    refine then_n ?_
    refine wpIn_ret ?_
    refine then_r ?_
    obtain rfl := Option.some.inj H
    exact x_retG hk (rs := [.tmp 6]) (vs := [.bool false]) rfl ⟨rfl, trivial⟩ ⟨fun b_ => if b_ < w.heap.size then o b_ else (fun _ => 0) (o7 b_), rfl, hs.close0 o (fun _ => 0)⟩

/-! tidewrack/tidewracklaw01.Cut -/
theorem tidewracklaw01_Cut_calls (p0 : ByteArray) (p1 : Int) (w : World) (o : Nat → Nat)   (r : ByteArray) (H : tidewracklaw01_Cut p0 p1 = some r) :
    Calls Tryd.prog 22 #[.string p0, .int .i64 p1] w (Ret fun v_ w' => ∃ o' : Nat → Nat, v_ = .string r ∧ St [] w o w' o') := by
  refine x_enter (vs := [.string p0, .int .i64 p1]) Tryd.func22 rfl rfl rfl fun a hk => ?_
  obtain ⟨o0, hs, h0⟩ := St.start w o
  clear h0
  rw [tidewracklaw01_Cut] at H
  refine x_seq ?_
  refine wpIn_region_lit ?_
  refine x_run tab hk (k := 1) (lv := []) (ks := [0, 1]) (e' := [(0, .string p0), (1, .int .i64 p1)]) rfl trivial fun a hk => ?_
  refine wpListIn_nil ?_
  refine then_n ?_
  refine x_seq ?_
  refine x_seq ?_
  refine wpIn_region_lit ?_
  refine x_run tab hk (k := 4) (lv := []) (ks := [0, 1, 8]) (e' := [(0, .string p0), (1, .int .i64 p1), (8, .bool (decide (((p0).size : Int) > p1)))]) rfl trivial fun a hk => ?_
  refine wpListIn_nil ?_
  refine then_n ?_
  cases b1 : (decide (((p0).size : Int) > p1))
  · rw [b1] at hk H
    replace H := bifF H
    refine x_if hk (b := false) rfl ?_
    refine (show Code.wpIn _ _ _ _ _ _ _ from ?_)
    refine wpIn_skip ?_
    refine then_n ?_
    refine x_seq ?_
    refine wpIn_region_lit ?_
    refine x_run tab hk (k := 2) (lv := []) (ks := [4]) (e' := [(4, .string p0)]) rfl trivial fun a hk => ?_
    refine wpListIn_nil ?_
    refine then_n ?_
    refine wpIn_ret ?_
    obtain rfl := Option.some.inj H
    exact x_retG hk (rs := [.tmp 4]) (vs := [.string p0]) rfl ⟨rfl, trivial⟩ ⟨fun b_ => if b_ < w.heap.size then o b_ else (fun _ => 0) (o0 b_), rfl, hs.close0 o (fun _ => 0)⟩
  · rw [b1] at hk H
    replace H := bifT H
    refine x_if hk (b := true) rfl ?_
    refine (show Code.wpIn _ _ _ _ _ _ _ from ?_)
    refine x_seq ?_
    refine wpIn_region_lit ?_
    obtain ⟨q2, H⟩ := ifS H
    obtain ⟨q3, H⟩ := ifS H
    refine x_run tab hk (k := 4) (lv := []) (ks := [4]) (e' := [(4, .string (ByteArray.extract p0 0 (Int.toNat p1)))]) rfl ⟨q2, q3, trivial⟩ fun a hk => ?_
    refine wpListIn_nil ?_
    refine then_n ?_
    refine wpIn_ret ?_
    refine then_r ?_
    obtain rfl := Option.some.inj H
    exact x_retG hk (rs := [.tmp 4]) (vs := [.string (ByteArray.extract p0 0 (Int.toNat p1))]) rfl ⟨rfl, trivial⟩ ⟨fun b_ => if b_ < w.heap.size then o b_ else (fun _ => 0) (o0 b_), rfl, hs.close0 o (fun _ => 0)⟩

/-! tidewrack/num.Of -/
theorem num_Of_calls (p0 : ByteArray) (w : World) (o : Nat → Nat)   (R0 : Nat) (r : T88) (H : num_Of p0 = some r) :
    Calls Tryd.prog 23 #[.string p0] w (Ret fun v_ w' => ∃ o' : Nat → Nat, ∃ b0 : Nat, v_ = .pointer (some ⟨b0, 0, none⟩) ∧ St [] w o w' o' ∧ Ft (Bx b0 89 [.string r.s, .int .i64 r.e]) w' o' R0) := by
  refine x_enter (vs := [.string p0]) Tryd.func23 rfl rfl rfl fun a hk => ?_
  obtain ⟨o0, hs, h0⟩ := St.start w o
  clear h0
  rw [num_Of] at H
  refine x_seq ?_
  refine wpIn_region_lit ?_
  refine x_run tab hk (k := 1) (lv := []) (ks := [0]) (e' := [(0, .string p0)]) rfl trivial fun a hk => ?_
  refine wpListIn_nil ?_
  refine then_n ?_
  refine x_seq ?_
  refine wpIn_region_lit ?_
  refine x_run tab hk (k := 2) (lv := []) (ks := [4]) (e' := [(4, .agg #[.string p0, .int .i64 0])]) rfl trivial fun a hk => ?_
  refine x_op hk rfl ?_
  refine op_box (o := o0) (t := 89) (v := .agg #[.string p0, .int .i64 0]) (cs := [.string p0, .int .i64 0]) hk rfl rfl 1 fun bx4 w1 o2 st3 f5 => ?_
  replace hs := hs.loc0 st3 (by decide)
  have hk := hk.put 5 (.pointer (some ⟨bx4, 0, none⟩)) rfl
  refine x_run tab hk (k := 1) (lv := []) (ks := [2]) (e' := [(2, .pointer (some ⟨bx4, 0, none⟩))]) rfl trivial fun a hk => ?_
  refine wpListIn_nil ?_
  refine then_n ?_
  refine wpIn_ret ?_
  obtain rfl := Option.some.inj H
  exact x_retG hk (rs := [.tmp 2]) (vs := [.pointer (some ⟨bx4, 0, none⟩)]) rfl ⟨rfl, trivial⟩ ⟨fun b_ => if b_ < w.heap.size then o b_ else (fun _ => R0) (o2 b_), bx4, rfl, hs.close0 o (fun _ => R0), hs.close_ft (o := o) (ρ := fun _ => R0) f5 (by decide) rfl⟩

/-! (*tidewrack/num.In).Fail -/
theorem num_In_Fail_calls (bp0 : Nat) (p0 : T88) (p1 : Int) (w : World) (o : Nat → Nat) (Lp0 : Nat) (hp0 : Ft (Bx bp0 89 [.string p0.s, .int .i64 p0.e]) w o Lp0) (hd0 : ([Lp0] : List Nat).Nodup) (r : T88) (H : num_In_Fail p0 p1 = some r) :
    Calls Tryd.prog 51 #[.pointer (some ⟨bp0, 0, none⟩), .int .i64 p1] w (Ret fun v_ w' => ∃ o' : Nat → Nat, v_ = .tuple #[] ∧ St [Lp0] w o w' o' ∧ Ft (Bx bp0 89 [.string r.s, .int .i64 r.e]) w' o' Lp0) := by
  refine x_enter (vs := [.pointer (some ⟨bp0, 0, none⟩), .int .i64 p1]) Tryd.func51 rfl rfl rfl fun a hk => ?_
  obtain ⟨oi, hs0, h0, h1, hob, hoz, hoa⟩ := St.startM2 w o (m := 1) hd0 rfl
  have hs := hs0 [1]
  have hom := lab_in hob (MM := [1]) (by decide)
  have f900019 := h1 0 1 hp0 rfl rfl
  clear h0 h1 hs0
  rw [num_In_Fail] at H
  refine x_mid (fun a_ w_ => ∃ o8 : Nat → Nat, ∃ x9 : Bool, Kn 20 a_ [(0, .pointer (some ⟨bp0, 0, none⟩)), (1, .int .i64 p1), (12, .bool x9)] ∧ St [1] w oi w_ o8 ∧ Ft (Bx bp0 89 [.string p0.s, .int .i64 p0.e]) w_ o8 1 ∧ num_In_Fail_j1 p0 p1 x9 = some r) ?_ ?_
  rotate_left
  · rintro a w10 ⟨o8, x9, hk, hs, f900019, H⟩
    rw [num_In_Fail_j1] at H
    cases b11 : x9
    · rw [b11] at hk H
      replace H := bifF H
      refine x_if hk (b := false) rfl ?_
      refine (show Code.wpIn _ _ _ _ _ _ _ from ?_)
      refine wpIn_skip ?_
      obtain rfl := Option.some.inj H
      exact x_endG hk (rs := []) (vs := []) rfl trivial ⟨fun b_ => if b_ < w.heap.size then o b_ else (fun l_ => if l_ = 1 then Lp0 else 0) (o8 b_), rfl, hs.closeM hoz (by decide) (fun l_ => if l_ = 1 then Lp0 else 0), hs.closeM_ft (o := o) (ρ := fun l_ => if l_ = 1 then Lp0 else 0) f900019 (lab_at hoa (i := 0) rfl) rfl⟩
    · rw [b11] at hk H
      replace H := bifT H
      refine x_if hk (b := true) rfl ?_
      refine (show Code.wpIn _ _ _ _ _ _ _ from ?_)
      refine wpIn_region_lit ?_
      refine x_run tab hk (k := 5) (lv := []) (ks := [14, 15, 17]) (e' := [(14, .pointer (some ⟨bp0, 0, none⟩)), (15, .int .i64 p1), (17, .pointer (some ⟨bp0, 0, none⟩))]) rfl trivial fun a hk => ?_
      refine x_op hk rfl ?_
      refine op_store tab hk (t := 9) (v := .string (⟨#[]⟩ : ByteArray)) (b := bp0) (k := 0) (cs' := [.string (⟨#[]⟩ : ByteArray), .int .i64 p0.e]) rfl rfl rfl rfl rfl rfl f900019 rfl rfl fun w12 o13 st14 f900019_ => ?_
      replace hs := hs.locM st14 (by decide) hom
      replace f900019 := f900019_
      refine x_run tab hk (k := 2) (lv := []) (ks := [15, 19]) (e' := [(15, .int .i64 p1), (19, .pointer (some ((⟨bp0, 0, none⟩ : Addr).add 1)))]) rfl trivial fun a hk => ?_
      refine x_op hk rfl ?_
      refine op_store tab hk (t := 65) (v := .int .i64 p1) (b := bp0) (k := 1) (cs' := [.string (⟨#[]⟩ : ByteArray), .int .i64 p1]) rfl rfl rfl rfl rfl rfl f900019 rfl rfl fun w15 o16 st17 f900019_ => ?_
      replace hs := hs.locM st17 (by decide) hom
      replace f900019 := f900019_
      refine wpListIn_nil ?_
      obtain rfl := Option.some.inj H
      exact x_endG hk (rs := []) (vs := []) rfl trivial ⟨fun b_ => if b_ < w.heap.size then o b_ else (fun l_ => if l_ = 1 then Lp0 else 0) (o16 b_), rfl, hs.closeM hoz (by decide) (fun l_ => if l_ = 1 then Lp0 else 0), hs.closeM_ft (o := o) (ρ := fun l_ => if l_ = 1 then Lp0 else 0) f900019 (lab_at hoa (i := 0) rfl) rfl⟩
  refine wpIn_region_lit ?_
  refine x_run tab hk (k := 6) (lv := [.int .i64 p0.e]) (ks := [0, 1, 9]) (e' := [(0, .pointer (some ⟨bp0, 0, none⟩)), (1, .int .i64 p1), (9, .bool (p0.e == (0 : Int)))]) rfl ⟨(load1 tab rfl ((Bx.cell f900019.now 1).trans rfl)), trivial⟩ fun a hk => ?_
  cases b18 : (p0.e == (0 : Int))
  · rw [b18] at hk H
    replace H := bifF H
    refine x_run tab hk (k := 3) (lv := []) (ks := [0, 1, 12]) (e' := [(0, .pointer (some ⟨bp0, 0, none⟩)), (1, .int .i64 p1), (12, .bool false)]) rfl trivial fun a hk => ?_
    refine wpListIn_nil ?_
    refine then_n ?_
    exact ⟨oi, false, (by exact Kn.pick (ks := [0, 1, 12]) hk rfl), hs, f900019, H⟩
  · rw [b18] at hk H
    replace H := bifT H
    refine x_run tab hk (k := 3) (lv := []) (ks := [0, 1, 12]) (e' := [(0, .pointer (some ⟨bp0, 0, none⟩)), (1, .int .i64 p1), (12, .bool (p1 != (0 : Int)))]) rfl trivial fun a hk => ?_
    refine wpListIn_nil ?_
    refine then_n ?_
    exact ⟨oi, (p1 != (0 : Int)), (by exact Kn.pick (ks := [0, 1, 12]) hk rfl), hs, f900019, H⟩

/-! (*tidewrack/num.In).Num -/
theorem num_In_Num_calls (K : Nat) (bp0 : Nat) (p0 : T88) (w : World) (o : Nat → Nat) (Lp0 : Nat) (hp0 : Ft (Bx bp0 89 [.string p0.s, .int .i64 p0.e]) w o Lp0) (hd0 : ([Lp0] : List Nat).Nodup) (r : Int × T88) (H : num_In_Num K p0 = some r) :
    Calls Tryd.prog 50 #[.pointer (some ⟨bp0, 0, none⟩)] w (Ret fun v_ w' => ∃ o' : Nat → Nat, v_ = .int .i64 r.1 ∧ St [Lp0] w o w' o' ∧ Ft (Bx bp0 89 [.string r.2.s, .int .i64 r.2.e]) w' o' Lp0) := by
  refine x_enter (vs := [.pointer (some ⟨bp0, 0, none⟩)]) Tryd.func50 rfl rfl rfl fun a hk => ?_
  obtain ⟨oi, hs0, h0, h1, hob, hoz, hoa⟩ := St.startM2 w o (m := 1) hd0 rfl
  have hs := hs0 [1]
  have hom := lab_in hob (MM := [1]) (by decide)
  have f900019 := h1 0 1 hp0 rfl rfl
  clear h0 h1 hs0
  rw [num_In_Num] at H
  refine x_seq ?_
  refine wpIn_region_lit ?_
  refine x_run tab hk (k := 1) (lv := []) (ks := [0]) (e' := [(0, .pointer (some ⟨bp0, 0, none⟩))]) rfl trivial fun a hk => ?_
  refine wpListIn_nil ?_
  refine then_n ?_
  refine x_seq ?_
  refine wpIn_region_lit ?_
  refine x_run tab hk (k := 1) (lv := []) (ks := [0, 3]) (e' := [(0, .pointer (some ⟨bp0, 0, none⟩)), (3, .int .i64 0)]) rfl trivial fun a hk => ?_
  refine wpListIn_nil ?_
  refine then_n ?_
  refine x_mid (fun a_ w_ => ∃ o194 : Nat → Nat, Kn 65 a_ [(0, .pointer (some ⟨bp0, 0, none⟩))] ∧ St [1] w oi w_ o194 ∧ Ft (Bx bp0 89 [.string p0.s, .int .i64 p0.e]) w_ o194 1 ∧ num_In_Num_j1 p0 = some r) ?_ ?_
  rotate_left
  · rintro a w195 ⟨o194, hk, hs, f900019, H⟩
    rw [num_In_Num_j1] at H
    refine x_seq ?_
    refine x_seq ?_
    refine wpIn_region_lit ?_
    refine x_run tab hk (k := 6) (lv := [.string p0.s]) (ks := [0, 60]) (e' := [(0, .pointer (some ⟨bp0, 0, none⟩)), (60, .bool (decide (((p0.s).size : Int) ≥ (9 : Int))))]) rfl ⟨(load1 tab rfl ((Bx.cell f900019.now 0).trans rfl)), trivial⟩ fun a hk => ?_
    refine wpListIn_nil ?_
    refine then_n ?_
    cases b196 : (decide (((p0.s).size : Int) ≥ (9 : Int)))
    · rw [b196] at hk H
      replace H := bifF H
      refine x_if hk (b := false) rfl ?_
      refine (show Code.wpIn _ _ _ _ _ _ _ from ?_)
      refine wpIn_skip ?_
      refine then_n ?_
      refine x_seq ?_
      refine wpIn_region_lit ?_
      refine x_run tab hk (k := 1) (lv := []) (ks := [63]) (e' := [(63, .pointer (some ⟨bp0, 0, none⟩))]) rfl trivial fun a hk => ?_
      refine x_op hk rfl ?_
      obtain ⟨t200, hc201, H⟩ := bindS H
      refine op_call hk ent_51 (vs := [.pointer (some ⟨bp0, 0, none⟩), .int .i64 2]) rfl (num_In_Fail_calls bp0 p0 2 _ o194 1 f900019 (by decide)   _ hc201) ?_
      rintro _ w202 ⟨o203, rfl, st204, f205⟩
      replace hs := hs.locM st204 (by decide) hom
      have hk := hk.put 64 (.tuple #[]) rfl
      refine wpListIn_nil ?_
      refine then_n ?_
      refine x_seq ?_
      refine wpIn_region_lit ?_
      refine x_run tab hk (k := 1) (lv := []) (ks := [2]) (e' := [(2, .int .i64 0)]) rfl trivial fun a hk => ?_
      refine wpListIn_nil ?_
      refine then_n ?_
      refine wpIn_ret ?_
      obtain rfl := Option.some.inj H
      exact x_retG hk (rs := [.tmp 2]) (vs := [.int .i64 0]) rfl ⟨rfl, trivial⟩ ⟨fun b_ => if b_ < w.heap.size then o b_ else (fun l_ => if l_ = 1 then Lp0 else 0) (o203 b_), rfl, hs.closeM hoz (by decide) (fun l_ => if l_ = 1 then Lp0 else 0), hs.closeM_ft (o := o) (ρ := fun l_ => if l_ = 1 then Lp0 else 0) f205 (lab_at hoa (i := 0) rfl) rfl⟩
    · rw [b196] at hk H
      replace H := bifT H
      refine x_if hk (b := true) rfl ?_
      refine (show Code.wpIn _ _ _ _ _ _ _ from ?_)
      refine wpIn_region_lit ?_
      refine x_run tab hk (k := 1) (lv := []) (ks := [0, 61]) (e' := [(0, .pointer (some ⟨bp0, 0, none⟩)), (61, .pointer (some ⟨bp0, 0, none⟩))]) rfl trivial fun a hk => ?_
      refine x_op hk rfl ?_
      obtain ⟨t209, hc210, H⟩ := bindS H
      refine op_call hk ent_51 (vs := [.pointer (some ⟨bp0, 0, none⟩), .int .i64 1]) rfl (num_In_Fail_calls bp0 p0 1 _ o194 1 f900019 (by decide)   _ hc210) ?_
      rintro _ w211 ⟨o212, rfl, st213, f214⟩
      replace hs := hs.locM st213 (by decide) hom
      have hk := hk.put 62 (.tuple #[]) rfl
      refine wpListIn_nil ?_
      refine then_n ?_
      refine x_seq ?_
      refine wpIn_region_lit ?_
      refine x_run tab hk (k := 1) (lv := []) (ks := [63]) (e' := [(63, .pointer (some ⟨bp0, 0, none⟩))]) rfl trivial fun a hk => ?_
      refine x_op hk rfl ?_
      obtain ⟨t218, hc219, H⟩ := bindS H
      refine op_call hk ent_51 (vs := [.pointer (some ⟨bp0, 0, none⟩), .int .i64 2]) rfl (num_In_Fail_calls bp0 t209 2 _ o212 1 f214 (by decide)   _ hc219) ?_
      rintro _ w220 ⟨o221, rfl, st222, f223⟩
      replace hs := hs.locM st222 (by decide) hom
      have hk := hk.put 64 (.tuple #[]) rfl
      refine wpListIn_nil ?_
      refine then_n ?_
      refine x_seq ?_
      refine wpIn_region_lit ?_
      refine x_run tab hk (k := 1) (lv := []) (ks := [2]) (e' := [(2, .int .i64 0)]) rfl trivial fun a hk => ?_
      refine wpListIn_nil ?_
      refine then_n ?_
      refine wpIn_ret ?_
      obtain rfl := Option.some.inj H
      exact x_retG hk (rs := [.tmp 2]) (vs := [.int .i64 0]) rfl ⟨rfl, trivial⟩ ⟨fun b_ => if b_ < w.heap.size then o b_ else (fun l_ => if l_ = 1 then Lp0 else 0) (o221 b_), rfl, hs.closeM hoz (by decide) (fun l_ => if l_ = 1 then Lp0 else 0), hs.closeM_ft (o := o) (ρ := fun l_ => if l_ = 1 then Lp0 else 0) f223 (lab_at hoa (i := 0) rfl) rfl⟩
  refine x_seq ?_
  refine wpIn_region_lit ?_
  refine x_run tab hk (k := 7) (lv := [.string p0.s]) (ks := [0, 3, 11, 12]) (e' := [(0, .pointer (some ⟨bp0, 0, none⟩)), (3, .int .i64 0), (11, .int .i64 (mnI ((p0.s).size : Int) 9)), (12, .int .i64 0)]) rfl ⟨(load1 tab rfl ((Bx.cell f900019.now 0).trans rfl)), trivial⟩ fun a hk => ?_
  refine wpListIn_nil ?_
  refine then_n ?_
  refine wpIn_block ?_
  refine x_loop (fun j_ a_ w_ => ∃ o287 : Nat → Nat, ∃ x288 : Int, ∃ x289 : Int, Kn 65 a_ [(0, .pointer (some ⟨bp0, 0, none⟩)), (3, .int .i64 x288), (11, .int .i64 (mnI ((p0.s).size : Int) 9)), (12, .int .i64 x289)] ∧ St [1] w oi w_ o287 ∧ Ft (Bx bp0 89 [.string p0.s, .int .i64 p0.e]) w_ o287 1 ∧ num_In_Num_l2 p0 j_ x288 x289 = some r) (k := K) ⟨oi, 0, 0, (by exact Kn.pick (ks := [0, 3, 11, 12]) hk rfl), hs, f900019, H⟩ (by rintro _ _ ⟨_, _, _, _, _, _, H_⟩; exact absurd (show (none : Option (Int × T88)) = some r from H_) (by simp)) ?_
  rintro k351 a w350 ⟨o287, x288, x289, hk, hs, f900019, H⟩
  rw [num_In_Num_l2] at H
  obtain ⟨lp352, hlp353⟩ : ∃ lp_, lp_ = num_In_Num_l2 p0 k351 := ⟨_, rfl⟩
  rw [← hlp353] at H
  refine x_seq ?_
  refine wpIn_region_lit ?_
  refine x_run tab hk (k := 1) (lv := []) (ks := [0, 3, 11, 12, 13]) (e' := [(0, .pointer (some ⟨bp0, 0, none⟩)), (3, .int .i64 x288), (11, .int .i64 (mnI ((p0.s).size : Int) 9)), (12, .int .i64 x289), (13, .bool (decide (x289 < (mnI ((p0.s).size : Int) 9))))]) rfl trivial fun a hk => ?_
  refine wpListIn_nil ?_
  refine then_n ?_
  refine x_seq ?_
  cases b354 : (decide (x289 < (mnI ((p0.s).size : Int) 9)))
  · rw [b354] at hk H
    replace H := bifF H
    refine x_if hk (b := false) rfl ?_
    refine (show Code.wpIn _ _ _ _ _ _ _ from ?_)
    refine wpIn_exit ?_
    refine then_x ?_
    refine then_x ?_
    refine blk_x ?_
    refine then_n ?_
    exact ⟨o287, (by exact Kn.pick (ks := [0]) hk rfl), hs, f900019, H⟩
  · rw [b354] at hk H
    replace H := bifT H
    refine x_if hk (b := true) rfl ?_
    refine (show Code.wpIn _ _ _ _ _ _ _ from ?_)
    refine wpIn_skip ?_
    refine then_n ?_
    refine x_seq ?_
    refine wpIn_block ?_
    refine x_seq ?_
    refine wpIn_region_lit ?_
    refine x_run tab hk (k := 2) (lv := []) (ks := [0, 3, 4, 11, 12]) (e' := [(0, .pointer (some ⟨bp0, 0, none⟩)), (3, .int .i64 x288), (4, .int .i64 x289), (11, .int .i64 (mnI ((p0.s).size : Int) 9)), (12, .int .i64 x289)]) rfl trivial fun a hk => ?_
    refine wpListIn_nil ?_
    refine then_n ?_
    refine x_seq ?_
    refine wpIn_region_lit ?_
    obtain ⟨q355, H⟩ := ifS H
    refine x_run tab hk (k := 7) (lv := [.string p0.s]) (ks := [0, 3, 4, 5, 11, 12]) (e' := [(0, .pointer (some ⟨bp0, 0, none⟩)), (3, .int .i64 x288), (4, .int .i64 x289), (5, .int .u8 (bt p0.s x289)), (11, .int .i64 (mnI ((p0.s).size : Int) 9)), (12, .int .i64 x289)]) rfl ⟨(load1 tab rfl ((Bx.cell f900019.now 0).trans rfl)), q355, trivial⟩ fun a hk => ?_
    refine wpListIn_nil ?_
    refine then_n ?_
    refine x_seq ?_
    refine wpIn_region_lit ?_
    obtain ⟨q356, H⟩ := ifS H
    refine x_run tab hk (k := 9) (lv := []) (ks := [0, 3, 4, 5, 11, 12]) (e' := [(0, .pointer (some ⟨bp0, 0, none⟩)), (3, .int .i64 (bits .or .i64 x288 (IntKind.wrap .i64 ((IntKind.wrap .i64 (bits .and .u8 (bt p0.s x289) 127)) * 2 ^ min (Int.toNat (IntKind.wrap .i64 (7 * x289))) 64)))), (4, .int .i64 x289), (5, .int .u8 (bt p0.s x289)), (11, .int .i64 (mnI ((p0.s).size : Int) 9)), (12, .int .i64 x289)]) rfl ⟨q356, trivial⟩ fun a hk => ?_
    refine wpListIn_nil ?_
    refine then_n ?_
    refine x_seq ?_
    refine x_seq ?_
    refine wpIn_region_lit ?_
    refine x_run tab hk (k := 2) (lv := []) (ks := [0, 3, 4, 5, 11, 12, 30]) (e' := [(0, .pointer (some ⟨bp0, 0, none⟩)), (3, .int .i64 (bits .or .i64 x288 (IntKind.wrap .i64 ((IntKind.wrap .i64 (bits .and .u8 (bt p0.s x289) 127)) * 2 ^ min (Int.toNat (IntKind.wrap .i64 (7 * x289))) 64)))), (4, .int .i64 x289), (5, .int .u8 (bt p0.s x289)), (11, .int .i64 (mnI ((p0.s).size : Int) 9)), (12, .int .i64 x289), (30, .bool (decide ((bt p0.s x289) ≥ (128 : Int))))]) rfl trivial fun a hk => ?_
    refine wpListIn_nil ?_
    refine then_n ?_
    cases b357 : (decide ((bt p0.s x289) ≥ (128 : Int)))
    · rw [b357] at hk H
      replace H := bifF H
      refine x_if hk (b := false) rfl ?_
      refine (show Code.wpIn _ _ _ _ _ _ _ from ?_)
      refine wpIn_skip ?_
      refine then_n ?_
      refine x_mid (fun a_ w_ => ∃ o384 : Nat → Nat, Kn 65 a_ [(0, .pointer (some ⟨bp0, 0, none⟩)), (3, .int .i64 (bits .or .i64 x288 (IntKind.wrap .i64 ((IntKind.wrap .i64 (bits .and .u8 (bt p0.s x289) 127)) * 2 ^ min (Int.toNat (IntKind.wrap .i64 (7 * x289))) 64)))), (4, .int .i64 x289)] ∧ St [1] w oi w_ o384 ∧ Ft (Bx bp0 89 [.string p0.s, .int .i64 p0.e]) w_ o384 1 ∧ num_In_Num_j3 p0 x288 x289 = some r) ?_ ?_
      rotate_left
      · rintro a w385 ⟨o384, hk, hs, f900019, H⟩
        rw [num_In_Num_j3] at H
        refine x_seq ?_
        refine wpIn_region_lit ?_
        obtain ⟨q386, H⟩ := ifS H
        obtain ⟨q387, H⟩ := ifS H
        refine x_run tab hk (k := 10) (lv := [.string p0.s]) (ks := [3, 50, 52]) (e' := [(3, .int .i64 (bits .or .i64 x288 (IntKind.wrap .i64 ((IntKind.wrap .i64 (bits .and .u8 (bt p0.s x289) 127)) * 2 ^ min (Int.toNat (IntKind.wrap .i64 (7 * x289))) 64)))), (50, .string (ByteArray.extract p0.s (Int.toNat (IntKind.wrap .i64 (x289 + 1))) (p0.s).size)), (52, .pointer (some ⟨bp0, 0, none⟩))]) rfl ⟨(load1 tab rfl ((Bx.cell f900019.now 0).trans rfl)), q386, q387, trivial⟩ fun a hk => ?_
        refine x_op hk rfl ?_
        refine op_store tab hk (t := 9) (v := .string (ByteArray.extract p0.s (Int.toNat (IntKind.wrap .i64 (x289 + 1))) (p0.s).size)) (b := bp0) (k := 0) (cs' := [.string (ByteArray.extract p0.s (Int.toNat (IntKind.wrap .i64 (x289 + 1))) (p0.s).size), .int .i64 p0.e]) rfl rfl rfl rfl rfl rfl f900019 rfl rfl fun w388 o389 st390 f900019_ => ?_
        replace hs := hs.locM st390 (by decide) hom
        replace f900019 := f900019_
        refine wpListIn_nil ?_
        refine then_n ?_
        refine x_seq ?_
        refine wpIn_region_lit ?_
        refine x_run tab hk (k := 2) (lv := []) (ks := [2]) (e' := [(2, .int .i64 (bits .or .i64 x288 (IntKind.wrap .i64 ((IntKind.wrap .i64 (bits .and .u8 (bt p0.s x289) 127)) * 2 ^ min (Int.toNat (IntKind.wrap .i64 (7 * x289))) 64))))]) rfl trivial fun a hk => ?_
        refine wpListIn_nil ?_
        refine then_n ?_
        refine wpIn_ret ?_
        refine blk_r ?_
        refine then_r ?_
        refine then_r ?_
        refine blk_r ?_
        refine then_r ?_
        obtain rfl := Option.some.inj H
        exact x_retG hk (rs := [.tmp 2]) (vs := [.int .i64 (bits .or .i64 x288 (IntKind.wrap .i64 ((IntKind.wrap .i64 (bits .and .u8 (bt p0.s x289) 127)) * 2 ^ min (Int.toNat (IntKind.wrap .i64 (7 * x289))) 64)))]) rfl ⟨rfl, trivial⟩ ⟨fun b_ => if b_ < w.heap.size then o b_ else (fun l_ => if l_ = 1 then Lp0 else 0) (o389 b_), rfl, hs.closeM hoz (by decide) (fun l_ => if l_ = 1 then Lp0 else 0), hs.closeM_ft (o := o) (ρ := fun l_ => if l_ = 1 then Lp0 else 0) f900019 (lab_at hoa (i := 0) rfl) rfl⟩
      refine x_mid (fun a_ w_ => ∃ o399 : Nat → Nat, ∃ x400 : Bool, Kn 65 a_ [(0, .pointer (some ⟨bp0, 0, none⟩)), (3, .int .i64 (bits .or .i64 x288 (IntKind.wrap .i64 ((IntKind.wrap .i64 (bits .and .u8 (bt p0.s x289) 127)) * 2 ^ min (Int.toNat (IntKind.wrap .i64 (7 * x289))) 64)))), (4, .int .i64 x289), (40, .bool x400)] ∧ St [1] w oi w_ o399 ∧ Ft (Bx bp0 89 [.string p0.s, .int .i64 p0.e]) w_ o399 1 ∧ num_In_Num_j4 p0 x288 x289 x400 = some r) ?_ ?_
      rotate_left
      · rintro a w401 ⟨o399, x400, hk, hs, f900019, H⟩
        rw [num_In_Num_j4] at H
        cases b402 : x400
        · rw [b402] at hk H
          replace H := bifF H
          refine x_if hk (b := false) rfl ?_
          refine (show Code.wpIn _ _ _ _ _ _ _ from ?_)
          refine wpIn_skip ?_
          refine then_n ?_
          exact ⟨o399, (by exact Kn.pick (ks := [0, 3, 4]) hk rfl), hs, f900019, H⟩
        · rw [b402] at hk H
          replace H := bifT H
          refine x_if hk (b := true) rfl ?_
          refine (show Code.wpIn _ _ _ _ _ _ _ from ?_)
          refine x_seq ?_
          refine wpIn_region_lit ?_
          refine x_run tab hk (k := 1) (lv := []) (ks := [41]) (e' := [(41, .pointer (some ⟨bp0, 0, none⟩))]) rfl trivial fun a hk => ?_
          refine x_op hk rfl ?_
          obtain ⟨t406, hc407, H⟩ := bindS H
          refine op_call hk ent_51 (vs := [.pointer (some ⟨bp0, 0, none⟩), .int .i64 1]) rfl (num_In_Fail_calls bp0 p0 1 _ o399 1 f900019 (by decide)   _ hc407) ?_
          rintro _ w408 ⟨o409, rfl, st410, f411⟩
          replace hs := hs.locM st410 (by decide) hom
          have hk := hk.put 42 (.tuple #[]) rfl
          refine wpListIn_nil ?_
          refine then_n ?_
          refine x_seq ?_
          refine wpIn_region_lit ?_
          refine x_run tab hk (k := 1) (lv := []) (ks := [2]) (e' := [(2, .int .i64 0)]) rfl trivial fun a hk => ?_
          refine wpListIn_nil ?_
          refine then_n ?_
          refine wpIn_ret ?_
          refine then_r ?_
          refine blk_r ?_
          refine then_r ?_
          refine then_r ?_
          refine blk_r ?_
          refine then_r ?_
          obtain rfl := Option.some.inj H
          exact x_retG hk (rs := [.tmp 2]) (vs := [.int .i64 0]) rfl ⟨rfl, trivial⟩ ⟨fun b_ => if b_ < w.heap.size then o b_ else (fun l_ => if l_ = 1 then Lp0 else 0) (o409 b_), rfl, hs.closeM hoz (by decide) (fun l_ => if l_ = 1 then Lp0 else 0), hs.closeM_ft (o := o) (ρ := fun l_ => if l_ = 1 then Lp0 else 0) f411 (lab_at hoa (i := 0) rfl) rfl⟩
      refine wpIn_region_lit ?_
      refine x_run tab hk (k := 3) (lv := []) (ks := [0, 3, 4, 5, 33]) (e' := [(0, .pointer (some ⟨bp0, 0, none⟩)), (3, .int .i64 (bits .or .i64 x288 (IntKind.wrap .i64 ((IntKind.wrap .i64 (bits .and .u8 (bt p0.s x289) 127)) * 2 ^ min (Int.toNat (IntKind.wrap .i64 (7 * x289))) 64)))), (4, .int .i64 x289), (5, .int .u8 (bt p0.s x289)), (33, .bool (decide (x289 > (0 : Int))))]) rfl trivial fun a hk => ?_
      cases b412 : (decide (x289 > (0 : Int)))
      · rw [b412] at hk H
        replace H := bifF H
        refine x_run tab hk (k := 7) (lv := []) (ks := [0, 3, 4, 40]) (e' := [(0, .pointer (some ⟨bp0, 0, none⟩)), (3, .int .i64 (bits .or .i64 x288 (IntKind.wrap .i64 ((IntKind.wrap .i64 (bits .and .u8 (bt p0.s x289) 127)) * 2 ^ min (Int.toNat (IntKind.wrap .i64 (7 * x289))) 64)))), (4, .int .i64 x289), (40, .bool (decide ((bits .or .i64 x288 (IntKind.wrap .i64 ((IntKind.wrap .i64 (bits .and .u8 (bt p0.s x289) 127)) * 2 ^ min (Int.toNat (IntKind.wrap .i64 (7 * x289))) 64))) > (4611686018427387904 : Int))))]) rfl trivial fun a hk => ?_
        refine wpListIn_nil ?_
        refine then_n ?_
        exact ⟨o287, (decide ((bits .or .i64 x288 (IntKind.wrap .i64 ((IntKind.wrap .i64 (bits .and .u8 (bt p0.s x289) 127)) * 2 ^ min (Int.toNat (IntKind.wrap .i64 (7 * x289))) 64))) > (4611686018427387904 : Int))), (by exact Kn.pick (ks := [0, 3, 4, 40]) hk rfl), hs, f900019, H⟩
      · rw [b412] at hk H
        replace H := bifT H
        refine x_run tab hk (k := 4) (lv := []) (ks := [0, 3, 4, 37]) (e' := [(0, .pointer (some ⟨bp0, 0, none⟩)), (3, .int .i64 (bits .or .i64 x288 (IntKind.wrap .i64 ((IntKind.wrap .i64 (bits .and .u8 (bt p0.s x289) 127)) * 2 ^ min (Int.toNat (IntKind.wrap .i64 (7 * x289))) 64)))), (4, .int .i64 x289), (37, .bool ((bt p0.s x289) == (0 : Int)))]) rfl trivial fun a hk => ?_
        cases b413 : ((bt p0.s x289) == (0 : Int))
        · rw [b413] at hk H
          replace H := bifF H
          refine x_run tab hk (k := 3) (lv := []) (ks := [0, 3, 4, 40]) (e' := [(0, .pointer (some ⟨bp0, 0, none⟩)), (3, .int .i64 (bits .or .i64 x288 (IntKind.wrap .i64 ((IntKind.wrap .i64 (bits .and .u8 (bt p0.s x289) 127)) * 2 ^ min (Int.toNat (IntKind.wrap .i64 (7 * x289))) 64)))), (4, .int .i64 x289), (40, .bool (decide ((bits .or .i64 x288 (IntKind.wrap .i64 ((IntKind.wrap .i64 (bits .and .u8 (bt p0.s x289) 127)) * 2 ^ min (Int.toNat (IntKind.wrap .i64 (7 * x289))) 64))) > (4611686018427387904 : Int))))]) rfl trivial fun a hk => ?_
          refine wpListIn_nil ?_
          refine then_n ?_
          exact ⟨o287, (decide ((bits .or .i64 x288 (IntKind.wrap .i64 ((IntKind.wrap .i64 (bits .and .u8 (bt p0.s x289) 127)) * 2 ^ min (Int.toNat (IntKind.wrap .i64 (7 * x289))) 64))) > (4611686018427387904 : Int))), (by exact Kn.pick (ks := [0, 3, 4, 40]) hk rfl), hs, f900019, H⟩
        · rw [b413] at hk H
          replace H := bifT H
          refine x_run tab hk (k := 3) (lv := []) (ks := [0, 3, 4, 40]) (e' := [(0, .pointer (some ⟨bp0, 0, none⟩)), (3, .int .i64 (bits .or .i64 x288 (IntKind.wrap .i64 ((IntKind.wrap .i64 (bits .and .u8 (bt p0.s x289) 127)) * 2 ^ min (Int.toNat (IntKind.wrap .i64 (7 * x289))) 64)))), (4, .int .i64 x289), (40, .bool true)]) rfl trivial fun a hk => ?_
          refine wpListIn_nil ?_
          refine then_n ?_
          exact ⟨o287, true, (by exact Kn.pick (ks := [0, 3, 4, 40]) hk rfl), hs, f900019, H⟩
    · rw [b357] at hk H
      replace H := bifT H
      refine x_if hk (b := true) rfl ?_
      refine (show Code.wpIn _ _ _ _ _ _ _ from ?_)
      refine wpIn_exit ?_
      refine then_x ?_
      refine blk_x ?_
      refine then_n ?_
      refine wpIn_region_lit ?_
      refine x_run tab hk (k := 2) (lv := []) (ks := [0, 3, 11, 12]) (e' := [(0, .pointer (some ⟨bp0, 0, none⟩)), (3, .int .i64 (bits .or .i64 x288 (IntKind.wrap .i64 ((IntKind.wrap .i64 (bits .and .u8 (bt p0.s x289) 127)) * 2 ^ min (Int.toNat (IntKind.wrap .i64 (7 * x289))) 64)))), (11, .int .i64 (mnI ((p0.s).size : Int) 9)), (12, .int .i64 (IntKind.wrap .i64 (x289 + 1)))]) rfl trivial fun a hk => ?_
      refine wpListIn_nil ?_
      refine then_n ?_
      exact ⟨k351, Nat.le_refl _, o287, (bits .or .i64 x288 (IntKind.wrap .i64 ((IntKind.wrap .i64 (bits .and .u8 (bt p0.s x289) 127)) * 2 ^ min (Int.toNat (IntKind.wrap .i64 (7 * x289))) 64))), (IntKind.wrap .i64 (x289 + 1)), (by exact Kn.pick (ks := [0, 3, 11, 12]) hk rfl), hs, f900019, (hlp353 ▸ H)⟩

/-! tidewrack/book.limited -/
theorem book_limited_calls (K : Nat) (bp0 : Nat) (p0 : T88) (p1 : Int) (w : World) (o : Nat → Nat) (Lp0 : Nat) (hp0 : Ft (Bx bp0 89 [.string p0.s, .int .i64 p0.e]) w o Lp0) (hd0 : ([Lp0] : List Nat).Nodup) (r : Int × T88) (H : book_limited K p0 p1 = some r) :
    Calls Tryd.prog 40 #[.pointer (some ⟨bp0, 0, none⟩), .int .i64 p1] w (Ret fun v_ w' => ∃ o' : Nat → Nat, v_ = .int .i64 r.1 ∧ St [Lp0] w o w' o' ∧ Ft (Bx bp0 89 [.string r.2.s, .int .i64 r.2.e]) w' o' Lp0) := by
  refine x_enter (vs := [.pointer (some ⟨bp0, 0, none⟩), .int .i64 p1]) Tryd.func40 rfl rfl rfl fun a hk => ?_
  obtain ⟨oi, hs0, h0, h1, hob, hoz, hoa⟩ := St.startM2 w o (m := 1) hd0 rfl
  have hs := hs0 [1]
  have hom := lab_in hob (MM := [1]) (by decide)
  have f900019 := h1 0 1 hp0 rfl rfl
  clear h0 h1 hs0
  rw [book_limited] at H
  refine x_seq ?_
  refine wpIn_region_lit ?_
  refine x_run tab hk (k := 1) (lv := []) (ks := [0, 1]) (e' := [(0, .pointer (some ⟨bp0, 0, none⟩)), (1, .int .i64 p1)]) rfl trivial fun a hk => ?_
  refine wpListIn_nil ?_
  refine then_n ?_
  refine x_seq ?_
  refine wpIn_region_lit ?_
  refine x_run tab hk (k := 1) (lv := []) (ks := [0, 1, 6]) (e' := [(0, .pointer (some ⟨bp0, 0, none⟩)), (1, .int .i64 p1), (6, .pointer (some ⟨bp0, 0, none⟩))]) rfl trivial fun a hk => ?_
  refine x_op hk rfl ?_
  obtain ⟨t4, hc5, H⟩ := bindS H
  refine op_call hk ent_50 (vs := [.pointer (some ⟨bp0, 0, none⟩)]) rfl (num_In_Num_calls K bp0 p0 _ oi 1 f900019 (by decide)   _ hc5) ?_
  rintro _ w6 ⟨o7, rfl, st8, f9⟩
  replace hs := hs.locM st8 (by decide) hom
  have hk := hk.put 7 (.int .i64 t4.1) rfl
  refine x_run tab hk (k := 1) (lv := []) (ks := [0, 1, 5]) (e' := [(0, .pointer (some ⟨bp0, 0, none⟩)), (1, .int .i64 p1), (5, .int .i64 t4.1)]) rfl trivial fun a hk => ?_
  refine wpListIn_nil ?_
  refine then_n ?_
  refine x_seq ?_
  refine x_seq ?_
  refine wpIn_region_lit ?_
  refine x_run tab hk (k := 3) (lv := []) (ks := [0, 5, 10]) (e' := [(0, .pointer (some ⟨bp0, 0, none⟩)), (5, .int .i64 t4.1), (10, .bool (decide (t4.1 > p1)))]) rfl trivial fun a hk => ?_
  refine wpListIn_nil ?_
  refine then_n ?_
  cases b10 : (decide (t4.1 > p1))
  · rw [b10] at hk H
    replace H := bifF H
    refine x_if hk (b := false) rfl ?_
    refine (show Code.wpIn _ _ _ _ _ _ _ from ?_)
    refine wpIn_skip ?_
    refine then_n ?_
    refine x_seq ?_
    refine wpIn_region_lit ?_
    refine x_run tab hk (k := 2) (lv := []) (ks := [4]) (e' := [(4, .int .i64 t4.1)]) rfl trivial fun a hk => ?_
    refine wpListIn_nil ?_
    refine then_n ?_
    refine wpIn_ret ?_
    obtain rfl := Option.some.inj H
    exact x_retG hk (rs := [.tmp 4]) (vs := [.int .i64 t4.1]) rfl ⟨rfl, trivial⟩ ⟨fun b_ => if b_ < w.heap.size then o b_ else (fun l_ => if l_ = 1 then Lp0 else 0) (o7 b_), rfl, hs.closeM hoz (by decide) (fun l_ => if l_ = 1 then Lp0 else 0), hs.closeM_ft (o := o) (ρ := fun l_ => if l_ = 1 then Lp0 else 0) f9 (lab_at hoa (i := 0) rfl) rfl⟩
  · rw [b10] at hk H
    replace H := bifT H
    refine x_if hk (b := true) rfl ?_
    refine (show Code.wpIn _ _ _ _ _ _ _ from ?_)
    refine x_seq ?_
    refine wpIn_region_lit ?_
    refine x_run tab hk (k := 1) (lv := []) (ks := [11]) (e' := [(11, .pointer (some ⟨bp0, 0, none⟩))]) rfl trivial fun a hk => ?_
    refine x_op hk rfl ?_
    obtain ⟨t14, hc15, H⟩ := bindS H
    refine op_call hk ent_51 (vs := [.pointer (some ⟨bp0, 0, none⟩), .int .i64 1]) rfl (num_In_Fail_calls bp0 t4.2 1 _ o7 1 f9 (by decide)   _ hc15) ?_
    rintro _ w16 ⟨o17, rfl, st18, f19⟩
    replace hs := hs.locM st18 (by decide) hom
    have hk := hk.put 12 (.tuple #[]) rfl
    refine wpListIn_nil ?_
    refine then_n ?_
    refine x_seq ?_
    refine wpIn_region_lit ?_
    refine x_run tab hk (k := 1) (lv := []) (ks := [4]) (e' := [(4, .int .i64 0)]) rfl trivial fun a hk => ?_
    refine wpListIn_nil ?_
    refine then_n ?_
    refine wpIn_ret ?_
    refine then_r ?_
    obtain rfl := Option.some.inj H
    exact x_retG hk (rs := [.tmp 4]) (vs := [.int .i64 0]) rfl ⟨rfl, trivial⟩ ⟨fun b_ => if b_ < w.heap.size then o b_ else (fun l_ => if l_ = 1 then Lp0 else 0) (o17 b_), rfl, hs.closeM hoz (by decide) (fun l_ => if l_ = 1 then Lp0 else 0), hs.closeM_ft (o := o) (ρ := fun l_ => if l_ = 1 then Lp0 else 0) f19 (lab_at hoa (i := 0) rfl) rfl⟩

end Go.Proofs.YthmdgjdgnfoloaaDoor
