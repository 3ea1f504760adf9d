/- Walks, printed by an own program: the machine's calls compute the plain functions. -/
import Derived.Test.YthacdmompikhgaaW1
set_option linter.unusedVariables false
set_option linter.unusedSimpArgs false
namespace Go.Proofs.Ythacdmompikhgaa
open Go Go.Proofs.XC
/-! tidewrack/tidewracklaw01.NumTexts -/
theorem tidewracklaw01_NumTexts_calls (K : Nat) (Ap0 : Option Addr) (cp0 : Nat) (p0 : List ByteArray) (w : World) (o : Nat → Nat) (Lp0 : Nat) (hp0 : Ft (RdC encStr Ap0 p0) w o Lp0) (hcp0 : (p0).length ≤ cp0)  (r : Bool) (H : tidewracklaw01_NumTexts K p0 = some r) :
    Calls Try.prog 7 #[.slice Ap0 (p0).length cp0] w (Ret fun v_ w' => ∃ o' : Nat → Nat, v_ = .bool r ∧ St [] w o w' o') := by
  refine x_enter (vs := [.slice Ap0 (p0).length cp0]) Try.func7 rfl rfl rfl fun a hk => ?_
  obtain ⟨o0, hs, h0⟩ := St.start w o
  have f900 := h0 _ _ hp0
  clear h0
  rw [tidewracklaw01_NumTexts] at H
  refine x_seq ?_
  refine wpIn_region_lit ?_
  refine x_run tab hk (k := 1) (lv := []) (ks := [0]) (e' := [(0, .slice Ap0 (p0).length cp0)]) rfl trivial fun a hk => ?_
  refine wpListIn_nil ?_
  refine then_n ?_
  refine x_seq ?_
  refine x_seq ?_
  refine wpIn_region_lit ?_
  refine x_op hk rfl ?_
  obtain ⟨t4, hc5, H⟩ := bindS H
  refine op_call hk ent_9 (vs := []) rfl (tidewracklaw01_awake_calls K  _ o0    _ hc5) ?_
  rintro _ w6 ⟨o7, rfl, st8⟩
  replace f900 := f900.st st8 (by decide)
  replace hs := hs.loc0 st8 (by decide)
  have hk := hk.put 7 (.bool t4) rfl
  refine x_run tab hk (k := 1) (lv := []) (ks := [0, 8]) (e' := [(0, .slice Ap0 (p0).length cp0), (8, .bool (!t4))]) rfl trivial fun a hk => ?_
  refine wpListIn_nil ?_
  refine then_n ?_
  cases b9 : (!t4)
  · rw [b9] at hk H
    replace H := bifF H
    refine x_if hk (b := false) rfl ?_
    refine (show Code.wpIn _ _ _ _ _ _ _ from ?_)
    refine wpIn_skip ?_
    refine then_n ?_
    refine x_seq ?_
    refine wpIn_region_lit ?_
    refine x_run tab hk (k := 1) (lv := []) (ks := [9]) (e' := [(9, .slice Ap0 (p0).length cp0)]) rfl trivial fun a hk => ?_
    refine x_op hk rfl ?_
    obtain ⟨t13, hc14, H⟩ := bindS H
    refine op_call hk ent_24 (vs := [.slice Ap0 (p0).length cp0, .int .i64 12, .int .i64 150]) rfl (tidewracklaw01_Few_calls K Ap0 cp0 p0 12 150 _ o7 _ f900 hcp0 1  _ hc14) ?_
    rintro _ w15 ⟨o16, A18, c19, rfl, st17, f20, hc21⟩
    replace f900 := f900.st st17 (by decide)
    replace hs := hs.loc0 st17 (by decide)
    have hk := hk.put 10 (.slice A18 (t13).length c19) rfl
    refine x_run tab hk (k := 1) (lv := []) (ks := [0]) (e' := [(0, .slice A18 (t13).length c19)]) rfl trivial fun a hk => ?_
    refine wpListIn_nil ?_
    refine then_n ?_
    refine x_seq ?_
    refine wpIn_region_lit ?_
    refine x_op hk rfl ?_
    refine op_alloc (o := o16) tab (t := 26) (cs := [.slice none 0 0]) rfl rfl 2 fun bx25 w22 o23 st24 f26 => ?_
    replace f20 := f20.st st24 (by decide)
    replace hs := hs.loc0 st24 (by decide)
    have hk := hk.put 3 (.pointer (some ⟨bx25, 0, none⟩)) rfl
    refine wpListIn_nil ?_
    refine then_n ?_
    refine x_seq ?_
    refine wpIn_region_lit ?_
    refine x_run tab hk (k := 1) (lv := []) (ks := [0, 3, 11]) (e' := [(0, .slice A18 (t13).length c19), (3, .pointer (some ⟨bx25, 0, none⟩)), (11, .slice A18 (t13).length c19)]) rfl trivial fun a hk => ?_
    refine x_op hk rfl ?_
    obtain ⟨t30, hc31, H⟩ := bindS H
    refine op_call hk ent_14 (vs := [.pointer (some ⟨bx25, 0, none⟩), .slice A18 (t13).length c19]) rfl (num_Out_Text_calls K bx25 none 0 (⟨([] : List Int)⟩ : T25) A18 c19 t13 _ o23 2 f26 3 (Ft.of_all (fun _ => Own.nil _ _ _) _ _ 3) (by simp) _ (f20.imp fun _ h_ => Own.rd h_) hc21 (by decide) (by decide)   _ hc31) ?_
    rintro _ w32 ⟨o33, A36, c37, rfl, st34, f35, f38, hc39⟩
    replace f20 := f20.st st34 (by decide)
    replace hs := hs.loc0 st34 (by decide)
    have hk := hk.put 12 (.pointer (some ⟨bx25, 0, none⟩)) rfl
    refine wpListIn_nil ?_
    refine then_n ?_
    refine x_seq ?_
    refine wpIn_region_lit ?_
    refine x_op hk rfl ?_
    obtain ⟨t43, hc44, H⟩ := bindS H
    refine op_call hk ent_17 (vs := [.pointer (some ⟨bx25, 0, none⟩)]) rfl (num_Out_Bytes_calls bx25 A36 c37 t30 _ o33 2 f35 3 f38 hc39 (by decide)   _ hc44) ?_
    rintro _ w45 ⟨o46, A49, c50, rfl, st47, f48, f51, hc52⟩
    replace f20 := f20.st st47 (by decide)
    replace hs := hs.loc0 st47 (by decide)
    have hk := hk.put 13 (.string t43.1) rfl
    refine x_op hk rfl ?_
    obtain ⟨t56, hc57, H⟩ := bindS H
    refine op_call hk ent_18 (vs := [.string t43.1]) rfl (num_Of_calls t43.1 _ o46  4  _ hc57) ?_
    rintro _ w58 ⟨o59, bx61, rfl, st60, f62⟩
    replace f20 := f20.st st60 (by decide)
    replace f48 := f48.st st60 (by decide)
    replace f51 := f51.st st60 (by decide)
    replace hs := hs.loc0 st60 (by decide)
    have hk := hk.put 14 (.pointer (some ⟨bx61, 0, none⟩)) rfl
    refine x_run tab hk (k := 1) (lv := []) (ks := [0, 4]) (e' := [(0, .slice A18 (t13).length c19), (4, .pointer (some ⟨bx61, 0, none⟩))]) rfl trivial fun a hk => ?_
    refine wpListIn_nil ?_
    refine then_n ?_
    refine x_seq ?_
    refine x_seq ?_
    refine wpIn_region_lit ?_
    refine x_run tab hk (k := 2) (lv := []) (ks := [0, 4, 16]) (e' := [(0, .slice A18 (t13).length c19), (4, .pointer (some ⟨bx61, 0, none⟩)), (16, .bool false)]) rfl trivial fun a hk => ?_
    refine wpListIn_nil ?_
    refine then_n ?_
    refine x_if hk (b := false) rfl ?_
    refine (show Code.wpIn _ _ _ _ _ _ _ from ?_)
    refine wpIn_skip ?_
    refine then_n ?_
    refine x_mid (fun a_ w_ => ∃ o118 : Nat → Nat, ∃ x119 : T62, Kn 31 a_ [(4, .pointer (some ⟨bx61, 0, none⟩))] ∧ St [] w (fun _ => 0) w_ o118 ∧ Ft (Bx bx61 63 [.string x119.s, .int .i64 x119.e]) w_ o118 9 ∧ tidewracklaw01_NumTexts_j1 x119 = some r) ?_ ?_
    rotate_left
    · rintro a w120 ⟨o118, x119, hk, hs, f62, H⟩
      rw [tidewracklaw01_NumTexts_j1] at H
      refine x_seq ?_
      refine wpIn_region_lit ?_
      refine x_run tab hk (k := 1) (lv := []) (ks := [28]) (e' := [(28, .pointer (some ⟨bx61, 0, none⟩))]) rfl trivial fun a hk => ?_
      refine x_op hk rfl ?_
      obtain ⟨t124, hc125, H⟩ := bindS H
      refine op_call hk ent_23 (vs := [.pointer (some ⟨bx61, 0, none⟩)]) rfl (num_In_End_calls bx61 x119 _ o118 9 f62   _ hc125) ?_
      rintro _ w126 ⟨o127, rfl, st128⟩
      replace f62 := f62.st st128 (by decide)
      replace hs := hs.loc0 st128 (by decide)
      have hk := hk.put 29 (.int .i64 t124) rfl
      refine x_run tab hk (k := 2) (lv := []) (ks := [2]) (e' := [(2, .bool (t124 == (0 : Int)))]) rfl trivial fun a hk => ?_
      refine wpListIn_nil ?_
      refine then_n ?_
      refine wpIn_ret ?_
      obtain rfl := Option.some.inj H
      exact x_retG hk (rs := [.tmp 2]) (vs := [.bool (t124 == (0 : Int))]) rfl ⟨rfl, trivial⟩ ⟨fun b_ => if b_ < w.heap.size then o b_ else (fun _ => 0) (o127 b_), rfl, hs.close0 o (fun _ => 0)⟩
    refine x_seq ?_
    refine wpIn_region_lit ?_
    refine x_run tab hk (k := 3) (lv := []) (ks := [4, 17, 18, 19]) (e' := [(4, .pointer (some ⟨bx61, 0, none⟩)), (17, .slice A18 (t13).length c19), (18, .int .i64 ((t13).length : Int)), (19, .int .i64 0)]) rfl trivial fun a hk => ?_
    refine wpListIn_nil ?_
    refine then_n ?_
    refine wpIn_block ?_
    refine x_loop (fun j_ a_ w_ => ∃ o145 : Nat → Nat, ∃ x146 : T62, ∃ x147 : Int, Kn 31 a_ [(4, .pointer (some ⟨bx61, 0, none⟩)), (17, .slice A18 (t13).length c19), (18, .int .i64 ((t13).length : Int)), (19, .int .i64 x147)] ∧ St [] w (fun _ => 0) w_ o145 ∧ Ft (Own encStr 9 (.slice A18 (t13).length c19) t13) w_ o145 13 ∧ Ft (Bx bx61 63 [.string x146.s, .int .i64 x146.e]) w_ o145 12 ∧ tidewracklaw01_NumTexts_l2 K t13 j_ x146 x147 = some r) (k := K) ⟨(fun b_ => (fun l_ => if l_ = 1 then 13 else if l_ = 4 then 12 else l_) (o59 b_)), t56, 0, (by exact Kn.pick (ks := [4, 17, 18, 19]) hk rfl), (hs.relab0 (fun l_ => if l_ = 1 then 13 else if l_ = 4 then 12 else l_) rfl), (f20.relab (fun l_ => if l_ = 1 then 13 else if l_ = 4 then 12 else l_) rfl), (f62.relab (fun l_ => if l_ = 1 then 13 else if l_ = 4 then 12 else l_) rfl), H⟩ (by rintro _ _ ⟨_, _, _, _, _, _, _, H_⟩; exact absurd (show (none : Option Bool) = some r from H_) (by simp)) ?_
    rintro k162 a w161 ⟨o145, x146, x147, hk, hs, f20, f62, H⟩
    rw [tidewracklaw01_NumTexts_l2] at H
    obtain ⟨lp163, hlp164⟩ : ∃ lp_, lp_ = tidewracklaw01_NumTexts_l2 K t13 k162 := ⟨_, rfl⟩
    rw [← hlp164] at H
    refine x_seq ?_
    refine wpIn_region_lit ?_
    refine x_run tab hk (k := 1) (lv := []) (ks := [4, 17, 18, 19, 20]) (e' := [(4, .pointer (some ⟨bx61, 0, none⟩)), (17, .slice A18 (t13).length c19), (18, .int .i64 ((t13).length : Int)), (19, .int .i64 x147), (20, .bool (decide (x147 < ((t13).length : Int))))]) rfl trivial fun a hk => ?_
    refine wpListIn_nil ?_
    refine then_n ?_
    refine x_seq ?_
    cases b165 : (decide (x147 < ((t13).length : Int)))
    · rw [b165] at hk H
      replace H := bifF H
      refine x_if hk (b := false) rfl ?_
      refine (show Code.wpIn _ _ _ _ _ _ _ from ?_)
      refine wpIn_exit ?_
      refine then_x ?_
      refine then_x ?_
      refine blk_x ?_
      refine then_n ?_
      exact ⟨(fun b_ => (fun l_ => if l_ = 12 then 9 else l_) (o145 b_)), x146, (by exact Kn.pick (ks := [4]) hk rfl), (hs.relab0 (fun l_ => if l_ = 12 then 9 else l_) rfl), (f62.relab (fun l_ => if l_ = 12 then 9 else l_) rfl), H⟩
    · rw [b165] at hk H
      replace H := bifT H
      refine x_if hk (b := true) rfl ?_
      refine (show Code.wpIn _ _ _ _ _ _ _ from ?_)
      refine wpIn_skip ?_
      refine then_n ?_
      refine x_seq ?_
      refine wpIn_block ?_
      refine x_seq ?_
      refine wpIn_region_lit ?_
      obtain ⟨q166, H⟩ := ifS H
      obtain ⟨ad167, hAad167⟩ := RdC.addr (Own.rd f20.now) q166
      subst hAad167
      refine x_run tab hk (k := 3) (lv := [.string (rdD (⟨#[]⟩ : ByteArray) t13 x147)]) (ks := [4, 6, 17, 18, 19]) (e' := [(4, .pointer (some ⟨bx61, 0, none⟩)), (6, .string (rdD (⟨#[]⟩ : ByteArray) t13 x147)), (17, .slice (some ad167) (t13).length c19), (18, .int .i64 ((t13).length : Int)), (19, .int .i64 x147)]) rfl ⟨q166, (load1 tab rfl (RdC.at0 (E := encStr) (d := (⟨#[]⟩ : ByteArray)) (i := x147) (Own.rd f20.now) q166 rfl)), trivial⟩ fun a hk => ?_
      refine wpListIn_nil ?_
      refine then_n ?_
      refine x_seq ?_
      refine wpIn_region_lit ?_
      refine x_run tab hk (k := 1) (lv := []) (ks := [4, 6, 17, 18, 19, 23]) (e' := [(4, .pointer (some ⟨bx61, 0, none⟩)), (6, .string (rdD (⟨#[]⟩ : ByteArray) t13 x147)), (17, .slice (some ad167) (t13).length c19), (18, .int .i64 ((t13).length : Int)), (19, .int .i64 x147), (23, .pointer (some ⟨bx61, 0, none⟩))]) rfl trivial fun a hk => ?_
      refine x_op hk rfl ?_
      obtain ⟨t171, hc172, H⟩ := bindS H
      refine op_call hk ent_22 (vs := [.pointer (some ⟨bx61, 0, none⟩)]) rfl (num_In_Text_calls K bx61 x146 _ o145 12 f62 (by decide)   _ hc172) ?_
      rintro _ w173 ⟨o174, rfl, st175, f176⟩
      replace f20 := f20.st st175 (by decide)
      replace hs := hs.loc0 st175 (by decide)
      have hk := hk.put 24 (.string t171.1) rfl
      refine x_run tab hk (k := 2) (lv := []) (ks := [4, 17, 18, 19, 26]) (e' := [(4, .pointer (some ⟨bx61, 0, none⟩)), (17, .slice (some ad167) (t13).length c19), (18, .int .i64 ((t13).length : Int)), (19, .int .i64 x147), (26, .bool (!(ByteArray.toList t171.1 == ByteArray.toList (rdD (⟨#[]⟩ : ByteArray) t13 x147))))]) rfl trivial fun a hk => ?_
      refine wpListIn_nil ?_
      refine then_n ?_
      cases b177 : (!(ByteArray.toList t171.1 == ByteArray.toList (rdD (⟨#[]⟩ : ByteArray) t13 x147)))
      · rw [b177] at hk H
        replace H := bifF H
        refine x_if hk (b := false) rfl ?_
        refine (show Code.wpIn _ _ _ _ _ _ _ from ?_)
        refine wpIn_skip ?_
        refine blk_n ?_
        refine then_n ?_
        refine wpIn_region_lit ?_
        refine x_run tab hk (k := 2) (lv := []) (ks := [4, 17, 18, 19]) (e' := [(4, .pointer (some ⟨bx61, 0, none⟩)), (17, .slice (some ad167) (t13).length c19), (18, .int .i64 ((t13).length : Int)), (19, .int .i64 (IntKind.wrap .i64 (x147 + 1)))]) rfl trivial fun a hk => ?_
        refine wpListIn_nil ?_
        refine then_n ?_
        exact ⟨k162, Nat.le_refl _, o174, t171.2, (IntKind.wrap .i64 (x147 + 1)), (by exact Kn.pick (ks := [4, 17, 18, 19]) hk rfl), hs, f20, f176, (hlp164 ▸ H)⟩
      · rw [b177] at hk H
        replace H := bifT H
        refine x_if hk (b := true) rfl ?_
        refine (show Code.wpIn _ _ _ _ _ _ _ from ?_)
        refine x_seq ?_
        refine wpIn_region_lit ?_
        refine x_run tab hk (k := 1) (lv := []) (ks := [2]) (e' := [(2, .bool false)]) rfl trivial fun a hk => ?_
        refine wpListIn_nil ?_
        refine then_n ?_
        refine wpIn_ret ?_
        refine blk_r ?_
        refine then_r ?_
        refine then_r ?_
        refine blk_r ?_
        refine then_r ?_
        obtain rfl := Option.some.inj H
        exact x_retG hk (rs := [.tmp 2]) (vs := [.bool false]) rfl ⟨rfl, trivial⟩ ⟨fun b_ => if b_ < w.heap.size then o b_ else (fun _ => 0) (o174 b_), rfl, hs.close0 o (fun _ => 0)⟩
  · rw [b9] at hk H
    replace H := bifT H
    refine x_if hk (b := true) rfl ?_
    refine (show Code.wpIn _ _ _ _ _ _ _ from ?_)
    refine x_seq ?_
    refine wpIn_region_lit ?_
    refine x_run tab hk (k := 1) (lv := []) (ks := [2]) (e' := [(2, .bool false)]) rfl trivial fun a hk => ?_
    refine wpListIn_nil ?_
    refine then_n ?_
    refine wpIn_ret ?_
    refine then_r ?_
    obtain rfl := Option.some.inj H
    exact x_retG hk (rs := [.tmp 2]) (vs := [.bool false]) rfl ⟨rfl, trivial⟩ ⟨fun b_ => if b_ < w.heap.size then o b_ else (fun _ => 0) (o7 b_), rfl, hs.close0 o (fun _ => 0)⟩

/-! tidewrack/tidewrackref01.Read -/
theorem tidewrackref01_Read_calls (K : Nat) (p0 : T50) (w : World) (o : Nat → Nat)   (r : T50 × Int) (H : tidewrackref01_Read K p0 = some r) :
    Calls Try.prog 25 #[.agg #[.string p0.S, .int .i64 p0.E]] w (Ret fun v_ w' => ∃ o' : Nat → Nat, v_ = .tuple #[.agg #[.string r.1.S, .int .i64 r.1.E], .int .i64 r.2] ∧ St [] w o w' o') := by
  refine x_enter (vs := [.agg #[.string p0.S, .int .i64 p0.E]]) Try.func25 rfl rfl rfl fun a hk => ?_
  obtain ⟨o0, hs, h0⟩ := St.start w o
  clear h0
  rw [tidewrackref01_Read] at H
  refine x_seq ?_
  refine wpIn_region_lit ?_
  refine x_op hk rfl ?_
  refine op_box (o := o0) (t := 51) (v := .agg #[.string p0.S, .int .i64 p0.E]) (cs := [.string p0.S, .int .i64 p0.E]) hk rfl rfl 1 fun bx4 w1 o2 st3 f5 => ?_
  replace hs := hs.loc0 st3 (by decide)
  have hk := hk.put 1 (.pointer (some ⟨bx4, 0, none⟩)) rfl
  refine x_op hk rfl ?_
  refine op_alloc (o := o2) tab (t := 51) (cs := [.string (⟨#[]⟩ : ByteArray), .int .i64 0]) rfl rfl 2 fun bx9 w6 o7 st8 f10 => ?_
  replace f5 := f5.st st8 (by decide)
  replace hs := hs.loc0 st8 (by decide)
  have hk := hk.put 2 (.pointer (some ⟨bx9, 0, none⟩)) rfl
  refine x_run tab hk (k := 1) (lv := []) (ks := [1, 2]) (e' := [(1, .pointer (some ⟨bx4, 0, none⟩)), (2, .pointer (some ⟨bx9, 0, none⟩))]) rfl trivial fun a hk => ?_
  refine wpListIn_nil ?_
  refine then_n ?_
  refine x_seq ?_
  refine x_seq ?_
  refine wpIn_region_lit ?_
  refine x_run tab hk (k := 3) (lv := [.int .i64 p0.E]) (ks := [1, 2, 10]) (e' := [(1, .pointer (some ⟨bx4, 0, none⟩)), (2, .pointer (some ⟨bx9, 0, none⟩)), (10, .bool (p0.E != (0 : Int)))]) rfl ⟨(load1 tab rfl ((Bx.cell f5.now 1).trans rfl)), trivial⟩ fun a hk => ?_
  refine wpListIn_nil ?_
  refine then_n ?_
  cases b11 : (p0.E != (0 : Int))
  · rw [b11] at hk H
    replace H := bifF H
    refine x_if hk (b := false) rfl ?_
    refine (show Code.wpIn _ _ _ _ _ _ _ from ?_)
    refine wpIn_skip ?_
    refine then_n ?_
    refine x_seq ?_
    refine wpIn_region_lit ?_
    refine x_run tab hk (k := 1) (lv := []) (ks := [1, 2, 4]) (e' := [(1, .pointer (some ⟨bx4, 0, none⟩)), (2, .pointer (some ⟨bx9, 0, none⟩)), (4, .int .i64 0)]) rfl trivial fun a hk => ?_
    refine wpListIn_nil ?_
    refine then_n ?_
    refine x_seq ?_
    refine wpIn_region_lit ?_
    refine x_run tab hk (k := 1) (lv := []) (ks := [1, 2, 4, 5]) (e' := [(1, .pointer (some ⟨bx4, 0, none⟩)), (2, .pointer (some ⟨bx9, 0, none⟩)), (4, .int .i64 0), (5, .int .i64 1)]) rfl trivial fun a hk => ?_
    refine wpListIn_nil ?_
    refine then_n ?_
    refine x_mid (fun a_ w_ => ∃ o182 : Nat → Nat, Kn 58 a_ [(2, .pointer (some ⟨bx9, 0, none⟩))] ∧ St [] w (fun _ => 0) w_ o182 ∧ Ft (Bx bx9 51 [.string (⟨#[]⟩ : ByteArray), .int .i64 0]) w_ o182 25 ∧ tidewrackref01_Read_j1 = some r) ?_ ?_
    rotate_left
    · rintro a w183 ⟨o182, hk, hs, f10, H⟩
      rw [tidewrackref01_Read_j1] at H
      refine x_seq ?_
      refine wpIn_region_lit ?_
      refine x_run tab hk (k := 1) (lv := []) (ks := [2, 57]) (e' := [(2, .pointer (some ⟨bx9, 0, none⟩)), (57, .agg #[.string (⟨#[]⟩ : ByteArray), .int .i64 1])]) rfl trivial fun a hk => ?_
      refine x_op hk rfl ?_
      refine op_store tab hk (t := 51) (v := .agg #[.string (⟨#[]⟩ : ByteArray), .int .i64 1]) (b := bx9) (k := 0) (cs' := [.string (⟨#[]⟩ : ByteArray), .int .i64 1]) rfl rfl rfl rfl rfl rfl f10 rfl rfl fun w184 o185 st186 f10_ => ?_
      replace hs := hs.loc0 st186 (by decide)
      replace f10 := f10_
      refine x_run tab hk (k := 1) (lv := []) (ks := [2, 3]) (e' := [(2, .pointer (some ⟨bx9, 0, none⟩)), (3, .int .i64 0)]) rfl trivial fun a hk => ?_
      refine wpListIn_nil ?_
      refine then_n ?_
      refine wpIn_ret ?_
      obtain rfl := Option.some.inj H
      exact x_retG hk (rs := [.cell 2 51, .tmp 3]) (vs := [.agg #[.string (⟨#[]⟩ : ByteArray), .int .i64 1], .int .i64 0]) rfl ⟨⟨_, rfl, load_box tab rfl rfl f10.now (k := 0) rfl rfl⟩, rfl, trivial⟩ ⟨fun b_ => if b_ < w.heap.size then o b_ else (fun _ => 0) (o185 b_), rfl, hs.close0 o (fun _ => 0)⟩
    refine x_seq ?_
    refine wpIn_region_lit ?_
    refine x_run tab hk (k := 1) (lv := []) (ks := [1, 2, 4, 5, 6]) (e' := [(1, .pointer (some ⟨bx4, 0, none⟩)), (2, .pointer (some ⟨bx9, 0, none⟩)), (4, .int .i64 0), (5, .int .i64 1), (6, .int .i64 0)]) rfl trivial fun a hk => ?_
    refine wpListIn_nil ?_
    refine then_n ?_
    refine wpIn_block ?_
    refine x_loop (fun j_ a_ w_ => ∃ o242 : Nat → Nat, ∃ x243 : Int, ∃ x244 : Int, ∃ x245 : Int, Kn 58 a_ [(1, .pointer (some ⟨bx4, 0, none⟩)), (2, .pointer (some ⟨bx9, 0, none⟩)), (4, .int .i64 x243), (5, .int .i64 x244), (6, .int .i64 x245)] ∧ St [] w (fun _ => 0) w_ o242 ∧ Ft (Bx bx9 51 [.string (⟨#[]⟩ : ByteArray), .int .i64 0]) w_ o242 35 ∧ Ft (Bx bx4 51 [.string p0.S, .int .i64 p0.E]) w_ o242 34 ∧ tidewrackref01_Read_l2 p0 j_ x243 x244 x245 = some r) (k := K) ⟨(fun b_ => (fun l_ => if l_ = 1 then 34 else if l_ = 2 then 35 else l_) (o7 b_)), 0, 1, 0, (by exact Kn.pick (ks := [1, 2, 4, 5, 6]) hk rfl), (hs.relab0 (fun l_ => if l_ = 1 then 34 else if l_ = 2 then 35 else l_) rfl), (f10.relab (fun l_ => if l_ = 1 then 34 else if l_ = 2 then 35 else l_) rfl), (f5.relab (fun l_ => if l_ = 1 then 34 else if l_ = 2 then 35 else l_) rfl), H⟩ (by rintro _ _ ⟨_, _, _, _, _, _, _, _, H_⟩; exact absurd (show (none : Option (T50 × Int)) = some r from H_) (by simp)) ?_
    rintro k299 a w298 ⟨o242, x243, x244, x245, hk, hs, f10, f5, H⟩
    rw [tidewrackref01_Read_l2] at H
    obtain ⟨lp300, hlp301⟩ : ∃ lp_, lp_ = tidewrackref01_Read_l2 p0 k299 := ⟨_, rfl⟩
    rw [← hlp301] at H
    refine x_seq ?_
    refine x_seq ?_
    refine wpIn_region_lit ?_
    refine x_run tab hk (k := 2) (lv := []) (ks := [1, 2, 4, 5, 6, 13]) (e' := [(1, .pointer (some ⟨bx4, 0, none⟩)), (2, .pointer (some ⟨bx9, 0, none⟩)), (4, .int .i64 x243), (5, .int .i64 x244), (6, .int .i64 x245), (13, .bool (decide (x245 < (9 : Int))))]) rfl trivial fun a hk => ?_
    refine wpListIn_nil ?_
    refine then_n ?_
    cases b302 : (decide (x245 < (9 : Int)))
    · rw [b302] at hk H
      replace H := bifF H
      refine x_if hk (b := false) rfl ?_
      refine (show Code.wpIn _ _ _ _ _ _ _ from ?_)
      refine wpIn_exit ?_
      refine then_x ?_
      refine then_x ?_
      refine blk_x ?_
      refine then_n ?_
      exact ⟨(fun b_ => (fun l_ => if l_ = 35 then 25 else l_) (o242 b_)), (by exact Kn.pick (ks := [2]) hk rfl), (hs.relab0 (fun l_ => if l_ = 35 then 25 else l_) rfl), (f10.relab (fun l_ => if l_ = 35 then 25 else l_) rfl), H⟩
    · rw [b302] at hk H
      replace H := bifT H
      refine x_if hk (b := true) rfl ?_
      refine (show Code.wpIn _ _ _ _ _ _ _ from ?_)
      refine wpIn_skip ?_
      refine then_n ?_
      refine x_seq ?_
      refine wpIn_block ?_
      refine x_seq ?_
      refine x_seq ?_
      refine wpIn_region_lit ?_
      refine x_run tab hk (k := 5) (lv := [.string p0.S]) (ks := [1, 2, 4, 5, 6, 20]) (e' := [(1, .pointer (some ⟨bx4, 0, none⟩)), (2, .pointer (some ⟨bx9, 0, none⟩)), (4, .int .i64 x243), (5, .int .i64 x244), (6, .int .i64 x245), (20, .bool (x245 == ((p0.S).size : Int)))]) rfl ⟨(load1 tab rfl ((Bx.cell f5.now 0).trans rfl)), trivial⟩ fun a hk => ?_
      refine wpListIn_nil ?_
      refine then_n ?_
      cases b303 : (x245 == ((p0.S).size : Int))
      · rw [b303] at hk H
        replace H := bifF H
        refine x_if hk (b := false) rfl ?_
        refine (show Code.wpIn _ _ _ _ _ _ _ from ?_)
        refine wpIn_skip ?_
        refine then_n ?_
        refine x_seq ?_
        refine wpIn_region_lit ?_
        obtain ⟨q304, H⟩ := ifS H
        refine x_run tab hk (k := 6) (lv := [.string p0.S]) (ks := [1, 2, 4, 5, 6, 7]) (e' := [(1, .pointer (some ⟨bx4, 0, none⟩)), (2, .pointer (some ⟨bx9, 0, none⟩)), (4, .int .i64 x243), (5, .int .i64 x244), (6, .int .i64 x245), (7, .int .i64 (IntKind.wrap .i64 (bt p0.S x245)))]) rfl ⟨(load1 tab rfl ((Bx.cell f5.now 0).trans rfl)), q304, trivial⟩ fun a hk => ?_
        refine wpListIn_nil ?_
        refine then_n ?_
        refine x_seq ?_
        refine wpIn_region_lit ?_
        refine x_run tab hk (k := 7) (lv := []) (ks := [1, 2, 4, 5, 6, 7]) (e' := [(1, .pointer (some ⟨bx4, 0, none⟩)), (2, .pointer (some ⟨bx9, 0, none⟩)), (4, .int .i64 (IntKind.wrap .i64 (x243 + (IntKind.wrap .i64 ((Int.tmod (IntKind.wrap .i64 (bt p0.S x245)) 128) * x244))))), (5, .int .i64 x244), (6, .int .i64 x245), (7, .int .i64 (IntKind.wrap .i64 (bt p0.S x245)))]) rfl ⟨(show (128 : Int) ≠ 0 from by decide), trivial⟩ fun a hk => ?_
        refine wpListIn_nil ?_
        refine then_n ?_
        refine x_seq ?_
        refine x_seq ?_
        refine wpIn_region_lit ?_
        refine x_run tab hk (k := 2) (lv := []) (ks := [1, 2, 4, 5, 6, 7, 34]) (e' := [(1, .pointer (some ⟨bx4, 0, none⟩)), (2, .pointer (some ⟨bx9, 0, none⟩)), (4, .int .i64 (IntKind.wrap .i64 (x243 + (IntKind.wrap .i64 ((Int.tmod (IntKind.wrap .i64 (bt p0.S x245)) 128) * x244))))), (5, .int .i64 x244), (6, .int .i64 x245), (7, .int .i64 (IntKind.wrap .i64 (bt p0.S x245))), (34, .bool (decide ((IntKind.wrap .i64 (bt p0.S x245)) < (128 : Int))))]) rfl trivial fun a hk => ?_
        refine wpListIn_nil ?_
        refine then_n ?_
        cases b305 : (decide ((IntKind.wrap .i64 (bt p0.S x245)) < (128 : Int)))
        · rw [b305] at hk H
          replace H := bifF H
          refine x_if hk (b := false) rfl ?_
          refine (show Code.wpIn _ _ _ _ _ _ _ from ?_)
          refine wpIn_skip ?_
          refine then_n ?_
          refine x_seq ?_
          refine wpIn_region_lit ?_
          refine x_run tab hk (k := 2) (lv := []) (ks := [1, 2, 4, 5, 6, 54]) (e' := [(1, .pointer (some ⟨bx4, 0, none⟩)), (2, .pointer (some ⟨bx9, 0, none⟩)), (4, .int .i64 (IntKind.wrap .i64 (x243 + (IntKind.wrap .i64 ((Int.tmod (IntKind.wrap .i64 (bt p0.S x245)) 128) * x244))))), (5, .int .i64 x244), (6, .int .i64 x245), (54, .bool (decide (x245 < (8 : Int))))]) rfl trivial fun a hk => ?_
          refine wpListIn_nil ?_
          refine then_n ?_
          cases b306 : (decide (x245 < (8 : Int)))
          · rw [b306] at hk H
            replace H := bifF H
            refine x_if hk (b := false) rfl ?_
            refine (show Code.wpIn _ _ _ _ _ _ _ from ?_)
            refine wpIn_skip ?_
            refine blk_n ?_
            refine then_n ?_
            refine wpIn_region_lit ?_
            refine x_run tab hk (k := 3) (lv := []) (ks := [1, 2, 4, 5, 6]) (e' := [(1, .pointer (some ⟨bx4, 0, none⟩)), (2, .pointer (some ⟨bx9, 0, none⟩)), (4, .int .i64 (IntKind.wrap .i64 (x243 + (IntKind.wrap .i64 ((Int.tmod (IntKind.wrap .i64 (bt p0.S x245)) 128) * x244))))), (5, .int .i64 x244), (6, .int .i64 (IntKind.wrap .i64 (x245 + 1)))]) rfl trivial fun a hk => ?_
            refine wpListIn_nil ?_
            refine then_n ?_
            exact ⟨k299, Nat.le_refl _, o242, (IntKind.wrap .i64 (x243 + (IntKind.wrap .i64 ((Int.tmod (IntKind.wrap .i64 (bt p0.S x245)) 128) * x244)))), x244, (IntKind.wrap .i64 (x245 + 1)), (by exact Kn.pick (ks := [1, 2, 4, 5, 6]) hk rfl), hs, f10, f5, (hlp301 ▸ H)⟩
          · rw [b306] at hk H
            replace H := bifT H
            refine x_if hk (b := true) rfl ?_
            refine (show Code.wpIn _ _ _ _ _ _ _ from ?_)
            refine wpIn_region_lit ?_
            refine x_run tab hk (k := 3) (lv := []) (ks := [1, 2, 4, 5, 6]) (e' := [(1, .pointer (some ⟨bx4, 0, none⟩)), (2, .pointer (some ⟨bx9, 0, none⟩)), (4, .int .i64 (IntKind.wrap .i64 (x243 + (IntKind.wrap .i64 ((Int.tmod (IntKind.wrap .i64 (bt p0.S x245)) 128) * x244))))), (5, .int .i64 (IntKind.wrap .i64 (x244 * 128))), (6, .int .i64 x245)]) rfl trivial fun a hk => ?_
            refine wpListIn_nil ?_
            refine blk_n ?_
            refine then_n ?_
            refine wpIn_region_lit ?_
            refine x_run tab hk (k := 3) (lv := []) (ks := [1, 2, 4, 5, 6]) (e' := [(1, .pointer (some ⟨bx4, 0, none⟩)), (2, .pointer (some ⟨bx9, 0, none⟩)), (4, .int .i64 (IntKind.wrap .i64 (x243 + (IntKind.wrap .i64 ((Int.tmod (IntKind.wrap .i64 (bt p0.S x245)) 128) * x244))))), (5, .int .i64 (IntKind.wrap .i64 (x244 * 128))), (6, .int .i64 (IntKind.wrap .i64 (x245 + 1)))]) rfl trivial fun a hk => ?_
            refine wpListIn_nil ?_
            refine then_n ?_
            exact ⟨k299, Nat.le_refl _, o242, (IntKind.wrap .i64 (x243 + (IntKind.wrap .i64 ((Int.tmod (IntKind.wrap .i64 (bt p0.S x245)) 128) * x244)))), (IntKind.wrap .i64 (x244 * 128)), (IntKind.wrap .i64 (x245 + 1)), (by exact Kn.pick (ks := [1, 2, 4, 5, 6]) hk rfl), hs, f10, f5, (hlp301 ▸ H)⟩
        · rw [b305] at hk H
          replace H := bifT H
          refine x_if hk (b := true) rfl ?_
          refine (show Code.wpIn _ _ _ _ _ _ _ from ?_)
          refine x_mid (fun a_ w_ => ∃ o327 : Nat → Nat, Kn 58 a_ [(1, .pointer (some ⟨bx4, 0, none⟩)), (2, .pointer (some ⟨bx9, 0, none⟩)), (4, .int .i64 (IntKind.wrap .i64 (x243 + (IntKind.wrap .i64 ((Int.tmod (IntKind.wrap .i64 (bt p0.S x245)) 128) * x244))))), (6, .int .i64 x245)] ∧ St [] w (fun _ => 0) w_ o327 ∧ Ft (Bx bx9 51 [.string (⟨#[]⟩ : ByteArray), .int .i64 0]) w_ o327 45 ∧ Ft (Bx bx4 51 [.string p0.S, .int .i64 p0.E]) w_ o327 44 ∧ tidewrackref01_Read_j3 p0 x243 x244 x245 = some r) ?_ ?_
          rotate_left
          · rintro a w328 ⟨o327, hk, hs, f10, f5, H⟩
            rw [tidewrackref01_Read_j3] at H
            refine x_seq ?_
            refine wpIn_region_lit ?_
            obtain ⟨q329, H⟩ := ifS H
            obtain ⟨q330, H⟩ := ifS H
            refine x_run tab hk (k := 7) (lv := [.string p0.S]) (ks := [2, 51, 52]) (e' := [(2, .pointer (some ⟨bx9, 0, none⟩)), (51, .agg #[.string (ByteArray.extract p0.S (Int.toNat (IntKind.wrap .i64 (x245 + 1))) (p0.S).size), .int .i64 0]), (52, .int .i64 (IntKind.wrap .i64 (x243 + (IntKind.wrap .i64 ((Int.tmod (IntKind.wrap .i64 (bt p0.S x245)) 128) * x244)))))]) rfl ⟨(load1 tab rfl ((Bx.cell f5.now 0).trans rfl)), q329, q330, trivial⟩ fun a hk => ?_
            refine x_op hk rfl ?_
            refine op_store tab hk (t := 51) (v := .agg #[.string (ByteArray.extract p0.S (Int.toNat (IntKind.wrap .i64 (x245 + 1))) (p0.S).size), .int .i64 0]) (b := bx9) (k := 0) (cs' := [.string (ByteArray.extract p0.S (Int.toNat (IntKind.wrap .i64 (x245 + 1))) (p0.S).size), .int .i64 0]) rfl rfl rfl rfl rfl rfl f10 rfl rfl fun w331 o332 st333 f10_ => ?_
            replace hs := hs.loc0 st333 (by decide)
            replace f10 := f10_
            refine x_run tab hk (k := 1) (lv := []) (ks := [2, 3]) (e' := [(2, .pointer (some ⟨bx9, 0, none⟩)), (3, .int .i64 (IntKind.wrap .i64 (x243 + (IntKind.wrap .i64 ((Int.tmod (IntKind.wrap .i64 (bt p0.S x245)) 128) * x244)))))]) rfl trivial fun a hk => ?_
            refine wpListIn_nil ?_
            refine then_n ?_
            refine wpIn_ret ?_
            refine then_r ?_
            refine blk_r ?_
            refine then_r ?_
            refine then_r ?_
            refine blk_r ?_
            refine then_r ?_
            obtain rfl := Option.some.inj H
            exact x_retG hk (rs := [.cell 2 51, .tmp 3]) (vs := [.agg #[.string (ByteArray.extract p0.S (Int.toNat (IntKind.wrap .i64 (x245 + 1))) (p0.S).size), .int .i64 0], .int .i64 (IntKind.wrap .i64 (x243 + (IntKind.wrap .i64 ((Int.tmod (IntKind.wrap .i64 (bt p0.S x245)) 128) * x244))))]) rfl ⟨⟨_, rfl, load_box tab rfl rfl f10.now (k := 0) rfl rfl⟩, rfl, trivial⟩ ⟨fun b_ => if b_ < w.heap.size then o b_ else (fun _ => 0) (o332 b_), rfl, hs.close0 o (fun _ => 0)⟩
          refine x_mid (fun a_ w_ => ∃ o342 : Nat → Nat, ∃ x343 : Bool, Kn 58 a_ [(1, .pointer (some ⟨bx4, 0, none⟩)), (2, .pointer (some ⟨bx9, 0, none⟩)), (4, .int .i64 (IntKind.wrap .i64 (x243 + (IntKind.wrap .i64 ((Int.tmod (IntKind.wrap .i64 (bt p0.S x245)) 128) * x244))))), (6, .int .i64 x245), (44, .bool x343)] ∧ St [] w (fun _ => 0) w_ o342 ∧ Ft (Bx bx9 51 [.string (⟨#[]⟩ : ByteArray), .int .i64 0]) w_ o342 47 ∧ Ft (Bx bx4 51 [.string p0.S, .int .i64 p0.E]) w_ o342 46 ∧ tidewrackref01_Read_j4 p0 x243 x244 x245 x343 = some r) ?_ ?_
          rotate_left
          · rintro a w344 ⟨o342, x343, hk, hs, f10, f5, H⟩
            rw [tidewrackref01_Read_j4] at H
            cases b345 : x343
            · rw [b345] at hk H
              replace H := bifF H
              refine x_if hk (b := false) rfl ?_
              refine (show Code.wpIn _ _ _ _ _ _ _ from ?_)
              refine wpIn_skip ?_
              refine then_n ?_
              exact ⟨(fun b_ => (fun l_ => if l_ = 46 then 44 else if l_ = 47 then 45 else l_) (o342 b_)), (by exact Kn.pick (ks := [1, 2, 4, 6]) hk rfl), (hs.relab0 (fun l_ => if l_ = 46 then 44 else if l_ = 47 then 45 else l_) rfl), (f10.relab (fun l_ => if l_ = 46 then 44 else if l_ = 47 then 45 else l_) rfl), (f5.relab (fun l_ => if l_ = 46 then 44 else if l_ = 47 then 45 else l_) rfl), H⟩
            · rw [b345] at hk H
              replace H := bifT H
              refine x_if hk (b := true) rfl ?_
              refine (show Code.wpIn _ _ _ _ _ _ _ from ?_)
              refine x_seq ?_
              refine wpIn_region_lit ?_
              refine x_run tab hk (k := 1) (lv := []) (ks := [2, 45]) (e' := [(2, .pointer (some ⟨bx9, 0, none⟩)), (45, .agg #[.string (⟨#[]⟩ : ByteArray), .int .i64 1])]) rfl trivial fun a hk => ?_
              refine x_op hk rfl ?_
              refine op_store tab hk (t := 51) (v := .agg #[.string (⟨#[]⟩ : ByteArray), .int .i64 1]) (b := bx9) (k := 0) (cs' := [.string (⟨#[]⟩ : ByteArray), .int .i64 1]) rfl rfl rfl rfl rfl rfl f10 rfl rfl fun w346 o347 st348 f10_ => ?_
              replace hs := hs.loc0 st348 (by decide)
              replace f10 := f10_
              refine x_run tab hk (k := 1) (lv := []) (ks := [2, 3]) (e' := [(2, .pointer (some ⟨bx9, 0, none⟩)), (3, .int .i64 0)]) rfl trivial fun a hk => ?_
              refine wpListIn_nil ?_
              refine then_n ?_
              refine wpIn_ret ?_
              refine then_r ?_
              refine then_r ?_
              refine blk_r ?_
              refine then_r ?_
              refine then_r ?_
              refine blk_r ?_
              refine then_r ?_
              obtain rfl := Option.some.inj H
              exact x_retG hk (rs := [.cell 2 51, .tmp 3]) (vs := [.agg #[.string (⟨#[]⟩ : ByteArray), .int .i64 1], .int .i64 0]) rfl ⟨⟨_, rfl, load_box tab rfl rfl f10.now (k := 0) rfl rfl⟩, rfl, trivial⟩ ⟨fun b_ => if b_ < w.heap.size then o b_ else (fun _ => 0) (o347 b_), rfl, hs.close0 o (fun _ => 0)⟩
          refine wpIn_region_lit ?_
          refine x_run tab hk (k := 3) (lv := []) (ks := [1, 2, 4, 6, 7, 37]) (e' := [(1, .pointer (some ⟨bx4, 0, none⟩)), (2, .pointer (some ⟨bx9, 0, none⟩)), (4, .int .i64 (IntKind.wrap .i64 (x243 + (IntKind.wrap .i64 ((Int.tmod (IntKind.wrap .i64 (bt p0.S x245)) 128) * x244))))), (6, .int .i64 x245), (7, .int .i64 (IntKind.wrap .i64 (bt p0.S x245))), (37, .bool (decide (x245 > (0 : Int))))]) rfl trivial fun a hk => ?_
          cases b349 : (decide (x245 > (0 : Int)))
          · rw [b349] at hk H
            replace H := bifF H
            refine x_run tab hk (k := 7) (lv := []) (ks := [1, 2, 4, 6, 44]) (e' := [(1, .pointer (some ⟨bx4, 0, none⟩)), (2, .pointer (some ⟨bx9, 0, none⟩)), (4, .int .i64 (IntKind.wrap .i64 (x243 + (IntKind.wrap .i64 ((Int.tmod (IntKind.wrap .i64 (bt p0.S x245)) 128) * x244))))), (6, .int .i64 x245), (44, .bool (decide ((IntKind.wrap .i64 (x243 + (IntKind.wrap .i64 ((Int.tmod (IntKind.wrap .i64 (bt p0.S x245)) 128) * x244)))) > (4611686018427387904 : Int))))]) rfl trivial fun a hk => ?_
            refine wpListIn_nil ?_
            refine then_n ?_
            exact ⟨(fun b_ => (fun l_ => if l_ = 34 then 46 else if l_ = 35 then 47 else l_) (o242 b_)), (decide ((IntKind.wrap .i64 (x243 + (IntKind.wrap .i64 ((Int.tmod (IntKind.wrap .i64 (bt p0.S x245)) 128) * x244)))) > (4611686018427387904 : Int))), (by exact Kn.pick (ks := [1, 2, 4, 6, 44]) hk rfl), (hs.relab0 (fun l_ => if l_ = 34 then 46 else if l_ = 35 then 47 else l_) rfl), (f10.relab (fun l_ => if l_ = 34 then 46 else if l_ = 35 then 47 else l_) rfl), (f5.relab (fun l_ => if l_ = 34 then 46 else if l_ = 35 then 47 else l_) rfl), H⟩
          · rw [b349] at hk H
            replace H := bifT H
            refine x_run tab hk (k := 4) (lv := []) (ks := [1, 2, 4, 6, 41]) (e' := [(1, .pointer (some ⟨bx4, 0, none⟩)), (2, .pointer (some ⟨bx9, 0, none⟩)), (4, .int .i64 (IntKind.wrap .i64 (x243 + (IntKind.wrap .i64 ((Int.tmod (IntKind.wrap .i64 (bt p0.S x245)) 128) * x244))))), (6, .int .i64 x245), (41, .bool ((IntKind.wrap .i64 (bt p0.S x245)) == (0 : Int)))]) rfl trivial fun a hk => ?_
            cases b350 : ((IntKind.wrap .i64 (bt p0.S x245)) == (0 : Int))
            · rw [b350] at hk H
              replace H := bifF H
              refine x_run tab hk (k := 3) (lv := []) (ks := [1, 2, 4, 6, 44]) (e' := [(1, .pointer (some ⟨bx4, 0, none⟩)), (2, .pointer (some ⟨bx9, 0, none⟩)), (4, .int .i64 (IntKind.wrap .i64 (x243 + (IntKind.wrap .i64 ((Int.tmod (IntKind.wrap .i64 (bt p0.S x245)) 128) * x244))))), (6, .int .i64 x245), (44, .bool (decide ((IntKind.wrap .i64 (x243 + (IntKind.wrap .i64 ((Int.tmod (IntKind.wrap .i64 (bt p0.S x245)) 128) * x244)))) > (4611686018427387904 : Int))))]) rfl trivial fun a hk => ?_
              refine wpListIn_nil ?_
              refine then_n ?_
              exact ⟨(fun b_ => (fun l_ => if l_ = 34 then 46 else if l_ = 35 then 47 else l_) (o242 b_)), (decide ((IntKind.wrap .i64 (x243 + (IntKind.wrap .i64 ((Int.tmod (IntKind.wrap .i64 (bt p0.S x245)) 128) * x244)))) > (4611686018427387904 : Int))), (by exact Kn.pick (ks := [1, 2, 4, 6, 44]) hk rfl), (hs.relab0 (fun l_ => if l_ = 34 then 46 else if l_ = 35 then 47 else l_) rfl), (f10.relab (fun l_ => if l_ = 34 then 46 else if l_ = 35 then 47 else l_) rfl), (f5.relab (fun l_ => if l_ = 34 then 46 else if l_ = 35 then 47 else l_) rfl), H⟩
            · rw [b350] at hk H
              replace H := bifT H
              refine x_run tab hk (k := 3) (lv := []) (ks := [1, 2, 4, 6, 44]) (e' := [(1, .pointer (some ⟨bx4, 0, none⟩)), (2, .pointer (some ⟨bx9, 0, none⟩)), (4, .int .i64 (IntKind.wrap .i64 (x243 + (IntKind.wrap .i64 ((Int.tmod (IntKind.wrap .i64 (bt p0.S x245)) 128) * x244))))), (6, .int .i64 x245), (44, .bool true)]) rfl trivial fun a hk => ?_
              refine wpListIn_nil ?_
              refine then_n ?_
              exact ⟨(fun b_ => (fun l_ => if l_ = 34 then 46 else if l_ = 35 then 47 else l_) (o242 b_)), true, (by exact Kn.pick (ks := [1, 2, 4, 6, 44]) hk rfl), (hs.relab0 (fun l_ => if l_ = 34 then 46 else if l_ = 35 then 47 else l_) rfl), (f10.relab (fun l_ => if l_ = 34 then 46 else if l_ = 35 then 47 else l_) rfl), (f5.relab (fun l_ => if l_ = 34 then 46 else if l_ = 35 then 47 else l_) rfl), H⟩
      · rw [b303] at hk H
        replace H := bifT H
        refine x_if hk (b := true) rfl ?_
        refine (show Code.wpIn _ _ _ _ _ _ _ from ?_)
        refine x_seq ?_
        refine wpIn_region_lit ?_
        refine x_run tab hk (k := 1) (lv := []) (ks := [2, 21]) (e' := [(2, .pointer (some ⟨bx9, 0, none⟩)), (21, .agg #[.string (⟨#[]⟩ : ByteArray), .int .i64 2])]) rfl trivial fun a hk => ?_
        refine x_op hk rfl ?_
        refine op_store tab hk (t := 51) (v := .agg #[.string (⟨#[]⟩ : ByteArray), .int .i64 2]) (b := bx9) (k := 0) (cs' := [.string (⟨#[]⟩ : ByteArray), .int .i64 2]) rfl rfl rfl rfl rfl rfl f10 rfl rfl fun w351 o352 st353 f10_ => ?_
        replace hs := hs.loc0 st353 (by decide)
        replace f10 := f10_
        refine x_run tab hk (k := 1) (lv := []) (ks := [2, 3]) (e' := [(2, .pointer (some ⟨bx9, 0, none⟩)), (3, .int .i64 0)]) rfl trivial fun a hk => ?_
        refine wpListIn_nil ?_
        refine then_n ?_
        refine wpIn_ret ?_
        refine then_r ?_
        refine blk_r ?_
        refine then_r ?_
        refine then_r ?_
        refine blk_r ?_
        refine then_r ?_
        obtain rfl := Option.some.inj H
        exact x_retG hk (rs := [.cell 2 51, .tmp 3]) (vs := [.agg #[.string (⟨#[]⟩ : ByteArray), .int .i64 2], .int .i64 0]) rfl ⟨⟨_, rfl, load_box tab rfl rfl f10.now (k := 0) rfl rfl⟩, rfl, trivial⟩ ⟨fun b_ => if b_ < w.heap.size then o b_ else (fun _ => 0) (o352 b_), rfl, hs.close0 o (fun _ => 0)⟩
  · rw [b11] at hk H
    replace H := bifT H
    refine x_if hk (b := true) rfl ?_
    refine (show Code.wpIn _ _ _ _ _ _ _ from ?_)
    refine x_seq ?_
    refine wpIn_region_lit ?_
    refine x_run tab hk (k := 1) (lv := [.agg #[.string p0.S, .int .i64 p0.E]]) (ks := [2, 11]) (e' := [(2, .pointer (some ⟨bx9, 0, none⟩)), (11, .agg #[.string p0.S, .int .i64 p0.E])]) rfl ⟨(load_box tab rfl rfl f5.now (k := 0) rfl rfl), trivial⟩ fun a hk => ?_
    refine x_op hk rfl ?_
    refine op_store tab hk (t := 51) (v := .agg #[.string p0.S, .int .i64 p0.E]) (b := bx9) (k := 0) (cs' := [.string p0.S, .int .i64 p0.E]) rfl rfl rfl rfl rfl rfl f10 rfl rfl fun w354 o355 st356 f10_ => ?_
    replace hs := hs.loc0 st356 (by decide)
    replace f10 := f10_
    refine x_run tab hk (k := 1) (lv := []) (ks := [2, 3]) (e' := [(2, .pointer (some ⟨bx9, 0, none⟩)), (3, .int .i64 0)]) rfl trivial fun a hk => ?_
    refine wpListIn_nil ?_
    refine then_n ?_
    refine wpIn_ret ?_
    refine then_r ?_
    obtain rfl := Option.some.inj H
    exact x_retG hk (rs := [.cell 2 51, .tmp 3]) (vs := [.agg #[.string p0.S, .int .i64 p0.E], .int .i64 0]) rfl ⟨⟨_, rfl, load_box tab rfl rfl f10.now (k := 0) rfl rfl⟩, rfl, trivial⟩ ⟨fun b_ => if b_ < w.heap.size then o b_ else (fun _ => 0) (o355 b_), rfl, hs.close0 o (fun _ => 0)⟩

/-! tidewrack/tidewrackref01.Raw -/
theorem tidewrackref01_Raw_calls (p0 : T50) (p1 : Int) (w : World) (o : Nat → Nat)   (r : T50 × ByteArray) (H : tidewrackref01_Raw p0 p1 = some r) :
    Calls Try.prog 28 #[.agg #[.string p0.S, .int .i64 p0.E], .int .i64 p1] w (Ret fun v_ w' => ∃ o' : Nat → Nat, v_ = .tuple #[.agg #[.string r.1.S, .int .i64 r.1.E], .string r.2] ∧ St [] w o w' o') := by
  refine x_enter (vs := [.agg #[.string p0.S, .int .i64 p0.E], .int .i64 p1]) Try.func28 rfl rfl rfl fun a hk => ?_
  obtain ⟨o0, hs, h0⟩ := St.start w o
  clear h0
  rw [tidewrackref01_Raw] at H
  refine x_seq ?_
  refine wpIn_region_lit ?_
  refine x_op hk rfl ?_
  refine op_box (o := o0) (t := 51) (v := .agg #[.string p0.S, .int .i64 p0.E]) (cs := [.string p0.S, .int .i64 p0.E]) hk rfl rfl 1 fun bx4 w1 o2 st3 f5 => ?_
  replace hs := hs.loc0 st3 (by decide)
  have hk := hk.put 2 (.pointer (some ⟨bx4, 0, none⟩)) rfl
  refine x_op hk rfl ?_
  refine op_alloc (o := o2) tab (t := 51) (cs := [.string (⟨#[]⟩ : ByteArray), .int .i64 0]) rfl rfl 2 fun bx9 w6 o7 st8 f10 => ?_
  replace f5 := f5.st st8 (by decide)
  replace hs := hs.loc0 st8 (by decide)
  have hk := hk.put 4 (.pointer (some ⟨bx9, 0, none⟩)) rfl
  refine x_run tab hk (k := 1) (lv := []) (ks := [1, 2, 4]) (e' := [(1, .int .i64 p1), (2, .pointer (some ⟨bx4, 0, none⟩)), (4, .pointer (some ⟨bx9, 0, none⟩))]) rfl trivial fun a hk => ?_
  refine wpListIn_nil ?_
  refine then_n ?_
  refine x_seq ?_
  refine wpIn_region_lit ?_
  refine x_run tab hk (k := 3) (lv := []) (ks := [1, 2, 4]) (e' := [(1, .int .i64 (mxI 0 p1)), (2, .pointer (some ⟨bx4, 0, none⟩)), (4, .pointer (some ⟨bx9, 0, none⟩))]) rfl trivial fun a hk => ?_
  refine wpListIn_nil ?_
  refine then_n ?_
  refine x_seq ?_
  refine x_seq ?_
  refine wpIn_region_lit ?_
  refine x_run tab hk (k := 3) (lv := [.int .i64 p0.E]) (ks := [1, 2, 4, 10]) (e' := [(1, .int .i64 (mxI 0 p1)), (2, .pointer (some ⟨bx4, 0, none⟩)), (4, .pointer (some ⟨bx9, 0, none⟩)), (10, .bool (p0.E != (0 : Int)))]) rfl ⟨(load1 tab rfl ((Bx.cell f5.now 1).trans rfl)), trivial⟩ fun a hk => ?_
  refine wpListIn_nil ?_
  refine then_n ?_
  cases b11 : (p0.E != (0 : Int))
  · rw [b11] at hk H
    replace H := bifF H
    refine x_if hk (b := false) rfl ?_
    refine (show Code.wpIn _ _ _ _ _ _ _ from ?_)
    refine wpIn_skip ?_
    refine then_n ?_
    refine x_seq ?_
    refine x_seq ?_
    refine wpIn_region_lit ?_
    refine x_run tab hk (k := 5) (lv := [.string p0.S]) (ks := [1, 2, 4, 16]) (e' := [(1, .int .i64 (mxI 0 p1)), (2, .pointer (some ⟨bx4, 0, none⟩)), (4, .pointer (some ⟨bx9, 0, none⟩)), (16, .bool (decide ((mxI 0 p1) > ((p0.S).size : Int))))]) rfl ⟨(load1 tab rfl ((Bx.cell f5.now 0).trans rfl)), trivial⟩ fun a hk => ?_
    refine wpListIn_nil ?_
    refine then_n ?_
    cases b12 : (decide ((mxI 0 p1) > ((p0.S).size : Int)))
    · rw [b12] at hk H
      replace H := bifF H
      refine x_if hk (b := false) rfl ?_
      refine (show Code.wpIn _ _ _ _ _ _ _ from ?_)
      refine wpIn_skip ?_
      refine then_n ?_
      refine x_seq ?_
      refine xd_begin (o := o7) (fun W_ => (Bx bx4 51 [.string p0.S, .int .i64 p0.E]) W_ ∧ True) mixed rfl rfl fun w23 st24 => ?_
      replace f10 := f10.st st24 (by decide)
      replace f5 := f5.st st24 (by decide)
      replace hs := hs.loc0 st24 (by decide)
      obtain ⟨q25, H⟩ := ifS H
      obtain ⟨q26, H⟩ := ifS H
      refine xd_take tab hk (k := 2) (is := [0, 1, 2, 3, 4, 5, 6, 7, 8]) (ls' := #[true, true, true, true, true, true, true, true, true, false, false]) (lv := [.string p0.S, .string p0.S]) (ks := [4, 22, 26]) (e' := [(4, .pointer (some ⟨bx9, 0, none⟩)), (22, .agg #[.string (ByteArray.extract p0.S (Int.toNat (mxI 0 p1)) (p0.S).size), .int .i64 0]), (26, .string (ByteArray.extract p0.S 0 (Int.toNat (mxI 0 p1))))]) (by kernel_rfl) rfl rfl (by kernel_rfl) (np_then np_body) ⟨f5.now, trivial⟩ (fun W_ hS => ⟨(load1 tab rfl ((Bx.cell hS.1 0).trans rfl)), q25, q26, (load1 tab rfl ((Bx.cell hS.1 0).trans rfl)), q25, q26, trivial⟩) fun a hk => ?_
      refine xd_op hk (i := 9) (by kernel_rfl) rfl rfl ?_
      refine op_store tab hk (t := 51) (v := .agg #[.string (ByteArray.extract p0.S (Int.toNat (mxI 0 p1)) (p0.S).size), .int .i64 0]) (b := bx9) (k := 0) (cs' := [.string (ByteArray.extract p0.S (Int.toNat (mxI 0 p1)) (p0.S).size), .int .i64 0]) rfl rfl rfl rfl rfl rfl f10 rfl rfl fun w27 o28 st29 f10_ => ?_
      replace f5 := f5.st st29 (by decide)
      replace hs := hs.loc0 st29 (by decide)
      replace f10 := f10_
      refine ⟨.inr ⟨f5.now, trivial⟩, ?_⟩
      refine xd_take tab hk (k := 0) (is := [10]) (ls' := #[true, true, true, true, true, true, true, true, true, true, true]) (lv := []) (ks := [4, 5]) (e' := [(4, .pointer (some ⟨bx9, 0, none⟩)), (5, .string (ByteArray.extract p0.S 0 (Int.toNat (mxI 0 p1))))]) (by kernel_rfl) rfl rfl (by kernel_rfl) (np_then np_body) ⟨f5.now, trivial⟩ (fun W_ hS => trivial) fun a hk => ?_
      refine xd_done (by kernel_rfl) ?_
      refine then_n ?_
      refine wpIn_ret ?_
      obtain rfl := Option.some.inj H
      exact x_retG hk (rs := [.cell 4 51, .tmp 5]) (vs := [.agg #[.string (ByteArray.extract p0.S (Int.toNat (mxI 0 p1)) (p0.S).size), .int .i64 0], .string (ByteArray.extract p0.S 0 (Int.toNat (mxI 0 p1)))]) rfl ⟨⟨_, rfl, load_box tab rfl rfl f10.now (k := 0) rfl rfl⟩, rfl, trivial⟩ ⟨fun b_ => if b_ < w.heap.size then o b_ else (fun _ => 0) (o28 b_), rfl, hs.close0 o (fun _ => 0)⟩
    · rw [b12] at hk H
      replace H := bifT H
      refine x_if hk (b := true) rfl ?_
      refine (show Code.wpIn _ _ _ _ _ _ _ from ?_)
      refine x_seq ?_
      refine wpIn_region_lit ?_
      refine x_run tab hk (k := 1) (lv := []) (ks := [4, 17]) (e' := [(4, .pointer (some ⟨bx9, 0, none⟩)), (17, .agg #[.string (⟨#[]⟩ : ByteArray), .int .i64 2])]) rfl trivial fun a hk => ?_
      refine x_op hk rfl ?_
      refine op_store tab hk (t := 51) (v := .agg #[.string (⟨#[]⟩ : ByteArray), .int .i64 2]) (b := bx9) (k := 0) (cs' := [.string (⟨#[]⟩ : ByteArray), .int .i64 2]) rfl rfl rfl rfl rfl rfl f10 rfl rfl fun w30 o31 st32 f10_ => ?_
      replace hs := hs.loc0 st32 (by decide)
      replace f10 := f10_
      refine x_run tab hk (k := 1) (lv := []) (ks := [4, 5]) (e' := [(4, .pointer (some ⟨bx9, 0, none⟩)), (5, .string (⟨#[]⟩ : ByteArray))]) rfl trivial fun a hk => ?_
      refine wpListIn_nil ?_
      refine then_n ?_
      refine wpIn_ret ?_
      refine then_r ?_
      obtain rfl := Option.some.inj H
      exact x_retG hk (rs := [.cell 4 51, .tmp 5]) (vs := [.agg #[.string (⟨#[]⟩ : ByteArray), .int .i64 2], .string (⟨#[]⟩ : ByteArray)]) rfl ⟨⟨_, rfl, load_box tab rfl rfl f10.now (k := 0) rfl rfl⟩, rfl, trivial⟩ ⟨fun b_ => if b_ < w.heap.size then o b_ else (fun _ => 0) (o31 b_), rfl, hs.close0 o (fun _ => 0)⟩
  · rw [b11] at hk H
    replace H := bifT H
    refine x_if hk (b := true) rfl ?_
    refine (show Code.wpIn _ _ _ _ _ _ _ from ?_)
    refine x_seq ?_
    refine wpIn_region_lit ?_
    refine x_run tab hk (k := 1) (lv := [.agg #[.string p0.S, .int .i64 p0.E]]) (ks := [4, 11]) (e' := [(4, .pointer (some ⟨bx9, 0, none⟩)), (11, .agg #[.string p0.S, .int .i64 p0.E])]) rfl ⟨(load_box tab rfl rfl f5.now (k := 0) rfl rfl), trivial⟩ fun a hk => ?_
    refine x_op hk rfl ?_
    refine op_store tab hk (t := 51) (v := .agg #[.string p0.S, .int .i64 p0.E]) (b := bx9) (k := 0) (cs' := [.string p0.S, .int .i64 p0.E]) rfl rfl rfl rfl rfl rfl f10 rfl rfl fun w33 o34 st35 f10_ => ?_
    replace hs := hs.loc0 st35 (by decide)
    replace f10 := f10_
    refine x_run tab hk (k := 1) (lv := []) (ks := [4, 5]) (e' := [(4, .pointer (some ⟨bx9, 0, none⟩)), (5, .string (⟨#[]⟩ : ByteArray))]) rfl trivial fun a hk => ?_
    refine wpListIn_nil ?_
    refine then_n ?_
    refine wpIn_ret ?_
    refine then_r ?_
    obtain rfl := Option.some.inj H
    exact x_retG hk (rs := [.cell 4 51, .tmp 5]) (vs := [.agg #[.string p0.S, .int .i64 p0.E], .string (⟨#[]⟩ : ByteArray)]) rfl ⟨⟨_, rfl, load_box tab rfl rfl f10.now (k := 0) rfl rfl⟩, rfl, trivial⟩ ⟨fun b_ => if b_ < w.heap.size then o b_ else (fun _ => 0) (o34 b_), rfl, hs.close0 o (fun _ => 0)⟩

/-! tidewrack/tidewrackref01.ReadText -/
theorem tidewrackref01_ReadText_calls (K : Nat) (p0 : T50) (w : World) (o : Nat → Nat)   (r : T50 × ByteArray) (H : tidewrackref01_ReadText K p0 = some r) :
    Calls Try.prog 26 #[.agg #[.string p0.S, .int .i64 p0.E]] w (Ret fun v_ w' => ∃ o' : Nat → Nat, v_ = .tuple #[.agg #[.string r.1.S, .int .i64 r.1.E], .string r.2] ∧ St [] w o w' o') := by
  refine x_enter (vs := [.agg #[.string p0.S, .int .i64 p0.E]]) Try.func26 rfl rfl rfl fun a hk => ?_
  obtain ⟨o0, hs, h0⟩ := St.start w o
  clear h0
  rw [tidewrackref01_ReadText] at H
  refine x_seq ?_
  refine wpIn_region_lit ?_
  refine x_op hk rfl ?_
  refine op_box (o := o0) (t := 51) (v := .agg #[.string p0.S, .int .i64 p0.E]) (cs := [.string p0.S, .int .i64 p0.E]) hk rfl rfl 1 fun bx4 w1 o2 st3 f5 => ?_
  replace hs := hs.loc0 st3 (by decide)
  have hk := hk.put 1 (.pointer (some ⟨bx4, 0, none⟩)) rfl
  refine x_op hk rfl ?_
  refine op_alloc (o := o2) tab (t := 51) (cs := [.string (⟨#[]⟩ : ByteArray), .int .i64 0]) rfl rfl 2 fun bx9 w6 o7 st8 f10 => ?_
  replace f5 := f5.st st8 (by decide)
  replace hs := hs.loc0 st8 (by decide)
  have hk := hk.put 2 (.pointer (some ⟨bx9, 0, none⟩)) rfl
  refine x_run tab hk (k := 1) (lv := []) (ks := [1, 2]) (e' := [(1, .pointer (some ⟨bx4, 0, none⟩)), (2, .pointer (some ⟨bx9, 0, none⟩))]) rfl trivial fun a hk => ?_
  refine wpListIn_nil ?_
  refine then_n ?_
  refine x_seq ?_
  refine wpIn_region_lit ?_
  refine x_run tab hk (k := 1) (lv := [.agg #[.string p0.S, .int .i64 p0.E]]) (ks := [2, 7]) (e' := [(2, .pointer (some ⟨bx9, 0, none⟩)), (7, .agg #[.string p0.S, .int .i64 p0.E])]) rfl ⟨(load_box tab rfl rfl f5.now (k := 0) rfl rfl), trivial⟩ fun a hk => ?_
  refine x_op hk rfl ?_
  obtain ⟨t14, hc15, H⟩ := bindS H
  refine op_call hk ent_25 (vs := [.agg #[.string p0.S, .int .i64 p0.E]]) rfl (tidewrackref01_Read_calls K p0 _ o7    _ hc15) ?_
  rintro _ w16 ⟨o17, rfl, st18⟩
  replace f10 := f10.st st18 (by decide)
  replace hs := hs.loc0 st18 (by decide)
  have hk := hk.put 8 (.tuple #[.agg #[.string t14.1.S, .int .i64 t14.1.E], .int .i64 t14.2]) rfl
  refine x_run tab hk (k := 3) (lv := []) (ks := [2, 9, 10]) (e' := [(2, .pointer (some ⟨bx9, 0, none⟩)), (9, .agg #[.string t14.1.S, .int .i64 t14.1.E]), (10, .int .i64 t14.2)]) rfl trivial fun a hk => ?_
  refine x_op hk rfl ?_
  refine op_alloc (o := o17) tab (t := 51) (cs := [.string (⟨#[]⟩ : ByteArray), .int .i64 0]) rfl rfl 3 fun bx22 w19 o20 st21 f23 => ?_
  replace f10 := f10.st st21 (by decide)
  replace hs := hs.loc0 st21 (by decide)
  have hk := hk.put 4 (.pointer (some ⟨bx22, 0, none⟩)) rfl
  refine x_op hk rfl ?_
  refine op_store tab hk (t := 51) (v := .agg #[.string t14.1.S, .int .i64 t14.1.E]) (b := bx22) (k := 0) (cs' := [.string t14.1.S, .int .i64 t14.1.E]) rfl rfl rfl rfl rfl rfl f23 rfl rfl fun w24 o25 st26 f23_ => ?_
  replace f10 := f10.st st26 (by decide)
  replace hs := hs.loc0 st26 (by decide)
  replace f23 := f23_
  refine x_run tab hk (k := 1) (lv := []) (ks := [2, 4, 5]) (e' := [(2, .pointer (some ⟨bx9, 0, none⟩)), (4, .pointer (some ⟨bx22, 0, none⟩)), (5, .int .i64 t14.2)]) rfl trivial fun a hk => ?_
  refine wpListIn_nil ?_
  refine then_n ?_
  refine x_seq ?_
  refine wpIn_region_lit ?_
  refine x_run tab hk (k := 2) (lv := [.agg #[.string t14.1.S, .int .i64 t14.1.E]]) (ks := [2, 11, 12]) (e' := [(2, .pointer (some ⟨bx9, 0, none⟩)), (11, .agg #[.string t14.1.S, .int .i64 t14.1.E]), (12, .int .i64 t14.2)]) rfl ⟨(load_box tab rfl rfl f23.now (k := 0) rfl rfl), trivial⟩ fun a hk => ?_
  refine x_op hk rfl ?_
  obtain ⟨t30, hc31, H⟩ := bindS H
  refine op_call hk ent_28 (vs := [.agg #[.string t14.1.S, .int .i64 t14.1.E], .int .i64 t14.2]) rfl (tidewrackref01_Raw_calls t14.1 t14.2 _ o25    _ hc31) ?_
  rintro _ w32 ⟨o33, rfl, st34⟩
  replace f10 := f10.st st34 (by decide)
  replace hs := hs.loc0 st34 (by decide)
  have hk := hk.put 13 (.tuple #[.agg #[.string t30.1.S, .int .i64 t30.1.E], .string t30.2]) rfl
  refine x_run tab hk (k := 2) (lv := []) (ks := [2, 14, 15]) (e' := [(2, .pointer (some ⟨bx9, 0, none⟩)), (14, .agg #[.string t30.1.S, .int .i64 t30.1.E]), (15, .string t30.2)]) rfl trivial fun a hk => ?_
  refine x_op hk rfl ?_
  refine op_store tab hk (t := 51) (v := .agg #[.string t30.1.S, .int .i64 t30.1.E]) (b := bx9) (k := 0) (cs' := [.string t30.1.S, .int .i64 t30.1.E]) rfl rfl rfl rfl rfl rfl f10 rfl rfl fun w35 o36 st37 f10_ => ?_
  replace hs := hs.loc0 st37 (by decide)
  replace f10 := f10_
  refine x_run tab hk (k := 1) (lv := []) (ks := [2, 3]) (e' := [(2, .pointer (some ⟨bx9, 0, none⟩)), (3, .string t30.2)]) rfl trivial fun a hk => ?_
  refine wpListIn_nil ?_
  refine then_n ?_
  refine wpIn_ret ?_
  obtain rfl := Option.some.inj H
  exact x_retG hk (rs := [.cell 2 51, .tmp 3]) (vs := [.agg #[.string t30.1.S, .int .i64 t30.1.E], .string t30.2]) rfl ⟨⟨_, rfl, load_box tab rfl rfl f10.now (k := 0) rfl rfl⟩, rfl, trivial⟩ ⟨fun b_ => if b_ < w.heap.size then o b_ else (fun _ => 0) (o36 b_), rfl, hs.close0 o (fun _ => 0)⟩

/-! tidewrack/tidewrackref01.End -/
theorem tidewrackref01_End_calls (p0 : T50) (w : World) (o : Nat → Nat)   (r : Int) (H : tidewrackref01_End p0 = some r) :
    Calls Try.prog 30 #[.agg #[.string p0.S, .int .i64 p0.E]] w (Ret fun v_ w' => ∃ o' : Nat → Nat, v_ = .int .i64 r ∧ St [] w o w' o') := by
  refine x_enter (vs := [.agg #[.string p0.S, .int .i64 p0.E]]) Try.func30 rfl rfl rfl fun a hk => ?_
  obtain ⟨o0, hs, h0⟩ := St.start w o
  clear h0
  rw [tidewrackref01_End] at H
  refine x_seq ?_
  refine wpIn_region_lit ?_
  refine x_op hk rfl ?_
  refine op_box (o := o0) (t := 51) (v := .agg #[.string p0.S, .int .i64 p0.E]) (cs := [.string p0.S, .int .i64 p0.E]) hk rfl rfl 1 fun bx4 w1 o2 st3 f5 => ?_
  replace hs := hs.loc0 st3 (by decide)
  have hk := hk.put 1 (.pointer (some ⟨bx4, 0, none⟩)) rfl
  refine x_run tab hk (k := 1) (lv := []) (ks := [1]) (e' := [(1, .pointer (some ⟨bx4, 0, none⟩))]) rfl trivial fun a hk => ?_
  refine wpListIn_nil ?_
  refine then_n ?_
  refine x_seq ?_
  refine x_seq ?_
  refine wpIn_region_lit ?_
  refine x_run tab hk (k := 4) (lv := [.int .i64 p0.E]) (ks := [1, 6]) (e' := [(1, .pointer (some ⟨bx4, 0, none⟩)), (6, .bool (p0.E == (0 : Int)))]) rfl ⟨(load1 tab rfl ((Bx.cell f5.now 1).trans rfl)), trivial⟩ fun a hk => ?_
  cases b6 : (p0.E == (0 : Int))
  · rw [b6] at hk H
    replace H := bifF H
    refine x_run tab hk (k := 4) (lv := []) (ks := [1, 10]) (e' := [(1, .pointer (some ⟨bx4, 0, none⟩)), (10, .bool false)]) rfl trivial fun a hk => ?_
    refine wpListIn_nil ?_
    refine then_n ?_
    refine x_if hk (b := false) rfl ?_
    refine (show Code.wpIn _ _ _ _ _ _ _ from ?_)
    refine wpIn_skip ?_
    refine then_n ?_
    refine x_seq ?_
    refine wpIn_region_lit ?_
    refine x_run tab hk (k := 3) (lv := [.int .i64 p0.E]) (ks := [2]) (e' := [(2, .int .i64 p0.E)]) rfl ⟨(load1 tab rfl ((Bx.cell f5.now 1).trans rfl)), trivial⟩ fun a hk => ?_
    refine wpListIn_nil ?_
    refine then_n ?_
    refine wpIn_ret ?_
    obtain rfl := Option.some.inj H
    exact x_retG hk (rs := [.tmp 2]) (vs := [.int .i64 p0.E]) rfl ⟨rfl, trivial⟩ ⟨fun b_ => if b_ < w.heap.size then o b_ else (fun _ => 0) (o2 b_), rfl, hs.close0 o (fun _ => 0)⟩
  · rw [b6] at hk H
    replace H := bifT H
    refine x_run tab hk (k := 4) (lv := [.string p0.S]) (ks := [1, 10]) (e' := [(1, .pointer (some ⟨bx4, 0, none⟩)), (10, .bool (!(ByteArray.toList p0.S == ByteArray.toList (⟨#[]⟩ : ByteArray))))]) rfl ⟨(load1 tab rfl ((Bx.cell f5.now 0).trans rfl)), trivial⟩ fun a hk => ?_
    refine wpListIn_nil ?_
    refine then_n ?_
    cases b7 : (!(ByteArray.toList p0.S == ByteArray.toList (⟨#[]⟩ : ByteArray)))
    · rw [b7] at hk H
      replace H := bifF H
      refine x_if hk (b := false) rfl ?_
      refine (show Code.wpIn _ _ _ _ _ _ _ from ?_)
      refine wpIn_skip ?_
      refine then_n ?_
      refine x_seq ?_
      refine wpIn_region_lit ?_
      refine x_run tab hk (k := 3) (lv := [.int .i64 p0.E]) (ks := [2]) (e' := [(2, .int .i64 p0.E)]) rfl ⟨(load1 tab rfl ((Bx.cell f5.now 1).trans rfl)), trivial⟩ fun a hk => ?_
      refine wpListIn_nil ?_
      refine then_n ?_
      refine wpIn_ret ?_
      obtain rfl := Option.some.inj H
      exact x_retG hk (rs := [.tmp 2]) (vs := [.int .i64 p0.E]) rfl ⟨rfl, trivial⟩ ⟨fun b_ => if b_ < w.heap.size then o b_ else (fun _ => 0) (o2 b_), rfl, hs.close0 o (fun _ => 0)⟩
    · rw [b7] at hk H
      replace H := bifT H
      refine x_if hk (b := true) rfl ?_
      refine (show Code.wpIn _ _ _ _ _ _ _ from ?_)
      refine x_seq ?_
      refine wpIn_region_lit ?_
      refine x_run tab hk (k := 1) (lv := []) (ks := [2]) (e' := [(2, .int .i64 1)]) rfl trivial fun a hk => ?_
      refine wpListIn_nil ?_
      refine then_n ?_
      refine wpIn_ret ?_
      refine then_r ?_
      obtain rfl := Option.some.inj H
      exact x_retG hk (rs := [.tmp 2]) (vs := [.int .i64 1]) rfl ⟨rfl, trivial⟩ ⟨fun b_ => if b_ < w.heap.size then o b_ else (fun _ => 0) (o2 b_), rfl, hs.close0 o (fun _ => 0)⟩

/-! tidewrack/tidewracklaw01.NumReads -/
set_option maxHeartbeats 4000000 in
theorem tidewracklaw01_NumReads_calls (K : Nat) (p0 : ByteArray) (Ap1 : Option Addr) (cp1 : Nat) (p1 : List T27) (w : World) (o : Nat → Nat) (Lp1 : Nat) (hp1 : Ft (RdC ET27 Ap1 p1) w o Lp1) (hcp1 : (p1).length ≤ cp1)  (r : Bool) (H : tidewracklaw01_NumReads K p0 p1 = some r) :
    Calls Try.prog 8 #[.string p0, .slice Ap1 (p1).length cp1] w (Ret fun v_ w' => ∃ o' : Nat → Nat, v_ = .bool r ∧ St [] w o w' o') := by
  refine x_enter (vs := [.string p0, .slice Ap1 (p1).length cp1]) Try.func8 rfl rfl rfl fun a hk => ?_
  obtain ⟨o0, hs, h0⟩ := St.start w o
  have f920 := h0 _ _ hp1
  clear h0
  rw [tidewracklaw01_NumReads] at H
  refine x_seq ?_
  refine wpIn_region_lit ?_
  refine x_run tab hk (k := 1) (lv := []) (ks := [0, 1]) (e' := [(0, .string p0), (1, .slice Ap1 (p1).length cp1)]) rfl trivial fun a hk => ?_
  refine wpListIn_nil ?_
  refine then_n ?_
  refine x_seq ?_
  refine x_seq ?_
  refine wpIn_region_lit ?_
  refine x_op hk rfl ?_
  obtain ⟨t4, hc5, H⟩ := bindS H
  refine op_call hk ent_9 (vs := []) rfl (tidewracklaw01_awake_calls K  _ o0    _ hc5) ?_
  rintro _ w6 ⟨o7, rfl, st8⟩
  replace f920 := f920.st st8 (by decide)
  replace hs := hs.loc0 st8 (by decide)
  have hk := hk.put 13 (.bool t4) rfl
  refine x_run tab hk (k := 1) (lv := []) (ks := [0, 1, 14]) (e' := [(0, .string p0), (1, .slice Ap1 (p1).length cp1), (14, .bool (!t4))]) rfl trivial fun a hk => ?_
  refine wpListIn_nil ?_
  refine then_n ?_
  cases b9 : (!t4)
  · rw [b9] at hk H
    replace H := bifF H
    refine x_if hk (b := false) rfl ?_
    refine (show Code.wpIn _ _ _ _ _ _ _ from ?_)
    refine wpIn_skip ?_
    refine then_n ?_
    refine x_seq ?_
    refine wpIn_region_lit ?_
    refine x_run tab hk (k := 1) (lv := []) (ks := [1, 15]) (e' := [(1, .slice Ap1 (p1).length cp1), (15, .string p0)]) rfl trivial fun a hk => ?_
    refine x_op hk rfl ?_
    obtain ⟨t13, hc14, H⟩ := bindS H
    refine op_call hk ent_10 (vs := [.string p0, .int .i64 80]) rfl (tidewracklaw01_Cut_calls p0 80 _ o7    _ hc14) ?_
    rintro _ w15 ⟨o16, rfl, st17⟩
    replace f920 := f920.st st17 (by decide)
    replace hs := hs.loc0 st17 (by decide)
    have hk := hk.put 16 (.string t13) rfl
    refine x_run tab hk (k := 1) (lv := []) (ks := [0, 1]) (e' := [(0, .string t13), (1, .slice Ap1 (p1).length cp1)]) rfl trivial fun a hk => ?_
    refine wpListIn_nil ?_
    refine then_n ?_
    refine x_seq ?_
    refine wpIn_region_lit ?_
    refine x_run tab hk (k := 1) (lv := []) (ks := [0, 1, 17]) (e' := [(0, .string t13), (1, .slice Ap1 (p1).length cp1), (17, .string t13)]) rfl trivial fun a hk => ?_
    refine x_op hk rfl ?_
    obtain ⟨t21, hc22, H⟩ := bindS H
    refine op_call hk ent_18 (vs := [.string t13]) rfl (num_Of_calls t13 _ o16  1  _ hc22) ?_
    rintro _ w23 ⟨o24, bx26, rfl, st25, f27⟩
    replace f920 := f920.st st25 (by decide)
    replace hs := hs.loc0 st25 (by decide)
    have hk := hk.put 18 (.pointer (some ⟨bx26, 0, none⟩)) rfl
    refine x_run tab hk (k := 2) (lv := []) (ks := [1, 18, 20]) (e' := [(1, .slice Ap1 (p1).length cp1), (18, .pointer (some ⟨bx26, 0, none⟩)), (20, .agg #[.string t13, .int .i64 0])]) rfl trivial fun a hk => ?_
    refine x_op hk rfl ?_
    refine op_alloc (o := o24) tab (t := 51) (cs := [.string (⟨#[]⟩ : ByteArray), .int .i64 0]) rfl rfl 2 fun bx31 w28 o29 st30 f32 => ?_
    replace f27 := f27.st st30 (by decide)
    replace f920 := f920.st st30 (by decide)
    replace hs := hs.loc0 st30 (by decide)
    have hk := hk.put 6 (.pointer (some ⟨bx31, 0, none⟩)) rfl
    refine x_run tab hk (k := 1) (lv := []) (ks := [1, 5, 6, 20]) (e' := [(1, .slice Ap1 (p1).length cp1), (5, .pointer (some ⟨bx26, 0, none⟩)), (6, .pointer (some ⟨bx31, 0, none⟩)), (20, .agg #[.string t13, .int .i64 0])]) rfl trivial fun a hk => ?_
    refine x_op hk rfl ?_
    refine op_store tab hk (t := 51) (v := .agg #[.string t13, .int .i64 0]) (b := bx31) (k := 0) (cs' := [.string t13, .int .i64 0]) rfl rfl rfl rfl rfl rfl f32 rfl rfl fun w33 o34 st35 f32_ => ?_
    replace f27 := f27.st st35 (by decide)
    replace f920 := f920.st st35 (by decide)
    replace hs := hs.loc0 st35 (by decide)
    replace f32 := f32_
    refine wpListIn_nil ?_
    refine then_n ?_
    refine x_seq ?_
    refine x_seq ?_
    refine wpIn_region_lit ?_
    refine x_run tab hk (k := 2) (lv := []) (ks := [1, 5, 6, 22]) (e' := [(1, .slice Ap1 (p1).length cp1), (5, .pointer (some ⟨bx26, 0, none⟩)), (6, .pointer (some ⟨bx31, 0, none⟩)), (22, .bool false)]) rfl trivial fun a hk => ?_
    refine wpListIn_nil ?_
    refine then_n ?_
    refine x_if hk (b := false) rfl ?_
    refine (show Code.wpIn _ _ _ _ _ _ _ from ?_)
    refine wpIn_skip ?_
    refine then_n ?_
    refine x_mid (fun a_ w_ => ∃ o1019 : Nat → Nat, Kn 118 a_ [] ∧ St [] w (fun _ => 0) w_ o1019 ∧ tidewracklaw01_NumReads_j1 = some r) ?_ ?_
    rotate_left
    · rintro a w1020 ⟨o1019, hk, hs, H⟩
      rw [tidewracklaw01_NumReads_j1] at H
      refine x_seq ?_
      refine wpIn_region_lit ?_
      refine x_run tab hk (k := 1) (lv := []) (ks := [4]) (e' := [(4, .bool true)]) rfl trivial fun a hk => ?_
      refine wpListIn_nil ?_
      refine then_n ?_
      refine wpIn_ret ?_
      obtain rfl := Option.some.inj H
      exact x_retG hk (rs := [.tmp 4]) (vs := [.bool true]) rfl ⟨rfl, trivial⟩ ⟨fun b_ => if b_ < w.heap.size then o b_ else (fun _ => 0) (o1019 b_), rfl, hs.close0 o (fun _ => 0)⟩
    refine x_seq ?_
    refine wpIn_region_lit ?_
    refine x_run tab hk (k := 1) (lv := []) (ks := [1, 5, 6, 7]) (e' := [(1, .slice Ap1 (p1).length cp1), (5, .pointer (some ⟨bx26, 0, none⟩)), (6, .pointer (some ⟨bx31, 0, none⟩)), (7, .int .i64 0)]) rfl trivial fun a hk => ?_
    refine wpListIn_nil ?_
    refine then_n ?_
    refine wpIn_block ?_
    refine x_loop (fun j_ a_ w_ => ∃ o1347 : Nat → Nat, ∃ x1348 : T62, ∃ x1349 : T50, ∃ x1350 : Int, Kn 118 a_ [(1, .slice Ap1 (p1).length cp1), (5, .pointer (some ⟨bx26, 0, none⟩)), (6, .pointer (some ⟨bx31, 0, none⟩)), (7, .int .i64 x1350)] ∧ St [] w (fun _ => 0) w_ o1347 ∧ Ft (Bx bx26 63 [.string x1348.s, .int .i64 x1348.e]) w_ o1347 53 ∧ Ft (Bx bx31 51 [.string x1349.S, .int .i64 x1349.E]) w_ o1347 54 ∧ Ft (RdC ET27 Ap1 p1) w_ o1347 0 ∧ tidewracklaw01_NumReads_l2 K p1 j_ x1348 x1349 x1350 = some r) (k := K) ⟨(fun b_ => (fun l_ => if l_ = 1 then 53 else if l_ = 2 then 54 else l_) (o34 b_)), t21, (⟨t13, 0⟩ : T50), 0, (by exact Kn.pick (ks := [1, 5, 6, 7]) hk rfl), (hs.relab0 (fun l_ => if l_ = 1 then 53 else if l_ = 2 then 54 else l_) rfl), (f27.relab (fun l_ => if l_ = 1 then 53 else if l_ = 2 then 54 else l_) rfl), (f32.relab (fun l_ => if l_ = 1 then 53 else if l_ = 2 then 54 else l_) rfl), (f920.relab (fun l_ => if l_ = 1 then 53 else if l_ = 2 then 54 else l_) rfl), H⟩ (by rintro _ _ ⟨_, _, _, _, _, _, _, _, _, H_⟩; exact absurd (show (none : Option Bool) = some r from H_) (by simp)) ?_
    rintro k1675 a w1674 ⟨o1347, x1348, x1349, x1350, hk, hs, f27, f32, f920, H⟩
    rw [tidewracklaw01_NumReads_l2] at H
    obtain ⟨lp1676, hlp1677⟩ : ∃ lp_, lp_ = tidewracklaw01_NumReads_l2 K p1 k1675 := ⟨_, rfl⟩
    rw [← hlp1677] at H
    refine x_mid (fun a_ w_ => ∃ o1683 : Nat → Nat, Kn 118 a_ [(1, .slice Ap1 (p1).length cp1), (5, .pointer (some ⟨bx26, 0, none⟩)), (6, .pointer (some ⟨bx31, 0, none⟩)), (7, .int .i64 x1350)] ∧ St [] w (fun _ => 0) w_ o1683 ∧ Ft (Bx bx26 63 [.string x1348.s, .int .i64 x1348.e]) w_ o1683 66 ∧ Ft (Bx bx31 51 [.string x1349.S, .int .i64 x1349.E]) w_ o1683 67 ∧ Ft (RdC ET27 Ap1 p1) w_ o1683 0 ∧ tidewracklaw01_NumReads_j3 K p1 x1348 x1349 x1350 lp1676 = some r) ?_ ?_
    rotate_left
    · rintro a w1684 ⟨o1683, hk, hs, f27, f32, f920, H⟩
      rw [tidewracklaw01_NumReads_j3] at H
      refine x_seq ?_
      refine wpIn_block ?_
      refine x_seq ?_
      refine wpIn_region_lit ?_
      obtain ⟨q1685, H⟩ := ifS H
      obtain ⟨ad1686, hAad1686⟩ := RdC.addr f920.now q1685
      subst hAad1686
      refine x_run tab hk (k := 4) (lv := [.agg #[.int .i64 ((rdD zT27 p1 x1350).Kind), .int .i64 ((rdD zT27 p1 x1350).N), .string ((rdD zT27 p1 x1350).Text)]]) (ks := [1, 5, 6, 7, 36]) (e' := [(1, .slice (some ad1686) (p1).length cp1), (5, .pointer (some ⟨bx26, 0, none⟩)), (6, .pointer (some ⟨bx31, 0, none⟩)), (7, .int .i64 x1350), (36, .agg #[.int .i64 ((rdD zT27 p1 x1350).Kind), .int .i64 ((rdD zT27 p1 x1350).N), .string ((rdD zT27 p1 x1350).Text)])]) rfl ⟨q1685, (load_elem (E := ET27) (i := x1350) (dx := zT27) tab rfl rfl f920.now q1685), trivial⟩ fun a hk => ?_
      refine x_op hk rfl ?_
      refine op_alloc (o := o1683) tab (t := 28) (cs := [.int .i64 0, .int .i64 0, .string (⟨#[]⟩ : ByteArray)]) rfl rfl 68 fun bx1690 w1687 o1688 st1689 f1691 => ?_
      replace f27 := f27.st st1689 (by decide)
      replace f32 := f32.st st1689 (by decide)
      replace f920 := f920.st st1689 (by decide)
      replace hs := hs.loc0 st1689 (by decide)
      have hk := hk.put 8 (.pointer (some ⟨bx1690, 0, none⟩)) rfl
      refine x_op hk rfl ?_
      refine op_store tab hk (t := 28) (v := .agg #[.int .i64 ((rdD zT27 p1 x1350).Kind), .int .i64 ((rdD zT27 p1 x1350).N), .string ((rdD zT27 p1 x1350).Text)]) (b := bx1690) (k := 0) (cs' := [.int .i64 ((rdD zT27 p1 x1350).Kind), .int .i64 ((rdD zT27 p1 x1350).N), .string ((rdD zT27 p1 x1350).Text)]) rfl rfl rfl rfl rfl rfl f1691 rfl rfl fun w1692 o1693 st1694 f1691_ => ?_
      replace f27 := f27.st st1694 (by decide)
      replace f32 := f32.st st1694 (by decide)
      replace f920 := f920.st st1694 (by decide)
      replace hs := hs.loc0 st1694 (by decide)
      replace f1691 := f1691_
      refine wpListIn_nil ?_
      refine then_n ?_
      refine x_seq ?_
      refine wpIn_region_lit ?_
      refine x_run tab hk (k := 2) (lv := []) (ks := [1, 5, 6, 7, 8, 9, 10]) (e' := [(1, .slice (some ad1686) (p1).length cp1), (5, .pointer (some ⟨bx26, 0, none⟩)), (6, .pointer (some ⟨bx31, 0, none⟩)), (7, .int .i64 x1350), (8, .pointer (some ⟨bx1690, 0, none⟩)), (9, .int .i64 0), (10, .int .i64 0)]) rfl trivial fun a hk => ?_
      refine wpListIn_nil ?_
      refine then_n ?_
      refine x_seq ?_
      refine wpIn_region_lit ?_
      refine x_run tab hk (k := 2) (lv := []) (ks := [1, 5, 6, 7, 8, 9, 10, 11, 12]) (e' := [(1, .slice (some ad1686) (p1).length cp1), (5, .pointer (some ⟨bx26, 0, none⟩)), (6, .pointer (some ⟨bx31, 0, none⟩)), (7, .int .i64 x1350), (8, .pointer (some ⟨bx1690, 0, none⟩)), (9, .int .i64 0), (10, .int .i64 0), (11, .string (⟨#[]⟩ : ByteArray)), (12, .string (⟨#[]⟩ : ByteArray))]) rfl trivial fun a hk => ?_
      refine wpListIn_nil ?_
      refine then_n ?_
      refine x_mid (fun a_ w_ => ∃ o1793 : Nat → Nat, ∃ x1794 : T62, ∃ x1795 : T50, ∃ x1796 : Int, ∃ x1797 : Int, ∃ x1798 : ByteArray, ∃ x1799 : ByteArray, Kn 118 a_ [(1, .slice (some ad1686) (p1).length cp1), (5, .pointer (some ⟨bx26, 0, none⟩)), (6, .pointer (some ⟨bx31, 0, none⟩)), (7, .int .i64 x1350), (9, .int .i64 x1796), (10, .int .i64 x1797), (11, .string x1798), (12, .string x1799)] ∧ St [] w (fun _ => 0) w_ o1793 ∧ Ft (Bx bx26 63 [.string x1794.s, .int .i64 x1794.e]) w_ o1793 72 ∧ Ft (Bx bx31 51 [.string x1795.S, .int .i64 x1795.E]) w_ o1793 73 ∧ Ft (RdC ET27 (some ad1686) p1) w_ o1793 0 ∧ tidewracklaw01_NumReads_j4 x1350 lp1676 x1794 x1795 x1796 x1797 x1798 x1799 = some r) ?_ ?_
      rotate_left
      · rintro a w1800 ⟨o1793, x1794, x1795, x1796, x1797, x1798, x1799, hk, hs, f1706, f32, f920, H⟩
        rw [tidewracklaw01_NumReads_j4] at H
        refine x_seq ?_
        refine xd_begin (o := o1793) (fun W_ => (Bx bx31 51 [.string x1795.S, .int .i64 x1795.E]) W_ ∧ True) mixed rfl rfl fun w1873 st1874 => ?_
        replace f1706 := f1706.st st1874 (by decide)
        replace f32 := f32.st st1874 (by decide)
        replace f920 := f920.st st1874 (by decide)
        replace hs := hs.loc0 st1874 (by decide)
        refine xd_take tab hk (k := 26) (is := [0, 1, 2, 3]) (ls' := #[true, true, true, true, false, false, false, false, false, false, false, false, false, false, false, false, false, false, false, false, false, false, false, false, false, false, false, false, false, false]) (lv := []) (ks := [1, 5, 6, 7, 11, 12, 91]) (e' := [(1, .slice (some ad1686) (p1).length cp1), (5, .pointer (some ⟨bx26, 0, none⟩)), (6, .pointer (some ⟨bx31, 0, none⟩)), (7, .int .i64 x1350), (11, .string x1798), (12, .string x1799), (91, .bool (x1796 != x1797))]) (by kernel_rfl) rfl rfl (by kernel_rfl) (np_then (np_blk (np_then (np_then (np_blk (np_then np_body)))))) ⟨f32.now, trivial⟩ (fun W_ hS => trivial) fun a hk => ?_
        cases b1875 : (x1796 != x1797)
        · rw [b1875] at hk H
          replace H := bifF H
          refine xd_take tab hk (k := 21) (is := [4, 5, 6, 7, 8]) (ls' := #[true, true, true, true, true, true, true, true, true, false, false, false, false, false, false, false, false, false, false, false, false, false, false, false, false, false, false, false, false, false]) (lv := []) (ks := [1, 5, 6, 7, 96]) (e' := [(1, .slice (some ad1686) (p1).length cp1), (5, .pointer (some ⟨bx26, 0, none⟩)), (6, .pointer (some ⟨bx31, 0, none⟩)), (7, .int .i64 x1350), (96, .bool (!(ByteArray.toList x1798 == ByteArray.toList x1799)))]) (by kernel_rfl) rfl rfl (by kernel_rfl) (np_then (np_blk (np_then (np_then (np_blk (np_then np_body)))))) ⟨f32.now, trivial⟩ (fun W_ hS => trivial) fun a hk => ?_
          cases b1876 : (!(ByteArray.toList x1798 == ByteArray.toList x1799))
          · rw [b1876] at hk H
            replace H := bifF H
            refine xd_take tab hk (k := 17) (is := [9, 11, 12, 13]) (ls' := #[true, true, true, true, true, true, true, true, true, true, false, true, true, true, false, false, false, false, false, false, false, false, false, false, false, false, false, false, false, false]) (lv := [.string x1795.S]) (ks := [1, 5, 6, 7, 96, 97, 101]) (e' := [(1, .slice (some ad1686) (p1).length cp1), (5, .pointer (some ⟨bx26, 0, none⟩)), (6, .pointer (some ⟨bx31, 0, none⟩)), (7, .int .i64 x1350), (96, .bool false), (97, .pointer (some ⟨bx26, 0, none⟩)), (101, .int .i64 ((x1795.S).size : Int))]) (by kernel_rfl) rfl rfl (by kernel_rfl) (np_then (np_blk (np_then (np_then (np_blk (np_then np_body)))))) ⟨f32.now, trivial⟩ (fun W_ hS => ⟨(load1 tab rfl ((Bx.cell hS.1 0).trans rfl)), trivial⟩) fun a hk => ?_
            refine xd_op hk (i := 10) (by kernel_rfl) rfl rfl ?_
            obtain ⟨t1880, hc1881, H⟩ := bindS H
            refine op_call hk ent_21 (vs := [.pointer (some ⟨bx26, 0, none⟩)]) rfl (num_In_Left_calls bx26 x1794 _ o1793 72 f1706   _ hc1881) ?_
            rintro _ w1882 ⟨o1883, rfl, st1884⟩
            replace f1706 := f1706.st st1884 (by decide)
            replace f32 := f32.st st1884 (by decide)
            replace f920 := f920.st st1884 (by decide)
            replace hs := hs.loc0 st1884 (by decide)
            have hk := hk.put 98 (.int .i64 t1880) rfl
            refine ⟨.inr ⟨f32.now, trivial⟩, ?_⟩
            refine xd_take tab hk (k := 13) (is := [14, 15, 16]) (ls' := #[true, true, true, true, true, true, true, true, true, true, true, true, true, true, true, true, true, false, false, false, false, false, false, false, false, false, false, false, false, false]) (lv := []) (ks := [1, 5, 6, 7, 104]) (e' := [(1, .slice (some ad1686) (p1).length cp1), (5, .pointer (some ⟨bx26, 0, none⟩)), (6, .pointer (some ⟨bx31, 0, none⟩)), (7, .int .i64 x1350), (104, .bool (t1880 != ((x1795.S).size : Int)))]) (by kernel_rfl) rfl rfl (by kernel_rfl) (np_then (np_blk (np_then (np_then (np_blk (np_then np_body)))))) ⟨f32.now, trivial⟩ (fun W_ hS => trivial) fun a hk => ?_
            cases b1885 : (t1880 != ((x1795.S).size : Int))
            · rw [b1885] at hk H
              replace H := bifF H
              refine xd_take tab hk (k := 10) (is := [17, 19, 20]) (ls' := #[true, true, true, true, true, true, true, true, true, true, true, true, true, true, true, true, true, true, false, true, true, false, false, false, false, false, false, false, false, false]) (lv := [.int .i64 x1795.E]) (ks := [1, 5, 6, 7, 104, 105, 108]) (e' := [(1, .slice (some ad1686) (p1).length cp1), (5, .pointer (some ⟨bx26, 0, none⟩)), (6, .pointer (some ⟨bx31, 0, none⟩)), (7, .int .i64 x1350), (104, .bool false), (105, .pointer (some ⟨bx26, 0, none⟩)), (108, .int .i64 x1795.E)]) (by kernel_rfl) rfl rfl (by kernel_rfl) (np_then (np_blk (np_then (np_then (np_blk (np_then np_body)))))) ⟨f32.now, trivial⟩ (fun W_ hS => ⟨(load1 tab rfl ((Bx.cell hS.1 1).trans rfl)), trivial⟩) fun a hk => ?_
              refine xd_op hk (i := 18) (by kernel_rfl) rfl rfl ?_
              obtain ⟨t1889, hc1890, H⟩ := bindS H
              refine op_call hk ent_20 (vs := [.pointer (some ⟨bx26, 0, none⟩)]) rfl (num_In_Err_calls bx26 x1794 _ o1883 72 f1706   _ hc1890) ?_
              rintro _ w1891 ⟨o1892, rfl, st1893⟩
              replace f1706 := f1706.st st1893 (by decide)
              replace f32 := f32.st st1893 (by decide)
              replace f920 := f920.st st1893 (by decide)
              replace hs := hs.loc0 st1893 (by decide)
              have hk := hk.put 106 (.int .i64 t1889) rfl
              refine ⟨.inr ⟨f32.now, trivial⟩, ?_⟩
              refine xd_take tab hk (k := 6) (is := [21, 22, 23]) (ls' := #[true, true, true, true, true, true, true, true, true, true, true, true, true, true, true, true, true, true, true, true, true, true, true, true, false, false, false, false, false, false]) (lv := []) (ks := [1, 5, 6, 7, 111]) (e' := [(1, .slice (some ad1686) (p1).length cp1), (5, .pointer (some ⟨bx26, 0, none⟩)), (6, .pointer (some ⟨bx31, 0, none⟩)), (7, .int .i64 x1350), (111, .bool (t1889 != x1795.E))]) (by kernel_rfl) rfl rfl (by kernel_rfl) (np_then (np_blk (np_then (np_then (np_blk (np_then np_body)))))) ⟨f32.now, trivial⟩ (fun W_ hS => trivial) fun a hk => ?_
              cases b1894 : (t1889 != x1795.E)
              · rw [b1894] at hk H
                replace H := bifF H
                refine xd_take tab hk (k := 4) (is := [24, 26]) (ls' := #[true, true, true, true, true, true, true, true, true, true, true, true, true, true, true, true, true, true, true, true, true, true, true, true, true, false, true, false, false, false]) (lv := [.agg #[.string x1795.S, .int .i64 x1795.E]]) (ks := [1, 5, 6, 7, 111, 112, 114]) (e' := [(1, .slice (some ad1686) (p1).length cp1), (5, .pointer (some ⟨bx26, 0, none⟩)), (6, .pointer (some ⟨bx31, 0, none⟩)), (7, .int .i64 x1350), (111, .bool false), (112, .pointer (some ⟨bx26, 0, none⟩)), (114, .agg #[.string x1795.S, .int .i64 x1795.E])]) (by kernel_rfl) rfl rfl (by kernel_rfl) (np_then (np_blk (np_then (np_then (np_blk (np_then np_body)))))) ⟨f32.now, trivial⟩ (fun W_ hS => ⟨(load_box tab rfl rfl hS.1 (k := 0) rfl rfl), trivial⟩) fun a hk => ?_
                refine xd_op hk (i := 25) (by kernel_rfl) rfl rfl ?_
                obtain ⟨t1898, hc1899, H⟩ := bindS H
                refine op_call hk ent_23 (vs := [.pointer (some ⟨bx26, 0, none⟩)]) rfl (num_In_End_calls bx26 x1794 _ o1892 72 f1706   _ hc1899) ?_
                rintro _ w1900 ⟨o1901, rfl, st1902⟩
                replace f1706 := f1706.st st1902 (by decide)
                replace f32 := f32.st st1902 (by decide)
                replace f920 := f920.st st1902 (by decide)
                replace hs := hs.loc0 st1902 (by decide)
                have hk := hk.put 113 (.int .i64 t1898) rfl
                refine ⟨.inr ⟨f32.now, trivial⟩, ?_⟩
                refine xd_op hk (i := 27) (by kernel_rfl) rfl rfl ?_
                obtain ⟨t1906, hc1907, H⟩ := bindS H
                refine op_call hk ent_30 (vs := [.agg #[.string x1795.S, .int .i64 x1795.E]]) rfl (tidewrackref01_End_calls x1795 _ o1901    _ hc1907) ?_
                rintro _ w1908 ⟨o1909, rfl, st1910⟩
                replace f1706 := f1706.st st1910 (by decide)
                replace f32 := f32.st st1910 (by decide)
                replace f920 := f920.st st1910 (by decide)
                replace hs := hs.loc0 st1910 (by decide)
                have hk := hk.put 115 (.int .i64 t1906) rfl
                refine ⟨.inr ⟨f32.now, trivial⟩, ?_⟩
                refine xd_take tab hk (k := 0) (is := [28, 29]) (ls' := #[true, true, true, true, true, true, true, true, true, true, true, true, true, true, true, true, true, true, true, true, true, true, true, true, true, true, true, true, true, true]) (lv := []) (ks := [1, 5, 6, 7, 117]) (e' := [(1, .slice (some ad1686) (p1).length cp1), (5, .pointer (some ⟨bx26, 0, none⟩)), (6, .pointer (some ⟨bx31, 0, none⟩)), (7, .int .i64 x1350), (117, .bool (t1898 != t1906))]) (by kernel_rfl) rfl rfl (by kernel_rfl) (np_then (np_blk (np_then (np_then (np_blk (np_then np_body)))))) ⟨f32.now, trivial⟩ (fun W_ hS => trivial) fun a hk => ?_
                refine xd_done (by kernel_rfl) ?_
                refine then_n ?_
                cases b1911 : (t1898 != t1906)
                · rw [b1911] at hk H
                  replace H := bifF H
                  refine x_if hk (b := false) rfl ?_
                  refine (show Code.wpIn _ _ _ _ _ _ _ from ?_)
                  refine wpIn_skip ?_
                  refine blk_n ?_
                  refine then_n ?_
                  refine wpIn_region_lit ?_
                  refine x_run tab hk (k := 3) (lv := []) (ks := [1, 5, 6, 7]) (e' := [(1, .slice (some ad1686) (p1).length cp1), (5, .pointer (some ⟨bx26, 0, none⟩)), (6, .pointer (some ⟨bx31, 0, none⟩)), (7, .int .i64 (IntKind.wrap .i64 (x1350 + 1)))]) rfl trivial fun a hk => ?_
                  refine wpListIn_nil ?_
                  refine then_n ?_
                  exact ⟨k1675, Nat.le_refl _, (fun b_ => (fun l_ => if l_ = 72 then 53 else if l_ = 73 then 54 else l_) (o1909 b_)), x1794, x1795, (IntKind.wrap .i64 (x1350 + 1)), (by exact Kn.pick (ks := [1, 5, 6, 7]) hk rfl), (hs.relab0 (fun l_ => if l_ = 72 then 53 else if l_ = 73 then 54 else l_) rfl), (f1706.relab (fun l_ => if l_ = 72 then 53 else if l_ = 73 then 54 else l_) rfl), (f32.relab (fun l_ => if l_ = 72 then 53 else if l_ = 73 then 54 else l_) rfl), (f920.relab (fun l_ => if l_ = 72 then 53 else if l_ = 73 then 54 else l_) rfl), (hlp1677 ▸ H)⟩
                · rw [b1911] at hk H
                  replace H := bifT H
                  refine x_if hk (b := true) rfl ?_
                  refine (show Code.wpIn _ _ _ _ _ _ _ from ?_)
                  refine x_seq ?_
                  refine wpIn_region_lit ?_
                  refine x_run tab hk (k := 1) (lv := []) (ks := [4]) (e' := [(4, .bool false)]) rfl trivial fun a hk => ?_
                  refine wpListIn_nil ?_
                  refine then_n ?_
                  refine wpIn_ret ?_
                  refine blk_r ?_
                  refine then_r ?_
                  refine then_r ?_
                  refine blk_r ?_
                  refine then_r ?_
                  obtain rfl := Option.some.inj H
                  exact x_retG hk (rs := [.tmp 4]) (vs := [.bool false]) rfl ⟨rfl, trivial⟩ ⟨fun b_ => if b_ < w.heap.size then o b_ else (fun _ => 0) (o1909 b_), rfl, hs.close0 o (fun _ => 0)⟩
              · rw [b1894] at hk H
                replace H := bifT H
                refine xd_take tab hk (k := 0) (is := [24, 25, 26, 27, 28, 29]) (ls' := #[true, true, true, true, true, true, true, true, true, true, true, true, true, true, true, true, true, true, true, true, true, true, true, true, true, true, true, true, true, true]) (lv := []) (ks := [1, 5, 6, 7, 117]) (e' := [(1, .slice (some ad1686) (p1).length cp1), (5, .pointer (some ⟨bx26, 0, none⟩)), (6, .pointer (some ⟨bx31, 0, none⟩)), (7, .int .i64 x1350), (117, .bool true)]) (by kernel_rfl) rfl rfl (by kernel_rfl) (np_then (np_blk (np_then (np_then (np_blk (np_then np_body)))))) ⟨f32.now, trivial⟩ (fun W_ hS => trivial) fun a hk => ?_
                refine xd_done (by kernel_rfl) ?_
                refine then_n ?_
                refine x_if hk (b := true) rfl ?_
                refine (show Code.wpIn _ _ _ _ _ _ _ from ?_)
                refine x_seq ?_
                refine wpIn_region_lit ?_
                refine x_run tab hk (k := 1) (lv := []) (ks := [4]) (e' := [(4, .bool false)]) rfl trivial fun a hk => ?_
                refine wpListIn_nil ?_
                refine then_n ?_
                refine wpIn_ret ?_
                refine blk_r ?_
                refine then_r ?_
                refine then_r ?_
                refine blk_r ?_
                refine then_r ?_
                obtain rfl := Option.some.inj H
                exact x_retG hk (rs := [.tmp 4]) (vs := [.bool false]) rfl ⟨rfl, trivial⟩ ⟨fun b_ => if b_ < w.heap.size then o b_ else (fun _ => 0) (o1892 b_), rfl, hs.close0 o (fun _ => 0)⟩
            · rw [b1885] at hk H
              replace H := bifT H
              refine xd_take tab hk (k := 0) (is := [17, 18, 19, 20, 21, 22, 23, 24, 25, 26, 27, 28, 29]) (ls' := #[true, true, true, true, true, true, true, true, true, true, true, true, true, true, true, true, true, true, true, true, true, true, true, true, true, true, true, true, true, true]) (lv := []) (ks := [1, 5, 6, 7, 117]) (e' := [(1, .slice (some ad1686) (p1).length cp1), (5, .pointer (some ⟨bx26, 0, none⟩)), (6, .pointer (some ⟨bx31, 0, none⟩)), (7, .int .i64 x1350), (117, .bool true)]) (by kernel_rfl) rfl rfl (by kernel_rfl) (np_then (np_blk (np_then (np_then (np_blk (np_then np_body)))))) ⟨f32.now, trivial⟩ (fun W_ hS => trivial) fun a hk => ?_
              refine xd_done (by kernel_rfl) ?_
              refine then_n ?_
              refine x_if hk (b := true) rfl ?_
              refine (show Code.wpIn _ _ _ _ _ _ _ from ?_)
              refine x_seq ?_
              refine wpIn_region_lit ?_
              refine x_run tab hk (k := 1) (lv := []) (ks := [4]) (e' := [(4, .bool false)]) rfl trivial fun a hk => ?_
              refine wpListIn_nil ?_
              refine then_n ?_
              refine wpIn_ret ?_
              refine blk_r ?_
              refine then_r ?_
              refine then_r ?_
              refine blk_r ?_
              refine then_r ?_
              obtain rfl := Option.some.inj H
              exact x_retG hk (rs := [.tmp 4]) (vs := [.bool false]) rfl ⟨rfl, trivial⟩ ⟨fun b_ => if b_ < w.heap.size then o b_ else (fun _ => 0) (o1883 b_), rfl, hs.close0 o (fun _ => 0)⟩
          · rw [b1876] at hk H
            replace H := bifT H
            refine xd_take tab hk (k := 0) (is := [9, 10, 11, 12, 13, 14, 15, 16, 17, 18, 19, 20, 21, 22, 23, 24, 25, 26, 27, 28, 29]) (ls' := #[true, true, true, true, true, true, true, true, true, true, true, true, true, true, true, true, true, true, true, true, true, true, true, true, true, true, true, true, true, true]) (lv := []) (ks := [1, 5, 6, 7, 117]) (e' := [(1, .slice (some ad1686) (p1).length cp1), (5, .pointer (some ⟨bx26, 0, none⟩)), (6, .pointer (some ⟨bx31, 0, none⟩)), (7, .int .i64 x1350), (117, .bool true)]) (by kernel_rfl) rfl rfl (by kernel_rfl) (np_then (np_blk (np_then (np_then (np_blk (np_then np_body)))))) ⟨f32.now, trivial⟩ (fun W_ hS => trivial) fun a hk => ?_
            refine xd_done (by kernel_rfl) ?_
            refine then_n ?_
            refine x_if hk (b := true) rfl ?_
            refine (show Code.wpIn _ _ _ _ _ _ _ from ?_)
            refine x_seq ?_
            refine wpIn_region_lit ?_
            refine x_run tab hk (k := 1) (lv := []) (ks := [4]) (e' := [(4, .bool false)]) rfl trivial fun a hk => ?_
            refine wpListIn_nil ?_
            refine then_n ?_
            refine wpIn_ret ?_
            refine blk_r ?_
            refine then_r ?_
            refine then_r ?_
            refine blk_r ?_
            refine then_r ?_
            obtain rfl := Option.some.inj H
            exact x_retG hk (rs := [.tmp 4]) (vs := [.bool false]) rfl ⟨rfl, trivial⟩ ⟨fun b_ => if b_ < w.heap.size then o b_ else (fun _ => 0) (o1793 b_), rfl, hs.close0 o (fun _ => 0)⟩
        · rw [b1875] at hk H
          replace H := bifT H
          refine xd_take tab hk (k := 0) (is := [4, 5, 6, 7, 8, 9, 10, 11, 12, 13, 14, 15, 16, 17, 18, 19, 20, 21, 22, 23, 24, 25, 26, 27, 28, 29]) (ls' := #[true, true, true, true, true, true, true, true, true, true, true, true, true, true, true, true, true, true, true, true, true, true, true, true, true, true, true, true, true, true]) (lv := []) (ks := [1, 5, 6, 7, 117]) (e' := [(1, .slice (some ad1686) (p1).length cp1), (5, .pointer (some ⟨bx26, 0, none⟩)), (6, .pointer (some ⟨bx31, 0, none⟩)), (7, .int .i64 x1350), (117, .bool true)]) (by kernel_rfl) rfl rfl (by kernel_rfl) (np_then (np_blk (np_then (np_then (np_blk (np_then np_body)))))) ⟨f32.now, trivial⟩ (fun W_ hS => trivial) fun a hk => ?_
          refine xd_done (by kernel_rfl) ?_
          refine then_n ?_
          refine x_if hk (b := true) rfl ?_
          refine (show Code.wpIn _ _ _ _ _ _ _ from ?_)
          refine x_seq ?_
          refine wpIn_region_lit ?_
          refine x_run tab hk (k := 1) (lv := []) (ks := [4]) (e' := [(4, .bool false)]) rfl trivial fun a hk => ?_
          refine wpListIn_nil ?_
          refine then_n ?_
          refine wpIn_ret ?_
          refine blk_r ?_
          refine then_r ?_
          refine then_r ?_
          refine blk_r ?_
          refine then_r ?_
          obtain rfl := Option.some.inj H
          exact x_retG hk (rs := [.tmp 4]) (vs := [.bool false]) rfl ⟨rfl, trivial⟩ ⟨fun b_ => if b_ < w.heap.size then o b_ else (fun _ => 0) (o1793 b_), rfl, hs.close0 o (fun _ => 0)⟩
      refine x_seq ?_
      refine wpIn_region_lit ?_
      refine x_run tab hk (k := 2) (lv := [.int .i64 ((rdD zT27 p1 x1350).Kind)]) (ks := [1, 5, 6, 7, 8, 9, 10, 11, 12, 38]) (e' := [(1, .slice (some ad1686) (p1).length cp1), (5, .pointer (some ⟨bx26, 0, none⟩)), (6, .pointer (some ⟨bx31, 0, none⟩)), (7, .int .i64 x1350), (8, .pointer (some ⟨bx1690, 0, none⟩)), (9, .int .i64 0), (10, .int .i64 0), (11, .string (⟨#[]⟩ : ByteArray)), (12, .string (⟨#[]⟩ : ByteArray)), (38, .int .i64 ((rdD zT27 p1 x1350).Kind))]) rfl ⟨(load1 tab rfl ((Bx.cell f1691.now 0).trans rfl)), trivial⟩ fun a hk => ?_
      refine wpListIn_nil ?_
      refine then_n ?_
      refine wpIn_block ?_
      refine x_seq ?_
      refine wpIn_region_lit ?_
      refine x_run tab hk (k := 2) (lv := []) (ks := [1, 5, 6, 7, 8, 9, 10, 11, 12, 38, 57]) (e' := [(1, .slice (some ad1686) (p1).length cp1), (5, .pointer (some ⟨bx26, 0, none⟩)), (6, .pointer (some ⟨bx31, 0, none⟩)), (7, .int .i64 x1350), (8, .pointer (some ⟨bx1690, 0, none⟩)), (9, .int .i64 0), (10, .int .i64 0), (11, .string (⟨#[]⟩ : ByteArray)), (12, .string (⟨#[]⟩ : ByteArray)), (38, .int .i64 ((rdD zT27 p1 x1350).Kind)), (57, .bool (((rdD zT27 p1 x1350).Kind) == (0 : Int)))]) rfl trivial fun a hk => ?_
      refine wpListIn_nil ?_
      refine then_n ?_
      cases b1912 : (((rdD zT27 p1 x1350).Kind) == (0 : Int))
      · rw [b1912] at hk H
        replace H := bifF H
        refine x_if hk (b := false) rfl ?_
        refine (show Code.wpIn _ _ _ _ _ _ _ from ?_)
        refine x_seq ?_
        refine wpIn_region_lit ?_
        refine x_run tab hk (k := 2) (lv := []) (ks := [1, 5, 6, 7, 8, 9, 10, 11, 12, 38, 66]) (e' := [(1, .slice (some ad1686) (p1).length cp1), (5, .pointer (some ⟨bx26, 0, none⟩)), (6, .pointer (some ⟨bx31, 0, none⟩)), (7, .int .i64 x1350), (8, .pointer (some ⟨bx1690, 0, none⟩)), (9, .int .i64 0), (10, .int .i64 0), (11, .string (⟨#[]⟩ : ByteArray)), (12, .string (⟨#[]⟩ : ByteArray)), (38, .int .i64 ((rdD zT27 p1 x1350).Kind)), (66, .bool (((rdD zT27 p1 x1350).Kind) == (1 : Int)))]) rfl trivial fun a hk => ?_
        refine wpListIn_nil ?_
        refine then_n ?_
        cases b1913 : (((rdD zT27 p1 x1350).Kind) == (1 : Int))
        · rw [b1913] at hk H
          replace H := bifF H
          refine x_if hk (b := false) rfl ?_
          refine (show Code.wpIn _ _ _ _ _ _ _ from ?_)
          refine x_seq ?_
          refine wpIn_region_lit ?_
          refine x_run tab hk (k := 2) (lv := []) (ks := [1, 5, 6, 7, 8, 9, 10, 11, 12, 75]) (e' := [(1, .slice (some ad1686) (p1).length cp1), (5, .pointer (some ⟨bx26, 0, none⟩)), (6, .pointer (some ⟨bx31, 0, none⟩)), (7, .int .i64 x1350), (8, .pointer (some ⟨bx1690, 0, none⟩)), (9, .int .i64 0), (10, .int .i64 0), (11, .string (⟨#[]⟩ : ByteArray)), (12, .string (⟨#[]⟩ : ByteArray)), (75, .bool (((rdD zT27 p1 x1350).Kind) == (2 : Int)))]) rfl trivial fun a hk => ?_
          refine wpListIn_nil ?_
          refine then_n ?_
          cases b1914 : (((rdD zT27 p1 x1350).Kind) == (2 : Int))
          · rw [b1914] at hk H
            replace H := bifF H
            refine x_if hk (b := false) rfl ?_
            refine (show Code.wpIn _ _ _ _ _ _ _ from ?_)
            refine x_seq ?_
            refine wpIn_region_lit ?_
            refine x_run tab hk (k := 4) (lv := [.int .i64 ((rdD zT27 p1 x1350).N)]) (ks := [1, 5, 6, 7, 8, 9, 10, 11, 12, 39, 42]) (e' := [(1, .slice (some ad1686) (p1).length cp1), (5, .pointer (some ⟨bx26, 0, none⟩)), (6, .pointer (some ⟨bx31, 0, none⟩)), (7, .int .i64 x1350), (8, .pointer (some ⟨bx1690, 0, none⟩)), (9, .int .i64 0), (10, .int .i64 0), (11, .string (⟨#[]⟩ : ByteArray)), (12, .string (⟨#[]⟩ : ByteArray)), (39, .pointer (some ⟨bx26, 0, none⟩)), (42, .int .i64 (bits .and .i64 ((rdD zT27 p1 x1350).N) 7))]) rfl ⟨(load1 tab rfl ((Bx.cell f1691.now 1).trans rfl)), trivial⟩ fun a hk => ?_
            refine x_op hk rfl ?_
            obtain ⟨t1918, hc1919, H⟩ := bindS H
            refine op_call hk ent_29 (vs := [.pointer (some ⟨bx26, 0, none⟩), .int .i64 (bits .and .i64 ((rdD zT27 p1 x1350).N) 7)]) rfl (num_In_Fail_calls bx26 x1348 (bits .and .i64 ((rdD zT27 p1 x1350).N) 7) _ o1693 66 f27 (by decide)   _ hc1919) ?_
            rintro _ w1920 ⟨o1921, rfl, st1922, f1923⟩
            replace f1691 := f1691.st st1922 (by decide)
            replace f32 := f32.st st1922 (by decide)
            replace f920 := f920.st st1922 (by decide)
            replace hs := hs.loc0 st1922 (by decide)
            have hk := hk.put 43 (.tuple #[]) rfl
            refine wpListIn_nil ?_
            refine then_n ?_
            refine x_mid (fun a_ w_ => ∃ o1931 : Nat → Nat, ∃ x1932 : Bool, Kn 118 a_ [(1, .slice (some ad1686) (p1).length cp1), (5, .pointer (some ⟨bx26, 0, none⟩)), (6, .pointer (some ⟨bx31, 0, none⟩)), (7, .int .i64 x1350), (8, .pointer (some ⟨bx1690, 0, none⟩)), (9, .int .i64 0), (10, .int .i64 0), (11, .string (⟨#[]⟩ : ByteArray)), (12, .string (⟨#[]⟩ : ByteArray)), (52, .bool x1932)] ∧ St [] w (fun _ => 0) w_ o1931 ∧ Ft (Bx bx1690 28 [.int .i64 ((rdD zT27 p1 x1350).Kind), .int .i64 ((rdD zT27 p1 x1350).N), .string ((rdD zT27 p1 x1350).Text)]) w_ o1931 76 ∧ Ft (Bx bx26 63 [.string t1918.s, .int .i64 t1918.e]) w_ o1931 74 ∧ Ft (Bx bx31 51 [.string x1349.S, .int .i64 x1349.E]) w_ o1931 75 ∧ Ft (RdC ET27 (some ad1686) p1) w_ o1931 0 ∧ tidewracklaw01_NumReads_j5 p1 x1349 x1350 lp1676 t1918 x1932 = some r) ?_ ?_
            rotate_left
            · rintro a w1933 ⟨o1931, x1932, hk, hs, f1691, f1923, f32, f920, H⟩
              rw [tidewracklaw01_NumReads_j5] at H
              cases b1934 : x1932
              · rw [b1934] at hk H
                replace H := bifF H
                refine x_if hk (b := false) rfl ?_
                refine (show Code.wpIn _ _ _ _ _ _ _ from ?_)
                refine wpIn_skip ?_
                refine blk_n ?_
                refine then_n ?_
                exact ⟨(fun b_ => (fun l_ => if l_ = 74 then 72 else if l_ = 75 then 73 else l_) (o1931 b_)), t1918, x1349, 0, 0, (⟨#[]⟩ : ByteArray), (⟨#[]⟩ : ByteArray), (by exact Kn.pick (ks := [1, 5, 6, 7, 9, 10, 11, 12]) hk rfl), (hs.relab0 (fun l_ => if l_ = 74 then 72 else if l_ = 75 then 73 else l_) rfl), (f1923.relab (fun l_ => if l_ = 74 then 72 else if l_ = 75 then 73 else l_) rfl), (f32.relab (fun l_ => if l_ = 74 then 72 else if l_ = 75 then 73 else l_) rfl), (f920.relab (fun l_ => if l_ = 74 then 72 else if l_ = 75 then 73 else l_) rfl), H⟩
              · rw [b1934] at hk H
                replace H := bifT H
                refine x_if hk (b := true) rfl ?_
                refine (show Code.wpIn _ _ _ _ _ _ _ from ?_)
                refine wpIn_region_lit ?_
                refine x_run tab hk (k := 4) (lv := [.int .i64 ((rdD zT27 p1 x1350).N)]) (ks := [1, 5, 6, 7, 9, 10, 11, 12, 56]) (e' := [(1, .slice (some ad1686) (p1).length cp1), (5, .pointer (some ⟨bx26, 0, none⟩)), (6, .pointer (some ⟨bx31, 0, none⟩)), (7, .int .i64 x1350), (9, .int .i64 0), (10, .int .i64 0), (11, .string (⟨#[]⟩ : ByteArray)), (12, .string (⟨#[]⟩ : ByteArray)), (56, .agg #[.string (⟨#[]⟩ : ByteArray), .int .i64 (bits .and .i64 ((rdD zT27 p1 x1350).N) 7)])]) rfl ⟨(load1 tab rfl ((Bx.cell f1691.now 1).trans rfl)), trivial⟩ fun a hk => ?_
                refine x_op hk rfl ?_
                refine op_store tab hk (t := 51) (v := .agg #[.string (⟨#[]⟩ : ByteArray), .int .i64 (bits .and .i64 ((rdD zT27 p1 x1350).N) 7)]) (b := bx31) (k := 0) (cs' := [.string (⟨#[]⟩ : ByteArray), .int .i64 (bits .and .i64 ((rdD zT27 p1 x1350).N) 7)]) rfl rfl rfl rfl rfl rfl f32 rfl rfl fun w1935 o1936 st1937 f32_ => ?_
                replace f1923 := f1923.st st1937 (by decide)
                replace f920 := f920.st st1937 (by decide)
                replace hs := hs.loc0 st1937 (by decide)
                replace f32 := f32_
                refine wpListIn_nil ?_
                refine blk_n ?_
                refine then_n ?_
                exact ⟨(fun b_ => (fun l_ => if l_ = 74 then 72 else if l_ = 75 then 73 else l_) (o1936 b_)), t1918, (⟨(⟨#[]⟩ : ByteArray), (bits .and .i64 ((rdD zT27 p1 x1350).N) 7)⟩ : T50), 0, 0, (⟨#[]⟩ : ByteArray), (⟨#[]⟩ : ByteArray), (by exact Kn.pick (ks := [1, 5, 6, 7, 9, 10, 11, 12]) hk rfl), (hs.relab0 (fun l_ => if l_ = 74 then 72 else if l_ = 75 then 73 else l_) rfl), (f1923.relab (fun l_ => if l_ = 74 then 72 else if l_ = 75 then 73 else l_) rfl), (f32.relab (fun l_ => if l_ = 74 then 72 else if l_ = 75 then 73 else l_) rfl), (f920.relab (fun l_ => if l_ = 74 then 72 else if l_ = 75 then 73 else l_) rfl), H⟩
            refine wpIn_region_lit ?_
            refine x_run tab hk (k := 4) (lv := [.int .i64 x1349.E]) (ks := [1, 5, 6, 7, 8, 9, 10, 11, 12, 47]) (e' := [(1, .slice (some ad1686) (p1).length cp1), (5, .pointer (some ⟨bx26, 0, none⟩)), (6, .pointer (some ⟨bx31, 0, none⟩)), (7, .int .i64 x1350), (8, .pointer (some ⟨bx1690, 0, none⟩)), (9, .int .i64 0), (10, .int .i64 0), (11, .string (⟨#[]⟩ : ByteArray)), (12, .string (⟨#[]⟩ : ByteArray)), (47, .bool (x1349.E == (0 : Int)))]) rfl ⟨(load1 tab rfl ((Bx.cell f32.now 1).trans rfl)), trivial⟩ fun a hk => ?_
            cases b1938 : (x1349.E == (0 : Int))
            · rw [b1938] at hk H
              replace H := bifF H
              refine x_run tab hk (k := 5) (lv := []) (ks := [1, 5, 6, 7, 8, 9, 10, 11, 12, 52]) (e' := [(1, .slice (some ad1686) (p1).length cp1), (5, .pointer (some ⟨bx26, 0, none⟩)), (6, .pointer (some ⟨bx31, 0, none⟩)), (7, .int .i64 x1350), (8, .pointer (some ⟨bx1690, 0, none⟩)), (9, .int .i64 0), (10, .int .i64 0), (11, .string (⟨#[]⟩ : ByteArray)), (12, .string (⟨#[]⟩ : ByteArray)), (52, .bool false)]) rfl trivial fun a hk => ?_
              refine wpListIn_nil ?_
              refine then_n ?_
              exact ⟨(fun b_ => (fun l_ => if l_ = 66 then 74 else if l_ = 67 then 75 else if l_ = 68 then 76 else l_) (o1921 b_)), false, (by exact Kn.pick (ks := [1, 5, 6, 7, 8, 9, 10, 11, 12, 52]) hk rfl), (hs.relab0 (fun l_ => if l_ = 66 then 74 else if l_ = 67 then 75 else if l_ = 68 then 76 else l_) rfl), (f1691.relab (fun l_ => if l_ = 66 then 74 else if l_ = 67 then 75 else if l_ = 68 then 76 else l_) rfl), (f1923.relab (fun l_ => if l_ = 66 then 74 else if l_ = 67 then 75 else if l_ = 68 then 76 else l_) rfl), (f32.relab (fun l_ => if l_ = 66 then 74 else if l_ = 67 then 75 else if l_ = 68 then 76 else l_) rfl), (f920.relab (fun l_ => if l_ = 66 then 74 else if l_ = 67 then 75 else if l_ = 68 then 76 else l_) rfl), H⟩
            · rw [b1938] at hk H
              replace H := bifT H
              refine x_run tab hk (k := 5) (lv := [.int .i64 ((rdD zT27 p1 x1350).N)]) (ks := [1, 5, 6, 7, 8, 9, 10, 11, 12, 52]) (e' := [(1, .slice (some ad1686) (p1).length cp1), (5, .pointer (some ⟨bx26, 0, none⟩)), (6, .pointer (some ⟨bx31, 0, none⟩)), (7, .int .i64 x1350), (8, .pointer (some ⟨bx1690, 0, none⟩)), (9, .int .i64 0), (10, .int .i64 0), (11, .string (⟨#[]⟩ : ByteArray)), (12, .string (⟨#[]⟩ : ByteArray)), (52, .bool ((bits .and .i64 ((rdD zT27 p1 x1350).N) 7) != (0 : Int)))]) rfl ⟨(load1 tab rfl ((Bx.cell f1691.now 1).trans rfl)), trivial⟩ fun a hk => ?_
              refine wpListIn_nil ?_
              refine then_n ?_
              exact ⟨(fun b_ => (fun l_ => if l_ = 66 then 74 else if l_ = 67 then 75 else if l_ = 68 then 76 else l_) (o1921 b_)), ((bits .and .i64 ((rdD zT27 p1 x1350).N) 7) != (0 : Int)), (by exact Kn.pick (ks := [1, 5, 6, 7, 8, 9, 10, 11, 12, 52]) hk rfl), (hs.relab0 (fun l_ => if l_ = 66 then 74 else if l_ = 67 then 75 else if l_ = 68 then 76 else l_) rfl), (f1691.relab (fun l_ => if l_ = 66 then 74 else if l_ = 67 then 75 else if l_ = 68 then 76 else l_) rfl), (f1923.relab (fun l_ => if l_ = 66 then 74 else if l_ = 67 then 75 else if l_ = 68 then 76 else l_) rfl), (f32.relab (fun l_ => if l_ = 66 then 74 else if l_ = 67 then 75 else if l_ = 68 then 76 else l_) rfl), (f920.relab (fun l_ => if l_ = 66 then 74 else if l_ = 67 then 75 else if l_ = 68 then 76 else l_) rfl), H⟩
          · rw [b1914] at hk H
            replace H := bifT H
            refine x_if hk (b := true) rfl ?_
            refine (show Code.wpIn _ _ _ _ _ _ _ from ?_)
            refine x_seq ?_
            refine wpIn_region_lit ?_
            refine x_run tab hk (k := 3) (lv := [.int .i64 ((rdD zT27 p1 x1350).N)]) (ks := [1, 5, 6, 7, 8, 9, 10, 77, 79]) (e' := [(1, .slice (some ad1686) (p1).length cp1), (5, .pointer (some ⟨bx26, 0, none⟩)), (6, .pointer (some ⟨bx31, 0, none⟩)), (7, .int .i64 x1350), (8, .pointer (some ⟨bx1690, 0, none⟩)), (9, .int .i64 0), (10, .int .i64 0), (77, .pointer (some ⟨bx26, 0, none⟩)), (79, .int .i64 ((rdD zT27 p1 x1350).N))]) rfl ⟨(load1 tab rfl ((Bx.cell f1691.now 1).trans rfl)), trivial⟩ fun a hk => ?_
            refine x_op hk rfl ?_
            obtain ⟨t1942, hc1943, H⟩ := bindS H
            refine op_call hk ent_27 (vs := [.pointer (some ⟨bx26, 0, none⟩), .int .i64 ((rdD zT27 p1 x1350).N)]) rfl (num_In_Raw_calls bx26 x1348 ((rdD zT27 p1 x1350).N) _ o1693 66 f27 (by decide)   _ hc1943) ?_
            rintro _ w1944 ⟨o1945, rfl, st1946, f1947⟩
            replace f1691 := f1691.st st1946 (by decide)
            replace f32 := f32.st st1946 (by decide)
            replace f920 := f920.st st1946 (by decide)
            replace hs := hs.loc0 st1946 (by decide)
            have hk := hk.put 80 (.string t1942.1) rfl
            refine x_run tab hk (k := 1) (lv := []) (ks := [1, 5, 6, 7, 8, 9, 10, 11]) (e' := [(1, .slice (some ad1686) (p1).length cp1), (5, .pointer (some ⟨bx26, 0, none⟩)), (6, .pointer (some ⟨bx31, 0, none⟩)), (7, .int .i64 x1350), (8, .pointer (some ⟨bx1690, 0, none⟩)), (9, .int .i64 0), (10, .int .i64 0), (11, .string t1942.1)]) rfl trivial fun a hk => ?_
            refine wpListIn_nil ?_
            refine then_n ?_
            refine wpIn_region_lit ?_
            refine x_run tab hk (k := 3) (lv := [.agg #[.string x1349.S, .int .i64 x1349.E], .int .i64 ((rdD zT27 p1 x1350).N)]) (ks := [1, 5, 6, 7, 9, 10, 11, 82, 84]) (e' := [(1, .slice (some ad1686) (p1).length cp1), (5, .pointer (some ⟨bx26, 0, none⟩)), (6, .pointer (some ⟨bx31, 0, none⟩)), (7, .int .i64 x1350), (9, .int .i64 0), (10, .int .i64 0), (11, .string t1942.1), (82, .agg #[.string x1349.S, .int .i64 x1349.E]), (84, .int .i64 ((rdD zT27 p1 x1350).N))]) rfl ⟨(load_box tab rfl rfl f32.now (k := 0) rfl rfl), (load1 tab rfl ((Bx.cell f1691.now 1).trans rfl)), trivial⟩ fun a hk => ?_
            refine x_op hk rfl ?_
            obtain ⟨t1951, hc1952, H⟩ := bindS H
            refine op_call hk ent_28 (vs := [.agg #[.string x1349.S, .int .i64 x1349.E], .int .i64 ((rdD zT27 p1 x1350).N)]) rfl (tidewrackref01_Raw_calls x1349 ((rdD zT27 p1 x1350).N) _ o1945    _ hc1952) ?_
            rintro _ w1953 ⟨o1954, rfl, st1955⟩
            replace f1947 := f1947.st st1955 (by decide)
            replace f32 := f32.st st1955 (by decide)
            replace f920 := f920.st st1955 (by decide)
            replace hs := hs.loc0 st1955 (by decide)
            have hk := hk.put 85 (.tuple #[.agg #[.string t1951.1.S, .int .i64 t1951.1.E], .string t1951.2]) rfl
            refine x_run tab hk (k := 3) (lv := []) (ks := [1, 5, 6, 7, 9, 10, 11, 86, 87]) (e' := [(1, .slice (some ad1686) (p1).length cp1), (5, .pointer (some ⟨bx26, 0, none⟩)), (6, .pointer (some ⟨bx31, 0, none⟩)), (7, .int .i64 x1350), (9, .int .i64 0), (10, .int .i64 0), (11, .string t1942.1), (86, .agg #[.string t1951.1.S, .int .i64 t1951.1.E]), (87, .string t1951.2)]) rfl trivial fun a hk => ?_
            refine x_op hk rfl ?_
            refine op_store tab hk (t := 51) (v := .agg #[.string t1951.1.S, .int .i64 t1951.1.E]) (b := bx31) (k := 0) (cs' := [.string t1951.1.S, .int .i64 t1951.1.E]) rfl rfl rfl rfl rfl rfl f32 rfl rfl fun w1956 o1957 st1958 f32_ => ?_
            replace f1947 := f1947.st st1958 (by decide)
            replace f920 := f920.st st1958 (by decide)
            replace hs := hs.loc0 st1958 (by decide)
            replace f32 := f32_
            refine x_run tab hk (k := 1) (lv := []) (ks := [1, 5, 6, 7, 9, 10, 11, 12]) (e' := [(1, .slice (some ad1686) (p1).length cp1), (5, .pointer (some ⟨bx26, 0, none⟩)), (6, .pointer (some ⟨bx31, 0, none⟩)), (7, .int .i64 x1350), (9, .int .i64 0), (10, .int .i64 0), (11, .string t1942.1), (12, .string t1951.2)]) rfl trivial fun a hk => ?_
            refine wpListIn_nil ?_
            refine blk_n ?_
            refine then_n ?_
            exact ⟨(fun b_ => (fun l_ => if l_ = 66 then 72 else if l_ = 67 then 73 else l_) (o1957 b_)), t1942.2, t1951.1, 0, 0, t1942.1, t1951.2, (by exact Kn.pick (ks := [1, 5, 6, 7, 9, 10, 11, 12]) hk rfl), (hs.relab0 (fun l_ => if l_ = 66 then 72 else if l_ = 67 then 73 else l_) rfl), (f1947.relab (fun l_ => if l_ = 66 then 72 else if l_ = 67 then 73 else l_) rfl), (f32.relab (fun l_ => if l_ = 66 then 72 else if l_ = 67 then 73 else l_) rfl), (f920.relab (fun l_ => if l_ = 66 then 72 else if l_ = 67 then 73 else l_) rfl), H⟩
        · rw [b1913] at hk H
          replace H := bifT H
          refine x_if hk (b := true) rfl ?_
          refine (show Code.wpIn _ _ _ _ _ _ _ from ?_)
          refine x_seq ?_
          refine wpIn_region_lit ?_
          refine x_run tab hk (k := 1) (lv := []) (ks := [1, 5, 6, 7, 9, 10, 68]) (e' := [(1, .slice (some ad1686) (p1).length cp1), (5, .pointer (some ⟨bx26, 0, none⟩)), (6, .pointer (some ⟨bx31, 0, none⟩)), (7, .int .i64 x1350), (9, .int .i64 0), (10, .int .i64 0), (68, .pointer (some ⟨bx26, 0, none⟩))]) rfl trivial fun a hk => ?_
          refine x_op hk rfl ?_
          obtain ⟨t1962, hc1963, H⟩ := bindS H
          refine op_call hk ent_22 (vs := [.pointer (some ⟨bx26, 0, none⟩)]) rfl (num_In_Text_calls K bx26 x1348 _ o1693 66 f27 (by decide)   _ hc1963) ?_
          rintro _ w1964 ⟨o1965, rfl, st1966, f1967⟩
          replace f32 := f32.st st1966 (by decide)
          replace f920 := f920.st st1966 (by decide)
          replace hs := hs.loc0 st1966 (by decide)
          have hk := hk.put 69 (.string t1962.1) rfl
          refine x_run tab hk (k := 1) (lv := []) (ks := [1, 5, 6, 7, 9, 10, 11]) (e' := [(1, .slice (some ad1686) (p1).length cp1), (5, .pointer (some ⟨bx26, 0, none⟩)), (6, .pointer (some ⟨bx31, 0, none⟩)), (7, .int .i64 x1350), (9, .int .i64 0), (10, .int .i64 0), (11, .string t1962.1)]) rfl trivial fun a hk => ?_
          refine wpListIn_nil ?_
          refine then_n ?_
          refine wpIn_region_lit ?_
          refine x_run tab hk (k := 1) (lv := [.agg #[.string x1349.S, .int .i64 x1349.E]]) (ks := [1, 5, 6, 7, 9, 10, 11, 71]) (e' := [(1, .slice (some ad1686) (p1).length cp1), (5, .pointer (some ⟨bx26, 0, none⟩)), (6, .pointer (some ⟨bx31, 0, none⟩)), (7, .int .i64 x1350), (9, .int .i64 0), (10, .int .i64 0), (11, .string t1962.1), (71, .agg #[.string x1349.S, .int .i64 x1349.E])]) rfl ⟨(load_box tab rfl rfl f32.now (k := 0) rfl rfl), trivial⟩ fun a hk => ?_
          refine x_op hk rfl ?_
          obtain ⟨t1971, hc1972, H⟩ := bindS H
          refine op_call hk ent_26 (vs := [.agg #[.string x1349.S, .int .i64 x1349.E]]) rfl (tidewrackref01_ReadText_calls K x1349 _ o1965    _ hc1972) ?_
          rintro _ w1973 ⟨o1974, rfl, st1975⟩
          replace f1967 := f1967.st st1975 (by decide)
          replace f32 := f32.st st1975 (by decide)
          replace f920 := f920.st st1975 (by decide)
          replace hs := hs.loc0 st1975 (by decide)
          have hk := hk.put 72 (.tuple #[.agg #[.string t1971.1.S, .int .i64 t1971.1.E], .string t1971.2]) rfl
          refine x_run tab hk (k := 3) (lv := []) (ks := [1, 5, 6, 7, 9, 10, 11, 73, 74]) (e' := [(1, .slice (some ad1686) (p1).length cp1), (5, .pointer (some ⟨bx26, 0, none⟩)), (6, .pointer (some ⟨bx31, 0, none⟩)), (7, .int .i64 x1350), (9, .int .i64 0), (10, .int .i64 0), (11, .string t1962.1), (73, .agg #[.string t1971.1.S, .int .i64 t1971.1.E]), (74, .string t1971.2)]) rfl trivial fun a hk => ?_
          refine x_op hk rfl ?_
          refine op_store tab hk (t := 51) (v := .agg #[.string t1971.1.S, .int .i64 t1971.1.E]) (b := bx31) (k := 0) (cs' := [.string t1971.1.S, .int .i64 t1971.1.E]) rfl rfl rfl rfl rfl rfl f32 rfl rfl fun w1976 o1977 st1978 f32_ => ?_
          replace f1967 := f1967.st st1978 (by decide)
          replace f920 := f920.st st1978 (by decide)
          replace hs := hs.loc0 st1978 (by decide)
          replace f32 := f32_
          refine x_run tab hk (k := 1) (lv := []) (ks := [1, 5, 6, 7, 9, 10, 11, 12]) (e' := [(1, .slice (some ad1686) (p1).length cp1), (5, .pointer (some ⟨bx26, 0, none⟩)), (6, .pointer (some ⟨bx31, 0, none⟩)), (7, .int .i64 x1350), (9, .int .i64 0), (10, .int .i64 0), (11, .string t1962.1), (12, .string t1971.2)]) rfl trivial fun a hk => ?_
          refine wpListIn_nil ?_
          refine blk_n ?_
          refine then_n ?_
          exact ⟨(fun b_ => (fun l_ => if l_ = 66 then 72 else if l_ = 67 then 73 else l_) (o1977 b_)), t1962.2, t1971.1, 0, 0, t1962.1, t1971.2, (by exact Kn.pick (ks := [1, 5, 6, 7, 9, 10, 11, 12]) hk rfl), (hs.relab0 (fun l_ => if l_ = 66 then 72 else if l_ = 67 then 73 else l_) rfl), (f1967.relab (fun l_ => if l_ = 66 then 72 else if l_ = 67 then 73 else l_) rfl), (f32.relab (fun l_ => if l_ = 66 then 72 else if l_ = 67 then 73 else l_) rfl), (f920.relab (fun l_ => if l_ = 66 then 72 else if l_ = 67 then 73 else l_) rfl), H⟩
      · rw [b1912] at hk H
        replace H := bifT H
        refine x_if hk (b := true) rfl ?_
        refine (show Code.wpIn _ _ _ _ _ _ _ from ?_)
        refine x_seq ?_
        refine wpIn_region_lit ?_
        refine x_run tab hk (k := 1) (lv := []) (ks := [1, 5, 6, 7, 11, 12, 59]) (e' := [(1, .slice (some ad1686) (p1).length cp1), (5, .pointer (some ⟨bx26, 0, none⟩)), (6, .pointer (some ⟨bx31, 0, none⟩)), (7, .int .i64 x1350), (11, .string (⟨#[]⟩ : ByteArray)), (12, .string (⟨#[]⟩ : ByteArray)), (59, .pointer (some ⟨bx26, 0, none⟩))]) rfl trivial fun a hk => ?_
        refine x_op hk rfl ?_
        obtain ⟨t1982, hc1983, H⟩ := bindS H
        refine op_call hk ent_19 (vs := [.pointer (some ⟨bx26, 0, none⟩)]) rfl (num_In_Num_calls K bx26 x1348 _ o1693 66 f27 (by decide)   _ hc1983) ?_
        rintro _ w1984 ⟨o1985, rfl, st1986, f1987⟩
        replace f32 := f32.st st1986 (by decide)
        replace f920 := f920.st st1986 (by decide)
        replace hs := hs.loc0 st1986 (by decide)
        have hk := hk.put 60 (.int .i64 t1982.1) rfl
        refine x_run tab hk (k := 1) (lv := []) (ks := [1, 5, 6, 7, 9, 11, 12]) (e' := [(1, .slice (some ad1686) (p1).length cp1), (5, .pointer (some ⟨bx26, 0, none⟩)), (6, .pointer (some ⟨bx31, 0, none⟩)), (7, .int .i64 x1350), (9, .int .i64 t1982.1), (11, .string (⟨#[]⟩ : ByteArray)), (12, .string (⟨#[]⟩ : ByteArray))]) rfl trivial fun a hk => ?_
        refine wpListIn_nil ?_
        refine then_n ?_
        refine wpIn_region_lit ?_
        refine x_run tab hk (k := 1) (lv := [.agg #[.string x1349.S, .int .i64 x1349.E]]) (ks := [1, 5, 6, 7, 9, 11, 12, 62]) (e' := [(1, .slice (some ad1686) (p1).length cp1), (5, .pointer (some ⟨bx26, 0, none⟩)), (6, .pointer (some ⟨bx31, 0, none⟩)), (7, .int .i64 x1350), (9, .int .i64 t1982.1), (11, .string (⟨#[]⟩ : ByteArray)), (12, .string (⟨#[]⟩ : ByteArray)), (62, .agg #[.string x1349.S, .int .i64 x1349.E])]) rfl ⟨(load_box tab rfl rfl f32.now (k := 0) rfl rfl), trivial⟩ fun a hk => ?_
        refine x_op hk rfl ?_
        obtain ⟨t1991, hc1992, H⟩ := bindS H
        refine op_call hk ent_25 (vs := [.agg #[.string x1349.S, .int .i64 x1349.E]]) rfl (tidewrackref01_Read_calls K x1349 _ o1985    _ hc1992) ?_
        rintro _ w1993 ⟨o1994, rfl, st1995⟩
        replace f1987 := f1987.st st1995 (by decide)
        replace f32 := f32.st st1995 (by decide)
        replace f920 := f920.st st1995 (by decide)
        replace hs := hs.loc0 st1995 (by decide)
        have hk := hk.put 63 (.tuple #[.agg #[.string t1991.1.S, .int .i64 t1991.1.E], .int .i64 t1991.2]) rfl
        refine x_run tab hk (k := 3) (lv := []) (ks := [1, 5, 6, 7, 9, 11, 12, 64, 65]) (e' := [(1, .slice (some ad1686) (p1).length cp1), (5, .pointer (some ⟨bx26, 0, none⟩)), (6, .pointer (some ⟨bx31, 0, none⟩)), (7, .int .i64 x1350), (9, .int .i64 t1982.1), (11, .string (⟨#[]⟩ : ByteArray)), (12, .string (⟨#[]⟩ : ByteArray)), (64, .agg #[.string t1991.1.S, .int .i64 t1991.1.E]), (65, .int .i64 t1991.2)]) rfl trivial fun a hk => ?_
        refine x_op hk rfl ?_
        refine op_store tab hk (t := 51) (v := .agg #[.string t1991.1.S, .int .i64 t1991.1.E]) (b := bx31) (k := 0) (cs' := [.string t1991.1.S, .int .i64 t1991.1.E]) rfl rfl rfl rfl rfl rfl f32 rfl rfl fun w1996 o1997 st1998 f32_ => ?_
        replace f1987 := f1987.st st1998 (by decide)
        replace f920 := f920.st st1998 (by decide)
        replace hs := hs.loc0 st1998 (by decide)
        replace f32 := f32_
        refine x_run tab hk (k := 1) (lv := []) (ks := [1, 5, 6, 7, 9, 10, 11, 12]) (e' := [(1, .slice (some ad1686) (p1).length cp1), (5, .pointer (some ⟨bx26, 0, none⟩)), (6, .pointer (some ⟨bx31, 0, none⟩)), (7, .int .i64 x1350), (9, .int .i64 t1982.1), (10, .int .i64 t1991.2), (11, .string (⟨#[]⟩ : ByteArray)), (12, .string (⟨#[]⟩ : ByteArray))]) rfl trivial fun a hk => ?_
        refine wpListIn_nil ?_
        refine blk_n ?_
        refine then_n ?_
        exact ⟨(fun b_ => (fun l_ => if l_ = 66 then 72 else if l_ = 67 then 73 else l_) (o1997 b_)), t1982.2, t1991.1, t1982.1, t1991.2, (⟨#[]⟩ : ByteArray), (⟨#[]⟩ : ByteArray), (by exact Kn.pick (ks := [1, 5, 6, 7, 9, 10, 11, 12]) hk rfl), (hs.relab0 (fun l_ => if l_ = 66 then 72 else if l_ = 67 then 73 else l_) rfl), (f1987.relab (fun l_ => if l_ = 66 then 72 else if l_ = 67 then 73 else l_) rfl), (f32.relab (fun l_ => if l_ = 66 then 72 else if l_ = 67 then 73 else l_) rfl), (f920.relab (fun l_ => if l_ = 66 then 72 else if l_ = 67 then 73 else l_) rfl), H⟩
    refine x_seq ?_
    refine wpIn_region_lit ?_
    refine x_run tab hk (k := 5) (lv := []) (ks := [1, 5, 6, 7, 27]) (e' := [(1, .slice Ap1 (p1).length cp1), (5, .pointer (some ⟨bx26, 0, none⟩)), (6, .pointer (some ⟨bx31, 0, none⟩)), (7, .int .i64 x1350), (27, .bool (decide (x1350 < ((p1).length : Int))))]) rfl trivial fun a hk => ?_
    cases b1999 : (decide (x1350 < ((p1).length : Int)))
    · rw [b1999] at hk H
      replace H := bifF H
      refine x_run tab hk (k := 3) (lv := []) (ks := [1, 5, 6, 7, 30]) (e' := [(1, .slice Ap1 (p1).length cp1), (5, .pointer (some ⟨bx26, 0, none⟩)), (6, .pointer (some ⟨bx31, 0, none⟩)), (7, .int .i64 x1350), (30, .bool false)]) rfl trivial fun a hk => ?_
      refine wpListIn_nil ?_
      refine then_n ?_
      refine x_if hk (b := false) rfl ?_
      refine (show Code.wpIn _ _ _ _ _ _ _ from ?_)
      refine wpIn_exit ?_
      refine then_x ?_
      refine then_x ?_
      refine blk_x ?_
      refine then_n ?_
      exact ⟨o1347, (by exact Kn.pick (ks := []) hk rfl), hs, H⟩
    · rw [b1999] at hk H
      replace H := bifT H
      refine x_run tab hk (k := 3) (lv := []) (ks := [1, 5, 6, 7, 30]) (e' := [(1, .slice Ap1 (p1).length cp1), (5, .pointer (some ⟨bx26, 0, none⟩)), (6, .pointer (some ⟨bx31, 0, none⟩)), (7, .int .i64 x1350), (30, .bool (decide (x1350 < (20 : Int))))]) rfl trivial fun a hk => ?_
      refine wpListIn_nil ?_
      refine then_n ?_
      cases b2000 : (decide (x1350 < (20 : Int)))
      · rw [b2000] at hk H
        replace H := bifF H
        refine x_if hk (b := false) rfl ?_
        refine (show Code.wpIn _ _ _ _ _ _ _ from ?_)
        refine wpIn_exit ?_
        refine then_x ?_
        refine then_x ?_
        refine blk_x ?_
        refine then_n ?_
        exact ⟨o1347, (by exact Kn.pick (ks := []) hk rfl), hs, H⟩
      · rw [b2000] at hk H
        replace H := bifT H
        refine x_if hk (b := true) rfl ?_
        refine (show Code.wpIn _ _ _ _ _ _ _ from ?_)
        refine wpIn_skip ?_
        refine then_n ?_
        exact ⟨(fun b_ => (fun l_ => if l_ = 53 then 66 else if l_ = 54 then 67 else l_) (o1347 b_)), (by exact Kn.pick (ks := [1, 5, 6, 7]) hk rfl), (hs.relab0 (fun l_ => if l_ = 53 then 66 else if l_ = 54 then 67 else l_) rfl), (f27.relab (fun l_ => if l_ = 53 then 66 else if l_ = 54 then 67 else l_) rfl), (f32.relab (fun l_ => if l_ = 53 then 66 else if l_ = 54 then 67 else l_) rfl), (f920.relab (fun l_ => if l_ = 53 then 66 else if l_ = 54 then 67 else l_) rfl), H⟩
  · rw [b9] at hk H
    replace H := bifT H
    refine x_if hk (b := true) rfl ?_
    refine (show Code.wpIn _ _ _ _ _ _ _ from ?_)
    refine x_seq ?_
    refine wpIn_region_lit ?_
    refine x_run tab hk (k := 1) (lv := []) (ks := [4]) (e' := [(4, .bool false)]) rfl trivial fun a hk => ?_
    refine wpListIn_nil ?_
    refine then_n ?_
    refine wpIn_ret ?_
    refine then_r ?_
    obtain rfl := Option.some.inj H
    exact x_retG hk (rs := [.tmp 4]) (vs := [.bool false]) rfl ⟨rfl, trivial⟩ ⟨fun b_ => if b_ < w.heap.size then o b_ else (fun _ => 0) (o7 b_), rfl, hs.close0 o (fun _ => 0)⟩

end Go.Proofs.Ythacdmompikhgaa
