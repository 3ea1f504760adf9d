/- Walks, printed by an own program: the machine's calls compute the plain functions. -/
import Derived.Test.YticilepdpobheaaDoorW2
set_option linter.unusedVariables false
set_option linter.unusedSimpArgs false
namespace Go.Proofs.YticilepdpobheaaDoor
open Go Go.Proofs.XC
/-! tidewrack/tidewrackref01.ReadText -/
theorem tidewrackref01_ReadText_calls (K : Nat) (p0 : T59) (w : World) (o : Nat → Nat)   (r : T59 × ByteArray) (H : tidewrackref01_ReadText K p0 = some r) :
    Calls Tryd.prog 34 #[.agg #[.string p0.S, .int .i64 p0.E]] w (Ret fun v_ w' => ∃ o' : Nat → Nat, v_ = .tuple #[.agg #[.string r.1.S, .int .i64 r.1.E], .string r.2] ∧ St [] w o w' o') := by
  refine x_enter (vs := [.agg #[.string p0.S, .int .i64 p0.E]]) Tryd.func34 rfl rfl rfl fun a hk => ?_
  obtain ⟨o0, hs, h0⟩ := St.start w o
  clear h0
  rw [tidewrackref01_ReadText] at H
  refine x_seq ?_
  refine wpIn_region_lit ?_
  refine x_op hk rfl ?_
  refine op_box (o := o0) (t := 60) (v := .agg #[.string p0.S, .int .i64 p0.E]) (cs := [.string p0.S, .int .i64 p0.E]) hk rfl rfl 1 fun bx4 w1 o2 st3 f5 => ?_
  replace hs := hs.loc0 st3 (by decide)
  have hk := hk.put 1 (.pointer (some ⟨bx4, 0, none⟩)) rfl
  refine x_op hk rfl ?_
  refine op_alloc (o := o2) tab (t := 60) (cs := [.string (⟨#[]⟩ : ByteArray), .int .i64 0]) rfl rfl 2 fun bx9 w6 o7 st8 f10 => ?_
  replace f5 := f5.st st8 (by decide)
  replace hs := hs.loc0 st8 (by decide)
  have hk := hk.put 2 (.pointer (some ⟨bx9, 0, none⟩)) rfl
  refine x_run tab hk (k := 1) (lv := []) (ks := [1, 2]) (e' := [(1, .pointer (some ⟨bx4, 0, none⟩)), (2, .pointer (some ⟨bx9, 0, none⟩))]) rfl trivial fun a hk => ?_
  refine wpListIn_nil ?_
  refine then_n ?_
  refine x_seq ?_
  refine wpIn_region_lit ?_
  refine x_run tab hk (k := 1) (lv := [.agg #[.string p0.S, .int .i64 p0.E]]) (ks := [2, 7]) (e' := [(2, .pointer (some ⟨bx9, 0, none⟩)), (7, .agg #[.string p0.S, .int .i64 p0.E])]) rfl ⟨(load_box tab rfl rfl f5.now (k := 0) rfl rfl), trivial⟩ fun a hk => ?_
  refine x_op hk rfl ?_
  obtain ⟨t14, hc15, H⟩ := bindS H
  refine op_call hk ent_33 (vs := [.agg #[.string p0.S, .int .i64 p0.E]]) rfl (tidewrackref01_Read_calls K p0 _ o7    _ hc15) ?_
  rintro _ w16 ⟨o17, rfl, st18⟩
  replace f10 := f10.st st18 (by decide)
  replace hs := hs.loc0 st18 (by decide)
  have hk := hk.put 8 (.tuple #[.agg #[.string t14.1.S, .int .i64 t14.1.E], .int .i64 t14.2]) rfl
  refine x_run tab hk (k := 3) (lv := []) (ks := [2, 9, 10]) (e' := [(2, .pointer (some ⟨bx9, 0, none⟩)), (9, .agg #[.string t14.1.S, .int .i64 t14.1.E]), (10, .int .i64 t14.2)]) rfl trivial fun a hk => ?_
  refine x_op hk rfl ?_
  refine op_alloc (o := o17) tab (t := 60) (cs := [.string (⟨#[]⟩ : ByteArray), .int .i64 0]) rfl rfl 3 fun bx22 w19 o20 st21 f23 => ?_
  replace f10 := f10.st st21 (by decide)
  replace hs := hs.loc0 st21 (by decide)
  have hk := hk.put 4 (.pointer (some ⟨bx22, 0, none⟩)) rfl
  refine x_op hk rfl ?_
  refine op_store tab hk (t := 60) (v := .agg #[.string t14.1.S, .int .i64 t14.1.E]) (b := bx22) (k := 0) (cs' := [.string t14.1.S, .int .i64 t14.1.E]) rfl rfl rfl rfl rfl rfl f23 rfl rfl fun w24 o25 st26 f23_ => ?_
  replace f10 := f10.st st26 (by decide)
  replace hs := hs.loc0 st26 (by decide)
  replace f23 := f23_
  refine x_run tab hk (k := 1) (lv := []) (ks := [2, 4, 5]) (e' := [(2, .pointer (some ⟨bx9, 0, none⟩)), (4, .pointer (some ⟨bx22, 0, none⟩)), (5, .int .i64 t14.2)]) rfl trivial fun a hk => ?_
  refine wpListIn_nil ?_
  refine then_n ?_
  refine x_seq ?_
  refine wpIn_region_lit ?_
  refine x_run tab hk (k := 2) (lv := [.agg #[.string t14.1.S, .int .i64 t14.1.E]]) (ks := [2, 11, 12]) (e' := [(2, .pointer (some ⟨bx9, 0, none⟩)), (11, .agg #[.string t14.1.S, .int .i64 t14.1.E]), (12, .int .i64 t14.2)]) rfl ⟨(load_box tab rfl rfl f23.now (k := 0) rfl rfl), trivial⟩ fun a hk => ?_
  refine x_op hk rfl ?_
  obtain ⟨t30, hc31, H⟩ := bindS H
  refine op_call hk ent_46 (vs := [.agg #[.string t14.1.S, .int .i64 t14.1.E], .int .i64 t14.2]) rfl (tidewrackref01_Raw_calls t14.1 t14.2 _ o25    _ hc31) ?_
  rintro _ w32 ⟨o33, rfl, st34⟩
  replace f10 := f10.st st34 (by decide)
  replace hs := hs.loc0 st34 (by decide)
  have hk := hk.put 13 (.tuple #[.agg #[.string t30.1.S, .int .i64 t30.1.E], .string t30.2]) rfl
  refine x_run tab hk (k := 2) (lv := []) (ks := [2, 14, 15]) (e' := [(2, .pointer (some ⟨bx9, 0, none⟩)), (14, .agg #[.string t30.1.S, .int .i64 t30.1.E]), (15, .string t30.2)]) rfl trivial fun a hk => ?_
  refine x_op hk rfl ?_
  refine op_store tab hk (t := 60) (v := .agg #[.string t30.1.S, .int .i64 t30.1.E]) (b := bx9) (k := 0) (cs' := [.string t30.1.S, .int .i64 t30.1.E]) rfl rfl rfl rfl rfl rfl f10 rfl rfl fun w35 o36 st37 f10_ => ?_
  replace hs := hs.loc0 st37 (by decide)
  replace f10 := f10_
  refine x_run tab hk (k := 1) (lv := []) (ks := [2, 3]) (e' := [(2, .pointer (some ⟨bx9, 0, none⟩)), (3, .string t30.2)]) rfl trivial fun a hk => ?_
  refine wpListIn_nil ?_
  refine then_n ?_
  refine wpIn_ret ?_
  obtain rfl := Option.some.inj H
  exact x_retG hk (rs := [.cell 2 60, .tmp 3]) (vs := [.agg #[.string t30.1.S, .int .i64 t30.1.E], .string t30.2]) rfl ⟨⟨_, rfl, load_box tab rfl rfl f10.now (k := 0) rfl rfl⟩, rfl, trivial⟩ ⟨fun b_ => if b_ < w.heap.size then o b_ else (fun _ => 0) (o36 b_), rfl, hs.close0 o (fun _ => 0)⟩

/-! tidewrack/tidewrackref01.End -/
theorem tidewrackref01_End_calls (p0 : T59) (w : World) (o : Nat → Nat)   (r : Int) (H : tidewrackref01_End p0 = some r) :
    Calls Tryd.prog 35 #[.agg #[.string p0.S, .int .i64 p0.E]] w (Ret fun v_ w' => ∃ o' : Nat → Nat, v_ = .int .i64 r ∧ St [] w o w' o') := by
  refine x_enter (vs := [.agg #[.string p0.S, .int .i64 p0.E]]) Tryd.func35 rfl rfl rfl fun a hk => ?_
  obtain ⟨o0, hs, h0⟩ := St.start w o
  clear h0
  rw [tidewrackref01_End] at H
  refine x_seq ?_
  refine wpIn_region_lit ?_
  refine x_op hk rfl ?_
  refine op_box (o := o0) (t := 60) (v := .agg #[.string p0.S, .int .i64 p0.E]) (cs := [.string p0.S, .int .i64 p0.E]) hk rfl rfl 1 fun bx4 w1 o2 st3 f5 => ?_
  replace hs := hs.loc0 st3 (by decide)
  have hk := hk.put 1 (.pointer (some ⟨bx4, 0, none⟩)) rfl
  refine x_run tab hk (k := 1) (lv := []) (ks := [1]) (e' := [(1, .pointer (some ⟨bx4, 0, none⟩))]) rfl trivial fun a hk => ?_
  refine wpListIn_nil ?_
  refine then_n ?_
  refine x_seq ?_
  refine x_seq ?_
  refine wpIn_region_lit ?_
  refine x_run tab hk (k := 4) (lv := [.int .i64 p0.E]) (ks := [1, 6]) (e' := [(1, .pointer (some ⟨bx4, 0, none⟩)), (6, .bool (p0.E == (0 : Int)))]) rfl ⟨(load1 tab rfl ((Bx.cell f5.now 1).trans rfl)), trivial⟩ fun a hk => ?_
  cases b6 : (p0.E == (0 : Int))
  · rw [b6] at hk H
    replace H := bifF H
    refine x_run tab hk (k := 4) (lv := []) (ks := [1, 10]) (e' := [(1, .pointer (some ⟨bx4, 0, none⟩)), (10, .bool false)]) rfl trivial fun a hk => ?_
    refine wpListIn_nil ?_
    refine then_n ?_
    refine x_if hk (b := false) rfl ?_
    refine (show Code.wpIn _ _ _ _ _ _ _ from ?_)
    refine wpIn_skip ?_
    refine then_n ?_
    refine x_seq ?_
    refine wpIn_region_lit ?_
    refine x_run tab hk (k := 3) (lv := [.int .i64 p0.E]) (ks := [2]) (e' := [(2, .int .i64 p0.E)]) rfl ⟨(load1 tab rfl ((Bx.cell f5.now 1).trans rfl)), trivial⟩ fun a hk => ?_
    refine wpListIn_nil ?_
    refine then_n ?_
    refine wpIn_ret ?_
    obtain rfl := Option.some.inj H
    exact x_retG hk (rs := [.tmp 2]) (vs := [.int .i64 p0.E]) rfl ⟨rfl, trivial⟩ ⟨fun b_ => if b_ < w.heap.size then o b_ else (fun _ => 0) (o2 b_), rfl, hs.close0 o (fun _ => 0)⟩
  · rw [b6] at hk H
    replace H := bifT H
    refine x_run tab hk (k := 4) (lv := [.string p0.S]) (ks := [1, 10]) (e' := [(1, .pointer (some ⟨bx4, 0, none⟩)), (10, .bool (!(ByteArray.toList p0.S == ByteArray.toList (⟨#[]⟩ : ByteArray))))]) rfl ⟨(load1 tab rfl ((Bx.cell f5.now 0).trans rfl)), trivial⟩ fun a hk => ?_
    refine wpListIn_nil ?_
    refine then_n ?_
    cases b7 : (!(ByteArray.toList p0.S == ByteArray.toList (⟨#[]⟩ : ByteArray)))
    · rw [b7] at hk H
      replace H := bifF H
      refine x_if hk (b := false) rfl ?_
      refine (show Code.wpIn _ _ _ _ _ _ _ from ?_)
      refine wpIn_skip ?_
      refine then_n ?_
      refine x_seq ?_
      refine wpIn_region_lit ?_
      refine x_run tab hk (k := 3) (lv := [.int .i64 p0.E]) (ks := [2]) (e' := [(2, .int .i64 p0.E)]) rfl ⟨(load1 tab rfl ((Bx.cell f5.now 1).trans rfl)), trivial⟩ fun a hk => ?_
      refine wpListIn_nil ?_
      refine then_n ?_
      refine wpIn_ret ?_
      obtain rfl := Option.some.inj H
      exact x_retG hk (rs := [.tmp 2]) (vs := [.int .i64 p0.E]) rfl ⟨rfl, trivial⟩ ⟨fun b_ => if b_ < w.heap.size then o b_ else (fun _ => 0) (o2 b_), rfl, hs.close0 o (fun _ => 0)⟩
    · rw [b7] at hk H
      replace H := bifT H
      refine x_if hk (b := true) rfl ?_
      refine (show Code.wpIn _ _ _ _ _ _ _ from ?_)
      refine x_seq ?_
      refine wpIn_region_lit ?_
      refine x_run tab hk (k := 1) (lv := []) (ks := [2]) (e' := [(2, .int .i64 1)]) rfl trivial fun a hk => ?_
      refine wpListIn_nil ?_
      refine then_n ?_
      refine wpIn_ret ?_
      refine then_r ?_
      obtain rfl := Option.some.inj H
      exact x_retG hk (rs := [.tmp 2]) (vs := [.int .i64 1]) rfl ⟨rfl, trivial⟩ ⟨fun b_ => if b_ < w.heap.size then o b_ else (fun _ => 0) (o2 b_), rfl, hs.close0 o (fun _ => 0)⟩

/-! tidewrack/tidewrackref03.Parse -/
set_option maxHeartbeats 4000000 in
theorem tidewrackref03_Parse_calls (K : Nat) (p0 : ByteArray) (w : World) (o : Nat → Nat)   (R0 : Nat) (r : T23 × Int) (H : tidewrackref03_Parse K p0 = some r) :
    Calls Tryd.prog 19 #[.string p0] w (Ret fun v_ w' => ∃ o' : Nat → Nat, ∃ A0 : Option Addr, ∃ c0 : Nat, v_ = .tuple #[.agg #[.int .i64 r.1.Epoch, .int .i64 r.1.Kind, .slice A0 (r.1.Nums).length c0, .string r.1.Data], .int .i64 r.2] ∧ St [] w o w' o' ∧ Ft (Own (encInt .i64) 3 (.slice A0 (r.1.Nums).length c0) (r.1.Nums)) w' o' R0 ∧ (r.1.Nums).length ≤ c0) := by
  refine x_enter (vs := [.string p0]) Tryd.func19 rfl rfl rfl fun a hk => ?_
  obtain ⟨o0, hs, h0⟩ := St.start w o
  clear h0
  rw [tidewrackref03_Parse] at H
  refine x_seq ?_
  refine wpIn_region_lit ?_
  refine x_op hk rfl ?_
  refine op_alloc (o := o0) tab (t := 24) (cs := [.int .i64 0, .int .i64 0, .slice none 0 0, .string (⟨#[]⟩ : ByteArray)]) rfl rfl 1 fun bx4 w1 o2 st3 f5 => ?_
  replace hs := hs.loc0 st3 (by decide)
  have hk := hk.put 2 (.pointer (some ⟨bx4, 0, none⟩)) rfl
  refine x_run tab hk (k := 1) (lv := []) (ks := [0, 2]) (e' := [(0, .string p0), (2, .pointer (some ⟨bx4, 0, none⟩))]) rfl trivial fun a hk => ?_
  refine wpListIn_nil ?_
  refine then_n ?_
  refine x_seq ?_
  refine x_seq ?_
  refine wpIn_region_lit ?_
  refine x_run tab hk (k := 3) (lv := []) (ks := [0, 2, 15]) (e' := [(0, .string p0), (2, .pointer (some ⟨bx4, 0, none⟩)), (15, .bool (decide (((p0).size : Int) > (8192 : Int))))]) rfl trivial fun a hk => ?_
  refine wpListIn_nil ?_
  refine then_n ?_
  cases b6 : (decide (((p0).size : Int) > (8192 : Int)))
  · rw [b6] at hk H
    replace H := bifF H
    refine x_if hk (b := false) rfl ?_
    refine (show Code.wpIn _ _ _ _ _ _ _ from ?_)
    refine wpIn_skip ?_
    refine then_n ?_
    refine x_seq ?_
    refine wpIn_region_lit ?_
    refine x_run tab hk (k := 1) (lv := []) (ks := [2, 18]) (e' := [(2, .pointer (some ⟨bx4, 0, none⟩)), (18, .string p0)]) rfl trivial fun a hk => ?_
    refine x_op hk rfl ?_
    obtain ⟨t10, hc11, H⟩ := bindS H
    refine op_call hk ent_32 (vs := [.string p0]) rfl (tidewrackref02_Open_calls K p0 _ o2    _ hc11) ?_
    rintro _ w12 ⟨o13, rfl, st14⟩
    replace f5 := f5.st st14 (by decide)
    replace hs := hs.loc0 st14 (by decide)
    have hk := hk.put 19 (.tuple #[.string t10.1, .bool t10.2]) rfl
    refine x_run tab hk (k := 5) (lv := []) (ks := [2, 4, 5]) (e' := [(2, .pointer (some ⟨bx4, 0, none⟩)), (4, .string t10.1), (5, .bool t10.2)]) rfl trivial fun a hk => ?_
    refine wpListIn_nil ?_
    refine then_n ?_
    refine x_seq ?_
    refine x_seq ?_
    refine wpIn_region_lit ?_
    refine x_run tab hk (k := 2) (lv := []) (ks := [2, 4, 23]) (e' := [(2, .pointer (some ⟨bx4, 0, none⟩)), (4, .string t10.1), (23, .bool (!t10.2))]) rfl trivial fun a hk => ?_
    refine wpListIn_nil ?_
    refine then_n ?_
    cases b15 : (!t10.2)
    · rw [b15] at hk H
      replace H := bifF H
      refine x_if hk (b := false) rfl ?_
      refine (show Code.wpIn _ _ _ _ _ _ _ from ?_)
      refine wpIn_skip ?_
      refine then_n ?_
      refine x_seq ?_
      refine wpIn_region_lit ?_
      refine x_run tab hk (k := 2) (lv := []) (ks := [2, 26]) (e' := [(2, .pointer (some ⟨bx4, 0, none⟩)), (26, .agg #[.string t10.1, .int .i64 0])]) rfl trivial fun a hk => ?_
      refine x_op hk rfl ?_
      refine op_alloc (o := o13) tab (t := 60) (cs := [.string (⟨#[]⟩ : ByteArray), .int .i64 0]) rfl rfl 2 fun bx19 w16 o17 st18 f20 => ?_
      replace f5 := f5.st st18 (by decide)
      replace hs := hs.loc0 st18 (by decide)
      have hk := hk.put 6 (.pointer (some ⟨bx19, 0, none⟩)) rfl
      refine x_op hk rfl ?_
      refine op_store tab hk (t := 60) (v := .agg #[.string t10.1, .int .i64 0]) (b := bx19) (k := 0) (cs' := [.string t10.1, .int .i64 0]) rfl rfl rfl rfl rfl rfl f20 rfl rfl fun w21 o22 st23 f20_ => ?_
      replace f5 := f5.st st23 (by decide)
      replace hs := hs.loc0 st23 (by decide)
      replace f20 := f20_
      refine wpListIn_nil ?_
      refine then_n ?_
      refine x_seq ?_
      refine wpIn_region_lit ?_
      refine x_run tab hk (k := 1) (lv := []) (ks := [2, 6, 27]) (e' := [(2, .pointer (some ⟨bx4, 0, none⟩)), (6, .pointer (some ⟨bx19, 0, none⟩)), (27, .agg #[.int .i64 0, .int .i64 0, .slice none 0 0, .string (⟨#[]⟩ : ByteArray)])]) rfl trivial fun a hk => ?_
      refine x_op hk rfl ?_
      refine op_alloc (o := o22) tab (t := 24) (cs := [.int .i64 0, .int .i64 0, .slice none 0 0, .string (⟨#[]⟩ : ByteArray)]) rfl rfl 3 fun bx27 w24 o25 st26 f28 => ?_
      replace f20 := f20.st st26 (by decide)
      replace f5 := f5.st st26 (by decide)
      replace hs := hs.loc0 st26 (by decide)
      have hk := hk.put 7 (.pointer (some ⟨bx27, 0, none⟩)) rfl
      refine x_op hk rfl ?_
      refine op_store tab hk (t := 24) (v := .agg #[.int .i64 0, .int .i64 0, .slice none 0 0, .string (⟨#[]⟩ : ByteArray)]) (b := bx27) (k := 0) (cs' := [.int .i64 0, .int .i64 0, .slice none 0 0, .string (⟨#[]⟩ : ByteArray)]) rfl rfl rfl rfl rfl rfl f28 rfl rfl fun w29 o30 st31 f28_ => ?_
      replace f20 := f20.st st31 (by decide)
      replace f5 := f5.st st31 (by decide)
      replace hs := hs.loc0 st31 (by decide)
      replace f28 := f28_
      refine wpListIn_nil ?_
      refine then_n ?_
      refine x_seq ?_
      refine wpIn_region_lit ?_
      refine x_run tab hk (k := 1) (lv := []) (ks := [2, 6, 7]) (e' := [(2, .pointer (some ⟨bx4, 0, none⟩)), (6, .pointer (some ⟨bx19, 0, none⟩)), (7, .pointer (some ⟨bx27, 0, none⟩))]) rfl trivial fun a hk => ?_
      refine wpListIn_nil ?_
      refine then_n ?_
      refine x_seq ?_
      refine wpIn_region_lit ?_
      refine x_run tab hk (k := 1) (lv := [.agg #[.string t10.1, .int .i64 0]]) (ks := [2, 6, 7, 29]) (e' := [(2, .pointer (some ⟨bx4, 0, none⟩)), (6, .pointer (some ⟨bx19, 0, none⟩)), (7, .pointer (some ⟨bx27, 0, none⟩)), (29, .agg #[.string t10.1, .int .i64 0])]) rfl ⟨(load_box tab rfl rfl f20.now (k := 0) rfl rfl), trivial⟩ fun a hk => ?_
      refine x_op hk rfl ?_
      obtain ⟨t35, hc36, H⟩ := bindS H
      refine op_call hk ent_33 (vs := [.agg #[.string t10.1, .int .i64 0]]) rfl (tidewrackref01_Read_calls K (⟨t10.1, 0⟩ : T59) _ o30    _ hc36) ?_
      rintro _ w37 ⟨o38, rfl, st39⟩
      replace f20 := f20.st st39 (by decide)
      replace f28 := f28.st st39 (by decide)
      replace f5 := f5.st st39 (by decide)
      replace hs := hs.loc0 st39 (by decide)
      have hk := hk.put 30 (.tuple #[.agg #[.string t35.1.S, .int .i64 t35.1.E], .int .i64 t35.2]) rfl
      refine x_run tab hk (k := 3) (lv := []) (ks := [2, 6, 7, 31, 32]) (e' := [(2, .pointer (some ⟨bx4, 0, none⟩)), (6, .pointer (some ⟨bx19, 0, none⟩)), (7, .pointer (some ⟨bx27, 0, none⟩)), (31, .agg #[.string t35.1.S, .int .i64 t35.1.E]), (32, .int .i64 t35.2)]) rfl trivial fun a hk => ?_
      refine x_op hk rfl ?_
      refine op_store tab hk (t := 60) (v := .agg #[.string t35.1.S, .int .i64 t35.1.E]) (b := bx19) (k := 0) (cs' := [.string t35.1.S, .int .i64 t35.1.E]) rfl rfl rfl rfl rfl rfl f20 rfl rfl fun w40 o41 st42 f20_ => ?_
      replace f28 := f28.st st42 (by decide)
      replace f5 := f5.st st42 (by decide)
      replace hs := hs.loc0 st42 (by decide)
      replace f20 := f20_
      refine x_run tab hk (k := 1) (lv := []) (ks := [2, 6, 7, 32, 33]) (e' := [(2, .pointer (some ⟨bx4, 0, none⟩)), (6, .pointer (some ⟨bx19, 0, none⟩)), (7, .pointer (some ⟨bx27, 0, none⟩)), (32, .int .i64 t35.2), (33, .pointer (some ⟨bx27, 0, none⟩))]) rfl trivial fun a hk => ?_
      refine x_op hk rfl ?_
      refine op_store tab hk (t := 3) (v := .int .i64 t35.2) (b := bx27) (k := 0) (cs' := [.int .i64 t35.2, .int .i64 0, .slice none 0 0, .string (⟨#[]⟩ : ByteArray)]) rfl rfl rfl rfl rfl rfl f28 rfl rfl fun w43 o44 st45 f28_ => ?_
      replace f20 := f20.st st45 (by decide)
      replace f5 := f5.st st45 (by decide)
      replace hs := hs.loc0 st45 (by decide)
      replace f28 := f28_
      refine wpListIn_nil ?_
      refine then_n ?_
      refine x_seq ?_
      refine wpIn_region_lit ?_
      refine x_run tab hk (k := 1) (lv := [.agg #[.string t35.1.S, .int .i64 t35.1.E]]) (ks := [2, 6, 7, 35]) (e' := [(2, .pointer (some ⟨bx4, 0, none⟩)), (6, .pointer (some ⟨bx19, 0, none⟩)), (7, .pointer (some ⟨bx27, 0, none⟩)), (35, .agg #[.string t35.1.S, .int .i64 t35.1.E])]) rfl ⟨(load_box tab rfl rfl f20.now (k := 0) rfl rfl), trivial⟩ fun a hk => ?_
      refine x_op hk rfl ?_
      obtain ⟨t49, hc50, H⟩ := bindS H
      refine op_call hk ent_33 (vs := [.agg #[.string t35.1.S, .int .i64 t35.1.E]]) rfl (tidewrackref01_Read_calls K t35.1 _ o44    _ hc50) ?_
      rintro _ w51 ⟨o52, rfl, st53⟩
      replace f20 := f20.st st53 (by decide)
      replace f28 := f28.st st53 (by decide)
      replace f5 := f5.st st53 (by decide)
      replace hs := hs.loc0 st53 (by decide)
      have hk := hk.put 36 (.tuple #[.agg #[.string t49.1.S, .int .i64 t49.1.E], .int .i64 t49.2]) rfl
      refine x_run tab hk (k := 3) (lv := []) (ks := [2, 6, 7, 37, 38]) (e' := [(2, .pointer (some ⟨bx4, 0, none⟩)), (6, .pointer (some ⟨bx19, 0, none⟩)), (7, .pointer (some ⟨bx27, 0, none⟩)), (37, .agg #[.string t49.1.S, .int .i64 t49.1.E]), (38, .int .i64 t49.2)]) rfl trivial fun a hk => ?_
      refine x_op hk rfl ?_
      refine op_store tab hk (t := 60) (v := .agg #[.string t49.1.S, .int .i64 t49.1.E]) (b := bx19) (k := 0) (cs' := [.string t49.1.S, .int .i64 t49.1.E]) rfl rfl rfl rfl rfl rfl f20 rfl rfl fun w54 o55 st56 f20_ => ?_
      replace f28 := f28.st st56 (by decide)
      replace f5 := f5.st st56 (by decide)
      replace hs := hs.loc0 st56 (by decide)
      replace f20 := f20_
      refine x_run tab hk (k := 1) (lv := []) (ks := [2, 6, 7, 38, 39]) (e' := [(2, .pointer (some ⟨bx4, 0, none⟩)), (6, .pointer (some ⟨bx19, 0, none⟩)), (7, .pointer (some ⟨bx27, 0, none⟩)), (38, .int .i64 t49.2), (39, .pointer (some ((⟨bx27, 0, none⟩ : Addr).add 1)))]) rfl trivial fun a hk => ?_
      refine x_op hk rfl ?_
      refine op_store tab hk (t := 3) (v := .int .i64 t49.2) (b := bx27) (k := 1) (cs' := [.int .i64 t35.2, .int .i64 t49.2, .slice none 0 0, .string (⟨#[]⟩ : ByteArray)]) rfl rfl rfl rfl rfl rfl f28 rfl rfl fun w57 o58 st59 f28_ => ?_
      replace f20 := f20.st st59 (by decide)
      replace f5 := f5.st st59 (by decide)
      replace hs := hs.loc0 st59 (by decide)
      replace f28 := f28_
      refine wpListIn_nil ?_
      refine then_n ?_
      refine x_seq ?_
      refine wpIn_region_lit ?_
      refine x_run tab hk (k := 1) (lv := [.agg #[.string t49.1.S, .int .i64 t49.1.E]]) (ks := [2, 6, 7, 41]) (e' := [(2, .pointer (some ⟨bx4, 0, none⟩)), (6, .pointer (some ⟨bx19, 0, none⟩)), (7, .pointer (some ⟨bx27, 0, none⟩)), (41, .agg #[.string t49.1.S, .int .i64 t49.1.E])]) rfl ⟨(load_box tab rfl rfl f20.now (k := 0) rfl rfl), trivial⟩ fun a hk => ?_
      refine x_op hk rfl ?_
      obtain ⟨t63, hc64, H⟩ := bindS H
      refine op_call hk ent_33 (vs := [.agg #[.string t49.1.S, .int .i64 t49.1.E]]) rfl (tidewrackref01_Read_calls K t49.1 _ o58    _ hc64) ?_
      rintro _ w65 ⟨o66, rfl, st67⟩
      replace f20 := f20.st st67 (by decide)
      replace f28 := f28.st st67 (by decide)
      replace f5 := f5.st st67 (by decide)
      replace hs := hs.loc0 st67 (by decide)
      have hk := hk.put 42 (.tuple #[.agg #[.string t63.1.S, .int .i64 t63.1.E], .int .i64 t63.2]) rfl
      refine x_run tab hk (k := 3) (lv := []) (ks := [2, 6, 7, 43, 44]) (e' := [(2, .pointer (some ⟨bx4, 0, none⟩)), (6, .pointer (some ⟨bx19, 0, none⟩)), (7, .pointer (some ⟨bx27, 0, none⟩)), (43, .agg #[.string t63.1.S, .int .i64 t63.1.E]), (44, .int .i64 t63.2)]) rfl trivial fun a hk => ?_
      refine x_op hk rfl ?_
      refine op_store tab hk (t := 60) (v := .agg #[.string t63.1.S, .int .i64 t63.1.E]) (b := bx19) (k := 0) (cs' := [.string t63.1.S, .int .i64 t63.1.E]) rfl rfl rfl rfl rfl rfl f20 rfl rfl fun w68 o69 st70 f20_ => ?_
      replace f28 := f28.st st70 (by decide)
      replace f5 := f5.st st70 (by decide)
      replace hs := hs.loc0 st70 (by decide)
      replace f20 := f20_
      refine x_run tab hk (k := 1) (lv := []) (ks := [2, 6, 7, 8]) (e' := [(2, .pointer (some ⟨bx4, 0, none⟩)), (6, .pointer (some ⟨bx19, 0, none⟩)), (7, .pointer (some ⟨bx27, 0, none⟩)), (8, .int .i64 t63.2)]) rfl trivial fun a hk => ?_
      refine wpListIn_nil ?_
      refine then_n ?_
      refine x_mid (fun a_ w_ => ∃ o89 : Nat → Nat, Kn 93 a_ [(2, .pointer (some ⟨bx4, 0, none⟩)), (6, .pointer (some ⟨bx19, 0, none⟩)), (7, .pointer (some ⟨bx27, 0, none⟩)), (8, .int .i64 t63.2)] ∧ St [] w (fun _ => 0) w_ o89 ∧ Ft (Bx bx19 60 [.string t63.1.S, .int .i64 t63.1.E]) w_ o89 8 ∧ Ft (Bx bx27 24 [.int .i64 t35.2, .int .i64 t49.2, .slice none 0 0, .string (⟨#[]⟩ : ByteArray)]) w_ o89 9 ∧ Ft (Bx bx4 24 [.int .i64 0, .int .i64 0, .slice none 0 0, .string (⟨#[]⟩ : ByteArray)]) w_ o89 7 ∧ tidewrackref03_Parse_j1 K t35 t49 t63 = some r) ?_ ?_
      rotate_left
      · rintro a w90 ⟨o89, hk, hs, f20, f28, f5, H⟩
        rw [tidewrackref03_Parse_j1] at H
        refine x_mid (fun a_ w_ => ∃ o228 : Nat → Nat, ∃ x229 : T59, ∃ A230 : Option Addr, ∃ c231 : Nat, ∃ l232 : List Int, Kn 93 a_ [(2, .pointer (some ⟨bx4, 0, none⟩)), (6, .pointer (some ⟨bx19, 0, none⟩)), (7, .pointer (some ⟨bx27, 0, none⟩))] ∧ St [] w (fun _ => 0) w_ o228 ∧ Ft (Bx bx19 60 [.string x229.S, .int .i64 x229.E]) w_ o228 34 ∧ Ft (Own (encInt .i64) 3 (.slice A230 (l232).length c231) l232) w_ o228 35 ∧ Ft (Bx bx27 24 [.int .i64 t35.2, .int .i64 t49.2, .slice A230 (l232).length c231, .string (⟨#[]⟩ : ByteArray)]) w_ o228 36 ∧ Ft (Bx bx4 24 [.int .i64 0, .int .i64 0, .slice none 0 0, .string (⟨#[]⟩ : ByteArray)]) w_ o228 33 ∧ (l232).length ≤ c231 ∧ tidewrackref03_Parse_j2 K t35 t49 x229 l232 = some r) ?_ ?_
        rotate_left
        · rintro a w235 ⟨o228, x229, A230, c231, l232, hk, hs, f20, f233, f28, f5, hc234, H⟩
          rw [tidewrackref03_Parse_j2] at H
          refine x_seq ?_
          refine wpIn_region_lit ?_
          refine x_run tab hk (k := 1) (lv := [.agg #[.string x229.S, .int .i64 x229.E]]) (ks := [2, 6, 7, 75]) (e' := [(2, .pointer (some ⟨bx4, 0, none⟩)), (6, .pointer (some ⟨bx19, 0, none⟩)), (7, .pointer (some ⟨bx27, 0, none⟩)), (75, .agg #[.string x229.S, .int .i64 x229.E])]) rfl ⟨(load_box tab rfl rfl f20.now (k := 0) rfl rfl), trivial⟩ fun a hk => ?_
          refine x_op hk rfl ?_
          obtain ⟨t239, hc240, H⟩ := bindS H
          refine op_call hk ent_34 (vs := [.agg #[.string x229.S, .int .i64 x229.E]]) rfl (tidewrackref01_ReadText_calls K x229 _ o228    _ hc240) ?_
          rintro _ w241 ⟨o242, rfl, st243⟩
          replace f20 := f20.st st243 (by decide)
          replace f233 := f233.st st243 (by decide)
          replace f28 := f28.st st243 (by decide)
          replace f5 := f5.st st243 (by decide)
          replace hs := hs.loc0 st243 (by decide)
          have hk := hk.put 76 (.tuple #[.agg #[.string t239.1.S, .int .i64 t239.1.E], .string t239.2]) rfl
          refine x_run tab hk (k := 3) (lv := []) (ks := [2, 6, 7, 77, 78]) (e' := [(2, .pointer (some ⟨bx4, 0, none⟩)), (6, .pointer (some ⟨bx19, 0, none⟩)), (7, .pointer (some ⟨bx27, 0, none⟩)), (77, .agg #[.string t239.1.S, .int .i64 t239.1.E]), (78, .string t239.2)]) rfl trivial fun a hk => ?_
          refine x_op hk rfl ?_
          refine op_store tab hk (t := 60) (v := .agg #[.string t239.1.S, .int .i64 t239.1.E]) (b := bx19) (k := 0) (cs' := [.string t239.1.S, .int .i64 t239.1.E]) rfl rfl rfl rfl rfl rfl f20 rfl rfl fun w244 o245 st246 f20_ => ?_
          replace f233 := f233.st st246 (by decide)
          replace f28 := f28.st st246 (by decide)
          replace f5 := f5.st st246 (by decide)
          replace hs := hs.loc0 st246 (by decide)
          replace f20 := f20_
          refine x_run tab hk (k := 1) (lv := []) (ks := [2, 6, 7, 78, 79]) (e' := [(2, .pointer (some ⟨bx4, 0, none⟩)), (6, .pointer (some ⟨bx19, 0, none⟩)), (7, .pointer (some ⟨bx27, 0, none⟩)), (78, .string t239.2), (79, .pointer (some ((⟨bx27, 0, none⟩ : Addr).add 3)))]) rfl trivial fun a hk => ?_
          refine x_op hk rfl ?_
          refine op_store tab hk (t := 9) (v := .string t239.2) (b := bx27) (k := 3) (cs' := [.int .i64 t35.2, .int .i64 t49.2, .slice A230 (l232).length c231, .string t239.2]) rfl rfl rfl rfl rfl rfl f28 rfl rfl fun w247 o248 st249 f28_ => ?_
          replace f20 := f20.st st249 (by decide)
          replace f233 := f233.st st249 (by decide)
          replace f5 := f5.st st249 (by decide)
          replace hs := hs.loc0 st249 (by decide)
          replace f28 := f28_
          refine wpListIn_nil ?_
          refine then_n ?_
          refine x_seq ?_
          refine x_seq ?_
          refine wpIn_region_lit ?_
          refine x_run tab hk (k := 1) (lv := [.agg #[.string t239.1.S, .int .i64 t239.1.E]]) (ks := [2, 7, 80]) (e' := [(2, .pointer (some ⟨bx4, 0, none⟩)), (7, .pointer (some ⟨bx27, 0, none⟩)), (80, .agg #[.string t239.1.S, .int .i64 t239.1.E])]) rfl ⟨(load_box tab rfl rfl f20.now (k := 0) rfl rfl), trivial⟩ fun a hk => ?_
          refine x_op hk rfl ?_
          obtain ⟨t253, hc254, H⟩ := bindS H
          refine op_call hk ent_35 (vs := [.agg #[.string t239.1.S, .int .i64 t239.1.E]]) rfl (tidewrackref01_End_calls t239.1 _ o248    _ hc254) ?_
          rintro _ w255 ⟨o256, rfl, st257⟩
          replace f233 := f233.st st257 (by decide)
          replace f28 := f28.st st257 (by decide)
          replace f5 := f5.st st257 (by decide)
          replace hs := hs.loc0 st257 (by decide)
          have hk := hk.put 81 (.int .i64 t253) rfl
          refine x_run tab hk (k := 1) (lv := []) (ks := [2, 7, 11]) (e' := [(2, .pointer (some ⟨bx4, 0, none⟩)), (7, .pointer (some ⟨bx27, 0, none⟩)), (11, .int .i64 t253)]) rfl trivial fun a hk => ?_
          refine wpListIn_nil ?_
          refine then_n ?_
          refine x_seq ?_
          refine wpIn_region_lit ?_
          refine x_run tab hk (k := 2) (lv := []) (ks := [2, 7, 11, 83]) (e' := [(2, .pointer (some ⟨bx4, 0, none⟩)), (7, .pointer (some ⟨bx27, 0, none⟩)), (11, .int .i64 t253), (83, .bool (t253 != (0 : Int)))]) rfl trivial fun a hk => ?_
          refine wpListIn_nil ?_
          refine then_n ?_
          cases b258 : (t253 != (0 : Int))
          · rw [b258] at hk H
            replace H := bifF H
            refine x_if hk (b := false) rfl ?_
            refine (show Code.wpIn _ _ _ _ _ _ _ from ?_)
            refine wpIn_skip ?_
            refine then_n ?_
            refine x_seq ?_
            refine x_seq ?_
            refine wpIn_region_lit ?_
            refine x_run tab hk (k := 1) (lv := [.agg #[.int .i64 t35.2, .int .i64 t49.2, .slice A230 (l232).length c231, .string t239.2]]) (ks := [2, 7, 86]) (e' := [(2, .pointer (some ⟨bx4, 0, none⟩)), (7, .pointer (some ⟨bx27, 0, none⟩)), (86, .agg #[.int .i64 t35.2, .int .i64 t49.2, .slice A230 (l232).length c231, .string t239.2])]) rfl ⟨(load_box tab rfl rfl f28.now (k := 0) rfl rfl), trivial⟩ fun a hk => ?_
            refine x_op hk rfl ?_
            obtain ⟨t262, hc263, H⟩ := bindS H
            refine op_call hk ent_12 (vs := [.agg #[.int .i64 t35.2, .int .i64 t49.2, .slice A230 (l232).length c231, .string t239.2]]) rfl (tidewrackref03_Check_calls K A230 c231 (⟨t35.2, t49.2, l232, t239.2⟩ : T23) _ o256 _ (f233.imp fun _ h_ => Own.rd h_) hc234   _ hc263) ?_
            rintro _ w264 ⟨o265, rfl, st266⟩
            replace f233 := f233.st st266 (by decide)
            replace f28 := f28.st st266 (by decide)
            replace f5 := f5.st st266 (by decide)
            replace hs := hs.loc0 st266 (by decide)
            have hk := hk.put 87 (.int .i64 t262) rfl
            refine x_run tab hk (k := 1) (lv := []) (ks := [2, 7, 12]) (e' := [(2, .pointer (some ⟨bx4, 0, none⟩)), (7, .pointer (some ⟨bx27, 0, none⟩)), (12, .int .i64 t262)]) rfl trivial fun a hk => ?_
            refine wpListIn_nil ?_
            refine then_n ?_
            refine x_seq ?_
            refine wpIn_region_lit ?_
            refine x_run tab hk (k := 2) (lv := []) (ks := [2, 7, 12, 89]) (e' := [(2, .pointer (some ⟨bx4, 0, none⟩)), (7, .pointer (some ⟨bx27, 0, none⟩)), (12, .int .i64 t262), (89, .bool (t262 != (0 : Int)))]) rfl trivial fun a hk => ?_
            refine wpListIn_nil ?_
            refine then_n ?_
            cases b267 : (t262 != (0 : Int))
            · rw [b267] at hk H
              replace H := bifF H
              refine x_if hk (b := false) rfl ?_
              refine (show Code.wpIn _ _ _ _ _ _ _ from ?_)
              refine wpIn_skip ?_
              refine then_n ?_
              refine x_seq ?_
              refine wpIn_region_lit ?_
              refine x_run tab hk (k := 1) (lv := [.agg #[.int .i64 t35.2, .int .i64 t49.2, .slice A230 (l232).length c231, .string t239.2]]) (ks := [2, 92]) (e' := [(2, .pointer (some ⟨bx4, 0, none⟩)), (92, .agg #[.int .i64 t35.2, .int .i64 t49.2, .slice A230 (l232).length c231, .string t239.2])]) rfl ⟨(load_box tab rfl rfl f28.now (k := 0) rfl rfl), trivial⟩ fun a hk => ?_
              refine x_op hk rfl ?_
              refine op_store tab hk (t := 24) (v := .agg #[.int .i64 t35.2, .int .i64 t49.2, .slice A230 (l232).length c231, .string t239.2]) (b := bx4) (k := 0) (cs' := [.int .i64 t35.2, .int .i64 t49.2, .slice A230 (l232).length c231, .string t239.2]) rfl rfl rfl rfl rfl rfl f5 rfl rfl fun w268 o269 st270 f5_ => ?_
              replace f233 := f233.st st270 (by decide)
              replace hs := hs.loc0 st270 (by decide)
              replace f5 := f5_
              refine x_run tab hk (k := 1) (lv := []) (ks := [2, 3]) (e' := [(2, .pointer (some ⟨bx4, 0, none⟩)), (3, .int .i64 0)]) rfl trivial fun a hk => ?_
              refine wpListIn_nil ?_
              refine then_n ?_
              refine wpIn_ret ?_
              obtain rfl := Option.some.inj H
              exact x_retG hk (rs := [.cell 2 24, .tmp 3]) (vs := [.agg #[.int .i64 t35.2, .int .i64 t49.2, .slice A230 (l232).length c231, .string t239.2], .int .i64 0]) rfl ⟨⟨_, rfl, load_box tab rfl rfl f5.now (k := 0) rfl rfl⟩, rfl, trivial⟩ ⟨fun b_ => if b_ < w.heap.size then o b_ else (fun _ => R0) (o269 b_), A230, c231, rfl, hs.close0 o (fun _ => R0), hs.close_ft (o := o) (ρ := fun _ => R0) f233 (by decide) rfl, hc234⟩
            · rw [b267] at hk H
              replace H := bifT H
              refine x_if hk (b := true) rfl ?_
              refine (show Code.wpIn _ _ _ _ _ _ _ from ?_)
              refine x_seq ?_
              refine wpIn_region_lit ?_
              refine x_run tab hk (k := 2) (lv := []) (ks := [2, 90, 91]) (e' := [(2, .pointer (some ⟨bx4, 0, none⟩)), (90, .agg #[.int .i64 0, .int .i64 0, .slice none 0 0, .string (⟨#[]⟩ : ByteArray)]), (91, .int .i64 t262)]) rfl trivial fun a hk => ?_
              refine x_op hk rfl ?_
              refine op_store tab hk (t := 24) (v := .agg #[.int .i64 0, .int .i64 0, .slice none 0 0, .string (⟨#[]⟩ : ByteArray)]) (b := bx4) (k := 0) (cs' := [.int .i64 0, .int .i64 0, .slice none 0 0, .string (⟨#[]⟩ : ByteArray)]) rfl rfl rfl rfl rfl rfl f5 rfl rfl fun w271 o272 st273 f5_ => ?_
              replace hs := hs.loc0 st273 (by decide)
              replace f5 := f5_
              refine x_run tab hk (k := 1) (lv := []) (ks := [2, 3]) (e' := [(2, .pointer (some ⟨bx4, 0, none⟩)), (3, .int .i64 t262)]) rfl trivial fun a hk => ?_
              refine wpListIn_nil ?_
              refine then_n ?_
              refine wpIn_ret ?_
              refine then_r ?_
              obtain rfl := Option.some.inj H
              exact x_retG hk (rs := [.cell 2 24, .tmp 3]) (vs := [.agg #[.int .i64 0, .int .i64 0, .slice none 0 0, .string (⟨#[]⟩ : ByteArray)], .int .i64 t262]) rfl ⟨⟨_, rfl, load_box tab rfl rfl f5.now (k := 0) rfl rfl⟩, rfl, trivial⟩ ⟨fun b_ => if b_ < w.heap.size then o b_ else (fun _ => 0) (o272 b_), none, 0, rfl, hs.close0 o (fun _ => 0), (Ft.of_all (fun _ => Own.nil _ _ _) _ _ _), (by simp)⟩
          · rw [b258] at hk H
            replace H := bifT H
            refine x_if hk (b := true) rfl ?_
            refine (show Code.wpIn _ _ _ _ _ _ _ from ?_)
            refine x_seq ?_
            refine wpIn_region_lit ?_
            refine x_run tab hk (k := 2) (lv := []) (ks := [2, 84, 85]) (e' := [(2, .pointer (some ⟨bx4, 0, none⟩)), (84, .agg #[.int .i64 0, .int .i64 0, .slice none 0 0, .string (⟨#[]⟩ : ByteArray)]), (85, .int .i64 t253)]) rfl trivial fun a hk => ?_
            refine x_op hk rfl ?_
            refine op_store tab hk (t := 24) (v := .agg #[.int .i64 0, .int .i64 0, .slice none 0 0, .string (⟨#[]⟩ : ByteArray)]) (b := bx4) (k := 0) (cs' := [.int .i64 0, .int .i64 0, .slice none 0 0, .string (⟨#[]⟩ : ByteArray)]) rfl rfl rfl rfl rfl rfl f5 rfl rfl fun w274 o275 st276 f5_ => ?_
            replace hs := hs.loc0 st276 (by decide)
            replace f5 := f5_
            refine x_run tab hk (k := 1) (lv := []) (ks := [2, 3]) (e' := [(2, .pointer (some ⟨bx4, 0, none⟩)), (3, .int .i64 t253)]) rfl trivial fun a hk => ?_
            refine wpListIn_nil ?_
            refine then_n ?_
            refine wpIn_ret ?_
            refine then_r ?_
            obtain rfl := Option.some.inj H
            exact x_retG hk (rs := [.cell 2 24, .tmp 3]) (vs := [.agg #[.int .i64 0, .int .i64 0, .slice none 0 0, .string (⟨#[]⟩ : ByteArray)], .int .i64 t253]) rfl ⟨⟨_, rfl, load_box tab rfl rfl f5.now (k := 0) rfl rfl⟩, rfl, trivial⟩ ⟨fun b_ => if b_ < w.heap.size then o b_ else (fun _ => 0) (o275 b_), none, 0, rfl, hs.close0 o (fun _ => 0), (Ft.of_all (fun _ => Own.nil _ _ _) _ _ _), (by simp)⟩
        refine x_seq ?_
        refine wpIn_region_lit ?_
        refine x_run tab hk (k := 1) (lv := []) (ks := [2, 6, 7, 8, 9]) (e' := [(2, .pointer (some ⟨bx4, 0, none⟩)), (6, .pointer (some ⟨bx19, 0, none⟩)), (7, .pointer (some ⟨bx27, 0, none⟩)), (8, .int .i64 t63.2), (9, .int .i64 0)]) rfl trivial fun a hk => ?_
        refine wpListIn_nil ?_
        refine then_n ?_
        refine wpIn_block ?_
        refine x_loop (fun j_ a_ w_ => ∃ o317 : Nat → Nat, ∃ x318 : T59, ∃ A319 : Option Addr, ∃ c320 : Nat, ∃ l321 : List Int, ∃ x324 : Int, Kn 93 a_ [(2, .pointer (some ⟨bx4, 0, none⟩)), (6, .pointer (some ⟨bx19, 0, none⟩)), (7, .pointer (some ⟨bx27, 0, none⟩)), (8, .int .i64 t63.2), (9, .int .i64 x324)] ∧ St [] w (fun _ => 0) w_ o317 ∧ Ft (Bx bx19 60 [.string x318.S, .int .i64 x318.E]) w_ o317 46 ∧ Ft (Bx bx27 24 [.int .i64 t35.2, .int .i64 t49.2, .slice A319 (l321).length c320, .string (⟨#[]⟩ : ByteArray)]) w_ o317 48 ∧ Ft (Own (encInt .i64) 3 (.slice A319 (l321).length c320) l321) w_ o317 47 ∧ Ft (Bx bx4 24 [.int .i64 0, .int .i64 0, .slice none 0 0, .string (⟨#[]⟩ : ByteArray)]) w_ o317 45 ∧ (l321).length ≤ c320 ∧ tidewrackref03_Parse_l3 K t35 t49 t63 j_ x318 l321 x324 = some r) (k := K) ⟨(fun b_ => (fun l_ => if l_ = 7 then 45 else if l_ = 8 then 46 else if l_ = 9 then 48 else l_) (o89 b_)), t63.1, none, 0, ([] : List Int), 0, (by exact Kn.pick (ks := [2, 6, 7, 8, 9]) hk rfl), (hs.relab0 (fun l_ => if l_ = 7 then 45 else if l_ = 8 then 46 else if l_ = 9 then 48 else l_) rfl), (f20.relab (fun l_ => if l_ = 7 then 45 else if l_ = 8 then 46 else if l_ = 9 then 48 else l_) rfl), (f28.relab (fun l_ => if l_ = 7 then 45 else if l_ = 8 then 46 else if l_ = 9 then 48 else l_) rfl), (Ft.of_all (fun _ => Own.nil _ _ _) _ _ _), (f5.relab (fun l_ => if l_ = 7 then 45 else if l_ = 8 then 46 else if l_ = 9 then 48 else l_) rfl), (by simp), H⟩ (by rintro _ _ ⟨_, _, _, _, _, _, _, _, _, _, _, _, _, H_⟩; exact absurd (show (none : Option (T23 × Int)) = some r from H_) (by simp)) ?_
        rintro k363 a w362 ⟨o317, x318, A319, c320, l321, x324, hk, hs, f20, f28, f322, f5, hc323, H⟩
        rw [tidewrackref03_Parse_l3] at H
        obtain ⟨lp364, hlp365⟩ : ∃ lp_, lp_ = tidewrackref03_Parse_l3 K t35 t49 t63 k363 := ⟨_, rfl⟩
        rw [← hlp365] at H
        refine x_mid (fun a_ w_ => ∃ o371 : Nat → Nat, Kn 93 a_ [(2, .pointer (some ⟨bx4, 0, none⟩)), (6, .pointer (some ⟨bx19, 0, none⟩)), (7, .pointer (some ⟨bx27, 0, none⟩)), (8, .int .i64 t63.2), (9, .int .i64 x324)] ∧ St [] w (fun _ => 0) w_ o371 ∧ Ft (Bx bx19 60 [.string x318.S, .int .i64 x318.E]) w_ o371 55 ∧ Ft (Bx bx27 24 [.int .i64 t35.2, .int .i64 t49.2, .slice A319 (l321).length c320, .string (⟨#[]⟩ : ByteArray)]) w_ o371 57 ∧ Ft (Own (encInt .i64) 3 (.slice A319 (l321).length c320) l321) w_ o371 56 ∧ Ft (Bx bx4 24 [.int .i64 0, .int .i64 0, .slice none 0 0, .string (⟨#[]⟩ : ByteArray)]) w_ o371 54 ∧ tidewrackref03_Parse_j4 K x318 l321 x324 lp364 = some r) ?_ ?_
        rotate_left
        · rintro a w372 ⟨o371, hk, hs, f20, f28, f322, f5, H⟩
          rw [tidewrackref03_Parse_j4] at H
          refine x_seq ?_
          refine wpIn_block ?_
          refine x_seq ?_
          refine wpIn_region_lit ?_
          refine x_run tab hk (k := 1) (lv := []) (ks := [2, 6, 7, 8, 9]) (e' := [(2, .pointer (some ⟨bx4, 0, none⟩)), (6, .pointer (some ⟨bx19, 0, none⟩)), (7, .pointer (some ⟨bx27, 0, none⟩)), (8, .int .i64 t63.2), (9, .int .i64 x324)]) rfl trivial fun a hk => ?_
          refine wpListIn_nil ?_
          refine then_n ?_
          refine x_seq ?_
          refine wpIn_region_lit ?_
          refine x_run tab hk (k := 1) (lv := [.agg #[.string x318.S, .int .i64 x318.E]]) (ks := [2, 6, 7, 8, 9, 64]) (e' := [(2, .pointer (some ⟨bx4, 0, none⟩)), (6, .pointer (some ⟨bx19, 0, none⟩)), (7, .pointer (some ⟨bx27, 0, none⟩)), (8, .int .i64 t63.2), (9, .int .i64 x324), (64, .agg #[.string x318.S, .int .i64 x318.E])]) rfl ⟨(load_box tab rfl rfl f20.now (k := 0) rfl rfl), trivial⟩ fun a hk => ?_
          refine x_op hk rfl ?_
          obtain ⟨t376, hc377, H⟩ := bindS H
          refine op_call hk ent_33 (vs := [.agg #[.string x318.S, .int .i64 x318.E]]) rfl (tidewrackref01_Read_calls K x318 _ o371    _ hc377) ?_
          rintro _ w378 ⟨o379, rfl, st380⟩
          replace f20 := f20.st st380 (by decide)
          replace f28 := f28.st st380 (by decide)
          replace f322 := f322.st st380 (by decide)
          replace f5 := f5.st st380 (by decide)
          replace hs := hs.loc0 st380 (by decide)
          have hk := hk.put 65 (.tuple #[.agg #[.string t376.1.S, .int .i64 t376.1.E], .int .i64 t376.2]) rfl
          refine x_run tab hk (k := 3) (lv := []) (ks := [2, 6, 7, 8, 9, 66, 67]) (e' := [(2, .pointer (some ⟨bx4, 0, none⟩)), (6, .pointer (some ⟨bx19, 0, none⟩)), (7, .pointer (some ⟨bx27, 0, none⟩)), (8, .int .i64 t63.2), (9, .int .i64 x324), (66, .agg #[.string t376.1.S, .int .i64 t376.1.E]), (67, .int .i64 t376.2)]) rfl trivial fun a hk => ?_
          refine x_op hk rfl ?_
          refine op_store tab hk (t := 60) (v := .agg #[.string t376.1.S, .int .i64 t376.1.E]) (b := bx19) (k := 0) (cs' := [.string t376.1.S, .int .i64 t376.1.E]) rfl rfl rfl rfl rfl rfl f20 rfl rfl fun w381 o382 st383 f20_ => ?_
          replace f28 := f28.st st383 (by decide)
          replace f322 := f322.st st383 (by decide)
          replace f5 := f5.st st383 (by decide)
          replace hs := hs.loc0 st383 (by decide)
          replace f20 := f20_
          refine x_run tab hk (k := 1) (lv := []) (ks := [2, 6, 7, 8, 9, 10]) (e' := [(2, .pointer (some ⟨bx4, 0, none⟩)), (6, .pointer (some ⟨bx19, 0, none⟩)), (7, .pointer (some ⟨bx27, 0, none⟩)), (8, .int .i64 t63.2), (9, .int .i64 x324), (10, .int .i64 t376.2)]) rfl trivial fun a hk => ?_
          refine wpListIn_nil ?_
          refine then_n ?_
          refine wpIn_region_lit ?_
          refine x_run tab hk (k := 3) (lv := [.slice A319 (l321).length c320]) (ks := [2, 6, 7, 8, 9, 69, 70]) (e' := [(2, .pointer (some ⟨bx4, 0, none⟩)), (6, .pointer (some ⟨bx19, 0, none⟩)), (7, .pointer (some ⟨bx27, 0, none⟩)), (8, .int .i64 t63.2), (9, .int .i64 x324), (69, .slice A319 (l321).length c320), (70, .int .i64 t376.2)]) rfl ⟨(load1 tab rfl ((Bx.cell f28.now 2).trans rfl)), trivial⟩ fun a hk => ?_
          refine x_op hk rfl ?_
          refine op_slice (o := o382) tab hk (vs := [.int .i64 t376.2]) (cs := [.int .i64 t376.2]) rfl rfl rfl rfl rfl rfl rfl rfl rfl 58 fun bx387 w384 o385 st386 f388 => ?_
          replace f20 := f20.st st386 (by decide)
          replace f28 := f28.st st386 (by decide)
          replace f322 := f322.st st386 (by decide)
          replace f5 := f5.st st386 (by decide)
          replace hs := hs.loc0 st386 (by decide)
          have f389 : Ft (Own (encInt .i64) 3 (.slice (some ⟨bx387, 0, none⟩) (([t376.2] : List Int)).length 1) ([t376.2] : List Int)) w384 o385 58 := f388.imp fun _ h_ => Own.of_box h_ rfl (by simp)
          have hk := hk.put 71 (.slice (some ⟨bx387, 0, none⟩) (([t376.2] : List Int)).length 1) rfl
          refine x_op hk rfl ?_
          obtain ⟨q393, H⟩ := ifS H
          refine op_append (o := o385) (E := (encInt .i64)) (xs := l321) (ys := ([t376.2] : List Int)) tab hk rfl rfl rfl rfl rfl rfl rfl f322 (Own.rd f389.now) q393 fun A394 c395 w390 o391 st392 f396 hc397 => ?_
          replace f20 := f20.st st392 (by decide)
          replace f28 := f28.st st392 (by decide)
          replace f389 := f389.st st392 (by decide)
          replace f5 := f5.st st392 (by decide)
          replace hs := hs.loc0 st392 (by decide)
          have hk := hk.put 72 (.slice A394 ((l321 ++ ([t376.2] : List Int))).length c395) rfl
          refine x_run tab hk (k := 1) (lv := []) (ks := [2, 6, 7, 8, 9, 72, 73]) (e' := [(2, .pointer (some ⟨bx4, 0, none⟩)), (6, .pointer (some ⟨bx19, 0, none⟩)), (7, .pointer (some ⟨bx27, 0, none⟩)), (8, .int .i64 t63.2), (9, .int .i64 x324), (72, .slice A394 ((l321 ++ ([t376.2] : List Int))).length c395), (73, .pointer (some ((⟨bx27, 0, none⟩ : Addr).add 2)))]) rfl trivial fun a hk => ?_
          refine x_op hk rfl ?_
          refine op_store tab hk (t := 22) (v := .slice A394 ((l321 ++ ([t376.2] : List Int))).length c395) (b := bx27) (k := 2) (cs' := [.int .i64 t35.2, .int .i64 t49.2, .slice A394 ((l321 ++ ([t376.2] : List Int))).length c395, .string (⟨#[]⟩ : ByteArray)]) rfl rfl rfl rfl rfl rfl f28 rfl rfl fun w398 o399 st400 f28_ => ?_
          replace f20 := f20.st st400 (by decide)
          replace f396 := f396.st st400 (by decide)
          replace f5 := f5.st st400 (by decide)
          replace hs := hs.loc0 st400 (by decide)
          replace f28 := f28_
          refine wpListIn_nil ?_
          refine blk_n ?_
          refine then_n ?_
          refine wpIn_region_lit ?_
          refine x_run tab hk (k := 3) (lv := []) (ks := [2, 6, 7, 8, 9]) (e' := [(2, .pointer (some ⟨bx4, 0, none⟩)), (6, .pointer (some ⟨bx19, 0, none⟩)), (7, .pointer (some ⟨bx27, 0, none⟩)), (8, .int .i64 t63.2), (9, .int .i64 (IntKind.wrap .i64 (x324 + 1)))]) rfl trivial fun a hk => ?_
          refine wpListIn_nil ?_
          refine then_n ?_
          exact ⟨k363, Nat.le_refl _, (fun b_ => (fun l_ => if l_ = 54 then 45 else if l_ = 55 then 46 else if l_ = 56 then 47 else if l_ = 57 then 48 else l_) (o399 b_)), t376.1, A394, c395, (l321 ++ ([t376.2] : List Int)), (IntKind.wrap .i64 (x324 + 1)), (by exact Kn.pick (ks := [2, 6, 7, 8, 9]) hk rfl), (hs.relab0 (fun l_ => if l_ = 54 then 45 else if l_ = 55 then 46 else if l_ = 56 then 47 else if l_ = 57 then 48 else l_) rfl), (f20.relab (fun l_ => if l_ = 54 then 45 else if l_ = 55 then 46 else if l_ = 56 then 47 else if l_ = 57 then 48 else l_) rfl), (f28.relab (fun l_ => if l_ = 54 then 45 else if l_ = 55 then 46 else if l_ = 56 then 47 else if l_ = 57 then 48 else l_) rfl), (f396.relab (fun l_ => if l_ = 54 then 45 else if l_ = 55 then 46 else if l_ = 56 then 47 else if l_ = 57 then 48 else l_) rfl), (f5.relab (fun l_ => if l_ = 54 then 45 else if l_ = 55 then 46 else if l_ = 56 then 47 else if l_ = 57 then 48 else l_) rfl), hc397, (hlp365 ▸ H)⟩
        refine x_seq ?_
        refine wpIn_region_lit ?_
        refine x_run tab hk (k := 4) (lv := []) (ks := [2, 6, 7, 8, 9, 56]) (e' := [(2, .pointer (some ⟨bx4, 0, none⟩)), (6, .pointer (some ⟨bx19, 0, none⟩)), (7, .pointer (some ⟨bx27, 0, none⟩)), (8, .int .i64 t63.2), (9, .int .i64 x324), (56, .bool (decide (x324 < t63.2)))]) rfl trivial fun a hk => ?_
        cases b401 : (decide (x324 < t63.2))
        · rw [b401] at hk H
          replace H := bifF H
          refine x_run tab hk (k := 4) (lv := []) (ks := [2, 6, 7, 8, 9, 60]) (e' := [(2, .pointer (some ⟨bx4, 0, none⟩)), (6, .pointer (some ⟨bx19, 0, none⟩)), (7, .pointer (some ⟨bx27, 0, none⟩)), (8, .int .i64 t63.2), (9, .int .i64 x324), (60, .bool false)]) rfl trivial fun a hk => ?_
          refine wpListIn_nil ?_
          refine then_n ?_
          refine x_if hk (b := false) rfl ?_
          refine (show Code.wpIn _ _ _ _ _ _ _ from ?_)
          refine wpIn_exit ?_
          refine then_x ?_
          refine then_x ?_
          refine blk_x ?_
          refine then_n ?_
          exact ⟨(fun b_ => (fun l_ => if l_ = 45 then 33 else if l_ = 46 then 34 else if l_ = 47 then 35 else if l_ = 48 then 36 else l_) (o317 b_)), x318, A319, c320, l321, (by exact Kn.pick (ks := [2, 6, 7]) hk rfl), (hs.relab0 (fun l_ => if l_ = 45 then 33 else if l_ = 46 then 34 else if l_ = 47 then 35 else if l_ = 48 then 36 else l_) rfl), (f20.relab (fun l_ => if l_ = 45 then 33 else if l_ = 46 then 34 else if l_ = 47 then 35 else if l_ = 48 then 36 else l_) rfl), (f322.relab (fun l_ => if l_ = 45 then 33 else if l_ = 46 then 34 else if l_ = 47 then 35 else if l_ = 48 then 36 else l_) rfl), (f28.relab (fun l_ => if l_ = 45 then 33 else if l_ = 46 then 34 else if l_ = 47 then 35 else if l_ = 48 then 36 else l_) rfl), (f5.relab (fun l_ => if l_ = 45 then 33 else if l_ = 46 then 34 else if l_ = 47 then 35 else if l_ = 48 then 36 else l_) rfl), hc323, H⟩
        · rw [b401] at hk H
          replace H := bifT H
          refine x_run tab hk (k := 4) (lv := [.int .i64 x318.E]) (ks := [2, 6, 7, 8, 9, 60]) (e' := [(2, .pointer (some ⟨bx4, 0, none⟩)), (6, .pointer (some ⟨bx19, 0, none⟩)), (7, .pointer (some ⟨bx27, 0, none⟩)), (8, .int .i64 t63.2), (9, .int .i64 x324), (60, .bool (x318.E == (0 : Int)))]) rfl ⟨(load1 tab rfl ((Bx.cell f20.now 1).trans rfl)), trivial⟩ fun a hk => ?_
          refine wpListIn_nil ?_
          refine then_n ?_
          cases b402 : (x318.E == (0 : Int))
          · rw [b402] at hk H
            replace H := bifF H
            refine x_if hk (b := false) rfl ?_
            refine (show Code.wpIn _ _ _ _ _ _ _ from ?_)
            refine wpIn_exit ?_
            refine then_x ?_
            refine then_x ?_
            refine blk_x ?_
            refine then_n ?_
            exact ⟨(fun b_ => (fun l_ => if l_ = 45 then 33 else if l_ = 46 then 34 else if l_ = 47 then 35 else if l_ = 48 then 36 else l_) (o317 b_)), x318, A319, c320, l321, (by exact Kn.pick (ks := [2, 6, 7]) hk rfl), (hs.relab0 (fun l_ => if l_ = 45 then 33 else if l_ = 46 then 34 else if l_ = 47 then 35 else if l_ = 48 then 36 else l_) rfl), (f20.relab (fun l_ => if l_ = 45 then 33 else if l_ = 46 then 34 else if l_ = 47 then 35 else if l_ = 48 then 36 else l_) rfl), (f322.relab (fun l_ => if l_ = 45 then 33 else if l_ = 46 then 34 else if l_ = 47 then 35 else if l_ = 48 then 36 else l_) rfl), (f28.relab (fun l_ => if l_ = 45 then 33 else if l_ = 46 then 34 else if l_ = 47 then 35 else if l_ = 48 then 36 else l_) rfl), (f5.relab (fun l_ => if l_ = 45 then 33 else if l_ = 46 then 34 else if l_ = 47 then 35 else if l_ = 48 then 36 else l_) rfl), hc323, H⟩
          · rw [b402] at hk H
            replace H := bifT H
            refine x_if hk (b := true) rfl ?_
            refine (show Code.wpIn _ _ _ _ _ _ _ from ?_)
            refine wpIn_skip ?_
            refine then_n ?_
            exact ⟨(fun b_ => (fun l_ => if l_ = 45 then 54 else if l_ = 46 then 55 else if l_ = 47 then 56 else if l_ = 48 then 57 else l_) (o317 b_)), (by exact Kn.pick (ks := [2, 6, 7, 8, 9]) hk rfl), (hs.relab0 (fun l_ => if l_ = 45 then 54 else if l_ = 46 then 55 else if l_ = 47 then 56 else if l_ = 48 then 57 else l_) rfl), (f20.relab (fun l_ => if l_ = 45 then 54 else if l_ = 46 then 55 else if l_ = 47 then 56 else if l_ = 48 then 57 else l_) rfl), (f28.relab (fun l_ => if l_ = 45 then 54 else if l_ = 46 then 55 else if l_ = 47 then 56 else if l_ = 48 then 57 else l_) rfl), (f322.relab (fun l_ => if l_ = 45 then 54 else if l_ = 46 then 55 else if l_ = 47 then 56 else if l_ = 48 then 57 else l_) rfl), (f5.relab (fun l_ => if l_ = 45 then 54 else if l_ = 46 then 55 else if l_ = 47 then 56 else if l_ = 48 then 57 else l_) rfl), H⟩
      refine x_mid (fun a_ w_ => ∃ o410 : Nat → Nat, ∃ x411 : Bool, Kn 93 a_ [(2, .pointer (some ⟨bx4, 0, none⟩)), (6, .pointer (some ⟨bx19, 0, none⟩)), (7, .pointer (some ⟨bx27, 0, none⟩)), (8, .int .i64 t63.2), (51, .bool x411)] ∧ St [] w (fun _ => 0) w_ o410 ∧ Ft (Bx bx19 60 [.string t63.1.S, .int .i64 t63.1.E]) w_ o410 60 ∧ Ft (Bx bx27 24 [.int .i64 t35.2, .int .i64 t49.2, .slice none 0 0, .string (⟨#[]⟩ : ByteArray)]) w_ o410 61 ∧ Ft (Bx bx4 24 [.int .i64 0, .int .i64 0, .slice none 0 0, .string (⟨#[]⟩ : ByteArray)]) w_ o410 59 ∧ tidewrackref03_Parse_j5 K t35 t49 t63 x411 = some r) ?_ ?_
      rotate_left
      · rintro a w412 ⟨o410, x411, hk, hs, f20, f28, f5, H⟩
        rw [tidewrackref03_Parse_j5] at H
        cases b413 : x411
        · rw [b413] at hk H
          replace H := bifF H
          refine x_if hk (b := false) rfl ?_
          refine (show Code.wpIn _ _ _ _ _ _ _ from ?_)
          refine wpIn_skip ?_
          refine then_n ?_
          exact ⟨(fun b_ => (fun l_ => if l_ = 59 then 7 else if l_ = 60 then 8 else if l_ = 61 then 9 else l_) (o410 b_)), (by exact Kn.pick (ks := [2, 6, 7, 8]) hk rfl), (hs.relab0 (fun l_ => if l_ = 59 then 7 else if l_ = 60 then 8 else if l_ = 61 then 9 else l_) rfl), (f20.relab (fun l_ => if l_ = 59 then 7 else if l_ = 60 then 8 else if l_ = 61 then 9 else l_) rfl), (f28.relab (fun l_ => if l_ = 59 then 7 else if l_ = 60 then 8 else if l_ = 61 then 9 else l_) rfl), (f5.relab (fun l_ => if l_ = 59 then 7 else if l_ = 60 then 8 else if l_ = 61 then 9 else l_) rfl), H⟩
        · rw [b413] at hk H
          replace H := bifT H
          refine x_if hk (b := true) rfl ?_
          refine (show Code.wpIn _ _ _ _ _ _ _ from ?_)
          refine x_seq ?_
          refine wpIn_region_lit ?_
          refine x_run tab hk (k := 1) (lv := []) (ks := [2, 52]) (e' := [(2, .pointer (some ⟨bx4, 0, none⟩)), (52, .agg #[.int .i64 0, .int .i64 0, .slice none 0 0, .string (⟨#[]⟩ : ByteArray)])]) rfl trivial fun a hk => ?_
          refine x_op hk rfl ?_
          refine op_store tab hk (t := 24) (v := .agg #[.int .i64 0, .int .i64 0, .slice none 0 0, .string (⟨#[]⟩ : ByteArray)]) (b := bx4) (k := 0) (cs' := [.int .i64 0, .int .i64 0, .slice none 0 0, .string (⟨#[]⟩ : ByteArray)]) rfl rfl rfl rfl rfl rfl f5 rfl rfl fun w414 o415 st416 f5_ => ?_
          replace hs := hs.loc0 st416 (by decide)
          replace f5 := f5_
          refine x_run tab hk (k := 1) (lv := []) (ks := [2, 3]) (e' := [(2, .pointer (some ⟨bx4, 0, none⟩)), (3, .int .i64 1)]) rfl trivial fun a hk => ?_
          refine wpListIn_nil ?_
          refine then_n ?_
          refine wpIn_ret ?_
          refine then_r ?_
          obtain rfl := Option.some.inj H
          exact x_retG hk (rs := [.cell 2 24, .tmp 3]) (vs := [.agg #[.int .i64 0, .int .i64 0, .slice none 0 0, .string (⟨#[]⟩ : ByteArray)], .int .i64 1]) rfl ⟨⟨_, rfl, load_box tab rfl rfl f5.now (k := 0) rfl rfl⟩, rfl, trivial⟩ ⟨fun b_ => if b_ < w.heap.size then o b_ else (fun _ => 0) (o415 b_), none, 0, rfl, hs.close0 o (fun _ => 0), (Ft.of_all (fun _ => Own.nil _ _ _) _ _ _), (by simp)⟩
      refine wpIn_region_lit ?_
      refine x_run tab hk (k := 4) (lv := [.int .i64 t63.1.E]) (ks := [2, 6, 7, 8, 48]) (e' := [(2, .pointer (some ⟨bx4, 0, none⟩)), (6, .pointer (some ⟨bx19, 0, none⟩)), (7, .pointer (some ⟨bx27, 0, none⟩)), (8, .int .i64 t63.2), (48, .bool (t63.1.E == (0 : Int)))]) rfl ⟨(load1 tab rfl ((Bx.cell f20.now 1).trans rfl)), trivial⟩ fun a hk => ?_
      cases b417 : (t63.1.E == (0 : Int))
      · rw [b417] at hk H
        replace H := bifF H
        refine x_run tab hk (k := 3) (lv := []) (ks := [2, 6, 7, 8, 51]) (e' := [(2, .pointer (some ⟨bx4, 0, none⟩)), (6, .pointer (some ⟨bx19, 0, none⟩)), (7, .pointer (some ⟨bx27, 0, none⟩)), (8, .int .i64 t63.2), (51, .bool false)]) rfl trivial fun a hk => ?_
        refine wpListIn_nil ?_
        refine then_n ?_
        exact ⟨(fun b_ => (fun l_ => if l_ = 1 then 59 else if l_ = 2 then 60 else if l_ = 3 then 61 else l_) (o69 b_)), false, (by exact Kn.pick (ks := [2, 6, 7, 8, 51]) hk rfl), (hs.relab0 (fun l_ => if l_ = 1 then 59 else if l_ = 2 then 60 else if l_ = 3 then 61 else l_) rfl), (f20.relab (fun l_ => if l_ = 1 then 59 else if l_ = 2 then 60 else if l_ = 3 then 61 else l_) rfl), (f28.relab (fun l_ => if l_ = 1 then 59 else if l_ = 2 then 60 else if l_ = 3 then 61 else l_) rfl), (f5.relab (fun l_ => if l_ = 1 then 59 else if l_ = 2 then 60 else if l_ = 3 then 61 else l_) rfl), H⟩
      · rw [b417] at hk H
        replace H := bifT H
        refine x_run tab hk (k := 3) (lv := []) (ks := [2, 6, 7, 8, 51]) (e' := [(2, .pointer (some ⟨bx4, 0, none⟩)), (6, .pointer (some ⟨bx19, 0, none⟩)), (7, .pointer (some ⟨bx27, 0, none⟩)), (8, .int .i64 t63.2), (51, .bool (decide (t63.2 > (64 : Int))))]) rfl trivial fun a hk => ?_
        refine wpListIn_nil ?_
        refine then_n ?_
        exact ⟨(fun b_ => (fun l_ => if l_ = 1 then 59 else if l_ = 2 then 60 else if l_ = 3 then 61 else l_) (o69 b_)), (decide (t63.2 > (64 : Int))), (by exact Kn.pick (ks := [2, 6, 7, 8, 51]) hk rfl), (hs.relab0 (fun l_ => if l_ = 1 then 59 else if l_ = 2 then 60 else if l_ = 3 then 61 else l_) rfl), (f20.relab (fun l_ => if l_ = 1 then 59 else if l_ = 2 then 60 else if l_ = 3 then 61 else l_) rfl), (f28.relab (fun l_ => if l_ = 1 then 59 else if l_ = 2 then 60 else if l_ = 3 then 61 else l_) rfl), (f5.relab (fun l_ => if l_ = 1 then 59 else if l_ = 2 then 60 else if l_ = 3 then 61 else l_) rfl), H⟩
    · rw [b15] at hk H
      replace H := bifT H
      refine x_if hk (b := true) rfl ?_
      refine (show Code.wpIn _ _ _ _ _ _ _ from ?_)
      refine x_seq ?_
      refine wpIn_region_lit ?_
      refine x_run tab hk (k := 1) (lv := []) (ks := [2, 24]) (e' := [(2, .pointer (some ⟨bx4, 0, none⟩)), (24, .agg #[.int .i64 0, .int .i64 0, .slice none 0 0, .string (⟨#[]⟩ : ByteArray)])]) rfl trivial fun a hk => ?_
      refine x_op hk rfl ?_
      refine op_store tab hk (t := 24) (v := .agg #[.int .i64 0, .int .i64 0, .slice none 0 0, .string (⟨#[]⟩ : ByteArray)]) (b := bx4) (k := 0) (cs' := [.int .i64 0, .int .i64 0, .slice none 0 0, .string (⟨#[]⟩ : ByteArray)]) rfl rfl rfl rfl rfl rfl f5 rfl rfl fun w418 o419 st420 f5_ => ?_
      replace hs := hs.loc0 st420 (by decide)
      replace f5 := f5_
      refine x_run tab hk (k := 1) (lv := []) (ks := [2, 3]) (e' := [(2, .pointer (some ⟨bx4, 0, none⟩)), (3, .int .i64 4)]) rfl trivial fun a hk => ?_
      refine wpListIn_nil ?_
      refine then_n ?_
      refine wpIn_ret ?_
      refine then_r ?_
      obtain rfl := Option.some.inj H
      exact x_retG hk (rs := [.cell 2 24, .tmp 3]) (vs := [.agg #[.int .i64 0, .int .i64 0, .slice none 0 0, .string (⟨#[]⟩ : ByteArray)], .int .i64 4]) rfl ⟨⟨_, rfl, load_box tab rfl rfl f5.now (k := 0) rfl rfl⟩, rfl, trivial⟩ ⟨fun b_ => if b_ < w.heap.size then o b_ else (fun _ => 0) (o419 b_), none, 0, rfl, hs.close0 o (fun _ => 0), (Ft.of_all (fun _ => Own.nil _ _ _) _ _ _), (by simp)⟩
  · rw [b6] at hk H
    replace H := bifT H
    refine x_if hk (b := true) rfl ?_
    refine (show Code.wpIn _ _ _ _ _ _ _ from ?_)
    refine x_seq ?_
    refine wpIn_region_lit ?_
    refine x_run tab hk (k := 1) (lv := []) (ks := [2, 16]) (e' := [(2, .pointer (some ⟨bx4, 0, none⟩)), (16, .agg #[.int .i64 0, .int .i64 0, .slice none 0 0, .string (⟨#[]⟩ : ByteArray)])]) rfl trivial fun a hk => ?_
    refine x_op hk rfl ?_
    refine op_store tab hk (t := 24) (v := .agg #[.int .i64 0, .int .i64 0, .slice none 0 0, .string (⟨#[]⟩ : ByteArray)]) (b := bx4) (k := 0) (cs' := [.int .i64 0, .int .i64 0, .slice none 0 0, .string (⟨#[]⟩ : ByteArray)]) rfl rfl rfl rfl rfl rfl f5 rfl rfl fun w421 o422 st423 f5_ => ?_
    replace hs := hs.loc0 st423 (by decide)
    replace f5 := f5_
    refine x_run tab hk (k := 1) (lv := []) (ks := [2, 3]) (e' := [(2, .pointer (some ⟨bx4, 0, none⟩)), (3, .int .i64 3)]) rfl trivial fun a hk => ?_
    refine wpListIn_nil ?_
    refine then_n ?_
    refine wpIn_ret ?_
    refine then_r ?_
    obtain rfl := Option.some.inj H
    exact x_retG hk (rs := [.cell 2 24, .tmp 3]) (vs := [.agg #[.int .i64 0, .int .i64 0, .slice none 0 0, .string (⟨#[]⟩ : ByteArray)], .int .i64 3]) rfl ⟨⟨_, rfl, load_box tab rfl rfl f5.now (k := 0) rfl rfl⟩, rfl, trivial⟩ ⟨fun b_ => if b_ < w.heap.size then o b_ else (fun _ => 0) (o422 b_), none, 0, rfl, hs.close0 o (fun _ => 0), (Ft.of_all (fun _ => Own.nil _ _ _) _ _ _), (by simp)⟩

/-! tidewrack/tidewracklaw03.GramParses -/
theorem tidewracklaw03_GramParses_calls (K : Nat) (p0 : ByteArray) (p1 : Bool) (w : World) (o : Nat → Nat) (Lg0 : Nat) (hg0 : Ft (RdC (encInt .u32) (some ⟨0, 0, none⟩) glob0) w o Lg0)   (r : Bool) (H : tidewracklaw03_GramParses K p0 p1 = some r) :
    Calls Tryd.prog 4 #[.string p0, .bool p1] w (Ret fun v_ w' => ∃ o' : Nat → Nat, v_ = .bool r ∧ St [] w o w' o') := by
  refine x_enter (vs := [.string p0, .bool p1]) Tryd.func4 rfl rfl rfl fun a hk => ?_
  obtain ⟨o0, hs, h0⟩ := St.start w o
  have fg0 := h0 _ _ hg0
  clear h0
  rw [tidewracklaw03_GramParses] at H
  refine x_seq ?_
  refine wpIn_region_lit ?_
  refine x_run tab hk (k := 1) (lv := []) (ks := [0, 1]) (e' := [(0, .string p0), (1, .bool p1)]) rfl trivial fun a hk => ?_
  refine wpListIn_nil ?_
  refine then_n ?_
  refine x_seq ?_
  refine x_seq ?_
  refine wpIn_region_lit ?_
  refine x_op hk rfl ?_
  obtain ⟨t4, hc5, H⟩ := bindS H
  refine op_call hk ent_8 (vs := []) rfl (tidewracklaw03_awake_calls K  _ o0 0 fg0   _ hc5) ?_
  rintro _ w6 ⟨o7, rfl, st8⟩
  replace fg0 := fg0.st st8 (by decide)
  replace hs := hs.loc0 st8 (by decide)
  have hk := hk.put 9 (.bool t4) rfl
  refine x_run tab hk (k := 1) (lv := []) (ks := [0, 1, 10]) (e' := [(0, .string p0), (1, .bool p1), (10, .bool (!t4))]) rfl trivial fun a hk => ?_
  refine wpListIn_nil ?_
  refine then_n ?_
  cases b9 : (!t4)
  · rw [b9] at hk H
    replace H := bifF H
    refine x_if hk (b := false) rfl ?_
    refine (show Code.wpIn _ _ _ _ _ _ _ from ?_)
    refine wpIn_skip ?_
    refine then_n ?_
    refine x_seq ?_
    refine wpIn_region_lit ?_
    refine x_run tab hk (k := 1) (lv := []) (ks := [1, 11]) (e' := [(1, .bool p1), (11, .string p0)]) rfl trivial fun a hk => ?_
    refine x_op hk rfl ?_
    obtain ⟨t13, hc14, H⟩ := bindS H
    refine op_call hk ent_17 (vs := [.string p0, .int .i64 300]) rfl (tidewracklaw01_Cut_calls p0 300 _ o7    _ hc14) ?_
    rintro _ w15 ⟨o16, rfl, st17⟩
    replace fg0 := fg0.st st17 (by decide)
    replace hs := hs.loc0 st17 (by decide)
    have hk := hk.put 12 (.string t13) rfl
    refine x_run tab hk (k := 1) (lv := []) (ks := [0, 1]) (e' := [(0, .string t13), (1, .bool p1)]) rfl trivial fun a hk => ?_
    refine wpListIn_nil ?_
    refine then_n ?_
    refine x_mid (fun a_ w_ => ∃ o33 : Nat → Nat, ∃ x34 : ByteArray, Kn 44 a_ [(0, .string x34)] ∧ St [] w (fun _ => 0) w_ o33 ∧ Ft (RdC (encInt .u32) (some ⟨0, 0, none⟩) glob0) w_ o33 0 ∧ tidewracklaw03_GramParses_j1 K x34 = some r) ?_ ?_
    rotate_left
    · rintro a w35 ⟨o33, x34, hk, hs, fg0, H⟩
      rw [tidewracklaw03_GramParses_j1] at H
      refine x_seq ?_
      refine wpIn_region_lit ?_
      refine x_run tab hk (k := 1) (lv := []) (ks := [0, 17]) (e' := [(0, .string x34), (17, .string x34)]) rfl trivial fun a hk => ?_
      refine x_op hk rfl ?_
      obtain ⟨t39, hc40, H⟩ := bindS H
      refine op_call hk ent_15 (vs := [.string x34]) rfl (gram_Parse_calls K x34 _ o33 0 fg0 1  _ hc40) ?_
      rintro _ w41 ⟨o42, A44, c45, rfl, st43, f46, hc47⟩
      replace fg0 := fg0.st st43 (by decide)
      replace hs := hs.loc0 st43 (by decide)
      have hk := hk.put 18 (.tuple #[.agg #[.int .i64 t39.1.Epoch, .int .i64 t39.1.Kind, .slice A44 (t39.1.Nums).length c45, .string t39.1.Data], .int .i64 t39.2]) rfl
      refine x_run tab hk (k := 3) (lv := []) (ks := [0, 19, 20]) (e' := [(0, .string x34), (19, .agg #[.int .i64 t39.1.Epoch, .int .i64 t39.1.Kind, .slice A44 (t39.1.Nums).length c45, .string t39.1.Data]), (20, .int .i64 t39.2)]) rfl trivial fun a hk => ?_
      refine x_op hk rfl ?_
      refine op_alloc (o := o42) tab (t := 26) (cs := [.int .i64 0, .int .i64 0, .slice none 0 0, .string (⟨#[]⟩ : ByteArray)]) rfl rfl 2 fun bx51 w48 o49 st50 f52 => ?_
      replace f46 := f46.st st50 (by decide)
      replace fg0 := fg0.st st50 (by decide)
      replace hs := hs.loc0 st50 (by decide)
      have hk := hk.put 5 (.pointer (some ⟨bx51, 0, none⟩)) rfl
      refine x_op hk rfl ?_
      refine op_store tab hk (t := 26) (v := .agg #[.int .i64 t39.1.Epoch, .int .i64 t39.1.Kind, .slice A44 (t39.1.Nums).length c45, .string t39.1.Data]) (b := bx51) (k := 0) (cs' := [.int .i64 t39.1.Epoch, .int .i64 t39.1.Kind, .slice A44 (t39.1.Nums).length c45, .string t39.1.Data]) rfl rfl rfl rfl rfl rfl f52 rfl rfl fun w53 o54 st55 f52_ => ?_
      replace f46 := f46.st st55 (by decide)
      replace fg0 := fg0.st st55 (by decide)
      replace hs := hs.loc0 st55 (by decide)
      replace f52 := f52_
      refine x_run tab hk (k := 1) (lv := []) (ks := [0, 5, 6]) (e' := [(0, .string x34), (5, .pointer (some ⟨bx51, 0, none⟩)), (6, .int .i64 t39.2)]) rfl trivial fun a hk => ?_
      refine wpListIn_nil ?_
      refine then_n ?_
      refine x_seq ?_
      refine wpIn_region_lit ?_
      refine x_run tab hk (k := 1) (lv := []) (ks := [0, 5, 6, 22]) (e' := [(0, .string x34), (5, .pointer (some ⟨bx51, 0, none⟩)), (6, .int .i64 t39.2), (22, .string x34)]) rfl trivial fun a hk => ?_
      refine x_op hk rfl ?_
      obtain ⟨t59, hc60, H⟩ := bindS H
      refine op_call hk ent_19 (vs := [.string x34]) rfl (tidewrackref03_Parse_calls K x34 _ o54  3  _ hc60) ?_
      rintro _ w61 ⟨o62, A64, c65, rfl, st63, f66, hc67⟩
      replace f46 := f46.st st63 (by decide)
      replace f52 := f52.st st63 (by decide)
      replace fg0 := fg0.st st63 (by decide)
      replace hs := hs.loc0 st63 (by decide)
      have hk := hk.put 23 (.tuple #[.agg #[.int .i64 t59.1.Epoch, .int .i64 t59.1.Kind, .slice A64 (t59.1.Nums).length c65, .string t59.1.Data], .int .i64 t59.2]) rfl
      refine x_run tab hk (k := 3) (lv := []) (ks := [0, 5, 6, 24, 25]) (e' := [(0, .string x34), (5, .pointer (some ⟨bx51, 0, none⟩)), (6, .int .i64 t39.2), (24, .agg #[.int .i64 t59.1.Epoch, .int .i64 t59.1.Kind, .slice A64 (t59.1.Nums).length c65, .string t59.1.Data]), (25, .int .i64 t59.2)]) rfl trivial fun a hk => ?_
      refine x_op hk rfl ?_
      refine op_alloc (o := o62) tab (t := 24) (cs := [.int .i64 0, .int .i64 0, .slice none 0 0, .string (⟨#[]⟩ : ByteArray)]) rfl rfl 4 fun bx71 w68 o69 st70 f72 => ?_
      replace f46 := f46.st st70 (by decide)
      replace f52 := f52.st st70 (by decide)
      replace f66 := f66.st st70 (by decide)
      replace fg0 := fg0.st st70 (by decide)
      replace hs := hs.loc0 st70 (by decide)
      have hk := hk.put 7 (.pointer (some ⟨bx71, 0, none⟩)) rfl
      refine x_op hk rfl ?_
      refine op_store tab hk (t := 24) (v := .agg #[.int .i64 t59.1.Epoch, .int .i64 t59.1.Kind, .slice A64 (t59.1.Nums).length c65, .string t59.1.Data]) (b := bx71) (k := 0) (cs' := [.int .i64 t59.1.Epoch, .int .i64 t59.1.Kind, .slice A64 (t59.1.Nums).length c65, .string t59.1.Data]) rfl rfl rfl rfl rfl rfl f72 rfl rfl fun w73 o74 st75 f72_ => ?_
      replace f46 := f46.st st75 (by decide)
      replace f52 := f52.st st75 (by decide)
      replace f66 := f66.st st75 (by decide)
      replace fg0 := fg0.st st75 (by decide)
      replace hs := hs.loc0 st75 (by decide)
      replace f72 := f72_
      refine x_run tab hk (k := 1) (lv := []) (ks := [0, 5, 6, 7, 8]) (e' := [(0, .string x34), (5, .pointer (some ⟨bx51, 0, none⟩)), (6, .int .i64 t39.2), (7, .pointer (some ⟨bx71, 0, none⟩)), (8, .int .i64 t59.2)]) rfl trivial fun a hk => ?_
      refine wpListIn_nil ?_
      refine then_n ?_
      refine x_seq ?_
      refine wpIn_region_lit ?_
      refine x_run tab hk (k := 4) (lv := []) (ks := [0, 5, 6, 7, 29]) (e' := [(0, .string x34), (5, .pointer (some ⟨bx51, 0, none⟩)), (6, .int .i64 t39.2), (7, .pointer (some ⟨bx71, 0, none⟩)), (29, .bool (t39.2 == t59.2))]) rfl trivial fun a hk => ?_
      cases b76 : (t39.2 == t59.2)
      · rw [b76] at hk H
        replace H := bifF H
        refine x_run tab hk (k := 13) (lv := []) (ks := [34, 42]) (e' := [(34, .bool false), (42, undef)]) rfl trivial fun a hk => ?_
        refine x_run tab hk (k := 2) (lv := []) (ks := [4]) (e' := [(4, .bool false)]) rfl trivial fun a hk => ?_
        refine wpListIn_nil ?_
        refine then_n ?_
        refine wpIn_ret ?_
        obtain rfl := Option.some.inj H
        exact x_retG hk (rs := [.tmp 4]) (vs := [.bool false]) rfl ⟨rfl, trivial⟩ ⟨fun b_ => if b_ < w.heap.size then o b_ else (fun _ => 0) (o74 b_), rfl, hs.close0 o (fun _ => 0)⟩
      · rw [b76] at hk H
        replace H := bifT H
        refine x_run tab hk (k := 2) (lv := [.agg #[.int .i64 t39.1.Epoch, .int .i64 t39.1.Kind, .slice A44 (t39.1.Nums).length c45, .string t39.1.Data], .agg #[.int .i64 t59.1.Epoch, .int .i64 t59.1.Kind, .slice A64 (t59.1.Nums).length c65, .string t59.1.Data]]) (ks := [0, 5, 6, 29, 30, 31]) (e' := [(0, .string x34), (5, .pointer (some ⟨bx51, 0, none⟩)), (6, .int .i64 t39.2), (29, .bool true), (30, .agg #[.int .i64 t39.1.Epoch, .int .i64 t39.1.Kind, .slice A44 (t39.1.Nums).length c45, .string t39.1.Data]), (31, .agg #[.int .i64 t59.1.Epoch, .int .i64 t59.1.Kind, .slice A64 (t59.1.Nums).length c65, .string t59.1.Data])]) rfl ⟨(load_box tab rfl rfl f52.now (k := 0) rfl rfl), (load_box tab rfl rfl f72.now (k := 0) rfl rfl), trivial⟩ fun a hk => ?_
        refine x_op hk rfl ?_
        obtain ⟨t80, hc81, H⟩ := bindS H
        refine op_call hk ent_16 (vs := [.agg #[.int .i64 t39.1.Epoch, .int .i64 t39.1.Kind, .slice A44 (t39.1.Nums).length c45, .string t39.1.Data], .agg #[.int .i64 t59.1.Epoch, .int .i64 t59.1.Kind, .slice A64 (t59.1.Nums).length c65, .string t59.1.Data]]) rfl (tidewracklaw03_Is_calls K A44 c45 t39.1 A64 c65 t59.1 _ o74 _ (f46.imp fun _ h_ => Own.rd h_) hc47 _ (f66.imp fun _ h_ => Own.rd h_) hc67   _ hc81) ?_
        rintro _ w82 ⟨o83, rfl, st84⟩
        replace f46 := f46.st st84 (by decide)
        replace f52 := f52.st st84 (by decide)
        replace f66 := f66.st st84 (by decide)
        replace fg0 := fg0.st st84 (by decide)
        replace hs := hs.loc0 st84 (by decide)
        have hk := hk.put 32 (.bool t80) rfl
        refine x_run tab hk (k := 2) (lv := []) (ks := [0, 5, 6, 34]) (e' := [(0, .string x34), (5, .pointer (some ⟨bx51, 0, none⟩)), (6, .int .i64 t39.2), (34, .bool t80)]) rfl trivial fun a hk => ?_
        cases b85 : t80
        · rw [b85] at hk H
          replace H := bifF H
          refine x_run tab hk (k := 10) (lv := []) (ks := [4]) (e' := [(4, .bool false)]) rfl trivial fun a hk => ?_
          refine wpListIn_nil ?_
          refine then_n ?_
          refine wpIn_ret ?_
          obtain rfl := Option.some.inj H
          exact x_retG hk (rs := [.tmp 4]) (vs := [.bool false]) rfl ⟨rfl, trivial⟩ ⟨fun b_ => if b_ < w.heap.size then o b_ else (fun _ => 0) (o83 b_), rfl, hs.close0 o (fun _ => 0)⟩
        · rw [b85] at hk H
          replace H := bifT H
          refine x_run tab hk (k := 3) (lv := []) (ks := [0, 5, 34, 37]) (e' := [(0, .string x34), (5, .pointer (some ⟨bx51, 0, none⟩)), (34, .bool true), (37, .bool (t39.2 != (0 : Int)))]) rfl trivial fun a hk => ?_
          cases b86 : (t39.2 != (0 : Int))
          · rw [b86] at hk H
            replace H := bifF H
            refine x_run tab hk (k := 1) (lv := [.agg #[.int .i64 t39.1.Epoch, .int .i64 t39.1.Kind, .slice A44 (t39.1.Nums).length c45, .string t39.1.Data]]) (ks := [0, 34, 37, 38]) (e' := [(0, .string x34), (34, .bool true), (37, .bool false), (38, .agg #[.int .i64 t39.1.Epoch, .int .i64 t39.1.Kind, .slice A44 (t39.1.Nums).length c45, .string t39.1.Data])]) rfl ⟨(load_box tab rfl rfl f52.now (k := 0) rfl rfl), trivial⟩ fun a hk => ?_
            refine x_op hk rfl ?_
            obtain ⟨t90, hc91, H⟩ := bindS H
            refine op_call hk ent_10 (vs := [.agg #[.int .i64 t39.1.Epoch, .int .i64 t39.1.Kind, .slice A44 (t39.1.Nums).length c45, .string t39.1.Data]]) rfl (gram_Gram_Pack_calls K A44 c45 t39.1 _ o83 0 fg0 _ (f46.imp fun _ h_ => Own.rd h_) hc47   _ hc91) ?_
            rintro _ w92 ⟨o93, rfl, st94⟩
            replace f46 := f46.st st94 (by decide)
            replace fg0 := fg0.st st94 (by decide)
            replace hs := hs.loc0 st94 (by decide)
            have hk := hk.put 39 (.string t90) rfl
            refine x_run tab hk (k := 5) (lv := []) (ks := [4]) (e' := [(4, .bool (ByteArray.toList t90 == ByteArray.toList x34))]) rfl trivial fun a hk => ?_
            refine wpListIn_nil ?_
            refine then_n ?_
            refine wpIn_ret ?_
            obtain rfl := Option.some.inj H
            exact x_retG hk (rs := [.tmp 4]) (vs := [.bool (ByteArray.toList t90 == ByteArray.toList x34)]) rfl ⟨rfl, trivial⟩ ⟨fun b_ => if b_ < w.heap.size then o b_ else (fun _ => 0) (o93 b_), rfl, hs.close0 o (fun _ => 0)⟩
          · rw [b86] at hk H
            replace H := bifT H
            refine x_run tab hk (k := 7) (lv := []) (ks := [4]) (e' := [(4, .bool true)]) rfl trivial fun a hk => ?_
            refine wpListIn_nil ?_
            refine then_n ?_
            refine wpIn_ret ?_
            obtain rfl := Option.some.inj H
            exact x_retG hk (rs := [.tmp 4]) (vs := [.bool true]) rfl ⟨rfl, trivial⟩ ⟨fun b_ => if b_ < w.heap.size then o b_ else (fun _ => 0) (o83 b_), rfl, hs.close0 o (fun _ => 0)⟩
    refine x_seq ?_
    refine wpIn_region_lit ?_
    refine x_run tab hk (k := 1) (lv := []) (ks := [0, 13]) (e' := [(0, .string t13), (13, .bool p1)]) rfl trivial fun a hk => ?_
    refine wpListIn_nil ?_
    refine then_n ?_
    cases b95 : p1
    · rw [b95] at hk H
      replace H := bifF H
      refine x_if hk (b := false) rfl ?_
      refine (show Code.wpIn _ _ _ _ _ _ _ from ?_)
      refine wpIn_skip ?_
      refine then_n ?_
      exact ⟨o16, t13, (by exact Kn.pick (ks := [0]) hk rfl), hs, fg0, H⟩
    · rw [b95] at hk H
      replace H := bifT H
      refine x_if hk (b := true) rfl ?_
      refine (show Code.wpIn _ _ _ _ _ _ _ from ?_)
      refine wpIn_region_lit ?_
      refine x_run tab hk (k := 1) (lv := []) (ks := [14]) (e' := [(14, .string t13)]) rfl trivial fun a hk => ?_
      refine x_op hk rfl ?_
      obtain ⟨t99, hc100, H⟩ := bindS H
      refine op_call hk ent_18 (vs := [.string t13]) rfl (sum_Seal_calls K t13 _ o16 0 fg0   _ hc100) ?_
      rintro _ w101 ⟨o102, rfl, st103⟩
      replace fg0 := fg0.st st103 (by decide)
      replace hs := hs.loc0 st103 (by decide)
      have hk := hk.put 15 (.string t99) rfl
      refine x_run tab hk (k := 1) (lv := []) (ks := [0]) (e' := [(0, .string t99)]) rfl trivial fun a hk => ?_
      refine wpListIn_nil ?_
      refine then_n ?_
      exact ⟨o102, t99, (by exact Kn.pick (ks := [0]) hk rfl), hs, fg0, H⟩
  · rw [b9] at hk H
    replace H := bifT H
    refine x_if hk (b := true) rfl ?_
    refine (show Code.wpIn _ _ _ _ _ _ _ from ?_)
    refine x_seq ?_
    refine wpIn_region_lit ?_
    refine x_run tab hk (k := 1) (lv := []) (ks := [4]) (e' := [(4, .bool false)]) rfl trivial fun a hk => ?_
    refine wpListIn_nil ?_
    refine then_n ?_
    refine wpIn_ret ?_
    refine then_r ?_
    obtain rfl := Option.some.inj H
    exact x_retG hk (rs := [.tmp 4]) (vs := [.bool false]) rfl ⟨rfl, trivial⟩ ⟨fun b_ => if b_ < w.heap.size then o b_ else (fun _ => 0) (o7 b_), rfl, hs.close0 o (fun _ => 0)⟩

/-! tidewrack/tidewracklaw03.GramLongest -/
theorem tidewracklaw03_GramLongest_calls (K : Nat) (p0 : Int) (w : World) (o : Nat → Nat) (Lg0 : Nat) (hg0 : Ft (RdC (encInt .u32) (some ⟨0, 0, none⟩) glob0) w o Lg0)   (r : Bool) (H : tidewracklaw03_GramLongest K p0 = some r) :
    Calls Tryd.prog 5 #[.int .i64 p0] w (Ret fun v_ w' => ∃ o' : Nat → Nat, v_ = .bool r ∧ St [] w o w' o') := by
  refine x_enter (vs := [.int .i64 p0]) Tryd.func5 rfl rfl rfl fun a hk => ?_
  obtain ⟨o0, hs, h0⟩ := St.start w o
  have fg0 := h0 _ _ hg0
  clear h0
  rw [tidewracklaw03_GramLongest] at H
  refine x_seq ?_
  refine wpIn_region_lit ?_
  refine x_run tab hk (k := 1) (lv := []) (ks := [0]) (e' := [(0, .int .i64 p0)]) rfl trivial fun a hk => ?_
  refine wpListIn_nil ?_
  refine then_n ?_
  refine x_seq ?_
  refine x_seq ?_
  refine wpIn_region_lit ?_
  refine x_op hk rfl ?_
  obtain ⟨t4, hc5, H⟩ := bindS H
  refine op_call hk ent_8 (vs := []) rfl (tidewracklaw03_awake_calls K  _ o0 0 fg0   _ hc5) ?_
  rintro _ w6 ⟨o7, rfl, st8⟩
  replace fg0 := fg0.st st8 (by decide)
  replace hs := hs.loc0 st8 (by decide)
  have hk := hk.put 7 (.bool t4) rfl
  refine x_run tab hk (k := 1) (lv := []) (ks := [0, 8]) (e' := [(0, .int .i64 p0), (8, .bool (!t4))]) rfl trivial fun a hk => ?_
  refine wpListIn_nil ?_
  refine then_n ?_
  cases b9 : (!t4)
  · rw [b9] at hk H
    replace H := bifF H
    refine x_if hk (b := false) rfl ?_
    refine (show Code.wpIn _ _ _ _ _ _ _ from ?_)
    refine wpIn_skip ?_
    refine then_n ?_
    refine x_seq ?_
    refine wpIn_region_lit ?_
    refine x_run tab hk (k := 3) (lv := []) (ks := [0]) (e' := [(0, .int .i64 (bits .and .i64 p0 16383))]) rfl trivial fun a hk => ?_
    refine wpListIn_nil ?_
    refine then_n ?_
    refine x_seq ?_
    refine wpIn_region_lit ?_
    refine x_run tab hk (k := 1) (lv := []) (ks := [0, 11]) (e' := [(0, .int .i64 (bits .and .i64 p0 16383)), (11, .int .i64 (bits .and .i64 p0 16383))]) rfl trivial fun a hk => ?_
    refine x_op hk rfl ?_
    obtain ⟨q13, H⟩ := ifS H
    obtain ⟨q14, H⟩ := ifS H
    refine op_make (o := o7) (E := (encInt .u8)) (zx := 0) tab hk rfl rfl rfl rfl rfl q13 q14 1 fun A15 c16 w10 o11 st12 f17 hc18 => ?_
    replace fg0 := fg0.st st12 (by decide)
    replace hs := hs.loc0 st12 (by decide)
    have hk := hk.put 12 (.slice A15 ((List.replicate (Int.toNat (bits .and .i64 p0 16383)) (0 : Int))).length c16) rfl
    refine x_run tab hk (k := 2) (lv := [.string (strOfNums (List.replicate (Int.toNat (bits .and .i64 p0 16383)) (0 : Int)))]) (ks := [0, 14]) (e' := [(0, .int .i64 (bits .and .i64 p0 16383)), (14, .agg #[.int .i64 1, .int .i64 4, .slice none 0 0, .string (strOfNums (List.replicate (Int.toNat (bits .and .i64 p0 16383)) (0 : Int)))])]) rfl ⟨(ask_str tab rfl rfl rfl rfl (Own.rd f17.now) (Own.plain f17.now _ _ _ rfl)), trivial⟩ fun a hk => ?_
    refine x_op hk rfl ?_
    refine op_alloc (o := o11) tab (t := 26) (cs := [.int .i64 0, .int .i64 0, .slice none 0 0, .string (⟨#[]⟩ : ByteArray)]) rfl rfl 2 fun bx22 w19 o20 st21 f23 => ?_
    replace fg0 := fg0.st st21 (by decide)
    replace hs := hs.loc0 st21 (by decide)
    have hk := hk.put 3 (.pointer (some ⟨bx22, 0, none⟩)) rfl
    refine x_op hk rfl ?_
    refine op_store tab hk (t := 26) (v := .agg #[.int .i64 1, .int .i64 4, .slice none 0 0, .string (strOfNums (List.replicate (Int.toNat (bits .and .i64 p0 16383)) (0 : Int)))]) (b := bx22) (k := 0) (cs' := [.int .i64 1, .int .i64 4, .slice none 0 0, .string (strOfNums (List.replicate (Int.toNat (bits .and .i64 p0 16383)) (0 : Int)))]) rfl rfl rfl rfl rfl rfl f23 rfl rfl fun w24 o25 st26 f23_ => ?_
    replace fg0 := fg0.st st26 (by decide)
    replace hs := hs.loc0 st26 (by decide)
    replace f23 := f23_
    refine wpListIn_nil ?_
    refine then_n ?_
    refine x_seq ?_
    refine wpIn_region_lit ?_
    refine x_run tab hk (k := 1) (lv := [.agg #[.int .i64 1, .int .i64 4, .slice none 0 0, .string (strOfNums (List.replicate (Int.toNat (bits .and .i64 p0 16383)) (0 : Int)))]]) (ks := [0, 3, 15]) (e' := [(0, .int .i64 (bits .and .i64 p0 16383)), (3, .pointer (some ⟨bx22, 0, none⟩)), (15, .agg #[.int .i64 1, .int .i64 4, .slice none 0 0, .string (strOfNums (List.replicate (Int.toNat (bits .and .i64 p0 16383)) (0 : Int)))])]) rfl ⟨(load_box tab rfl rfl f23.now (k := 0) rfl rfl), trivial⟩ fun a hk => ?_
    refine x_op hk rfl ?_
    obtain ⟨t30, hc31, H⟩ := bindS H
    refine op_call hk ent_10 (vs := [.agg #[.int .i64 1, .int .i64 4, .slice none 0 0, .string (strOfNums (List.replicate (Int.toNat (bits .and .i64 p0 16383)) (0 : Int)))]]) rfl (gram_Gram_Pack_calls K none 0 (⟨1, 4, ([] : List Int), (strOfNums (List.replicate (Int.toNat (bits .and .i64 p0 16383)) (0 : Int)))⟩ : T23) _ o25 0 fg0 _ (Ft.of_all (fun _ h_ => absurd h_ (by simp)) _ _ 0) (by simp)   _ hc31) ?_
    rintro _ w32 ⟨o33, rfl, st34⟩
    replace f23 := f23.st st34 (by decide)
    replace fg0 := fg0.st st34 (by decide)
    replace hs := hs.loc0 st34 (by decide)
    have hk := hk.put 16 (.string t30) rfl
    refine x_run tab hk (k := 1) (lv := []) (ks := [0, 3, 4]) (e' := [(0, .int .i64 (bits .and .i64 p0 16383)), (3, .pointer (some ⟨bx22, 0, none⟩)), (4, .string t30)]) rfl trivial fun a hk => ?_
    refine wpListIn_nil ?_
    refine then_n ?_
    refine x_seq ?_
    refine wpIn_region_lit ?_
    refine x_op hk rfl ?_
    refine op_make (o := o33) (E := (encInt .u8)) (zx := 0) tab hk rfl rfl rfl rfl rfl (show 0 ≤ (8193 : Int) from by decide) (show (8193 : Int) ≤ 1000000000 from by decide) 3 fun A38 c39 w35 o36 st37 f40 hc41 => ?_
    replace f23 := f23.st st37 (by decide)
    replace fg0 := fg0.st st37 (by decide)
    replace hs := hs.loc0 st37 (by decide)
    have hk := hk.put 18 (.slice A38 ((List.replicate (Int.toNat 8193) (0 : Int))).length c39) rfl
    refine x_run tab hk (k := 1) (lv := [.string (strOfNums (List.replicate (Int.toNat 8193) (0 : Int)))]) (ks := [0, 3, 4, 19]) (e' := [(0, .int .i64 (bits .and .i64 p0 16383)), (3, .pointer (some ⟨bx22, 0, none⟩)), (4, .string t30), (19, .string (strOfNums (List.replicate (Int.toNat 8193) (0 : Int))))]) rfl ⟨(ask_str tab rfl rfl rfl rfl (Own.rd f40.now) (Own.plain f40.now _ _ _ rfl)), trivial⟩ fun a hk => ?_
    refine x_op hk rfl ?_
    obtain ⟨t45, hc46, H⟩ := bindS H
    refine op_call hk ent_15 (vs := [.string (strOfNums (List.replicate (Int.toNat 8193) (0 : Int)))]) rfl (gram_Parse_calls K (strOfNums (List.replicate (Int.toNat 8193) (0 : Int))) _ o36 0 fg0 4  _ hc46) ?_
    rintro _ w47 ⟨o48, A50, c51, rfl, st49, f52, hc53⟩
    replace f23 := f23.st st49 (by decide)
    replace fg0 := fg0.st st49 (by decide)
    replace hs := hs.loc0 st49 (by decide)
    have hk := hk.put 20 (.tuple #[.agg #[.int .i64 t45.1.Epoch, .int .i64 t45.1.Kind, .slice A50 (t45.1.Nums).length c51, .string t45.1.Data], .int .i64 t45.2]) rfl
    refine x_run tab hk (k := 3) (lv := []) (ks := [0, 3, 4, 21, 22]) (e' := [(0, .int .i64 (bits .and .i64 p0 16383)), (3, .pointer (some ⟨bx22, 0, none⟩)), (4, .string t30), (21, .agg #[.int .i64 t45.1.Epoch, .int .i64 t45.1.Kind, .slice A50 (t45.1.Nums).length c51, .string t45.1.Data]), (22, .int .i64 t45.2)]) rfl trivial fun a hk => ?_
    refine x_op hk rfl ?_
    refine op_alloc (o := o48) tab (t := 26) (cs := [.int .i64 0, .int .i64 0, .slice none 0 0, .string (⟨#[]⟩ : ByteArray)]) rfl rfl 5 fun bx57 w54 o55 st56 f58 => ?_
    replace f23 := f23.st st56 (by decide)
    replace f52 := f52.st st56 (by decide)
    replace fg0 := fg0.st st56 (by decide)
    replace hs := hs.loc0 st56 (by decide)
    have hk := hk.put 5 (.pointer (some ⟨bx57, 0, none⟩)) rfl
    refine x_op hk rfl ?_
    refine op_store tab hk (t := 26) (v := .agg #[.int .i64 t45.1.Epoch, .int .i64 t45.1.Kind, .slice A50 (t45.1.Nums).length c51, .string t45.1.Data]) (b := bx57) (k := 0) (cs' := [.int .i64 t45.1.Epoch, .int .i64 t45.1.Kind, .slice A50 (t45.1.Nums).length c51, .string t45.1.Data]) rfl rfl rfl rfl rfl rfl f58 rfl rfl fun w59 o60 st61 f58_ => ?_
    replace f23 := f23.st st61 (by decide)
    replace f52 := f52.st st61 (by decide)
    replace fg0 := fg0.st st61 (by decide)
    replace hs := hs.loc0 st61 (by decide)
    replace f58 := f58_
    refine x_run tab hk (k := 1) (lv := []) (ks := [0, 3, 4, 6]) (e' := [(0, .int .i64 (bits .and .i64 p0 16383)), (3, .pointer (some ⟨bx22, 0, none⟩)), (4, .string t30), (6, .int .i64 t45.2)]) rfl trivial fun a hk => ?_
    refine wpListIn_nil ?_
    refine then_n ?_
    refine x_seq ?_
    refine wpIn_region_lit ?_
    refine x_run tab hk (k := 7) (lv := []) (ks := [0, 3, 4, 6, 29]) (e' := [(0, .int .i64 (bits .and .i64 p0 16383)), (3, .pointer (some ⟨bx22, 0, none⟩)), (4, .string t30), (6, .int .i64 t45.2), (29, .bool ((ByteArray.toList t30 == ByteArray.toList (⟨#[]⟩ : ByteArray)) == (decide ((IntKind.wrap .i64 ((bits .and .i64 p0 16383) + 9)) > (8192 : Int)))))]) rfl trivial fun a hk => ?_
    cases b62 : ((ByteArray.toList t30 == ByteArray.toList (⟨#[]⟩ : ByteArray)) == (decide ((IntKind.wrap .i64 ((bits .and .i64 p0 16383) + 9)) > (8192 : Int))))
    · rw [b62] at hk H
      replace H := bifF H
      refine x_run tab hk (k := 10) (lv := []) (ks := [0, 4, 37, 39]) (e' := [(0, .int .i64 (bits .and .i64 p0 16383)), (4, .string t30), (37, .bool false), (39, undef)]) rfl trivial fun a hk => ?_
      refine x_run tab hk (k := 15) (lv := []) (ks := [41, 54]) (e' := [(41, .bool false), (54, undef)]) rfl trivial fun a hk => ?_
      refine x_run tab hk (k := 2) (lv := []) (ks := [2]) (e' := [(2, .bool false)]) rfl trivial fun a hk => ?_
      refine wpListIn_nil ?_
      refine then_n ?_
      refine wpIn_ret ?_
      obtain rfl := Option.some.inj H
      exact x_retG hk (rs := [.tmp 2]) (vs := [.bool false]) rfl ⟨rfl, trivial⟩ ⟨fun b_ => if b_ < w.heap.size then o b_ else (fun _ => 0) (o60 b_), rfl, hs.close0 o (fun _ => 0)⟩
    · rw [b62] at hk H
      replace H := bifT H
      refine x_run tab hk (k := 1) (lv := [.agg #[.int .i64 1, .int .i64 4, .slice none 0 0, .string (strOfNums (List.replicate (Int.toNat (bits .and .i64 p0 16383)) (0 : Int)))]]) (ks := [0, 4, 6, 29, 30]) (e' := [(0, .int .i64 (bits .and .i64 p0 16383)), (4, .string t30), (6, .int .i64 t45.2), (29, .bool true), (30, .agg #[.int .i64 1, .int .i64 4, .slice none 0 0, .string (strOfNums (List.replicate (Int.toNat (bits .and .i64 p0 16383)) (0 : Int)))])]) rfl ⟨(load_box tab rfl rfl f23.now (k := 0) rfl rfl), trivial⟩ fun a hk => ?_
      refine x_op hk rfl ?_
      obtain ⟨t66, hc67, H⟩ := bindS H
      refine op_call hk ent_11 (vs := [.agg #[.int .i64 1, .int .i64 4, .slice none 0 0, .string (strOfNums (List.replicate (Int.toNat (bits .and .i64 p0 16383)) (0 : Int)))]]) rfl (gram_Gram_Check_calls K none 0 (⟨1, 4, ([] : List Int), (strOfNums (List.replicate (Int.toNat (bits .and .i64 p0 16383)) (0 : Int)))⟩ : T23) _ o60 0 fg0 _ (Ft.of_all (fun _ h_ => absurd h_ (by simp)) _ _ 0) (by simp)   _ hc67) ?_
      rintro _ w68 ⟨o69, rfl, st70⟩
      replace fg0 := fg0.st st70 (by decide)
      replace hs := hs.loc0 st70 (by decide)
      have hk := hk.put 31 (.int .i64 t66) rfl
      refine x_run tab hk (k := 6) (lv := []) (ks := [0, 4, 6, 37]) (e' := [(0, .int .i64 (bits .and .i64 p0 16383)), (4, .string t30), (6, .int .i64 t45.2), (37, .bool ((t66 == (3 : Int)) == (ByteArray.toList t30 == ByteArray.toList (⟨#[]⟩ : ByteArray))))]) rfl trivial fun a hk => ?_
      cases b71 : ((t66 == (3 : Int)) == (ByteArray.toList t30 == ByteArray.toList (⟨#[]⟩ : ByteArray)))
      · rw [b71] at hk H
        replace H := bifF H
        refine x_run tab hk (k := 17) (lv := []) (ks := [41, 54]) (e' := [(41, .bool false), (54, undef)]) rfl trivial fun a hk => ?_
        refine x_run tab hk (k := 2) (lv := []) (ks := [2]) (e' := [(2, .bool false)]) rfl trivial fun a hk => ?_
        refine wpListIn_nil ?_
        refine then_n ?_
        refine wpIn_ret ?_
        obtain rfl := Option.some.inj H
        exact x_retG hk (rs := [.tmp 2]) (vs := [.bool false]) rfl ⟨rfl, trivial⟩ ⟨fun b_ => if b_ < w.heap.size then o b_ else (fun _ => 0) (o69 b_), rfl, hs.close0 o (fun _ => 0)⟩
      · rw [b71] at hk H
        replace H := bifT H
        refine x_run tab hk (k := 4) (lv := []) (ks := [0, 4, 41]) (e' := [(0, .int .i64 (bits .and .i64 p0 16383)), (4, .string t30), (41, .bool (t45.2 == (3 : Int)))]) rfl trivial fun a hk => ?_
        cases b72 : (t45.2 == (3 : Int))
        · rw [b72] at hk H
          replace H := bifF H
          refine x_run tab hk (k := 13) (lv := []) (ks := [41, 54]) (e' := [(41, .bool false), (54, undef)]) rfl trivial fun a hk => ?_
          refine x_run tab hk (k := 2) (lv := []) (ks := [2]) (e' := [(2, .bool false)]) rfl trivial fun a hk => ?_
          refine wpListIn_nil ?_
          refine then_n ?_
          refine wpIn_ret ?_
          obtain rfl := Option.some.inj H
          exact x_retG hk (rs := [.tmp 2]) (vs := [.bool false]) rfl ⟨rfl, trivial⟩ ⟨fun b_ => if b_ < w.heap.size then o b_ else (fun _ => 0) (o69 b_), rfl, hs.close0 o (fun _ => 0)⟩
        · rw [b72] at hk H
          replace H := bifT H
          refine x_run tab hk (k := 3) (lv := []) (ks := [0, 4, 41, 44]) (e' := [(0, .int .i64 (bits .and .i64 p0 16383)), (4, .string t30), (41, .bool true), (44, .bool (ByteArray.toList t30 == ByteArray.toList (⟨#[]⟩ : ByteArray)))]) rfl trivial fun a hk => ?_
          cases b73 : (ByteArray.toList t30 == ByteArray.toList (⟨#[]⟩ : ByteArray))
          · rw [b73] at hk H
            replace H := bifF H
            refine x_run tab hk (k := 4) (lv := []) (ks := [0, 4, 41, 48]) (e' := [(0, .int .i64 (bits .and .i64 p0 16383)), (4, .string t30), (41, .bool true), (48, .bool (decide ((bits .and .i64 p0 16383) < (128 : Int))))]) rfl trivial fun a hk => ?_
            cases b74 : (decide ((bits .and .i64 p0 16383) < (128 : Int)))
            · rw [b74] at hk H
              replace H := bifF H
              refine x_run tab hk (k := 8) (lv := []) (ks := [2]) (e' := [(2, .bool (((t30).size : Int) == (IntKind.wrap .i64 ((bits .and .i64 p0 16383) + 9))))]) rfl trivial fun a hk => ?_
              refine wpListIn_nil ?_
              refine then_n ?_
              refine wpIn_ret ?_
              obtain rfl := Option.some.inj H
              exact x_retG hk (rs := [.tmp 2]) (vs := [.bool (((t30).size : Int) == (IntKind.wrap .i64 ((bits .and .i64 p0 16383) + 9)))]) rfl ⟨rfl, trivial⟩ ⟨fun b_ => if b_ < w.heap.size then o b_ else (fun _ => 0) (o69 b_), rfl, hs.close0 o (fun _ => 0)⟩
            · rw [b74] at hk H
              replace H := bifT H
              refine x_run tab hk (k := 8) (lv := []) (ks := [2]) (e' := [(2, .bool true)]) rfl trivial fun a hk => ?_
              refine wpListIn_nil ?_
              refine then_n ?_
              refine wpIn_ret ?_
              obtain rfl := Option.some.inj H
              exact x_retG hk (rs := [.tmp 2]) (vs := [.bool true]) rfl ⟨rfl, trivial⟩ ⟨fun b_ => if b_ < w.heap.size then o b_ else (fun _ => 0) (o69 b_), rfl, hs.close0 o (fun _ => 0)⟩
          · rw [b73] at hk H
            replace H := bifT H
            refine x_run tab hk (k := 10) (lv := []) (ks := [41, 54]) (e' := [(41, .bool true), (54, .bool true)]) rfl trivial fun a hk => ?_
            refine x_run tab hk (k := 2) (lv := []) (ks := [2]) (e' := [(2, .bool true)]) rfl trivial fun a hk => ?_
            refine wpListIn_nil ?_
            refine then_n ?_
            refine wpIn_ret ?_
            obtain rfl := Option.some.inj H
            exact x_retG hk (rs := [.tmp 2]) (vs := [.bool true]) rfl ⟨rfl, trivial⟩ ⟨fun b_ => if b_ < w.heap.size then o b_ else (fun _ => 0) (o69 b_), rfl, hs.close0 o (fun _ => 0)⟩
  · rw [b9] at hk H
    replace H := bifT H
    refine x_if hk (b := true) rfl ?_
    refine (show Code.wpIn _ _ _ _ _ _ _ from ?_)
    refine x_seq ?_
    refine wpIn_region_lit ?_
    refine x_run tab hk (k := 1) (lv := []) (ks := [2]) (e' := [(2, .bool false)]) rfl trivial fun a hk => ?_
    refine wpListIn_nil ?_
    refine then_n ?_
    refine wpIn_ret ?_
    refine then_r ?_
    obtain rfl := Option.some.inj H
    exact x_retG hk (rs := [.tmp 2]) (vs := [.bool false]) rfl ⟨rfl, trivial⟩ ⟨fun b_ => if b_ < w.heap.size then o b_ else (fun _ => 0) (o7 b_), rfl, hs.close0 o (fun _ => 0)⟩

/-! tidewrack/tidewracklaw03.GramApart -/
theorem tidewracklaw03_GramApart_calls (K : Nat) (Ap0_0 : Option Addr) (cp0_0 : Nat) (p0 : T23) (Ap1_0 : Option Addr) (cp1_0 : Nat) (p1 : T23) (w : World) (o : Nat → Nat) (Lg0 : Nat) (hg0 : Ft (RdC (encInt .u32) (some ⟨0, 0, none⟩) glob0) w o Lg0) (Lp0_0 : Nat) (hp0_0 : Ft (RdC (encInt .i64) Ap0_0 p0.Nums) w o Lp0_0) (hcp0_0 : (p0.Nums).length ≤ cp0_0) (Lp1_0 : Nat) (hp1_0 : Ft (RdC (encInt .i64) Ap1_0 p1.Nums) w o Lp1_0) (hcp1_0 : (p1.Nums).length ≤ cp1_0)  (r : Bool) (H : tidewracklaw03_GramApart K p0 p1 = some r) :
    Calls Tryd.prog 6 #[.agg #[.int .i64 p0.Epoch, .int .i64 p0.Kind, .slice Ap0_0 (p0.Nums).length cp0_0, .string p0.Data], .agg #[.int .i64 p1.Epoch, .int .i64 p1.Kind, .slice Ap1_0 (p1.Nums).length cp1_0, .string p1.Data]] w (Ret fun v_ w' => ∃ o' : Nat → Nat, v_ = .bool r ∧ St [] w o w' o') := by
  refine x_enter (vs := [.agg #[.int .i64 p0.Epoch, .int .i64 p0.Kind, .slice Ap0_0 (p0.Nums).length cp0_0, .string p0.Data], .agg #[.int .i64 p1.Epoch, .int .i64 p1.Kind, .slice Ap1_0 (p1.Nums).length cp1_0, .string p1.Data]]) Tryd.func6 rfl rfl rfl fun a hk => ?_
  obtain ⟨o0, hs, h0⟩ := St.start w o
  have fg0 := h0 _ _ hg0
  have f900 := h0 _ _ hp0_0
  have f920 := h0 _ _ hp1_0
  clear h0
  rw [tidewracklaw03_GramApart] at H
  refine x_seq ?_
  refine wpIn_region_lit ?_
  refine x_op hk rfl ?_
  refine op_box (o := o0) (t := 24) (v := .agg #[.int .i64 p0.Epoch, .int .i64 p0.Kind, .slice Ap0_0 (p0.Nums).length cp0_0, .string p0.Data]) (cs := [.int .i64 p0.Epoch, .int .i64 p0.Kind, .slice Ap0_0 (p0.Nums).length cp0_0, .string p0.Data]) hk rfl rfl 1 fun bx4 w1 o2 st3 f5 => ?_
  replace f900 := f900.st st3 (by decide)
  replace f920 := f920.st st3 (by decide)
  replace fg0 := fg0.st st3 (by decide)
  replace hs := hs.loc0 st3 (by decide)
  have hk := hk.put 2 (.pointer (some ⟨bx4, 0, none⟩)) rfl
  refine x_op hk rfl ?_
  refine op_box (o := o2) (t := 24) (v := .agg #[.int .i64 p1.Epoch, .int .i64 p1.Kind, .slice Ap1_0 (p1.Nums).length cp1_0, .string p1.Data]) (cs := [.int .i64 p1.Epoch, .int .i64 p1.Kind, .slice Ap1_0 (p1.Nums).length cp1_0, .string p1.Data]) hk rfl rfl 2 fun bx9 w6 o7 st8 f10 => ?_
  replace f5 := f5.st st8 (by decide)
  replace f900 := f900.st st8 (by decide)
  replace f920 := f920.st st8 (by decide)
  replace fg0 := fg0.st st8 (by decide)
  replace hs := hs.loc0 st8 (by decide)
  have hk := hk.put 3 (.pointer (some ⟨bx9, 0, none⟩)) rfl
  refine x_run tab hk (k := 1) (lv := []) (ks := [2, 3]) (e' := [(2, .pointer (some ⟨bx4, 0, none⟩)), (3, .pointer (some ⟨bx9, 0, none⟩))]) rfl trivial fun a hk => ?_
  refine wpListIn_nil ?_
  refine then_n ?_
  refine x_seq ?_
  refine x_seq ?_
  refine wpIn_region_lit ?_
  refine x_op hk rfl ?_
  obtain ⟨t14, hc15, H⟩ := bindS H
  refine op_call hk ent_8 (vs := []) rfl (tidewracklaw03_awake_calls K  _ o7 0 fg0   _ hc15) ?_
  rintro _ w16 ⟨o17, rfl, st18⟩
  replace f10 := f10.st st18 (by decide)
  replace f5 := f5.st st18 (by decide)
  replace f900 := f900.st st18 (by decide)
  replace f920 := f920.st st18 (by decide)
  replace fg0 := fg0.st st18 (by decide)
  replace hs := hs.loc0 st18 (by decide)
  have hk := hk.put 11 (.bool t14) rfl
  refine x_run tab hk (k := 1) (lv := []) (ks := [2, 3, 12]) (e' := [(2, .pointer (some ⟨bx4, 0, none⟩)), (3, .pointer (some ⟨bx9, 0, none⟩)), (12, .bool (!t14))]) rfl trivial fun a hk => ?_
  refine wpListIn_nil ?_
  refine then_n ?_
  cases b19 : (!t14)
  · rw [b19] at hk H
    replace H := bifF H
    refine x_if hk (b := false) rfl ?_
    refine (show Code.wpIn _ _ _ _ _ _ _ from ?_)
    refine wpIn_skip ?_
    refine then_n ?_
    refine x_seq ?_
    refine wpIn_region_lit ?_
    refine x_run tab hk (k := 1) (lv := [.agg #[.int .i64 p0.Epoch, .int .i64 p0.Kind, .slice Ap0_0 (p0.Nums).length cp0_0, .string p0.Data]]) (ks := [3, 14]) (e' := [(3, .pointer (some ⟨bx9, 0, none⟩)), (14, .agg #[.int .i64 p0.Epoch, .int .i64 p0.Kind, .slice Ap0_0 (p0.Nums).length cp0_0, .string p0.Data])]) rfl ⟨(load_box tab rfl rfl f5.now (k := 0) rfl rfl), trivial⟩ fun a hk => ?_
    refine x_op hk rfl ?_
    obtain ⟨t23, hc24, H⟩ := bindS H
    refine op_call hk ent_9 (vs := [.agg #[.int .i64 p0.Epoch, .int .i64 p0.Kind, .slice Ap0_0 (p0.Nums).length cp0_0, .string p0.Data]]) rfl (tidewracklaw03_Own_calls Ap0_0 cp0_0 p0 _ o17 _ f900 hcp0_0 3 4  _ hc24) ?_
    rintro _ w25 ⟨o26, A28, c29, A32, c33, rfl, st27, f30, hc31, f34, hc35⟩
    replace f10 := f10.st st27 (by decide)
    replace f900 := f900.st st27 (by decide)
    replace f920 := f920.st st27 (by decide)
    replace fg0 := fg0.st st27 (by decide)
    replace hs := hs.loc0 st27 (by decide)
    have hk := hk.put 15 (.tuple #[.agg #[.int .i64 t23.1.Epoch, .int .i64 t23.1.Kind, .slice A28 (t23.1.Nums).length c29, .string t23.1.Data], .agg #[.int .i64 t23.2.Epoch, .int .i64 t23.2.Kind, .slice A32 (t23.2.Nums).length c33, .string t23.2.Data]]) rfl
    refine x_run tab hk (k := 3) (lv := []) (ks := [3, 16, 17]) (e' := [(3, .pointer (some ⟨bx9, 0, none⟩)), (16, .agg #[.int .i64 t23.1.Epoch, .int .i64 t23.1.Kind, .slice A28 (t23.1.Nums).length c29, .string t23.1.Data]), (17, .agg #[.int .i64 t23.2.Epoch, .int .i64 t23.2.Kind, .slice A32 (t23.2.Nums).length c33, .string t23.2.Data])]) rfl trivial fun a hk => ?_
    refine x_op hk rfl ?_
    refine op_alloc (o := o26) tab (t := 26) (cs := [.int .i64 0, .int .i64 0, .slice none 0 0, .string (⟨#[]⟩ : ByteArray)]) rfl rfl 5 fun bx39 w36 o37 st38 f40 => ?_
    replace f10 := f10.st st38 (by decide)
    replace f30 := f30.st st38 (by decide)
    replace f34 := f34.st st38 (by decide)
    replace f920 := f920.st st38 (by decide)
    replace fg0 := fg0.st st38 (by decide)
    replace hs := hs.loc0 st38 (by decide)
    have hk := hk.put 5 (.pointer (some ⟨bx39, 0, none⟩)) rfl
    refine x_op hk rfl ?_
    refine op_alloc (o := o37) tab (t := 24) (cs := [.int .i64 0, .int .i64 0, .slice none 0 0, .string (⟨#[]⟩ : ByteArray)]) rfl rfl 6 fun bx44 w41 o42 st43 f45 => ?_
    replace f10 := f10.st st43 (by decide)
    replace f30 := f30.st st43 (by decide)
    replace f34 := f34.st st43 (by decide)
    replace f40 := f40.st st43 (by decide)
    replace f920 := f920.st st43 (by decide)
    replace fg0 := fg0.st st43 (by decide)
    replace hs := hs.loc0 st43 (by decide)
    have hk := hk.put 6 (.pointer (some ⟨bx44, 0, none⟩)) rfl
    refine x_op hk rfl ?_
    refine op_store tab hk (t := 26) (v := .agg #[.int .i64 t23.1.Epoch, .int .i64 t23.1.Kind, .slice A28 (t23.1.Nums).length c29, .string t23.1.Data]) (b := bx39) (k := 0) (cs' := [.int .i64 t23.1.Epoch, .int .i64 t23.1.Kind, .slice A28 (t23.1.Nums).length c29, .string t23.1.Data]) rfl rfl rfl rfl rfl rfl f40 rfl rfl fun w46 o47 st48 f40_ => ?_
    replace f10 := f10.st st48 (by decide)
    replace f30 := f30.st st48 (by decide)
    replace f34 := f34.st st48 (by decide)
    replace f45 := f45.st st48 (by decide)
    replace f920 := f920.st st48 (by decide)
    replace fg0 := fg0.st st48 (by decide)
    replace hs := hs.loc0 st48 (by decide)
    replace f40 := f40_
    refine x_op hk rfl ?_
    refine op_store tab hk (t := 24) (v := .agg #[.int .i64 t23.2.Epoch, .int .i64 t23.2.Kind, .slice A32 (t23.2.Nums).length c33, .string t23.2.Data]) (b := bx44) (k := 0) (cs' := [.int .i64 t23.2.Epoch, .int .i64 t23.2.Kind, .slice A32 (t23.2.Nums).length c33, .string t23.2.Data]) rfl rfl rfl rfl rfl rfl f45 rfl rfl fun w49 o50 st51 f45_ => ?_
    replace f10 := f10.st st51 (by decide)
    replace f30 := f30.st st51 (by decide)
    replace f34 := f34.st st51 (by decide)
    replace f40 := f40.st st51 (by decide)
    replace f920 := f920.st st51 (by decide)
    replace fg0 := fg0.st st51 (by decide)
    replace hs := hs.loc0 st51 (by decide)
    replace f45 := f45_
    refine wpListIn_nil ?_
    refine then_n ?_
    refine x_seq ?_
    refine wpIn_region_lit ?_
    refine x_run tab hk (k := 1) (lv := [.agg #[.int .i64 p1.Epoch, .int .i64 p1.Kind, .slice Ap1_0 (p1.Nums).length cp1_0, .string p1.Data]]) (ks := [5, 6, 19]) (e' := [(5, .pointer (some ⟨bx39, 0, none⟩)), (6, .pointer (some ⟨bx44, 0, none⟩)), (19, .agg #[.int .i64 p1.Epoch, .int .i64 p1.Kind, .slice Ap1_0 (p1.Nums).length cp1_0, .string p1.Data])]) rfl ⟨(load_box tab rfl rfl f10.now (k := 0) rfl rfl), trivial⟩ fun a hk => ?_
    refine x_op hk rfl ?_
    obtain ⟨t55, hc56, H⟩ := bindS H
    refine op_call hk ent_9 (vs := [.agg #[.int .i64 p1.Epoch, .int .i64 p1.Kind, .slice Ap1_0 (p1.Nums).length cp1_0, .string p1.Data]]) rfl (tidewracklaw03_Own_calls Ap1_0 cp1_0 p1 _ o50 _ f920 hcp1_0 7 8  _ hc56) ?_
    rintro _ w57 ⟨o58, A60, c61, A64, c65, rfl, st59, f62, hc63, f66, hc67⟩
    replace f30 := f30.st st59 (by decide)
    replace f34 := f34.st st59 (by decide)
    replace f40 := f40.st st59 (by decide)
    replace f45 := f45.st st59 (by decide)
    replace f920 := f920.st st59 (by decide)
    replace fg0 := fg0.st st59 (by decide)
    replace hs := hs.loc0 st59 (by decide)
    have hk := hk.put 20 (.tuple #[.agg #[.int .i64 t55.1.Epoch, .int .i64 t55.1.Kind, .slice A60 (t55.1.Nums).length c61, .string t55.1.Data], .agg #[.int .i64 t55.2.Epoch, .int .i64 t55.2.Kind, .slice A64 (t55.2.Nums).length c65, .string t55.2.Data]]) rfl
    refine x_run tab hk (k := 3) (lv := []) (ks := [5, 6, 21, 22]) (e' := [(5, .pointer (some ⟨bx39, 0, none⟩)), (6, .pointer (some ⟨bx44, 0, none⟩)), (21, .agg #[.int .i64 t55.1.Epoch, .int .i64 t55.1.Kind, .slice A60 (t55.1.Nums).length c61, .string t55.1.Data]), (22, .agg #[.int .i64 t55.2.Epoch, .int .i64 t55.2.Kind, .slice A64 (t55.2.Nums).length c65, .string t55.2.Data])]) rfl trivial fun a hk => ?_
    refine x_op hk rfl ?_
    refine op_alloc (o := o58) tab (t := 26) (cs := [.int .i64 0, .int .i64 0, .slice none 0 0, .string (⟨#[]⟩ : ByteArray)]) rfl rfl 9 fun bx71 w68 o69 st70 f72 => ?_
    replace f30 := f30.st st70 (by decide)
    replace f34 := f34.st st70 (by decide)
    replace f40 := f40.st st70 (by decide)
    replace f45 := f45.st st70 (by decide)
    replace f62 := f62.st st70 (by decide)
    replace f66 := f66.st st70 (by decide)
    replace fg0 := fg0.st st70 (by decide)
    replace hs := hs.loc0 st70 (by decide)
    have hk := hk.put 7 (.pointer (some ⟨bx71, 0, none⟩)) rfl
    refine x_op hk rfl ?_
    refine op_alloc (o := o69) tab (t := 24) (cs := [.int .i64 0, .int .i64 0, .slice none 0 0, .string (⟨#[]⟩ : ByteArray)]) rfl rfl 10 fun bx76 w73 o74 st75 f77 => ?_
    replace f30 := f30.st st75 (by decide)
    replace f34 := f34.st st75 (by decide)
    replace f40 := f40.st st75 (by decide)
    replace f45 := f45.st st75 (by decide)
    replace f62 := f62.st st75 (by decide)
    replace f66 := f66.st st75 (by decide)
    replace f72 := f72.st st75 (by decide)
    replace fg0 := fg0.st st75 (by decide)
    replace hs := hs.loc0 st75 (by decide)
    have hk := hk.put 8 (.pointer (some ⟨bx76, 0, none⟩)) rfl
    refine x_op hk rfl ?_
    refine op_store tab hk (t := 26) (v := .agg #[.int .i64 t55.1.Epoch, .int .i64 t55.1.Kind, .slice A60 (t55.1.Nums).length c61, .string t55.1.Data]) (b := bx71) (k := 0) (cs' := [.int .i64 t55.1.Epoch, .int .i64 t55.1.Kind, .slice A60 (t55.1.Nums).length c61, .string t55.1.Data]) rfl rfl rfl rfl rfl rfl f72 rfl rfl fun w78 o79 st80 f72_ => ?_
    replace f30 := f30.st st80 (by decide)
    replace f34 := f34.st st80 (by decide)
    replace f40 := f40.st st80 (by decide)
    replace f45 := f45.st st80 (by decide)
    replace f62 := f62.st st80 (by decide)
    replace f66 := f66.st st80 (by decide)
    replace f77 := f77.st st80 (by decide)
    replace fg0 := fg0.st st80 (by decide)
    replace hs := hs.loc0 st80 (by decide)
    replace f72 := f72_
    refine x_op hk rfl ?_
    refine op_store tab hk (t := 24) (v := .agg #[.int .i64 t55.2.Epoch, .int .i64 t55.2.Kind, .slice A64 (t55.2.Nums).length c65, .string t55.2.Data]) (b := bx76) (k := 0) (cs' := [.int .i64 t55.2.Epoch, .int .i64 t55.2.Kind, .slice A64 (t55.2.Nums).length c65, .string t55.2.Data]) rfl rfl rfl rfl rfl rfl f77 rfl rfl fun w81 o82 st83 f77_ => ?_
    replace f30 := f30.st st83 (by decide)
    replace f34 := f34.st st83 (by decide)
    replace f40 := f40.st st83 (by decide)
    replace f45 := f45.st st83 (by decide)
    replace f62 := f62.st st83 (by decide)
    replace f66 := f66.st st83 (by decide)
    replace f72 := f72.st st83 (by decide)
    replace fg0 := fg0.st st83 (by decide)
    replace hs := hs.loc0 st83 (by decide)
    replace f77 := f77_
    refine wpListIn_nil ?_
    refine then_n ?_
    refine x_seq ?_
    refine xd_begin (o := o82) (fun W_ => (Bx bx39 26 [.int .i64 t23.1.Epoch, .int .i64 t23.1.Kind, .slice A28 (t23.1.Nums).length c29, .string t23.1.Data]) W_ ∧ (Bx bx71 26 [.int .i64 t55.1.Epoch, .int .i64 t55.1.Kind, .slice A60 (t55.1.Nums).length c61, .string t55.1.Data]) W_ ∧ True) mixed rfl rfl fun w116 st117 => ?_
    replace f30 := f30.st st117 (by decide)
    replace f34 := f34.st st117 (by decide)
    replace f40 := f40.st st117 (by decide)
    replace f45 := f45.st st117 (by decide)
    replace f62 := f62.st st117 (by decide)
    replace f66 := f66.st st117 (by decide)
    replace f72 := f72.st st117 (by decide)
    replace f77 := f77.st st117 (by decide)
    replace fg0 := fg0.st st117 (by decide)
    replace hs := hs.loc0 st117 (by decide)
    refine xd_take tab hk (k := 4) (is := [0, 2]) (ls' := #[true, false, true, false, false, false]) (lv := [.agg #[.int .i64 t23.1.Epoch, .int .i64 t23.1.Kind, .slice A28 (t23.1.Nums).length c29, .string t23.1.Data], .agg #[.int .i64 t55.1.Epoch, .int .i64 t55.1.Kind, .slice A60 (t55.1.Nums).length c61, .string t55.1.Data]]) (ks := [5, 6, 8, 23, 25]) (e' := [(5, .pointer (some ⟨bx39, 0, none⟩)), (6, .pointer (some ⟨bx44, 0, none⟩)), (8, .pointer (some ⟨bx76, 0, none⟩)), (23, .agg #[.int .i64 t23.1.Epoch, .int .i64 t23.1.Kind, .slice A28 (t23.1.Nums).length c29, .string t23.1.Data]), (25, .agg #[.int .i64 t55.1.Epoch, .int .i64 t55.1.Kind, .slice A60 (t55.1.Nums).length c61, .string t55.1.Data])]) (by kernel_rfl) rfl rfl (by kernel_rfl) (np_then np_body) ⟨f40.now, f72.now, trivial⟩ (fun W_ hS => ⟨(load_box tab rfl rfl hS.1 (k := 0) rfl rfl), (load_box tab rfl rfl hS.2.1 (k := 0) rfl rfl), trivial⟩) fun a hk => ?_
    refine xd_op hk (i := 1) (by kernel_rfl) rfl rfl ?_
    obtain ⟨t121, hc122, H⟩ := bindS H
    refine op_call hk ent_10 (vs := [.agg #[.int .i64 t23.1.Epoch, .int .i64 t23.1.Kind, .slice A28 (t23.1.Nums).length c29, .string t23.1.Data]]) rfl (gram_Gram_Pack_calls K A28 c29 t23.1 _ o82 0 fg0 _ (f30.imp fun _ h_ => Own.rd h_) hc31   _ hc122) ?_
    rintro _ w123 ⟨o124, rfl, st125⟩
    replace f30 := f30.st st125 (by decide)
    replace f34 := f34.st st125 (by decide)
    replace f40 := f40.st st125 (by decide)
    replace f45 := f45.st st125 (by decide)
    replace f62 := f62.st st125 (by decide)
    replace f66 := f66.st st125 (by decide)
    replace f72 := f72.st st125 (by decide)
    replace f77 := f77.st st125 (by decide)
    replace fg0 := fg0.st st125 (by decide)
    replace hs := hs.loc0 st125 (by decide)
    have hk := hk.put 24 (.string t121) rfl
    refine ⟨.inr ⟨f40.now, f72.now, trivial⟩, ?_⟩
    refine xd_op hk (i := 3) (by kernel_rfl) rfl rfl ?_
    obtain ⟨t129, hc130, H⟩ := bindS H
    refine op_call hk ent_10 (vs := [.agg #[.int .i64 t55.1.Epoch, .int .i64 t55.1.Kind, .slice A60 (t55.1.Nums).length c61, .string t55.1.Data]]) rfl (gram_Gram_Pack_calls K A60 c61 t55.1 _ o124 0 fg0 _ (f62.imp fun _ h_ => Own.rd h_) hc63   _ hc130) ?_
    rintro _ w131 ⟨o132, rfl, st133⟩
    replace f30 := f30.st st133 (by decide)
    replace f34 := f34.st st133 (by decide)
    replace f40 := f40.st st133 (by decide)
    replace f45 := f45.st st133 (by decide)
    replace f62 := f62.st st133 (by decide)
    replace f66 := f66.st st133 (by decide)
    replace f72 := f72.st st133 (by decide)
    replace f77 := f77.st st133 (by decide)
    replace fg0 := fg0.st st133 (by decide)
    replace hs := hs.loc0 st133 (by decide)
    have hk := hk.put 26 (.string t129) rfl
    refine ⟨.inr ⟨f40.now, f72.now, trivial⟩, ?_⟩
    refine xd_take tab hk (k := 0) (is := [4, 5]) (ls' := #[true, true, true, true, true, true]) (lv := []) (ks := [5, 6, 8, 9, 10]) (e' := [(5, .pointer (some ⟨bx39, 0, none⟩)), (6, .pointer (some ⟨bx44, 0, none⟩)), (8, .pointer (some ⟨bx76, 0, none⟩)), (9, .string t121), (10, .string t129)]) (by kernel_rfl) rfl rfl (by kernel_rfl) (np_then np_body) ⟨f40.now, f72.now, trivial⟩ (fun W_ hS => trivial) fun a hk => ?_
    refine xd_done (by kernel_rfl) ?_
    refine then_n ?_
    refine x_mid (fun a_ w_ => ∃ o198 : Nat → Nat, Kn 56 a_ [(5, .pointer (some ⟨bx39, 0, none⟩)), (8, .pointer (some ⟨bx76, 0, none⟩)), (9, .string t121), (10, .string t129)] ∧ St [] w (fun _ => 0) w_ o198 ∧ Ft (Own (encInt .i64) 3 (.slice A28 (t23.1.Nums).length c29) t23.1.Nums) w_ o198 17 ∧ Ft (Bx bx39 26 [.int .i64 t23.1.Epoch, .int .i64 t23.1.Kind, .slice A28 (t23.1.Nums).length c29, .string t23.1.Data]) w_ o198 18 ∧ Ft (Own (encInt .i64) 3 (.slice A64 (t55.2.Nums).length c65) t55.2.Nums) w_ o198 19 ∧ Ft (Bx bx76 24 [.int .i64 t55.2.Epoch, .int .i64 t55.2.Kind, .slice A64 (t55.2.Nums).length c65, .string t55.2.Data]) w_ o198 20 ∧ Ft (RdC (encInt .u32) (some ⟨0, 0, none⟩) glob0) w_ o198 0 ∧ tidewracklaw03_GramApart_j1 K t23 t55 t121 t129 = some r) ?_ ?_
    rotate_left
    · rintro a w199 ⟨o198, hk, hs, f30, f40, f66, f77, fg0, H⟩
      rw [tidewracklaw03_GramApart_j1] at H
      refine x_seq ?_
      refine wpIn_region_lit ?_
      refine x_run tab hk (k := 5) (lv := [.agg #[.int .i64 t23.1.Epoch, .int .i64 t23.1.Kind, .slice A28 (t23.1.Nums).length c29, .string t23.1.Data], .agg #[.int .i64 t55.2.Epoch, .int .i64 t55.2.Kind, .slice A64 (t55.2.Nums).length c65, .string t55.2.Data]]) (ks := [51, 52, 53]) (e' := [(51, .bool (ByteArray.toList t121 == ByteArray.toList t129)), (52, .agg #[.int .i64 t23.1.Epoch, .int .i64 t23.1.Kind, .slice A28 (t23.1.Nums).length c29, .string t23.1.Data]), (53, .agg #[.int .i64 t55.2.Epoch, .int .i64 t55.2.Kind, .slice A64 (t55.2.Nums).length c65, .string t55.2.Data])]) rfl ⟨(load_box tab rfl rfl f40.now (k := 0) rfl rfl), (load_box tab rfl rfl f77.now (k := 0) rfl rfl), trivial⟩ fun a hk => ?_
      refine x_op hk rfl ?_
      obtain ⟨t203, hc204, H⟩ := bindS H
      refine op_call hk ent_16 (vs := [.agg #[.int .i64 t23.1.Epoch, .int .i64 t23.1.Kind, .slice A28 (t23.1.Nums).length c29, .string t23.1.Data], .agg #[.int .i64 t55.2.Epoch, .int .i64 t55.2.Kind, .slice A64 (t55.2.Nums).length c65, .string t55.2.Data]]) rfl (tidewracklaw03_Is_calls K A28 c29 t23.1 A64 c65 t55.2 _ o198 _ (f30.imp fun _ h_ => Own.rd h_) hc31 _ (f66.imp fun _ h_ => Own.rd h_) hc67   _ hc204) ?_
      rintro _ w205 ⟨o206, rfl, st207⟩
      replace f30 := f30.st st207 (by decide)
      replace f66 := f66.st st207 (by decide)
      replace fg0 := fg0.st st207 (by decide)
      replace hs := hs.loc0 st207 (by decide)
      have hk := hk.put 54 (.bool t203) rfl
      refine x_run tab hk (k := 2) (lv := []) (ks := [4]) (e' := [(4, .bool ((ByteArray.toList t121 == ByteArray.toList t129) == t203))]) rfl trivial fun a hk => ?_
      refine wpListIn_nil ?_
      refine then_n ?_
      refine wpIn_ret ?_
      obtain rfl := Option.some.inj H
      exact x_retG hk (rs := [.tmp 4]) (vs := [.bool ((ByteArray.toList t121 == ByteArray.toList t129) == t203)]) rfl ⟨rfl, trivial⟩ ⟨fun b_ => if b_ < w.heap.size then o b_ else (fun _ => 0) (o206 b_), rfl, hs.close0 o (fun _ => 0)⟩
    refine x_mid (fun a_ w_ => ∃ o231 : Nat → Nat, ∃ x232 : Bool, Kn 56 a_ [(5, .pointer (some ⟨bx39, 0, none⟩)), (6, .pointer (some ⟨bx44, 0, none⟩)), (8, .pointer (some ⟨bx76, 0, none⟩)), (9, .string t121), (10, .string t129), (34, .bool x232)] ∧ St [] w (fun _ => 0) w_ o231 ∧ Ft (Own (encInt .i64) 3 (.slice A28 (t23.1.Nums).length c29) t23.1.Nums) w_ o231 21 ∧ Ft (Own (encInt .i64) 3 (.slice A32 (t23.2.Nums).length c33) t23.2.Nums) w_ o231 23 ∧ Ft (Bx bx39 26 [.int .i64 t23.1.Epoch, .int .i64 t23.1.Kind, .slice A28 (t23.1.Nums).length c29, .string t23.1.Data]) w_ o231 22 ∧ Ft (Bx bx44 24 [.int .i64 t23.2.Epoch, .int .i64 t23.2.Kind, .slice A32 (t23.2.Nums).length c33, .string t23.2.Data]) w_ o231 24 ∧ Ft (Own (encInt .i64) 3 (.slice A64 (t55.2.Nums).length c65) t55.2.Nums) w_ o231 25 ∧ Ft (Bx bx76 24 [.int .i64 t55.2.Epoch, .int .i64 t55.2.Kind, .slice A64 (t55.2.Nums).length c65, .string t55.2.Data]) w_ o231 26 ∧ Ft (RdC (encInt .u32) (some ⟨0, 0, none⟩) glob0) w_ o231 0 ∧ tidewracklaw03_GramApart_j2 K t23 t55 t121 t129 x232 = some r) ?_ ?_
    rotate_left
    · rintro a w233 ⟨o231, x232, hk, hs, f30, f34, f40, f45, f66, f77, fg0, H⟩
      rw [tidewracklaw03_GramApart_j2] at H
      cases b234 : x232
      · rw [b234] at hk H
        replace H := bifF H
        refine x_if hk (b := false) rfl ?_
        refine (show Code.wpIn _ _ _ _ _ _ _ from ?_)
        refine wpIn_skip ?_
        refine then_n ?_
        exact ⟨(fun b_ => (fun l_ => if l_ = 21 then 17 else if l_ = 22 then 18 else if l_ = 25 then 19 else if l_ = 26 then 20 else l_) (o231 b_)), (by exact Kn.pick (ks := [5, 8, 9, 10]) hk rfl), (hs.relab0 (fun l_ => if l_ = 21 then 17 else if l_ = 22 then 18 else if l_ = 25 then 19 else if l_ = 26 then 20 else l_) rfl), (f30.relab (fun l_ => if l_ = 21 then 17 else if l_ = 22 then 18 else if l_ = 25 then 19 else if l_ = 26 then 20 else l_) rfl), (f40.relab (fun l_ => if l_ = 21 then 17 else if l_ = 22 then 18 else if l_ = 25 then 19 else if l_ = 26 then 20 else l_) rfl), (f66.relab (fun l_ => if l_ = 21 then 17 else if l_ = 22 then 18 else if l_ = 25 then 19 else if l_ = 26 then 20 else l_) rfl), (f77.relab (fun l_ => if l_ = 21 then 17 else if l_ = 22 then 18 else if l_ = 25 then 19 else if l_ = 26 then 20 else l_) rfl), (fg0.relab (fun l_ => if l_ = 21 then 17 else if l_ = 22 then 18 else if l_ = 25 then 19 else if l_ = 26 then 20 else l_) rfl), H⟩
      · rw [b234] at hk H
        replace H := bifT H
        refine x_if hk (b := true) rfl ?_
        refine (show Code.wpIn _ _ _ _ _ _ _ from ?_)
        refine x_seq ?_
        refine wpIn_region_lit ?_
        refine x_run tab hk (k := 3) (lv := [.agg #[.int .i64 t23.2.Epoch, .int .i64 t23.2.Kind, .slice A32 (t23.2.Nums).length c33, .string t23.2.Data]]) (ks := [8, 10, 36, 37]) (e' := [(8, .pointer (some ⟨bx76, 0, none⟩)), (10, .string t129), (36, .bool (ByteArray.toList t121 == ByteArray.toList (⟨#[]⟩ : ByteArray))), (37, .agg #[.int .i64 t23.2.Epoch, .int .i64 t23.2.Kind, .slice A32 (t23.2.Nums).length c33, .string t23.2.Data])]) rfl ⟨(load_box tab rfl rfl f45.now (k := 0) rfl rfl), trivial⟩ fun a hk => ?_
        refine x_op hk rfl ?_
        obtain ⟨t238, hc239, H⟩ := bindS H
        refine op_call hk ent_12 (vs := [.agg #[.int .i64 t23.2.Epoch, .int .i64 t23.2.Kind, .slice A32 (t23.2.Nums).length c33, .string t23.2.Data]]) rfl (tidewrackref03_Check_calls K A32 c33 t23.2 _ o231 _ (f34.imp fun _ h_ => Own.rd h_) hc35   _ hc239) ?_
        rintro _ w240 ⟨o241, rfl, st242⟩
        replace f34 := f34.st st242 (by decide)
        replace f66 := f66.st st242 (by decide)
        replace f77 := f77.st st242 (by decide)
        replace fg0 := fg0.st st242 (by decide)
        replace hs := hs.loc0 st242 (by decide)
        have hk := hk.put 38 (.int .i64 t238) rfl
        refine x_run tab hk (k := 3) (lv := []) (ks := [8, 10, 41]) (e' := [(8, .pointer (some ⟨bx76, 0, none⟩)), (10, .string t129), (41, .bool ((ByteArray.toList t121 == ByteArray.toList (⟨#[]⟩ : ByteArray)) == (t238 != (0 : Int))))]) rfl trivial fun a hk => ?_
        cases b243 : ((ByteArray.toList t121 == ByteArray.toList (⟨#[]⟩ : ByteArray)) == (t238 != (0 : Int)))
        · rw [b243] at hk H
          replace H := bifF H
          refine x_run tab hk (k := 8) (lv := []) (ks := [4]) (e' := [(4, .bool false)]) rfl trivial fun a hk => ?_
          refine wpListIn_nil ?_
          refine then_n ?_
          refine wpIn_ret ?_
          refine then_r ?_
          obtain rfl := Option.some.inj H
          exact x_retG hk (rs := [.tmp 4]) (vs := [.bool false]) rfl ⟨rfl, trivial⟩ ⟨fun b_ => if b_ < w.heap.size then o b_ else (fun _ => 0) (o241 b_), rfl, hs.close0 o (fun _ => 0)⟩
        · rw [b243] at hk H
          replace H := bifT H
          refine x_run tab hk (k := 3) (lv := [.agg #[.int .i64 t55.2.Epoch, .int .i64 t55.2.Kind, .slice A64 (t55.2.Nums).length c65, .string t55.2.Data]]) (ks := [41, 43, 44]) (e' := [(41, .bool true), (43, .bool (ByteArray.toList t129 == ByteArray.toList (⟨#[]⟩ : ByteArray))), (44, .agg #[.int .i64 t55.2.Epoch, .int .i64 t55.2.Kind, .slice A64 (t55.2.Nums).length c65, .string t55.2.Data])]) rfl ⟨(load_box tab rfl rfl f77.now (k := 0) rfl rfl), trivial⟩ fun a hk => ?_
          refine x_op hk rfl ?_
          obtain ⟨t247, hc248, H⟩ := bindS H
          refine op_call hk ent_12 (vs := [.agg #[.int .i64 t55.2.Epoch, .int .i64 t55.2.Kind, .slice A64 (t55.2.Nums).length c65, .string t55.2.Data]]) rfl (tidewrackref03_Check_calls K A64 c65 t55.2 _ o241 _ (f66.imp fun _ h_ => Own.rd h_) hc67   _ hc248) ?_
          rintro _ w249 ⟨o250, rfl, st251⟩
          replace f66 := f66.st st251 (by decide)
          replace fg0 := fg0.st st251 (by decide)
          replace hs := hs.loc0 st251 (by decide)
          have hk := hk.put 45 (.int .i64 t247) rfl
          refine x_run tab hk (k := 4) (lv := []) (ks := [4]) (e' := [(4, .bool ((ByteArray.toList t129 == ByteArray.toList (⟨#[]⟩ : ByteArray)) == (t247 != (0 : Int))))]) rfl trivial fun a hk => ?_
          refine wpListIn_nil ?_
          refine then_n ?_
          refine wpIn_ret ?_
          refine then_r ?_
          obtain rfl := Option.some.inj H
          exact x_retG hk (rs := [.tmp 4]) (vs := [.bool ((ByteArray.toList t129 == ByteArray.toList (⟨#[]⟩ : ByteArray)) == (t247 != (0 : Int)))]) rfl ⟨rfl, trivial⟩ ⟨fun b_ => if b_ < w.heap.size then o b_ else (fun _ => 0) (o250 b_), rfl, hs.close0 o (fun _ => 0)⟩
    refine wpIn_region_lit ?_
    refine x_run tab hk (k := 1) (lv := [.agg #[.int .i64 t23.2.Epoch, .int .i64 t23.2.Kind, .slice A32 (t23.2.Nums).length c33, .string t23.2.Data]]) (ks := [5, 6, 8, 9, 10, 27]) (e' := [(5, .pointer (some ⟨bx39, 0, none⟩)), (6, .pointer (some ⟨bx44, 0, none⟩)), (8, .pointer (some ⟨bx76, 0, none⟩)), (9, .string t121), (10, .string t129), (27, .agg #[.int .i64 t23.2.Epoch, .int .i64 t23.2.Kind, .slice A32 (t23.2.Nums).length c33, .string t23.2.Data])]) rfl ⟨(load_box tab rfl rfl f45.now (k := 0) rfl rfl), trivial⟩ fun a hk => ?_
    refine x_op hk rfl ?_
    obtain ⟨t255, hc256, H⟩ := bindS H
    refine op_call hk ent_12 (vs := [.agg #[.int .i64 t23.2.Epoch, .int .i64 t23.2.Kind, .slice A32 (t23.2.Nums).length c33, .string t23.2.Data]]) rfl (tidewrackref03_Check_calls K A32 c33 t23.2 _ o132 _ (f34.imp fun _ h_ => Own.rd h_) hc35   _ hc256) ?_
    rintro _ w257 ⟨o258, rfl, st259⟩
    replace f30 := f30.st st259 (by decide)
    replace f34 := f34.st st259 (by decide)
    replace f40 := f40.st st259 (by decide)
    replace f45 := f45.st st259 (by decide)
    replace f66 := f66.st st259 (by decide)
    replace f77 := f77.st st259 (by decide)
    replace fg0 := fg0.st st259 (by decide)
    replace hs := hs.loc0 st259 (by decide)
    have hk := hk.put 28 (.int .i64 t255) rfl
    refine x_run tab hk (k := 2) (lv := []) (ks := [5, 6, 8, 9, 10, 30]) (e' := [(5, .pointer (some ⟨bx39, 0, none⟩)), (6, .pointer (some ⟨bx44, 0, none⟩)), (8, .pointer (some ⟨bx76, 0, none⟩)), (9, .string t121), (10, .string t129), (30, .bool (t255 != (0 : Int)))]) rfl trivial fun a hk => ?_
    cases b260 : (t255 != (0 : Int))
    · rw [b260] at hk H
      replace H := bifF H
      refine x_run tab hk (k := 1) (lv := [.agg #[.int .i64 t55.2.Epoch, .int .i64 t55.2.Kind, .slice A64 (t55.2.Nums).length c65, .string t55.2.Data]]) (ks := [5, 6, 8, 9, 10, 30, 31]) (e' := [(5, .pointer (some ⟨bx39, 0, none⟩)), (6, .pointer (some ⟨bx44, 0, none⟩)), (8, .pointer (some ⟨bx76, 0, none⟩)), (9, .string t121), (10, .string t129), (30, .bool false), (31, .agg #[.int .i64 t55.2.Epoch, .int .i64 t55.2.Kind, .slice A64 (t55.2.Nums).length c65, .string t55.2.Data])]) rfl ⟨(load_box tab rfl rfl f77.now (k := 0) rfl rfl), trivial⟩ fun a hk => ?_
      refine x_op hk rfl ?_
      obtain ⟨t264, hc265, H⟩ := bindS H
      refine op_call hk ent_12 (vs := [.agg #[.int .i64 t55.2.Epoch, .int .i64 t55.2.Kind, .slice A64 (t55.2.Nums).length c65, .string t55.2.Data]]) rfl (tidewrackref03_Check_calls K A64 c65 t55.2 _ o258 _ (f66.imp fun _ h_ => Own.rd h_) hc67   _ hc265) ?_
      rintro _ w266 ⟨o267, rfl, st268⟩
      replace f30 := f30.st st268 (by decide)
      replace f34 := f34.st st268 (by decide)
      replace f40 := f40.st st268 (by decide)
      replace f45 := f45.st st268 (by decide)
      replace f66 := f66.st st268 (by decide)
      replace f77 := f77.st st268 (by decide)
      replace fg0 := fg0.st st268 (by decide)
      replace hs := hs.loc0 st268 (by decide)
      have hk := hk.put 32 (.int .i64 t264) rfl
      refine x_run tab hk (k := 2) (lv := []) (ks := [5, 6, 8, 9, 10, 34]) (e' := [(5, .pointer (some ⟨bx39, 0, none⟩)), (6, .pointer (some ⟨bx44, 0, none⟩)), (8, .pointer (some ⟨bx76, 0, none⟩)), (9, .string t121), (10, .string t129), (34, .bool (t264 != (0 : Int)))]) rfl trivial fun a hk => ?_
      refine wpListIn_nil ?_
      refine then_n ?_
      exact ⟨(fun b_ => (fun l_ => if l_ = 3 then 21 else if l_ = 4 then 23 else if l_ = 5 then 22 else if l_ = 6 then 24 else if l_ = 8 then 25 else if l_ = 10 then 26 else l_) (o267 b_)), (t264 != (0 : Int)), (by exact Kn.pick (ks := [5, 6, 8, 9, 10, 34]) hk rfl), (hs.relab0 (fun l_ => if l_ = 3 then 21 else if l_ = 4 then 23 else if l_ = 5 then 22 else if l_ = 6 then 24 else if l_ = 8 then 25 else if l_ = 10 then 26 else l_) rfl), (f30.relab (fun l_ => if l_ = 3 then 21 else if l_ = 4 then 23 else if l_ = 5 then 22 else if l_ = 6 then 24 else if l_ = 8 then 25 else if l_ = 10 then 26 else l_) rfl), (f34.relab (fun l_ => if l_ = 3 then 21 else if l_ = 4 then 23 else if l_ = 5 then 22 else if l_ = 6 then 24 else if l_ = 8 then 25 else if l_ = 10 then 26 else l_) rfl), (f40.relab (fun l_ => if l_ = 3 then 21 else if l_ = 4 then 23 else if l_ = 5 then 22 else if l_ = 6 then 24 else if l_ = 8 then 25 else if l_ = 10 then 26 else l_) rfl), (f45.relab (fun l_ => if l_ = 3 then 21 else if l_ = 4 then 23 else if l_ = 5 then 22 else if l_ = 6 then 24 else if l_ = 8 then 25 else if l_ = 10 then 26 else l_) rfl), (f66.relab (fun l_ => if l_ = 3 then 21 else if l_ = 4 then 23 else if l_ = 5 then 22 else if l_ = 6 then 24 else if l_ = 8 then 25 else if l_ = 10 then 26 else l_) rfl), (f77.relab (fun l_ => if l_ = 3 then 21 else if l_ = 4 then 23 else if l_ = 5 then 22 else if l_ = 6 then 24 else if l_ = 8 then 25 else if l_ = 10 then 26 else l_) rfl), (fg0.relab (fun l_ => if l_ = 3 then 21 else if l_ = 4 then 23 else if l_ = 5 then 22 else if l_ = 6 then 24 else if l_ = 8 then 25 else if l_ = 10 then 26 else l_) rfl), H⟩
    · rw [b260] at hk H
      replace H := bifT H
      refine x_run tab hk (k := 4) (lv := []) (ks := [5, 6, 8, 9, 10, 34]) (e' := [(5, .pointer (some ⟨bx39, 0, none⟩)), (6, .pointer (some ⟨bx44, 0, none⟩)), (8, .pointer (some ⟨bx76, 0, none⟩)), (9, .string t121), (10, .string t129), (34, .bool true)]) rfl trivial fun a hk => ?_
      refine wpListIn_nil ?_
      refine then_n ?_
      exact ⟨(fun b_ => (fun l_ => if l_ = 3 then 21 else if l_ = 4 then 23 else if l_ = 5 then 22 else if l_ = 6 then 24 else if l_ = 8 then 25 else if l_ = 10 then 26 else l_) (o258 b_)), true, (by exact Kn.pick (ks := [5, 6, 8, 9, 10, 34]) hk rfl), (hs.relab0 (fun l_ => if l_ = 3 then 21 else if l_ = 4 then 23 else if l_ = 5 then 22 else if l_ = 6 then 24 else if l_ = 8 then 25 else if l_ = 10 then 26 else l_) rfl), (f30.relab (fun l_ => if l_ = 3 then 21 else if l_ = 4 then 23 else if l_ = 5 then 22 else if l_ = 6 then 24 else if l_ = 8 then 25 else if l_ = 10 then 26 else l_) rfl), (f34.relab (fun l_ => if l_ = 3 then 21 else if l_ = 4 then 23 else if l_ = 5 then 22 else if l_ = 6 then 24 else if l_ = 8 then 25 else if l_ = 10 then 26 else l_) rfl), (f40.relab (fun l_ => if l_ = 3 then 21 else if l_ = 4 then 23 else if l_ = 5 then 22 else if l_ = 6 then 24 else if l_ = 8 then 25 else if l_ = 10 then 26 else l_) rfl), (f45.relab (fun l_ => if l_ = 3 then 21 else if l_ = 4 then 23 else if l_ = 5 then 22 else if l_ = 6 then 24 else if l_ = 8 then 25 else if l_ = 10 then 26 else l_) rfl), (f66.relab (fun l_ => if l_ = 3 then 21 else if l_ = 4 then 23 else if l_ = 5 then 22 else if l_ = 6 then 24 else if l_ = 8 then 25 else if l_ = 10 then 26 else l_) rfl), (f77.relab (fun l_ => if l_ = 3 then 21 else if l_ = 4 then 23 else if l_ = 5 then 22 else if l_ = 6 then 24 else if l_ = 8 then 25 else if l_ = 10 then 26 else l_) rfl), (fg0.relab (fun l_ => if l_ = 3 then 21 else if l_ = 4 then 23 else if l_ = 5 then 22 else if l_ = 6 then 24 else if l_ = 8 then 25 else if l_ = 10 then 26 else l_) rfl), H⟩
  · rw [b19] at hk H
    replace H := bifT H
    refine x_if hk (b := true) rfl ?_
    refine (show Code.wpIn _ _ _ _ _ _ _ from ?_)
    refine x_seq ?_
    refine wpIn_region_lit ?_
    refine x_run tab hk (k := 1) (lv := []) (ks := [4]) (e' := [(4, .bool false)]) rfl trivial fun a hk => ?_
    refine wpListIn_nil ?_
    refine then_n ?_
    refine wpIn_ret ?_
    refine then_r ?_
    obtain rfl := Option.some.inj H
    exact x_retG hk (rs := [.tmp 4]) (vs := [.bool false]) rfl ⟨rfl, trivial⟩ ⟨fun b_ => if b_ < w.heap.size then o b_ else (fun _ => 0) (o17 b_), rfl, hs.close0 o (fun _ => 0)⟩

/-! tidewrack/sum.Turn -/
theorem sum_Turn_calls (K : Nat) (p0 : ByteArray) (p1 : Int) (p2 : Int) (w : World) (o : Nat → Nat)   (r : ByteArray) (H : sum_Turn K p0 p1 p2 = some r) :
    Calls Tryd.prog 20 #[.string p0, .int .i64 p1, .int .u32 p2] w (Ret fun v_ w' => ∃ o' : Nat → Nat, v_ = .string r ∧ St [] w o w' o') := by
  refine x_enter (vs := [.string p0, .int .i64 p1, .int .u32 p2]) Tryd.func20 rfl rfl rfl fun a hk => ?_
  obtain ⟨o0, hs, h0⟩ := St.start w o
  clear h0
  rw [sum_Turn] at H
  refine x_seq ?_
  refine wpIn_region_lit ?_
  refine x_run tab hk (k := 1) (lv := []) (ks := [0, 1, 2]) (e' := [(0, .string p0), (1, .int .i64 p1), (2, .int .u32 p2)]) rfl trivial fun a hk => ?_
  refine wpListIn_nil ?_
  refine then_n ?_
  refine x_seq ?_
  refine wpIn_region_lit ?_
  refine x_run tab hk (k := 1) (lv := []) (ks := [1, 2, 9]) (e' := [(1, .int .i64 p1), (2, .int .u32 p2), (9, .string p0)]) rfl trivial fun a hk => ?_
  refine x_op hk rfl ?_
  refine op_bytes (o := o0) (s := p0) tab hk rfl rfl rfl rfl 1 fun A4 c5 w1 o2 st3 f6 hc7 => ?_
  replace hs := hs.loc0 st3 (by decide)
  have hk := hk.put 10 (.slice A4 ((numsOf p0)).length c5) rfl
  refine x_run tab hk (k := 1) (lv := []) (ks := [1, 2, 7]) (e' := [(1, .int .i64 p1), (2, .int .u32 p2), (7, .slice A4 ((numsOf p0)).length c5)]) rfl trivial fun a hk => ?_
  refine wpListIn_nil ?_
  refine then_n ?_
  refine x_mid (fun a_ w_ => ∃ o117 : Nat → Nat, ∃ A118 : Option Addr, ∃ c119 : Nat, ∃ l120 : List Int, Kn 45 a_ [(7, .slice A118 (l120).length c119)] ∧ St [] w (fun _ => 0) w_ o117 ∧ Ft (Wr (encInt .u8) 5 (.slice A118 (l120).length c119) l120) w_ o117 7 ∧ (l120).length ≤ c119 ∧ sum_Turn_j1 l120 = some r) ?_ ?_
  rotate_left
  · rintro a w123 ⟨o117, A118, c119, l120, hk, hs, f121, hc122, H⟩
    rw [sum_Turn_j1] at H
    refine x_seq ?_
    refine wpIn_region_lit ?_
    refine x_run tab hk (k := 3) (lv := [.string (strOfNums l120)]) (ks := [6]) (e' := [(6, .string (strOfNums l120))]) rfl ⟨(ask_str tab rfl rfl rfl rfl (Wr.rd f121.now) (Wr.plain f121.now _ _ _ rfl)), trivial⟩ fun a hk => ?_
    refine wpListIn_nil ?_
    refine then_n ?_
    refine wpIn_ret ?_
    obtain rfl := Option.some.inj H
    exact x_retG hk (rs := [.tmp 6]) (vs := [.string (strOfNums l120)]) rfl ⟨rfl, trivial⟩ ⟨fun b_ => if b_ < w.heap.size then o b_ else (fun _ => 0) (o117 b_), rfl, hs.close0 o (fun _ => 0)⟩
  refine x_seq ?_
  refine wpIn_region_lit ?_
  refine x_run tab hk (k := 7) (lv := []) (ks := [2, 7, 8]) (e' := [(2, .int .u32 p2), (7, .slice A4 ((numsOf p0)).length c5), (8, .int .i64 (mxI 0 (mnI p1 (IntKind.wrap .i64 (8 * (((numsOf p0)).length : Int))))))]) rfl trivial fun a hk => ?_
  refine wpListIn_nil ?_
  refine then_n ?_
  refine wpIn_block ?_
  refine x_loop (fun j_ a_ w_ => ∃ o155 : Nat → Nat, ∃ x156 : Int, ∃ A157 : Option Addr, ∃ c158 : Nat, ∃ l159 : List Int, ∃ x162 : Int, Kn 45 a_ [(2, .int .u32 x156), (7, .slice A157 (l159).length c158), (8, .int .i64 x162)] ∧ St [] w (fun _ => 0) w_ o155 ∧ Ft (Wr (encInt .u8) 5 (.slice A157 (l159).length c158) l159) w_ o155 10 ∧ (l159).length ≤ c158 ∧ sum_Turn_l2 j_ x156 l159 x162 = some r) (k := K) ⟨(fun b_ => (fun l_ => if l_ = 1 then 10 else l_) (o2 b_)), p2, A4, c5, (numsOf p0), (mxI 0 (mnI p1 (IntKind.wrap .i64 (8 * (((numsOf p0)).length : Int))))), (by exact Kn.pick (ks := [2, 7, 8]) hk rfl), (hs.relab0 (fun l_ => if l_ = 1 then 10 else l_) rfl), (f6.relab (fun l_ => if l_ = 1 then 10 else l_) rfl), hc7, H⟩ (by rintro _ _ ⟨_, _, _, _, _, _, _, _, _, _, H_⟩; exact absurd (show (none : Option ByteArray) = some r from H_) (by simp)) ?_
  rintro k192 a w191 ⟨o155, x156, A157, c158, l159, x162, hk, hs, f160, hc161, H⟩
  rw [sum_Turn_l2] at H
  obtain ⟨lp193, hlp194⟩ : ∃ lp_, lp_ = sum_Turn_l2 k192 := ⟨_, rfl⟩
  rw [← hlp194] at H
  refine x_mid (fun a_ w_ => ∃ o200 : Nat → Nat, Kn 45 a_ [(2, .int .u32 x156), (7, .slice A157 (l159).length c158), (8, .int .i64 x162)] ∧ St [] w (fun _ => 0) w_ o200 ∧ Ft (Wr (encInt .u8) 5 (.slice A157 (l159).length c158) l159) w_ o200 12 ∧ sum_Turn_j3 x156 l159 x162 lp193 = some r) ?_ ?_
  rotate_left
  · rintro a w201 ⟨o200, hk, hs, f160, H⟩
    rw [sum_Turn_j3] at H
    refine x_seq ?_
    refine wpIn_block ?_
    refine x_seq ?_
    refine xd_begin (o := o200) (fun W_ => (Wr (encInt .u8) 5 (.slice A157 (l159).length c158) l159) W_ ∧ True) mixed rfl rfl fun w212 st213 => ?_
    replace f160 := f160.st st213 (by decide)
    replace hs := hs.loc0 st213 (by decide)
    obtain ⟨q214, H⟩ := ifS H
    obtain ⟨ad215, hAad215⟩ := RdC.addr (Wr.rd f160.now) q214
    have hk_C := hk
    have f160_C := f160
    subst hAad215
    have hk := hk_C
    clear hk_C
    have f160 := f160_C
    clear f160_C
    obtain ⟨q216, H⟩ := ifS H
    refine xd_take tab hk (k := 1) (is := [0, 1, 2, 3, 4, 5, 6, 7, 8, 9, 10, 11, 12]) (ls' := #[true, true, true, true, true, true, true, true, true, true, true, true, true, false]) (lv := [.int .u8 (rdD 0 l159 (IntKind.wrap .i64 (Int.tdiv x162 8)))]) (ks := [2, 7, 8, 39, 40]) (e' := [(2, .int .u32 x156), (7, .slice (some ad215) (l159).length c158), (8, .int .i64 x162), (39, .int .u8 (bits .xor .u8 (rdD 0 l159 (IntKind.wrap .i64 (Int.tdiv x162 8))) (IntKind.wrap .u8 ((IntKind.wrap .u8 (bits .and .u32 x156 1)) * 2 ^ min (Int.toNat (Int.tmod x162 8)) 8)))), (40, .pointer (some (ad215.add (Int.toNat (IntKind.wrap .i64 (Int.tdiv x162 8)) * 1))))]) (by kernel_rfl) rfl rfl (by kernel_rfl) (np_then (np_blk (np_then (np_then (np_blk (np_then np_body)))))) ⟨f160.now, trivial⟩ (fun W_ hS => ⟨(show (8 : Int) ≠ 0 from by decide), q214, (load1 tab rfl (RdC.at0 (E := (encInt .u8)) (d := 0) (i := (IntKind.wrap .i64 (Int.tdiv x162 8))) (Wr.rd hS.1) q214 rfl)), (show (8 : Int) ≠ 0 from by decide), q216, q214, trivial⟩) fun a hk => ?_
    refine xd_op hk (i := 13) (by kernel_rfl) rfl rfl ?_
    refine op_storeW tab hk (E := (encInt .u8)) (i := (IntKind.wrap .i64 (Int.tdiv x162 8))) (j := 0) (dx := 0) (y' := (bits .xor .u8 (rdD 0 l159 (IntKind.wrap .i64 (Int.tdiv x162 8))) (IntKind.wrap .u8 ((IntKind.wrap .u8 (bits .and .u32 x156 1)) * 2 ^ min (Int.toNat (Int.tmod x162 8)) 8)))) rfl rfl rfl f160 rfl q214 rfl rfl rfl rfl fun w217 o218 st219 f160_ => ?_
    replace hs := hs.loc0 st219 (by decide)
    replace f160 := f160_
    have hl220 : (List.set l159 (Int.toNat (IntKind.wrap .i64 (Int.tdiv x162 8))) (bits .xor .u8 (rdD 0 l159 (IntKind.wrap .i64 (Int.tdiv x162 8))) (IntKind.wrap .u8 ((IntKind.wrap .u8 (bits .and .u32 x156 1)) * 2 ^ min (Int.toNat (Int.tmod x162 8)) 8)))).length = (l159).length := List.length_set
    replace hk := Kn.re hk [2, 7, 8, 39] (e2 := [(2, .int .u32 x156), (7, .slice (some ad215) ((List.set l159 (Int.toNat (IntKind.wrap .i64 (Int.tdiv x162 8))) (bits .xor .u8 (rdD 0 l159 (IntKind.wrap .i64 (Int.tdiv x162 8))) (IntKind.wrap .u8 ((IntKind.wrap .u8 (bits .and .u32 x156 1)) * 2 ^ min (Int.toNat (Int.tmod x162 8)) 8))))).length c158), (8, .int .i64 x162), (39, .int .u8 (bits .xor .u8 (rdD 0 l159 (IntKind.wrap .i64 (Int.tdiv x162 8))) (IntKind.wrap .u8 ((IntKind.wrap .u8 (bits .and .u32 x156 1)) * 2 ^ min (Int.toNat (Int.tmod x162 8)) 8))))]) rfl (by rw [hl220])
    refine ⟨.inl (by kernel_rfl), ?_⟩
    refine xd_done (by kernel_rfl) ?_
    refine then_n ?_
    refine wpIn_region_lit ?_
    refine x_run tab hk (k := 3) (lv := []) (ks := [2, 7, 8]) (e' := [(2, .int .u32 (Int.fdiv x156 (2 ^ min (Int.toNat 1) 32))), (7, .slice (some ad215) ((List.set l159 (Int.toNat (IntKind.wrap .i64 (Int.tdiv x162 8))) (bits .xor .u8 (rdD 0 l159 (IntKind.wrap .i64 (Int.tdiv x162 8))) (IntKind.wrap .u8 ((IntKind.wrap .u8 (bits .and .u32 x156 1)) * 2 ^ min (Int.toNat (Int.tmod x162 8)) 8))))).length c158), (8, .int .i64 x162)]) rfl ⟨(show 0 ≤ (1 : Int) from by decide), trivial⟩ fun a hk => ?_
    refine wpListIn_nil ?_
    refine blk_n ?_
    refine then_n ?_
    refine wpIn_region_lit ?_
    refine x_run tab hk (k := 3) (lv := []) (ks := [2, 7, 8]) (e' := [(2, .int .u32 (Int.fdiv x156 (2 ^ min (Int.toNat 1) 32))), (7, .slice (some ad215) ((List.set l159 (Int.toNat (IntKind.wrap .i64 (Int.tdiv x162 8))) (bits .xor .u8 (rdD 0 l159 (IntKind.wrap .i64 (Int.tdiv x162 8))) (IntKind.wrap .u8 ((IntKind.wrap .u8 (bits .and .u32 x156 1)) * 2 ^ min (Int.toNat (Int.tmod x162 8)) 8))))).length c158), (8, .int .i64 (IntKind.wrap .i64 (x162 + 1)))]) rfl trivial fun a hk => ?_
    refine wpListIn_nil ?_
    refine then_n ?_
    exact ⟨k192, Nat.le_refl _, (fun b_ => (fun l_ => if l_ = 12 then 10 else l_) (o218 b_)), (Int.fdiv x156 (2 ^ min (Int.toNat 1) 32)), (some ad215), c158, (List.set l159 (Int.toNat (IntKind.wrap .i64 (Int.tdiv x162 8))) (bits .xor .u8 (rdD 0 l159 (IntKind.wrap .i64 (Int.tdiv x162 8))) (IntKind.wrap .u8 ((IntKind.wrap .u8 (bits .and .u32 x156 1)) * 2 ^ min (Int.toNat (Int.tmod x162 8)) 8)))), (IntKind.wrap .i64 (x162 + 1)), (by exact Kn.pick (ks := [2, 7, 8]) hk rfl), (hs.relab0 (fun l_ => if l_ = 12 then 10 else l_) rfl), (f160.relab (fun l_ => if l_ = 12 then 10 else l_) rfl), (by rw [List.length_set]; exact hc161), (hlp194 ▸ H)⟩
  refine x_seq ?_
  refine wpIn_region_lit ?_
  refine x_run tab hk (k := 3) (lv := []) (ks := [2, 7, 8, 19]) (e' := [(2, .int .u32 x156), (7, .slice A157 (l159).length c158), (8, .int .i64 x162), (19, .bool (x156 != (0 : Int)))]) rfl trivial fun a hk => ?_
  cases b221 : (x156 != (0 : Int))
  · rw [b221] at hk H
    replace H := bifF H
    refine x_run tab hk (k := 6) (lv := []) (ks := [2, 7, 8, 25]) (e' := [(2, .int .u32 x156), (7, .slice A157 (l159).length c158), (8, .int .i64 x162), (25, .bool false)]) rfl trivial fun a hk => ?_
    refine wpListIn_nil ?_
    refine then_n ?_
    refine x_if hk (b := false) rfl ?_
    refine (show Code.wpIn _ _ _ _ _ _ _ from ?_)
    refine wpIn_exit ?_
    refine then_x ?_
    refine then_x ?_
    refine blk_x ?_
    refine then_n ?_
    exact ⟨(fun b_ => (fun l_ => if l_ = 10 then 7 else l_) (o155 b_)), A157, c158, l159, (by exact Kn.pick (ks := [7]) hk rfl), (hs.relab0 (fun l_ => if l_ = 10 then 7 else l_) rfl), (f160.relab (fun l_ => if l_ = 10 then 7 else l_) rfl), hc161, H⟩
  · rw [b221] at hk H
    replace H := bifT H
    refine x_run tab hk (k := 6) (lv := []) (ks := [2, 7, 8, 25]) (e' := [(2, .int .u32 x156), (7, .slice A157 (l159).length c158), (8, .int .i64 x162), (25, .bool (decide (x162 < (IntKind.wrap .i64 (8 * ((l159).length : Int))))))]) rfl trivial fun a hk => ?_
    refine wpListIn_nil ?_
    refine then_n ?_
    cases b222 : (decide (x162 < (IntKind.wrap .i64 (8 * ((l159).length : Int)))))
    · rw [b222] at hk H
      replace H := bifF H
      refine x_if hk (b := false) rfl ?_
      refine (show Code.wpIn _ _ _ _ _ _ _ from ?_)
      refine wpIn_exit ?_
      refine then_x ?_
      refine then_x ?_
      refine blk_x ?_
      refine then_n ?_
      exact ⟨(fun b_ => (fun l_ => if l_ = 10 then 7 else l_) (o155 b_)), A157, c158, l159, (by exact Kn.pick (ks := [7]) hk rfl), (hs.relab0 (fun l_ => if l_ = 10 then 7 else l_) rfl), (f160.relab (fun l_ => if l_ = 10 then 7 else l_) rfl), hc161, H⟩
    · rw [b222] at hk H
      replace H := bifT H
      refine x_if hk (b := true) rfl ?_
      refine (show Code.wpIn _ _ _ _ _ _ _ from ?_)
      refine wpIn_skip ?_
      refine then_n ?_
      exact ⟨(fun b_ => (fun l_ => if l_ = 10 then 12 else l_) (o155 b_)), (by exact Kn.pick (ks := [2, 7, 8]) hk rfl), (hs.relab0 (fun l_ => if l_ = 10 then 12 else l_) rfl), (f160.relab (fun l_ => if l_ = 10 then 12 else l_) rfl), H⟩

/-! tidewrack/tidewracklaw03.GramTold -/
theorem tidewracklaw03_GramTold_calls (K : Nat) (Ap0_0 : Option Addr) (cp0_0 : Nat) (p0 : T23) (p1 : Int) (p2 : Int) (w : World) (o : Nat → Nat) (Lg0 : Nat) (hg0 : Ft (RdC (encInt .u32) (some ⟨0, 0, none⟩) glob0) w o Lg0) (Lp0_0 : Nat) (hp0_0 : Ft (RdC (encInt .i64) Ap0_0 p0.Nums) w o Lp0_0) (hcp0_0 : (p0.Nums).length ≤ cp0_0)  (r : Bool) (H : tidewracklaw03_GramTold K p0 p1 p2 = some r) :
    Calls Tryd.prog 7 #[.agg #[.int .i64 p0.Epoch, .int .i64 p0.Kind, .slice Ap0_0 (p0.Nums).length cp0_0, .string p0.Data], .int .i64 p1, .int .u32 p2] w (Ret fun v_ w' => ∃ o' : Nat → Nat, v_ = .bool r ∧ St [] w o w' o') := by
  refine x_enter (vs := [.agg #[.int .i64 p0.Epoch, .int .i64 p0.Kind, .slice Ap0_0 (p0.Nums).length cp0_0, .string p0.Data], .int .i64 p1, .int .u32 p2]) Tryd.func7 rfl rfl rfl fun a hk => ?_
  obtain ⟨o0, hs, h0⟩ := St.start w o
  have fg0 := h0 _ _ hg0
  have f900 := h0 _ _ hp0_0
  clear h0
  rw [tidewracklaw03_GramTold] at H
  refine x_seq ?_
  refine wpIn_region_lit ?_
  refine x_op hk rfl ?_
  refine op_box (o := o0) (t := 24) (v := .agg #[.int .i64 p0.Epoch, .int .i64 p0.Kind, .slice Ap0_0 (p0.Nums).length cp0_0, .string p0.Data]) (cs := [.int .i64 p0.Epoch, .int .i64 p0.Kind, .slice Ap0_0 (p0.Nums).length cp0_0, .string p0.Data]) hk rfl rfl 1 fun bx4 w1 o2 st3 f5 => ?_
  replace f900 := f900.st st3 (by decide)
  replace fg0 := fg0.st st3 (by decide)
  replace hs := hs.loc0 st3 (by decide)
  have hk := hk.put 3 (.pointer (some ⟨bx4, 0, none⟩)) rfl
  refine x_run tab hk (k := 1) (lv := []) (ks := [1, 2, 3]) (e' := [(1, .int .i64 p1), (2, .int .u32 p2), (3, .pointer (some ⟨bx4, 0, none⟩))]) rfl trivial fun a hk => ?_
  refine wpListIn_nil ?_
  refine then_n ?_
  refine x_seq ?_
  refine x_seq ?_
  refine wpIn_region_lit ?_
  refine x_op hk rfl ?_
  obtain ⟨t9, hc10, H⟩ := bindS H
  refine op_call hk ent_8 (vs := []) rfl (tidewracklaw03_awake_calls K  _ o2 0 fg0   _ hc10) ?_
  rintro _ w11 ⟨o12, rfl, st13⟩
  replace f5 := f5.st st13 (by decide)
  replace f900 := f900.st st13 (by decide)
  replace fg0 := fg0.st st13 (by decide)
  replace hs := hs.loc0 st13 (by decide)
  have hk := hk.put 13 (.bool t9) rfl
  refine x_run tab hk (k := 1) (lv := []) (ks := [1, 2, 3, 14]) (e' := [(1, .int .i64 p1), (2, .int .u32 p2), (3, .pointer (some ⟨bx4, 0, none⟩)), (14, .bool (!t9))]) rfl trivial fun a hk => ?_
  refine wpListIn_nil ?_
  refine then_n ?_
  cases b14 : (!t9)
  · rw [b14] at hk H
    replace H := bifF H
    refine x_if hk (b := false) rfl ?_
    refine (show Code.wpIn _ _ _ _ _ _ _ from ?_)
    refine wpIn_skip ?_
    refine then_n ?_
    refine x_seq ?_
    refine wpIn_region_lit ?_
    refine x_run tab hk (k := 1) (lv := [.agg #[.int .i64 p0.Epoch, .int .i64 p0.Kind, .slice Ap0_0 (p0.Nums).length cp0_0, .string p0.Data]]) (ks := [1, 2, 16]) (e' := [(1, .int .i64 p1), (2, .int .u32 p2), (16, .agg #[.int .i64 p0.Epoch, .int .i64 p0.Kind, .slice Ap0_0 (p0.Nums).length cp0_0, .string p0.Data])]) rfl ⟨(load_box tab rfl rfl f5.now (k := 0) rfl rfl), trivial⟩ fun a hk => ?_
    refine x_op hk rfl ?_
    obtain ⟨t18, hc19, H⟩ := bindS H
    refine op_call hk ent_9 (vs := [.agg #[.int .i64 p0.Epoch, .int .i64 p0.Kind, .slice Ap0_0 (p0.Nums).length cp0_0, .string p0.Data]]) rfl (tidewracklaw03_Own_calls Ap0_0 cp0_0 p0 _ o12 _ f900 hcp0_0 2 3  _ hc19) ?_
    rintro _ w20 ⟨o21, A23, c24, A27, c28, rfl, st22, f25, hc26, f29, hc30⟩
    replace f900 := f900.st st22 (by decide)
    replace fg0 := fg0.st st22 (by decide)
    replace hs := hs.loc0 st22 (by decide)
    have hk := hk.put 17 (.tuple #[.agg #[.int .i64 t18.1.Epoch, .int .i64 t18.1.Kind, .slice A23 (t18.1.Nums).length c24, .string t18.1.Data], .agg #[.int .i64 t18.2.Epoch, .int .i64 t18.2.Kind, .slice A27 (t18.2.Nums).length c28, .string t18.2.Data]]) rfl
    refine x_run tab hk (k := 3) (lv := []) (ks := [1, 2, 18, 19]) (e' := [(1, .int .i64 p1), (2, .int .u32 p2), (18, .agg #[.int .i64 t18.1.Epoch, .int .i64 t18.1.Kind, .slice A23 (t18.1.Nums).length c24, .string t18.1.Data]), (19, .agg #[.int .i64 t18.2.Epoch, .int .i64 t18.2.Kind, .slice A27 (t18.2.Nums).length c28, .string t18.2.Data])]) rfl trivial fun a hk => ?_
    refine x_op hk rfl ?_
    refine op_alloc (o := o21) tab (t := 26) (cs := [.int .i64 0, .int .i64 0, .slice none 0 0, .string (⟨#[]⟩ : ByteArray)]) rfl rfl 4 fun bx34 w31 o32 st33 f35 => ?_
    replace f25 := f25.st st33 (by decide)
    replace f29 := f29.st st33 (by decide)
    replace fg0 := fg0.st st33 (by decide)
    replace hs := hs.loc0 st33 (by decide)
    have hk := hk.put 7 (.pointer (some ⟨bx34, 0, none⟩)) rfl
    refine x_op hk rfl ?_
    refine op_alloc (o := o32) tab (t := 24) (cs := [.int .i64 0, .int .i64 0, .slice none 0 0, .string (⟨#[]⟩ : ByteArray)]) rfl rfl 5 fun bx39 w36 o37 st38 f40 => ?_
    replace f25 := f25.st st38 (by decide)
    replace f29 := f29.st st38 (by decide)
    replace f35 := f35.st st38 (by decide)
    replace fg0 := fg0.st st38 (by decide)
    replace hs := hs.loc0 st38 (by decide)
    have hk := hk.put 8 (.pointer (some ⟨bx39, 0, none⟩)) rfl
    refine x_op hk rfl ?_
    refine op_store tab hk (t := 26) (v := .agg #[.int .i64 t18.1.Epoch, .int .i64 t18.1.Kind, .slice A23 (t18.1.Nums).length c24, .string t18.1.Data]) (b := bx34) (k := 0) (cs' := [.int .i64 t18.1.Epoch, .int .i64 t18.1.Kind, .slice A23 (t18.1.Nums).length c24, .string t18.1.Data]) rfl rfl rfl rfl rfl rfl f35 rfl rfl fun w41 o42 st43 f35_ => ?_
    replace f25 := f25.st st43 (by decide)
    replace f29 := f29.st st43 (by decide)
    replace f40 := f40.st st43 (by decide)
    replace fg0 := fg0.st st43 (by decide)
    replace hs := hs.loc0 st43 (by decide)
    replace f35 := f35_
    refine x_op hk rfl ?_
    refine op_store tab hk (t := 24) (v := .agg #[.int .i64 t18.2.Epoch, .int .i64 t18.2.Kind, .slice A27 (t18.2.Nums).length c28, .string t18.2.Data]) (b := bx39) (k := 0) (cs' := [.int .i64 t18.2.Epoch, .int .i64 t18.2.Kind, .slice A27 (t18.2.Nums).length c28, .string t18.2.Data]) rfl rfl rfl rfl rfl rfl f40 rfl rfl fun w44 o45 st46 f40_ => ?_
    replace f25 := f25.st st46 (by decide)
    replace f29 := f29.st st46 (by decide)
    replace f35 := f35.st st46 (by decide)
    replace fg0 := fg0.st st46 (by decide)
    replace hs := hs.loc0 st46 (by decide)
    replace f40 := f40_
    refine wpListIn_nil ?_
    refine then_n ?_
    refine x_seq ?_
    refine wpIn_region_lit ?_
    refine x_run tab hk (k := 1) (lv := [.agg #[.int .i64 t18.1.Epoch, .int .i64 t18.1.Kind, .slice A23 (t18.1.Nums).length c24, .string t18.1.Data]]) (ks := [1, 2, 8, 20]) (e' := [(1, .int .i64 p1), (2, .int .u32 p2), (8, .pointer (some ⟨bx39, 0, none⟩)), (20, .agg #[.int .i64 t18.1.Epoch, .int .i64 t18.1.Kind, .slice A23 (t18.1.Nums).length c24, .string t18.1.Data])]) rfl ⟨(load_box tab rfl rfl f35.now (k := 0) rfl rfl), trivial⟩ fun a hk => ?_
    refine x_op hk rfl ?_
    obtain ⟨t50, hc51, H⟩ := bindS H
    refine op_call hk ent_10 (vs := [.agg #[.int .i64 t18.1.Epoch, .int .i64 t18.1.Kind, .slice A23 (t18.1.Nums).length c24, .string t18.1.Data]]) rfl (gram_Gram_Pack_calls K A23 c24 t18.1 _ o45 0 fg0 _ (f25.imp fun _ h_ => Own.rd h_) hc26   _ hc51) ?_
    rintro _ w52 ⟨o53, rfl, st54⟩
    replace f25 := f25.st st54 (by decide)
    replace f29 := f29.st st54 (by decide)
    replace f40 := f40.st st54 (by decide)
    replace fg0 := fg0.st st54 (by decide)
    replace hs := hs.loc0 st54 (by decide)
    have hk := hk.put 21 (.string t50) rfl
    refine x_run tab hk (k := 1) (lv := []) (ks := [1, 2, 8, 9]) (e' := [(1, .int .i64 p1), (2, .int .u32 p2), (8, .pointer (some ⟨bx39, 0, none⟩)), (9, .string t50)]) rfl trivial fun a hk => ?_
    refine wpListIn_nil ?_
    refine then_n ?_
    refine x_seq ?_
    refine x_seq ?_
    refine wpIn_region_lit ?_
    refine x_run tab hk (k := 1) (lv := [.agg #[.int .i64 t18.2.Epoch, .int .i64 t18.2.Kind, .slice A27 (t18.2.Nums).length c28, .string t18.2.Data]]) (ks := [1, 2, 8, 9, 22]) (e' := [(1, .int .i64 p1), (2, .int .u32 p2), (8, .pointer (some ⟨bx39, 0, none⟩)), (9, .string t50), (22, .agg #[.int .i64 t18.2.Epoch, .int .i64 t18.2.Kind, .slice A27 (t18.2.Nums).length c28, .string t18.2.Data])]) rfl ⟨(load_box tab rfl rfl f40.now (k := 0) rfl rfl), trivial⟩ fun a hk => ?_
    refine x_op hk rfl ?_
    obtain ⟨t58, hc59, H⟩ := bindS H
    refine op_call hk ent_12 (vs := [.agg #[.int .i64 t18.2.Epoch, .int .i64 t18.2.Kind, .slice A27 (t18.2.Nums).length c28, .string t18.2.Data]]) rfl (tidewrackref03_Check_calls K A27 c28 t18.2 _ o53 _ (f29.imp fun _ h_ => Own.rd h_) hc30   _ hc59) ?_
    rintro _ w60 ⟨o61, rfl, st62⟩
    replace f29 := f29.st st62 (by decide)
    replace f40 := f40.st st62 (by decide)
    replace fg0 := fg0.st st62 (by decide)
    replace hs := hs.loc0 st62 (by decide)
    have hk := hk.put 23 (.int .i64 t58) rfl
    refine x_run tab hk (k := 1) (lv := []) (ks := [1, 2, 8, 9, 24]) (e' := [(1, .int .i64 p1), (2, .int .u32 p2), (8, .pointer (some ⟨bx39, 0, none⟩)), (9, .string t50), (24, .bool (t58 != (0 : Int)))]) rfl trivial fun a hk => ?_
    refine wpListIn_nil ?_
    refine then_n ?_
    cases b63 : (t58 != (0 : Int))
    · rw [b63] at hk H
      replace H := bifF H
      refine x_if hk (b := false) rfl ?_
      refine (show Code.wpIn _ _ _ _ _ _ _ from ?_)
      refine wpIn_skip ?_
      refine then_n ?_
      refine x_seq ?_
      refine wpIn_region_lit ?_
      refine x_run tab hk (k := 3) (lv := []) (ks := [8, 9, 27, 28, 29]) (e' := [(8, .pointer (some ⟨bx39, 0, none⟩)), (9, .string t50), (27, .string t50), (28, .int .i64 p1), (29, .int .u32 p2)]) rfl trivial fun a hk => ?_
      refine x_op hk rfl ?_
      obtain ⟨t67, hc68, H⟩ := bindS H
      refine op_call hk ent_20 (vs := [.string t50, .int .i64 p1, .int .u32 p2]) rfl (sum_Turn_calls K t50 p1 p2 _ o61    _ hc68) ?_
      rintro _ w69 ⟨o70, rfl, st71⟩
      replace f29 := f29.st st71 (by decide)
      replace f40 := f40.st st71 (by decide)
      replace fg0 := fg0.st st71 (by decide)
      replace hs := hs.loc0 st71 (by decide)
      have hk := hk.put 30 (.string t67) rfl
      refine x_run tab hk (k := 1) (lv := []) (ks := [8, 9, 10]) (e' := [(8, .pointer (some ⟨bx39, 0, none⟩)), (9, .string t50), (10, .string t67)]) rfl trivial fun a hk => ?_
      refine wpListIn_nil ?_
      refine then_n ?_
      refine x_seq ?_
      refine wpIn_region_lit ?_
      refine x_run tab hk (k := 1) (lv := []) (ks := [8, 9, 10, 32]) (e' := [(8, .pointer (some ⟨bx39, 0, none⟩)), (9, .string t50), (10, .string t67), (32, .string t67)]) rfl trivial fun a hk => ?_
      refine x_op hk rfl ?_
      obtain ⟨t75, hc76, H⟩ := bindS H
      refine op_call hk ent_15 (vs := [.string t67]) rfl (gram_Parse_calls K t67 _ o70 0 fg0 6  _ hc76) ?_
      rintro _ w77 ⟨o78, A80, c81, rfl, st79, f82, hc83⟩
      replace f29 := f29.st st79 (by decide)
      replace f40 := f40.st st79 (by decide)
      replace fg0 := fg0.st st79 (by decide)
      replace hs := hs.loc0 st79 (by decide)
      have hk := hk.put 33 (.tuple #[.agg #[.int .i64 t75.1.Epoch, .int .i64 t75.1.Kind, .slice A80 (t75.1.Nums).length c81, .string t75.1.Data], .int .i64 t75.2]) rfl
      refine x_run tab hk (k := 3) (lv := []) (ks := [8, 9, 10, 34, 35]) (e' := [(8, .pointer (some ⟨bx39, 0, none⟩)), (9, .string t50), (10, .string t67), (34, .agg #[.int .i64 t75.1.Epoch, .int .i64 t75.1.Kind, .slice A80 (t75.1.Nums).length c81, .string t75.1.Data]), (35, .int .i64 t75.2)]) rfl trivial fun a hk => ?_
      refine x_op hk rfl ?_
      refine op_alloc (o := o78) tab (t := 26) (cs := [.int .i64 0, .int .i64 0, .slice none 0 0, .string (⟨#[]⟩ : ByteArray)]) rfl rfl 7 fun bx87 w84 o85 st86 f88 => ?_
      replace f29 := f29.st st86 (by decide)
      replace f40 := f40.st st86 (by decide)
      replace f82 := f82.st st86 (by decide)
      replace fg0 := fg0.st st86 (by decide)
      replace hs := hs.loc0 st86 (by decide)
      have hk := hk.put 11 (.pointer (some ⟨bx87, 0, none⟩)) rfl
      refine x_op hk rfl ?_
      refine op_store tab hk (t := 26) (v := .agg #[.int .i64 t75.1.Epoch, .int .i64 t75.1.Kind, .slice A80 (t75.1.Nums).length c81, .string t75.1.Data]) (b := bx87) (k := 0) (cs' := [.int .i64 t75.1.Epoch, .int .i64 t75.1.Kind, .slice A80 (t75.1.Nums).length c81, .string t75.1.Data]) rfl rfl rfl rfl rfl rfl f88 rfl rfl fun w89 o90 st91 f88_ => ?_
      replace f29 := f29.st st91 (by decide)
      replace f40 := f40.st st91 (by decide)
      replace f82 := f82.st st91 (by decide)
      replace fg0 := fg0.st st91 (by decide)
      replace hs := hs.loc0 st91 (by decide)
      replace f88 := f88_
      refine x_run tab hk (k := 1) (lv := []) (ks := [8, 9, 10, 11, 12]) (e' := [(8, .pointer (some ⟨bx39, 0, none⟩)), (9, .string t50), (10, .string t67), (11, .pointer (some ⟨bx87, 0, none⟩)), (12, .int .i64 t75.2)]) rfl trivial fun a hk => ?_
      refine wpListIn_nil ?_
      refine then_n ?_
      refine x_seq ?_
      refine x_seq ?_
      refine wpIn_region_lit ?_
      refine x_run tab hk (k := 3) (lv := []) (ks := [8, 11, 12, 38]) (e' := [(8, .pointer (some ⟨bx39, 0, none⟩)), (11, .pointer (some ⟨bx87, 0, none⟩)), (12, .int .i64 t75.2), (38, .bool (ByteArray.toList t67 == ByteArray.toList t50))]) rfl trivial fun a hk => ?_
      refine wpListIn_nil ?_
      refine then_n ?_
      cases b92 : (ByteArray.toList t67 == ByteArray.toList t50)
      · rw [b92] at hk H
        replace H := bifF H
        refine x_if hk (b := false) rfl ?_
        refine (show Code.wpIn _ _ _ _ _ _ _ from ?_)
        refine wpIn_skip ?_
        refine then_n ?_
        refine x_seq ?_
        refine wpIn_region_lit ?_
        refine x_run tab hk (k := 3) (lv := []) (ks := [11, 48]) (e' := [(11, .pointer (some ⟨bx87, 0, none⟩)), (48, .bool (t75.2 == (4 : Int)))]) rfl trivial fun a hk => ?_
        cases b93 : (t75.2 == (4 : Int))
        · rw [b93] at hk H
          replace H := bifF H
          refine x_run tab hk (k := 5) (lv := []) (ks := [6]) (e' := [(6, .bool false)]) rfl trivial fun a hk => ?_
          refine wpListIn_nil ?_
          refine then_n ?_
          refine wpIn_ret ?_
          obtain rfl := Option.some.inj H
          exact x_retG hk (rs := [.tmp 6]) (vs := [.bool false]) rfl ⟨rfl, trivial⟩ ⟨fun b_ => if b_ < w.heap.size then o b_ else (fun _ => 0) (o90 b_), rfl, hs.close0 o (fun _ => 0)⟩
        · rw [b93] at hk H
          replace H := bifT H
          refine x_run tab hk (k := 2) (lv := [.agg #[.int .i64 t75.1.Epoch, .int .i64 t75.1.Kind, .slice A80 (t75.1.Nums).length c81, .string t75.1.Data]]) (ks := [48, 49, 50]) (e' := [(48, .bool true), (49, .agg #[.int .i64 t75.1.Epoch, .int .i64 t75.1.Kind, .slice A80 (t75.1.Nums).length c81, .string t75.1.Data]), (50, .agg #[.int .i64 0, .int .i64 0, .slice none 0 0, .string (⟨#[]⟩ : ByteArray)])]) rfl ⟨(load_box tab rfl rfl f88.now (k := 0) rfl rfl), trivial⟩ fun a hk => ?_
          refine x_op hk rfl ?_
          obtain ⟨t97, hc98, H⟩ := bindS H
          refine op_call hk ent_16 (vs := [.agg #[.int .i64 t75.1.Epoch, .int .i64 t75.1.Kind, .slice A80 (t75.1.Nums).length c81, .string t75.1.Data], .agg #[.int .i64 0, .int .i64 0, .slice none 0 0, .string (⟨#[]⟩ : ByteArray)]]) rfl (tidewracklaw03_Is_calls K A80 c81 t75.1 none 0 (⟨0, 0, ([] : List Int), (⟨#[]⟩ : ByteArray)⟩ : T23) _ o90 _ (f82.imp fun _ h_ => Own.rd h_) hc83 _ (Ft.of_all (fun _ h_ => absurd h_ (by simp)) _ _ 0) (by simp)   _ hc98) ?_
          rintro _ w99 ⟨o100, rfl, st101⟩
          replace f82 := f82.st st101 (by decide)
          replace fg0 := fg0.st st101 (by decide)
          replace hs := hs.loc0 st101 (by decide)
          have hk := hk.put 51 (.bool t97) rfl
          refine x_run tab hk (k := 2) (lv := []) (ks := [6]) (e' := [(6, .bool t97)]) rfl trivial fun a hk => ?_
          refine wpListIn_nil ?_
          refine then_n ?_
          refine wpIn_ret ?_
          obtain rfl := Option.some.inj H
          exact x_retG hk (rs := [.tmp 6]) (vs := [.bool t97]) rfl ⟨rfl, trivial⟩ ⟨fun b_ => if b_ < w.heap.size then o b_ else (fun _ => 0) (o100 b_), rfl, hs.close0 o (fun _ => 0)⟩
      · rw [b92] at hk H
        replace H := bifT H
        refine x_if hk (b := true) rfl ?_
        refine (show Code.wpIn _ _ _ _ _ _ _ from ?_)
        refine x_seq ?_
        refine wpIn_region_lit ?_
        refine x_run tab hk (k := 3) (lv := []) (ks := [8, 11, 41]) (e' := [(8, .pointer (some ⟨bx39, 0, none⟩)), (11, .pointer (some ⟨bx87, 0, none⟩)), (41, .bool (t75.2 == (0 : Int)))]) rfl trivial fun a hk => ?_
        cases b102 : (t75.2 == (0 : Int))
        · rw [b102] at hk H
          replace H := bifF H
          refine x_run tab hk (k := 5) (lv := []) (ks := [6]) (e' := [(6, .bool false)]) rfl trivial fun a hk => ?_
          refine wpListIn_nil ?_
          refine then_n ?_
          refine wpIn_ret ?_
          refine then_r ?_
          obtain rfl := Option.some.inj H
          exact x_retG hk (rs := [.tmp 6]) (vs := [.bool false]) rfl ⟨rfl, trivial⟩ ⟨fun b_ => if b_ < w.heap.size then o b_ else (fun _ => 0) (o90 b_), rfl, hs.close0 o (fun _ => 0)⟩
        · rw [b102] at hk H
          replace H := bifT H
          refine x_run tab hk (k := 2) (lv := [.agg #[.int .i64 t75.1.Epoch, .int .i64 t75.1.Kind, .slice A80 (t75.1.Nums).length c81, .string t75.1.Data], .agg #[.int .i64 t18.2.Epoch, .int .i64 t18.2.Kind, .slice A27 (t18.2.Nums).length c28, .string t18.2.Data]]) (ks := [41, 42, 43]) (e' := [(41, .bool true), (42, .agg #[.int .i64 t75.1.Epoch, .int .i64 t75.1.Kind, .slice A80 (t75.1.Nums).length c81, .string t75.1.Data]), (43, .agg #[.int .i64 t18.2.Epoch, .int .i64 t18.2.Kind, .slice A27 (t18.2.Nums).length c28, .string t18.2.Data])]) rfl ⟨(load_box tab rfl rfl f88.now (k := 0) rfl rfl), (load_box tab rfl rfl f40.now (k := 0) rfl rfl), trivial⟩ fun a hk => ?_
          refine x_op hk rfl ?_
          obtain ⟨t106, hc107, H⟩ := bindS H
          refine op_call hk ent_16 (vs := [.agg #[.int .i64 t75.1.Epoch, .int .i64 t75.1.Kind, .slice A80 (t75.1.Nums).length c81, .string t75.1.Data], .agg #[.int .i64 t18.2.Epoch, .int .i64 t18.2.Kind, .slice A27 (t18.2.Nums).length c28, .string t18.2.Data]]) rfl (tidewracklaw03_Is_calls K A80 c81 t75.1 A27 c28 t18.2 _ o90 _ (f82.imp fun _ h_ => Own.rd h_) hc83 _ (f29.imp fun _ h_ => Own.rd h_) hc30   _ hc107) ?_
          rintro _ w108 ⟨o109, rfl, st110⟩
          replace f29 := f29.st st110 (by decide)
          replace f82 := f82.st st110 (by decide)
          replace fg0 := fg0.st st110 (by decide)
          replace hs := hs.loc0 st110 (by decide)
          have hk := hk.put 44 (.bool t106) rfl
          refine x_run tab hk (k := 2) (lv := []) (ks := [6]) (e' := [(6, .bool t106)]) rfl trivial fun a hk => ?_
          refine wpListIn_nil ?_
          refine then_n ?_
          refine wpIn_ret ?_
          refine then_r ?_
          obtain rfl := Option.some.inj H
          exact x_retG hk (rs := [.tmp 6]) (vs := [.bool t106]) rfl ⟨rfl, trivial⟩ ⟨fun b_ => if b_ < w.heap.size then o b_ else (fun _ => 0) (o109 b_), rfl, hs.close0 o (fun _ => 0)⟩
    · rw [b63] at hk H
      replace H := bifT H
      refine x_if hk (b := true) rfl ?_
      refine (show Code.wpIn _ _ _ _ _ _ _ from ?_)
      refine x_seq ?_
      refine wpIn_region_lit ?_
      refine x_run tab hk (k := 3) (lv := []) (ks := [6]) (e' := [(6, .bool (ByteArray.toList t50 == ByteArray.toList (⟨#[]⟩ : ByteArray)))]) rfl trivial fun a hk => ?_
      refine wpListIn_nil ?_
      refine then_n ?_
      refine wpIn_ret ?_
      refine then_r ?_
      obtain rfl := Option.some.inj H
      exact x_retG hk (rs := [.tmp 6]) (vs := [.bool (ByteArray.toList t50 == ByteArray.toList (⟨#[]⟩ : ByteArray))]) rfl ⟨rfl, trivial⟩ ⟨fun b_ => if b_ < w.heap.size then o b_ else (fun _ => 0) (o61 b_), rfl, hs.close0 o (fun _ => 0)⟩
  · rw [b14] at hk H
    replace H := bifT H
    refine x_if hk (b := true) rfl ?_
    refine (show Code.wpIn _ _ _ _ _ _ _ from ?_)
    refine x_seq ?_
    refine wpIn_region_lit ?_
    refine x_run tab hk (k := 1) (lv := []) (ks := [6]) (e' := [(6, .bool false)]) rfl trivial fun a hk => ?_
    refine wpListIn_nil ?_
    refine then_n ?_
    refine wpIn_ret ?_
    refine then_r ?_
    obtain rfl := Option.some.inj H
    exact x_retG hk (rs := [.tmp 6]) (vs := [.bool false]) rfl ⟨rfl, trivial⟩ ⟨fun b_ => if b_ < w.heap.size then o b_ else (fun _ => 0) (o12 b_), rfl, hs.close0 o (fun _ => 0)⟩

end Go.Proofs.YticilepdpobheaaDoor
