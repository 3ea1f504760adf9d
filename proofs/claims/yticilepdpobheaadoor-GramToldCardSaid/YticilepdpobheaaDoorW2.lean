/- Walks, printed by an own program: the machine's calls compute the plain functions. -/
import Derived.Test.YticilepdpobheaaDoorW1
set_option linter.unusedVariables false
set_option linter.unusedSimpArgs false
namespace Go.Proofs.YticilepdpobheaaDoor
open Go Go.Proofs.XC
/-! (*tidewrack/num.In).End -/
theorem num_In_End_calls (bp0 : Nat) (p0 : T73) (w : World) (o : Nat → Nat) (Lp0 : Nat) (hp0 : Ft (Bx bp0 74 [.string p0.s, .int .i64 p0.e]) w o Lp0)  (r : Int) (H : num_In_End p0 = some r) :
    Calls Tryd.prog 28 #[.pointer (some ⟨bp0, 0, none⟩)] w (Ret fun v_ w' => ∃ o' : Nat → Nat, v_ = .int .i64 r ∧ St [] w o w' o') := by
  refine x_enter (vs := [.pointer (some ⟨bp0, 0, none⟩)]) Tryd.func28 rfl rfl rfl fun a hk => ?_
  obtain ⟨o0, hs, h0⟩ := St.start w o
  have f919 := h0 _ _ hp0
  clear h0
  rw [num_In_End] at H
  refine x_seq ?_
  refine wpIn_region_lit ?_
  refine x_run tab hk (k := 1) (lv := []) (ks := [0]) (e' := [(0, .pointer (some ⟨bp0, 0, none⟩))]) rfl trivial fun a hk => ?_
  refine wpListIn_nil ?_
  refine then_n ?_
  refine x_seq ?_
  refine x_seq ?_
  refine wpIn_region_lit ?_
  refine x_run tab hk (k := 5) (lv := [.string p0.s]) (ks := [0, 7]) (e' := [(0, .pointer (some ⟨bp0, 0, none⟩)), (7, .bool (!(ByteArray.toList p0.s == ByteArray.toList (⟨#[]⟩ : ByteArray))))]) rfl ⟨(load1 tab rfl ((Bx.cell f919.now 0).trans rfl)), trivial⟩ fun a hk => ?_
  refine wpListIn_nil ?_
  refine then_n ?_
  cases b1 : (!(ByteArray.toList p0.s == ByteArray.toList (⟨#[]⟩ : ByteArray)))
  · rw [b1] at hk H
    replace H := bifF H
    refine x_if hk (b := false) rfl ?_
    refine (show Code.wpIn _ _ _ _ _ _ _ from ?_)
    refine wpIn_skip ?_
    refine then_n ?_
    refine x_seq ?_
    refine wpIn_region_lit ?_
    refine x_run tab hk (k := 5) (lv := [.int .i64 p0.e]) (ks := [2]) (e' := [(2, .int .i64 p0.e)]) rfl ⟨(load1 tab rfl ((Bx.cell f919.now 1).trans rfl)), trivial⟩ fun a hk => ?_
    refine wpListIn_nil ?_
    refine then_n ?_
    refine wpIn_ret ?_
    obtain rfl := Option.some.inj H
    exact x_retG hk (rs := [.tmp 2]) (vs := [.int .i64 p0.e]) rfl ⟨rfl, trivial⟩ ⟨fun b_ => if b_ < w.heap.size then o b_ else (fun _ => 0) (o0 b_), rfl, hs.close0 o (fun _ => 0)⟩
  · rw [b1] at hk H
    replace H := bifT H
    refine x_if hk (b := true) rfl ?_
    refine (show Code.wpIn _ _ _ _ _ _ _ from ?_)
    refine x_seq ?_
    refine wpIn_region_lit ?_
    refine x_run tab hk (k := 1) (lv := []) (ks := [2]) (e' := [(2, .int .i64 1)]) rfl trivial fun a hk => ?_
    refine wpListIn_nil ?_
    refine then_n ?_
    refine wpIn_ret ?_
    refine then_r ?_
    obtain rfl := Option.some.inj H
    exact x_retG hk (rs := [.tmp 2]) (vs := [.int .i64 1]) rfl ⟨rfl, trivial⟩ ⟨fun b_ => if b_ < w.heap.size then o b_ else (fun _ => 0) (o0 b_), rfl, hs.close0 o (fun _ => 0)⟩

/-! tidewrack/gram.Parse -/
theorem gram_Parse_calls (K : Nat) (p0 : ByteArray) (w : World) (o : Nat → Nat) (Lg0 : Nat) (hg0 : Ft (RdC (encInt .u32) (some ⟨0, 0, none⟩) glob0) w o Lg0)   (R0 : Nat) (r : T23 × Int) (H : gram_Parse K p0 = some r) :
    Calls Tryd.prog 15 #[.string p0] w (Ret fun v_ w' => ∃ o' : Nat → Nat, ∃ A0 : Option Addr, ∃ c0 : Nat, v_ = .tuple #[.agg #[.int .i64 r.1.Epoch, .int .i64 r.1.Kind, .slice A0 (r.1.Nums).length c0, .string r.1.Data], .int .i64 r.2] ∧ St [] w o w' o' ∧ Ft (Own (encInt .i64) 3 (.slice A0 (r.1.Nums).length c0) (r.1.Nums)) w' o' R0 ∧ (r.1.Nums).length ≤ c0) := by
  refine x_enter (vs := [.string p0]) Tryd.func15 rfl rfl rfl fun a hk => ?_
  obtain ⟨o0, hs, h0⟩ := St.start w o
  have fg0 := h0 _ _ hg0
  clear h0
  rw [gram_Parse] at H
  refine x_seq ?_
  refine wpIn_region_lit ?_
  refine x_op hk rfl ?_
  refine op_alloc (o := o0) tab (t := 26) (cs := [.int .i64 0, .int .i64 0, .slice none 0 0, .string (⟨#[]⟩ : ByteArray)]) rfl rfl 1 fun bx4 w1 o2 st3 f5 => ?_
  replace fg0 := fg0.st st3 (by decide)
  replace hs := hs.loc0 st3 (by decide)
  have hk := hk.put 2 (.pointer (some ⟨bx4, 0, none⟩)) rfl
  refine x_run tab hk (k := 1) (lv := []) (ks := [0, 2]) (e' := [(0, .string p0), (2, .pointer (some ⟨bx4, 0, none⟩))]) rfl trivial fun a hk => ?_
  refine wpListIn_nil ?_
  refine then_n ?_
  refine x_seq ?_
  refine x_seq ?_
  refine wpIn_region_lit ?_
  refine x_run tab hk (k := 3) (lv := []) (ks := [0, 2, 11]) (e' := [(0, .string p0), (2, .pointer (some ⟨bx4, 0, none⟩)), (11, .bool (decide (((p0).size : Int) > (8192 : Int))))]) rfl trivial fun a hk => ?_
  refine wpListIn_nil ?_
  refine then_n ?_
  cases b6 : (decide (((p0).size : Int) > (8192 : Int)))
  · rw [b6] at hk H
    replace H := bifF H
    refine x_if hk (b := false) rfl ?_
    refine (show Code.wpIn _ _ _ _ _ _ _ from ?_)
    refine wpIn_skip ?_
    refine then_n ?_
    refine x_seq ?_
    refine wpIn_region_lit ?_
    refine x_run tab hk (k := 1) (lv := []) (ks := [2, 14]) (e' := [(2, .pointer (some ⟨bx4, 0, none⟩)), (14, .string p0)]) rfl trivial fun a hk => ?_
    refine x_op hk rfl ?_
    obtain ⟨t10, hc11, H⟩ := bindS H
    refine op_call hk ent_25 (vs := [.string p0]) rfl (sum_Open_calls K p0 _ o2 0 fg0   _ hc11) ?_
    rintro _ w12 ⟨o13, rfl, st14⟩
    replace f5 := f5.st st14 (by decide)
    replace fg0 := fg0.st st14 (by decide)
    replace hs := hs.loc0 st14 (by decide)
    have hk := hk.put 15 (.tuple #[.string t10.1, .bool t10.2]) rfl
    refine x_run tab hk (k := 5) (lv := []) (ks := [2, 4, 5]) (e' := [(2, .pointer (some ⟨bx4, 0, none⟩)), (4, .string t10.1), (5, .bool t10.2)]) rfl trivial fun a hk => ?_
    refine wpListIn_nil ?_
    refine then_n ?_
    refine x_seq ?_
    refine x_seq ?_
    refine wpIn_region_lit ?_
    refine x_run tab hk (k := 2) (lv := []) (ks := [2, 4, 19]) (e' := [(2, .pointer (some ⟨bx4, 0, none⟩)), (4, .string t10.1), (19, .bool (!t10.2))]) rfl trivial fun a hk => ?_
    refine wpListIn_nil ?_
    refine then_n ?_
    cases b15 : (!t10.2)
    · rw [b15] at hk H
      replace H := bifF H
      refine x_if hk (b := false) rfl ?_
      refine (show Code.wpIn _ _ _ _ _ _ _ from ?_)
      refine wpIn_skip ?_
      refine then_n ?_
      refine x_seq ?_
      refine wpIn_region_lit ?_
      refine x_run tab hk (k := 1) (lv := []) (ks := [2, 21]) (e' := [(2, .pointer (some ⟨bx4, 0, none⟩)), (21, .string t10.1)]) rfl trivial fun a hk => ?_
      refine x_op hk rfl ?_
      obtain ⟨t19, hc20, H⟩ := bindS H
      refine op_call hk ent_26 (vs := [.string t10.1]) rfl (num_Of_calls t10.1 _ o13  2  _ hc20) ?_
      rintro _ w21 ⟨o22, bx24, rfl, st23, f25⟩
      replace f5 := f5.st st23 (by decide)
      replace fg0 := fg0.st st23 (by decide)
      replace hs := hs.loc0 st23 (by decide)
      have hk := hk.put 22 (.pointer (some ⟨bx24, 0, none⟩)) rfl
      refine x_run tab hk (k := 1) (lv := []) (ks := [2, 6]) (e' := [(2, .pointer (some ⟨bx4, 0, none⟩)), (6, .pointer (some ⟨bx24, 0, none⟩))]) rfl trivial fun a hk => ?_
      refine wpListIn_nil ?_
      refine then_n ?_
      refine x_seq ?_
      refine wpIn_region_lit ?_
      refine x_run tab hk (k := 1) (lv := []) (ks := [2, 6, 23]) (e' := [(2, .pointer (some ⟨bx4, 0, none⟩)), (6, .pointer (some ⟨bx24, 0, none⟩)), (23, .pointer (some ⟨bx24, 0, none⟩))]) rfl trivial fun a hk => ?_
      refine x_op hk rfl ?_
      obtain ⟨t29, hc30, H⟩ := bindS H
      refine op_call hk ent_27 (vs := [.pointer (some ⟨bx24, 0, none⟩)]) rfl (gram_read_calls K bx24 t19 _ o22 2 f25 (by decide) 3  _ hc30) ?_
      rintro _ w31 ⟨o32, A34, c35, rfl, st33, f36, hc37, f38⟩
      replace f5 := f5.st st33 (by decide)
      replace fg0 := fg0.st st33 (by decide)
      replace hs := hs.loc0 st33 (by decide)
      have hk := hk.put 24 (.agg #[.int .i64 t29.1.Epoch, .int .i64 t29.1.Kind, .slice A34 (t29.1.Nums).length c35, .string t29.1.Data]) rfl
      refine x_op hk rfl ?_
      refine op_alloc (o := o32) tab (t := 26) (cs := [.int .i64 0, .int .i64 0, .slice none 0 0, .string (⟨#[]⟩ : ByteArray)]) rfl rfl 4 fun bx42 w39 o40 st41 f43 => ?_
      replace f36 := f36.st st41 (by decide)
      replace f38 := f38.st st41 (by decide)
      replace f5 := f5.st st41 (by decide)
      replace fg0 := fg0.st st41 (by decide)
      replace hs := hs.loc0 st41 (by decide)
      have hk := hk.put 7 (.pointer (some ⟨bx42, 0, none⟩)) rfl
      refine x_op hk rfl ?_
      refine op_store tab hk (t := 26) (v := .agg #[.int .i64 t29.1.Epoch, .int .i64 t29.1.Kind, .slice A34 (t29.1.Nums).length c35, .string t29.1.Data]) (b := bx42) (k := 0) (cs' := [.int .i64 t29.1.Epoch, .int .i64 t29.1.Kind, .slice A34 (t29.1.Nums).length c35, .string t29.1.Data]) rfl rfl rfl rfl rfl rfl f43 rfl rfl fun w44 o45 st46 f43_ => ?_
      replace f36 := f36.st st46 (by decide)
      replace f38 := f38.st st46 (by decide)
      replace f5 := f5.st st46 (by decide)
      replace fg0 := fg0.st st46 (by decide)
      replace hs := hs.loc0 st46 (by decide)
      replace f43 := f43_
      refine wpListIn_nil ?_
      refine then_n ?_
      refine x_seq ?_
      refine wpIn_region_lit ?_
      refine x_run tab hk (k := 1) (lv := []) (ks := [2, 7, 25]) (e' := [(2, .pointer (some ⟨bx4, 0, none⟩)), (7, .pointer (some ⟨bx42, 0, none⟩)), (25, .pointer (some ⟨bx24, 0, none⟩))]) rfl trivial fun a hk => ?_
      refine x_op hk rfl ?_
      obtain ⟨t50, hc51, H⟩ := bindS H
      refine op_call hk ent_28 (vs := [.pointer (some ⟨bx24, 0, none⟩)]) rfl (num_In_End_calls bx24 t29.2 _ o45 2 f38   _ hc51) ?_
      rintro _ w52 ⟨o53, rfl, st54⟩
      replace f36 := f36.st st54 (by decide)
      replace f38 := f38.st st54 (by decide)
      replace f43 := f43.st st54 (by decide)
      replace f5 := f5.st st54 (by decide)
      replace fg0 := fg0.st st54 (by decide)
      replace hs := hs.loc0 st54 (by decide)
      have hk := hk.put 26 (.int .i64 t50) rfl
      refine x_run tab hk (k := 1) (lv := []) (ks := [2, 7, 8]) (e' := [(2, .pointer (some ⟨bx4, 0, none⟩)), (7, .pointer (some ⟨bx42, 0, none⟩)), (8, .int .i64 t50)]) rfl trivial fun a hk => ?_
      refine wpListIn_nil ?_
      refine then_n ?_
      refine x_mid (fun a_ w_ => ∃ o70 : Nat → Nat, ∃ x71 : Int, Kn 36 a_ [(2, .pointer (some ⟨bx4, 0, none⟩)), (7, .pointer (some ⟨bx42, 0, none⟩)), (8, .int .i64 x71)] ∧ St [] w (fun _ => 0) w_ o70 ∧ Ft (Own (encInt .i64) 3 (.slice A34 (t29.1.Nums).length c35) t29.1.Nums) w_ o70 6 ∧ Ft (Bx bx42 26 [.int .i64 t29.1.Epoch, .int .i64 t29.1.Kind, .slice A34 (t29.1.Nums).length c35, .string t29.1.Data]) w_ o70 7 ∧ Ft (Bx bx4 26 [.int .i64 0, .int .i64 0, .slice none 0 0, .string (⟨#[]⟩ : ByteArray)]) w_ o70 5 ∧ Ft (RdC (encInt .u32) (some ⟨0, 0, none⟩) glob0) w_ o70 0 ∧ gram_Parse_j1 t29 x71 = some r) ?_ ?_
      rotate_left
      · rintro a w72 ⟨o70, x71, hk, hs, f36, f43, f5, fg0, H⟩
        rw [gram_Parse_j1] at H
        refine x_seq ?_
        refine x_seq ?_
        refine wpIn_region_lit ?_
        refine x_run tab hk (k := 2) (lv := []) (ks := [2, 7, 8, 32]) (e' := [(2, .pointer (some ⟨bx4, 0, none⟩)), (7, .pointer (some ⟨bx42, 0, none⟩)), (8, .int .i64 x71), (32, .bool (x71 != (0 : Int)))]) rfl trivial fun a hk => ?_
        refine wpListIn_nil ?_
        refine then_n ?_
        cases b73 : (x71 != (0 : Int))
        · rw [b73] at hk H
          replace H := bifF H
          refine x_if hk (b := false) rfl ?_
          refine (show Code.wpIn _ _ _ _ _ _ _ from ?_)
          refine wpIn_skip ?_
          refine then_n ?_
          refine x_seq ?_
          refine wpIn_region_lit ?_
          refine x_run tab hk (k := 1) (lv := [.agg #[.int .i64 t29.1.Epoch, .int .i64 t29.1.Kind, .slice A34 (t29.1.Nums).length c35, .string t29.1.Data]]) (ks := [2, 35]) (e' := [(2, .pointer (some ⟨bx4, 0, none⟩)), (35, .agg #[.int .i64 t29.1.Epoch, .int .i64 t29.1.Kind, .slice A34 (t29.1.Nums).length c35, .string t29.1.Data])]) rfl ⟨(load_box tab rfl rfl f43.now (k := 0) rfl rfl), trivial⟩ fun a hk => ?_
          refine x_op hk rfl ?_
          refine op_store tab hk (t := 26) (v := .agg #[.int .i64 t29.1.Epoch, .int .i64 t29.1.Kind, .slice A34 (t29.1.Nums).length c35, .string t29.1.Data]) (b := bx4) (k := 0) (cs' := [.int .i64 t29.1.Epoch, .int .i64 t29.1.Kind, .slice A34 (t29.1.Nums).length c35, .string t29.1.Data]) rfl rfl rfl rfl rfl rfl f5 rfl rfl fun w74 o75 st76 f5_ => ?_
          replace f36 := f36.st st76 (by decide)
          replace fg0 := fg0.st st76 (by decide)
          replace hs := hs.loc0 st76 (by decide)
          replace f5 := f5_
          refine x_run tab hk (k := 1) (lv := []) (ks := [2, 3]) (e' := [(2, .pointer (some ⟨bx4, 0, none⟩)), (3, .int .i64 0)]) rfl trivial fun a hk => ?_
          refine wpListIn_nil ?_
          refine then_n ?_
          refine wpIn_ret ?_
          obtain rfl := Option.some.inj H
          exact x_retG hk (rs := [.cell 2 26, .tmp 3]) (vs := [.agg #[.int .i64 t29.1.Epoch, .int .i64 t29.1.Kind, .slice A34 (t29.1.Nums).length c35, .string t29.1.Data], .int .i64 0]) rfl ⟨⟨_, rfl, load_box tab rfl rfl f5.now (k := 0) rfl rfl⟩, rfl, trivial⟩ ⟨fun b_ => if b_ < w.heap.size then o b_ else (fun _ => R0) (o75 b_), A34, c35, rfl, hs.close0 o (fun _ => R0), hs.close_ft (o := o) (ρ := fun _ => R0) f36 (by decide) rfl, hc37⟩
        · rw [b73] at hk H
          replace H := bifT H
          refine x_if hk (b := true) rfl ?_
          refine (show Code.wpIn _ _ _ _ _ _ _ from ?_)
          refine x_seq ?_
          refine wpIn_region_lit ?_
          refine x_run tab hk (k := 2) (lv := []) (ks := [2, 33, 34]) (e' := [(2, .pointer (some ⟨bx4, 0, none⟩)), (33, .agg #[.int .i64 0, .int .i64 0, .slice none 0 0, .string (⟨#[]⟩ : ByteArray)]), (34, .int .i64 x71)]) rfl trivial fun a hk => ?_
          refine x_op hk rfl ?_
          refine op_store tab hk (t := 26) (v := .agg #[.int .i64 0, .int .i64 0, .slice none 0 0, .string (⟨#[]⟩ : ByteArray)]) (b := bx4) (k := 0) (cs' := [.int .i64 0, .int .i64 0, .slice none 0 0, .string (⟨#[]⟩ : ByteArray)]) rfl rfl rfl rfl rfl rfl f5 rfl rfl fun w77 o78 st79 f5_ => ?_
          replace fg0 := fg0.st st79 (by decide)
          replace hs := hs.loc0 st79 (by decide)
          replace f5 := f5_
          refine x_run tab hk (k := 1) (lv := []) (ks := [2, 3]) (e' := [(2, .pointer (some ⟨bx4, 0, none⟩)), (3, .int .i64 x71)]) rfl trivial fun a hk => ?_
          refine wpListIn_nil ?_
          refine then_n ?_
          refine wpIn_ret ?_
          refine then_r ?_
          obtain rfl := Option.some.inj H
          exact x_retG hk (rs := [.cell 2 26, .tmp 3]) (vs := [.agg #[.int .i64 0, .int .i64 0, .slice none 0 0, .string (⟨#[]⟩ : ByteArray)], .int .i64 x71]) rfl ⟨⟨_, rfl, load_box tab rfl rfl f5.now (k := 0) rfl rfl⟩, rfl, trivial⟩ ⟨fun b_ => if b_ < w.heap.size then o b_ else (fun _ => 0) (o78 b_), none, 0, rfl, hs.close0 o (fun _ => 0), (Ft.of_all (fun _ => Own.nil _ _ _) _ _ _), (by simp)⟩
      refine x_seq ?_
      refine wpIn_region_lit ?_
      refine x_run tab hk (k := 2) (lv := []) (ks := [2, 7, 8, 28]) (e' := [(2, .pointer (some ⟨bx4, 0, none⟩)), (7, .pointer (some ⟨bx42, 0, none⟩)), (8, .int .i64 t50), (28, .bool (t50 == (0 : Int)))]) rfl trivial fun a hk => ?_
      refine wpListIn_nil ?_
      refine then_n ?_
      cases b80 : (t50 == (0 : Int))
      · rw [b80] at hk H
        replace H := bifF H
        refine x_if hk (b := false) rfl ?_
        refine (show Code.wpIn _ _ _ _ _ _ _ from ?_)
        refine wpIn_skip ?_
        refine then_n ?_
        exact ⟨(fun b_ => (fun l_ => if l_ = 1 then 5 else if l_ = 3 then 6 else if l_ = 4 then 7 else l_) (o53 b_)), t50, (by exact Kn.pick (ks := [2, 7, 8]) hk rfl), (hs.relab0 (fun l_ => if l_ = 1 then 5 else if l_ = 3 then 6 else if l_ = 4 then 7 else l_) rfl), (f36.relab (fun l_ => if l_ = 1 then 5 else if l_ = 3 then 6 else if l_ = 4 then 7 else l_) rfl), (f43.relab (fun l_ => if l_ = 1 then 5 else if l_ = 3 then 6 else if l_ = 4 then 7 else l_) rfl), (f5.relab (fun l_ => if l_ = 1 then 5 else if l_ = 3 then 6 else if l_ = 4 then 7 else l_) rfl), (fg0.relab (fun l_ => if l_ = 1 then 5 else if l_ = 3 then 6 else if l_ = 4 then 7 else l_) rfl), H⟩
      · rw [b80] at hk H
        replace H := bifT H
        refine x_if hk (b := true) rfl ?_
        refine (show Code.wpIn _ _ _ _ _ _ _ from ?_)
        refine wpIn_region_lit ?_
        refine x_run tab hk (k := 1) (lv := [.agg #[.int .i64 t29.1.Epoch, .int .i64 t29.1.Kind, .slice A34 (t29.1.Nums).length c35, .string t29.1.Data]]) (ks := [2, 7, 29]) (e' := [(2, .pointer (some ⟨bx4, 0, none⟩)), (7, .pointer (some ⟨bx42, 0, none⟩)), (29, .agg #[.int .i64 t29.1.Epoch, .int .i64 t29.1.Kind, .slice A34 (t29.1.Nums).length c35, .string t29.1.Data])]) rfl ⟨(load_box tab rfl rfl f43.now (k := 0) rfl rfl), trivial⟩ fun a hk => ?_
        refine x_op hk rfl ?_
        obtain ⟨t84, hc85, H⟩ := bindS H
        refine op_call hk ent_11 (vs := [.agg #[.int .i64 t29.1.Epoch, .int .i64 t29.1.Kind, .slice A34 (t29.1.Nums).length c35, .string t29.1.Data]]) rfl (gram_Gram_Check_calls K A34 c35 t29.1 _ o53 0 fg0 _ (f36.imp fun _ h_ => Own.rd h_) hc37   _ hc85) ?_
        rintro _ w86 ⟨o87, rfl, st88⟩
        replace f36 := f36.st st88 (by decide)
        replace f43 := f43.st st88 (by decide)
        replace f5 := f5.st st88 (by decide)
        replace fg0 := fg0.st st88 (by decide)
        replace hs := hs.loc0 st88 (by decide)
        have hk := hk.put 30 (.int .i64 t84) rfl
        refine x_run tab hk (k := 1) (lv := []) (ks := [2, 7, 8]) (e' := [(2, .pointer (some ⟨bx4, 0, none⟩)), (7, .pointer (some ⟨bx42, 0, none⟩)), (8, .int .i64 t84)]) rfl trivial fun a hk => ?_
        refine wpListIn_nil ?_
        refine then_n ?_
        exact ⟨(fun b_ => (fun l_ => if l_ = 1 then 5 else if l_ = 3 then 6 else if l_ = 4 then 7 else l_) (o87 b_)), t84, (by exact Kn.pick (ks := [2, 7, 8]) hk rfl), (hs.relab0 (fun l_ => if l_ = 1 then 5 else if l_ = 3 then 6 else if l_ = 4 then 7 else l_) rfl), (f36.relab (fun l_ => if l_ = 1 then 5 else if l_ = 3 then 6 else if l_ = 4 then 7 else l_) rfl), (f43.relab (fun l_ => if l_ = 1 then 5 else if l_ = 3 then 6 else if l_ = 4 then 7 else l_) rfl), (f5.relab (fun l_ => if l_ = 1 then 5 else if l_ = 3 then 6 else if l_ = 4 then 7 else l_) rfl), (fg0.relab (fun l_ => if l_ = 1 then 5 else if l_ = 3 then 6 else if l_ = 4 then 7 else l_) rfl), H⟩
    · rw [b15] at hk H
      replace H := bifT H
      refine x_if hk (b := true) rfl ?_
      refine (show Code.wpIn _ _ _ _ _ _ _ from ?_)
      refine x_seq ?_
      refine wpIn_region_lit ?_
      refine x_run tab hk (k := 1) (lv := []) (ks := [2, 20]) (e' := [(2, .pointer (some ⟨bx4, 0, none⟩)), (20, .agg #[.int .i64 0, .int .i64 0, .slice none 0 0, .string (⟨#[]⟩ : ByteArray)])]) rfl trivial fun a hk => ?_
      refine x_op hk rfl ?_
      refine op_store tab hk (t := 26) (v := .agg #[.int .i64 0, .int .i64 0, .slice none 0 0, .string (⟨#[]⟩ : ByteArray)]) (b := bx4) (k := 0) (cs' := [.int .i64 0, .int .i64 0, .slice none 0 0, .string (⟨#[]⟩ : ByteArray)]) rfl rfl rfl rfl rfl rfl f5 rfl rfl fun w89 o90 st91 f5_ => ?_
      replace fg0 := fg0.st st91 (by decide)
      replace hs := hs.loc0 st91 (by decide)
      replace f5 := f5_
      refine x_run tab hk (k := 1) (lv := []) (ks := [2, 3]) (e' := [(2, .pointer (some ⟨bx4, 0, none⟩)), (3, .int .i64 4)]) rfl trivial fun a hk => ?_
      refine wpListIn_nil ?_
      refine then_n ?_
      refine wpIn_ret ?_
      refine then_r ?_
      obtain rfl := Option.some.inj H
      exact x_retG hk (rs := [.cell 2 26, .tmp 3]) (vs := [.agg #[.int .i64 0, .int .i64 0, .slice none 0 0, .string (⟨#[]⟩ : ByteArray)], .int .i64 4]) rfl ⟨⟨_, rfl, load_box tab rfl rfl f5.now (k := 0) rfl rfl⟩, rfl, trivial⟩ ⟨fun b_ => if b_ < w.heap.size then o b_ else (fun _ => 0) (o90 b_), none, 0, rfl, hs.close0 o (fun _ => 0), (Ft.of_all (fun _ => Own.nil _ _ _) _ _ _), (by simp)⟩
  · rw [b6] at hk H
    replace H := bifT H
    refine x_if hk (b := true) rfl ?_
    refine (show Code.wpIn _ _ _ _ _ _ _ from ?_)
    refine x_seq ?_
    refine wpIn_region_lit ?_
    refine x_run tab hk (k := 1) (lv := []) (ks := [2, 12]) (e' := [(2, .pointer (some ⟨bx4, 0, none⟩)), (12, .agg #[.int .i64 0, .int .i64 0, .slice none 0 0, .string (⟨#[]⟩ : ByteArray)])]) rfl trivial fun a hk => ?_
    refine x_op hk rfl ?_
    refine op_store tab hk (t := 26) (v := .agg #[.int .i64 0, .int .i64 0, .slice none 0 0, .string (⟨#[]⟩ : ByteArray)]) (b := bx4) (k := 0) (cs' := [.int .i64 0, .int .i64 0, .slice none 0 0, .string (⟨#[]⟩ : ByteArray)]) rfl rfl rfl rfl rfl rfl f5 rfl rfl fun w92 o93 st94 f5_ => ?_
    replace fg0 := fg0.st st94 (by decide)
    replace hs := hs.loc0 st94 (by decide)
    replace f5 := f5_
    refine x_run tab hk (k := 1) (lv := []) (ks := [2, 3]) (e' := [(2, .pointer (some ⟨bx4, 0, none⟩)), (3, .int .i64 3)]) rfl trivial fun a hk => ?_
    refine wpListIn_nil ?_
    refine then_n ?_
    refine wpIn_ret ?_
    refine then_r ?_
    obtain rfl := Option.some.inj H
    exact x_retG hk (rs := [.cell 2 26, .tmp 3]) (vs := [.agg #[.int .i64 0, .int .i64 0, .slice none 0 0, .string (⟨#[]⟩ : ByteArray)], .int .i64 3]) rfl ⟨⟨_, rfl, load_box tab rfl rfl f5.now (k := 0) rfl rfl⟩, rfl, trivial⟩ ⟨fun b_ => if b_ < w.heap.size then o b_ else (fun _ => 0) (o93 b_), none, 0, rfl, hs.close0 o (fun _ => 0), (Ft.of_all (fun _ => Own.nil _ _ _) _ _ _), (by simp)⟩

/-! (tidewrack/gram.Gram).Num -/
theorem gram_Gram_Num_calls (Ap0_0 : Option Addr) (cp0_0 : Nat) (p0 : T23) (p1 : Int) (w : World) (o : Nat → Nat) (Lp0_0 : Nat) (hp0_0 : Ft (RdC (encInt .i64) Ap0_0 p0.Nums) w o Lp0_0) (hcp0_0 : (p0.Nums).length ≤ cp0_0)  (r : Int) (H : gram_Gram_Num p0 p1 = some r) :
    Calls Tryd.prog 14 #[.agg #[.int .i64 p0.Epoch, .int .i64 p0.Kind, .slice Ap0_0 (p0.Nums).length cp0_0, .string p0.Data], .int .i64 p1] w (Ret fun v_ w' => ∃ o' : Nat → Nat, v_ = .int .i64 r ∧ St [] w o w' o') := by
  refine x_enter (vs := [.agg #[.int .i64 p0.Epoch, .int .i64 p0.Kind, .slice Ap0_0 (p0.Nums).length cp0_0, .string p0.Data], .int .i64 p1]) Tryd.func14 rfl rfl rfl fun a hk => ?_
  obtain ⟨o0, hs, h0⟩ := St.start w o
  have f900 := h0 _ _ hp0_0
  clear h0
  rw [gram_Gram_Num] at H
  refine x_seq ?_
  refine wpIn_region_lit ?_
  refine x_op hk rfl ?_
  refine op_box (o := o0) (t := 26) (v := .agg #[.int .i64 p0.Epoch, .int .i64 p0.Kind, .slice Ap0_0 (p0.Nums).length cp0_0, .string p0.Data]) (cs := [.int .i64 p0.Epoch, .int .i64 p0.Kind, .slice Ap0_0 (p0.Nums).length cp0_0, .string p0.Data]) hk rfl rfl 1 fun bx4 w1 o2 st3 f5 => ?_
  replace f900 := f900.st st3 (by decide)
  replace hs := hs.loc0 st3 (by decide)
  have hk := hk.put 2 (.pointer (some ⟨bx4, 0, none⟩)) rfl
  refine x_run tab hk (k := 1) (lv := []) (ks := [1, 2]) (e' := [(1, .int .i64 p1), (2, .pointer (some ⟨bx4, 0, none⟩))]) rfl trivial fun a hk => ?_
  refine wpListIn_nil ?_
  refine then_n ?_
  refine x_seq ?_
  refine x_seq ?_
  refine wpIn_region_lit ?_
  refine x_run tab hk (k := 5) (lv := [.slice Ap0_0 (p0.Nums).length cp0_0]) (ks := [1, 2, 5, 9]) (e' := [(1, .int .i64 p1), (2, .pointer (some ⟨bx4, 0, none⟩)), (5, .int .i64 p1), (9, .int .i64 (IntKind.wrap .i64 (((p0.Nums).length : Int) - 1)))]) rfl ⟨(load1 tab rfl ((Bx.cell f5.now 2).trans rfl)), trivial⟩ fun a hk => ?_
  refine x_op hk rfl ?_
  obtain ⟨t9, hc10, H⟩ := bindS H
  refine op_call hk ent_24 (vs := [.int .i64 p1, .int .i64 0, .int .i64 (IntKind.wrap .i64 (((p0.Nums).length : Int) - 1))]) rfl (gram_within_calls p1 0 (IntKind.wrap .i64 (((p0.Nums).length : Int) - 1)) _ o2    _ hc10) ?_
  rintro _ w11 ⟨o12, rfl, st13⟩
  replace f5 := f5.st st13 (by decide)
  replace f900 := f900.st st13 (by decide)
  replace hs := hs.loc0 st13 (by decide)
  have hk := hk.put 10 (.bool t9) rfl
  refine x_run tab hk (k := 1) (lv := []) (ks := [1, 2, 11]) (e' := [(1, .int .i64 p1), (2, .pointer (some ⟨bx4, 0, none⟩)), (11, .bool (!t9))]) rfl trivial fun a hk => ?_
  refine wpListIn_nil ?_
  refine then_n ?_
  cases b14 : (!t9)
  · rw [b14] at hk H
    replace H := bifF H
    refine x_if hk (b := false) rfl ?_
    refine (show Code.wpIn _ _ _ _ _ _ _ from ?_)
    refine wpIn_skip ?_
    refine then_n ?_
    refine x_seq ?_
    refine wpIn_region_lit ?_
    obtain ⟨q15, H⟩ := ifS H
    obtain ⟨ad16, hAad16⟩ := RdC.addr f900.now q15
    have hk_C := hk
    have f5_C := f5
    have f900_C := f900
    subst hAad16
    have hk := hk_C
    clear hk_C
    have f5 := f5_C
    clear f5_C
    have f900 := f900_C
    clear f900_C
    refine x_run tab hk (k := 6) (lv := [.slice (some ad16) (p0.Nums).length cp0_0, .int .i64 (rdD 0 p0.Nums p1)]) (ks := [4]) (e' := [(4, .int .i64 (rdD 0 p0.Nums p1))]) rfl ⟨(load1 tab rfl ((Bx.cell f5.now 2).trans rfl)), q15, (load1 tab rfl (RdC.at0 (E := (encInt .i64)) (d := 0) (i := p1) f900.now q15 rfl)), trivial⟩ fun a hk => ?_
    refine wpListIn_nil ?_
    refine then_n ?_
    refine wpIn_ret ?_
    obtain rfl := Option.some.inj H
    exact x_retG hk (rs := [.tmp 4]) (vs := [.int .i64 (rdD 0 p0.Nums p1)]) rfl ⟨rfl, trivial⟩ ⟨fun b_ => if b_ < w.heap.size then o b_ else (fun _ => 0) (o12 b_), rfl, hs.close0 o (fun _ => 0)⟩
  · rw [b14] at hk H
    replace H := bifT H
    refine x_if hk (b := true) rfl ?_
    refine (show Code.wpIn _ _ _ _ _ _ _ from ?_)
    refine x_seq ?_
    refine wpIn_region_lit ?_
    refine x_run tab hk (k := 1) (lv := []) (ks := [4]) (e' := [(4, .int .i64 0)]) rfl trivial fun a hk => ?_
    refine wpListIn_nil ?_
    refine then_n ?_
    refine wpIn_ret ?_
    refine then_r ?_
    obtain rfl := Option.some.inj H
    exact x_retG hk (rs := [.tmp 4]) (vs := [.int .i64 0]) rfl ⟨rfl, trivial⟩ ⟨fun b_ => if b_ < w.heap.size then o b_ else (fun _ => 0) (o12 b_), rfl, hs.close0 o (fun _ => 0)⟩

/-! tidewrack/tidewracklaw03.awake -/
theorem tidewracklaw03_awake_calls (K : Nat)  (w : World) (o : Nat → Nat) (Lg0 : Nat) (hg0 : Ft (RdC (encInt .u32) (some ⟨0, 0, none⟩) glob0) w o Lg0)   (r : Bool) (H : tidewracklaw03_awake K = some r) :
    Calls Tryd.prog 8 #[] w (Ret fun v_ w' => ∃ o' : Nat → Nat, v_ = .bool r ∧ St [] w o w' o') := by
  refine x_enter (vs := []) Tryd.func8 rfl rfl rfl fun a hk => ?_
  obtain ⟨o0, hs, h0⟩ := St.start w o
  have fg0 := h0 _ _ hg0
  clear h0
  rw [tidewracklaw03_awake] at H
  refine x_seq ?_
  refine wpIn_region_lit ?_
  refine x_run tab hk (k := 1) (lv := []) (ks := []) (e' := []) rfl trivial fun a hk => ?_
  refine wpListIn_nil ?_
  refine then_n ?_
  refine x_seq ?_
  refine wpIn_region_lit ?_
  refine x_run tab hk (k := 1) (lv := []) (ks := [4]) (e' := [(4, .agg #[.int .i64 1, .int .i64 2, .slice none 0 0, .string (⟨#[]⟩ : ByteArray)])]) rfl trivial fun a hk => ?_
  refine x_op hk rfl ?_
  obtain ⟨t4, hc5, H⟩ := bindS H
  refine op_call hk ent_10 (vs := [.agg #[.int .i64 1, .int .i64 2, .slice none 0 0, .string (⟨#[]⟩ : ByteArray)]]) rfl (gram_Gram_Pack_calls K none 0 (⟨1, 2, ([] : List Int), (⟨#[]⟩ : ByteArray)⟩ : T23) _ o0 0 fg0 _ (Ft.of_all (fun _ h_ => absurd h_ (by simp)) _ _ 0) (by simp)   _ hc5) ?_
  rintro _ w6 ⟨o7, rfl, st8⟩
  replace fg0 := fg0.st st8 (by decide)
  replace hs := hs.loc0 st8 (by decide)
  have hk := hk.put 5 (.string t4) rfl
  refine x_run tab hk (k := 1) (lv := []) (ks := [1]) (e' := [(1, .string t4)]) rfl trivial fun a hk => ?_
  refine wpListIn_nil ?_
  refine then_n ?_
  refine x_seq ?_
  refine wpIn_region_lit ?_
  refine x_run tab hk (k := 1) (lv := []) (ks := [1, 7]) (e' := [(1, .string t4), (7, .string t4)]) rfl trivial fun a hk => ?_
  refine x_op hk rfl ?_
  obtain ⟨t12, hc13, H⟩ := bindS H
  refine op_call hk ent_15 (vs := [.string t4]) rfl (gram_Parse_calls K t4 _ o7 0 fg0 1  _ hc13) ?_
  rintro _ w14 ⟨o15, A17, c18, rfl, st16, f19, hc20⟩
  replace fg0 := fg0.st st16 (by decide)
  replace hs := hs.loc0 st16 (by decide)
  have hk := hk.put 8 (.tuple #[.agg #[.int .i64 t12.1.Epoch, .int .i64 t12.1.Kind, .slice A17 (t12.1.Nums).length c18, .string t12.1.Data], .int .i64 t12.2]) rfl
  refine x_run tab hk (k := 3) (lv := []) (ks := [1, 9, 10]) (e' := [(1, .string t4), (9, .agg #[.int .i64 t12.1.Epoch, .int .i64 t12.1.Kind, .slice A17 (t12.1.Nums).length c18, .string t12.1.Data]), (10, .int .i64 t12.2)]) rfl trivial fun a hk => ?_
  refine x_op hk rfl ?_
  refine op_alloc (o := o15) tab (t := 26) (cs := [.int .i64 0, .int .i64 0, .slice none 0 0, .string (⟨#[]⟩ : ByteArray)]) rfl rfl 2 fun bx24 w21 o22 st23 f25 => ?_
  replace f19 := f19.st st23 (by decide)
  replace fg0 := fg0.st st23 (by decide)
  replace hs := hs.loc0 st23 (by decide)
  have hk := hk.put 2 (.pointer (some ⟨bx24, 0, none⟩)) rfl
  refine x_op hk rfl ?_
  refine op_store tab hk (t := 26) (v := .agg #[.int .i64 t12.1.Epoch, .int .i64 t12.1.Kind, .slice A17 (t12.1.Nums).length c18, .string t12.1.Data]) (b := bx24) (k := 0) (cs' := [.int .i64 t12.1.Epoch, .int .i64 t12.1.Kind, .slice A17 (t12.1.Nums).length c18, .string t12.1.Data]) rfl rfl rfl rfl rfl rfl f25 rfl rfl fun w26 o27 st28 f25_ => ?_
  replace f19 := f19.st st28 (by decide)
  replace fg0 := fg0.st st28 (by decide)
  replace hs := hs.loc0 st28 (by decide)
  replace f25 := f25_
  refine x_run tab hk (k := 1) (lv := []) (ks := [1, 2, 3]) (e' := [(1, .string t4), (2, .pointer (some ⟨bx24, 0, none⟩)), (3, .int .i64 t12.2)]) rfl trivial fun a hk => ?_
  refine wpListIn_nil ?_
  refine then_n ?_
  refine x_seq ?_
  refine wpIn_region_lit ?_
  refine x_run tab hk (k := 4) (lv := []) (ks := [1, 2, 3, 14]) (e' := [(1, .string t4), (2, .pointer (some ⟨bx24, 0, none⟩)), (3, .int .i64 t12.2), (14, .bool (((t4).size : Int) == (8 : Int)))]) rfl trivial fun a hk => ?_
  cases b29 : (((t4).size : Int) == (8 : Int))
  · rw [b29] at hk H
    replace H := bifF H
    refine x_run tab hk (k := 12) (lv := []) (ks := [2, 23, 26]) (e' := [(2, .pointer (some ⟨bx24, 0, none⟩)), (23, .bool false), (26, undef)]) rfl trivial fun a hk => ?_
    refine x_run tab hk (k := 7) (lv := []) (ks := [0]) (e' := [(0, .bool false)]) rfl trivial fun a hk => ?_
    refine wpListIn_nil ?_
    refine then_n ?_
    refine wpIn_ret ?_
    obtain rfl := Option.some.inj H
    exact x_retG hk (rs := [.tmp 0]) (vs := [.bool false]) rfl ⟨rfl, trivial⟩ ⟨fun b_ => if b_ < w.heap.size then o b_ else (fun _ => 0) (o27 b_), rfl, hs.close0 o (fun _ => 0)⟩
  · rw [b29] at hk H
    replace H := bifT H
    obtain ⟨q30, H⟩ := ifS H
    refine x_run tab hk (k := 5) (lv := []) (ks := [2, 3, 19]) (e' := [(2, .pointer (some ⟨bx24, 0, none⟩)), (3, .int .i64 t12.2), (19, .bool (ByteArray.toList (ByteArray.extract t4 0 (Int.toNat 4)) == ByteArray.toList (⟨#[1, 2, 0, 0]⟩ : ByteArray)))]) rfl ⟨(show 0 ≤ (4 : Int) from by decide), q30, trivial⟩ fun a hk => ?_
    cases b31 : (ByteArray.toList (ByteArray.extract t4 0 (Int.toNat 4)) == ByteArray.toList (⟨#[1, 2, 0, 0]⟩ : ByteArray))
    · rw [b31] at hk H
      replace H := bifF H
      refine x_run tab hk (k := 12) (lv := []) (ks := [28, 31]) (e' := [(28, .bool false), (31, undef)]) rfl trivial fun a hk => ?_
      refine x_run tab hk (k := 2) (lv := []) (ks := [0]) (e' := [(0, .bool false)]) rfl trivial fun a hk => ?_
      refine wpListIn_nil ?_
      refine then_n ?_
      refine wpIn_ret ?_
      obtain rfl := Option.some.inj H
      exact x_retG hk (rs := [.tmp 0]) (vs := [.bool false]) rfl ⟨rfl, trivial⟩ ⟨fun b_ => if b_ < w.heap.size then o b_ else (fun _ => 0) (o27 b_), rfl, hs.close0 o (fun _ => 0)⟩
    · rw [b31] at hk H
      replace H := bifT H
      refine x_run tab hk (k := 4) (lv := []) (ks := [2, 23]) (e' := [(2, .pointer (some ⟨bx24, 0, none⟩)), (23, .bool (t12.2 == (0 : Int)))]) rfl trivial fun a hk => ?_
      cases b32 : (t12.2 == (0 : Int))
      · rw [b32] at hk H
        replace H := bifF H
        refine x_run tab hk (k := 10) (lv := []) (ks := [0]) (e' := [(0, .bool false)]) rfl trivial fun a hk => ?_
        refine wpListIn_nil ?_
        refine then_n ?_
        refine wpIn_ret ?_
        obtain rfl := Option.some.inj H
        exact x_retG hk (rs := [.tmp 0]) (vs := [.bool false]) rfl ⟨rfl, trivial⟩ ⟨fun b_ => if b_ < w.heap.size then o b_ else (fun _ => 0) (o27 b_), rfl, hs.close0 o (fun _ => 0)⟩
      · rw [b32] at hk H
        replace H := bifT H
        refine x_run tab hk (k := 5) (lv := [.int .i64 t12.1.Kind]) (ks := [2, 28]) (e' := [(2, .pointer (some ⟨bx24, 0, none⟩)), (28, .bool (t12.1.Kind == (2 : Int)))]) rfl ⟨(load1 tab rfl ((Bx.cell f25.now 1).trans rfl)), trivial⟩ fun a hk => ?_
        cases b33 : (t12.1.Kind == (2 : Int))
        · rw [b33] at hk H
          replace H := bifF H
          refine x_run tab hk (k := 5) (lv := []) (ks := [0]) (e' := [(0, .bool false)]) rfl trivial fun a hk => ?_
          refine wpListIn_nil ?_
          refine then_n ?_
          refine wpIn_ret ?_
          obtain rfl := Option.some.inj H
          exact x_retG hk (rs := [.tmp 0]) (vs := [.bool false]) rfl ⟨rfl, trivial⟩ ⟨fun b_ => if b_ < w.heap.size then o b_ else (fun _ => 0) (o27 b_), rfl, hs.close0 o (fun _ => 0)⟩
        · rw [b33] at hk H
          replace H := bifT H
          refine x_run tab hk (k := 1) (lv := [.agg #[.int .i64 t12.1.Epoch, .int .i64 t12.1.Kind, .slice A17 (t12.1.Nums).length c18, .string t12.1.Data]]) (ks := [28, 29]) (e' := [(28, .bool true), (29, .agg #[.int .i64 t12.1.Epoch, .int .i64 t12.1.Kind, .slice A17 (t12.1.Nums).length c18, .string t12.1.Data])]) rfl ⟨(load_box tab rfl rfl f25.now (k := 0) rfl rfl), trivial⟩ fun a hk => ?_
          refine x_op hk rfl ?_
          obtain ⟨t37, hc38, H⟩ := bindS H
          refine op_call hk ent_14 (vs := [.agg #[.int .i64 t12.1.Epoch, .int .i64 t12.1.Kind, .slice A17 (t12.1.Nums).length c18, .string t12.1.Data], .int .i64 0]) rfl (gram_Gram_Num_calls A17 c18 t12.1 0 _ o27 _ (f19.imp fun _ h_ => Own.rd h_) hc20   _ hc38) ?_
          rintro _ w39 ⟨o40, rfl, st41⟩
          replace f19 := f19.st st41 (by decide)
          replace fg0 := fg0.st st41 (by decide)
          replace hs := hs.loc0 st41 (by decide)
          have hk := hk.put 30 (.int .i64 t37) rfl
          refine x_run tab hk (k := 3) (lv := []) (ks := [0]) (e' := [(0, .bool (t37 == (0 : Int)))]) rfl trivial fun a hk => ?_
          refine wpListIn_nil ?_
          refine then_n ?_
          refine wpIn_ret ?_
          obtain rfl := Option.some.inj H
          exact x_retG hk (rs := [.tmp 0]) (vs := [.bool (t37 == (0 : Int))]) rfl ⟨rfl, trivial⟩ ⟨fun b_ => if b_ < w.heap.size then o b_ else (fun _ => 0) (o40 b_), rfl, hs.close0 o (fun _ => 0)⟩

/-! tidewrack/tidewracklaw01.Cut -/
theorem tidewracklaw01_Cut_calls (p0 : ByteArray) (p1 : Int) (w : World) (o : Nat → Nat)   (r : ByteArray) (H : tidewracklaw01_Cut p0 p1 = some r) :
    Calls Tryd.prog 17 #[.string p0, .int .i64 p1] w (Ret fun v_ w' => ∃ o' : Nat → Nat, v_ = .string r ∧ St [] w o w' o') := by
  refine x_enter (vs := [.string p0, .int .i64 p1]) Tryd.func17 rfl rfl rfl fun a hk => ?_
  obtain ⟨o0, hs, h0⟩ := St.start w o
  clear h0
  rw [tidewracklaw01_Cut] at H
  refine x_seq ?_
  refine wpIn_region_lit ?_
  refine x_run tab hk (k := 1) (lv := []) (ks := [0, 1]) (e' := [(0, .string p0), (1, .int .i64 p1)]) rfl trivial fun a hk => ?_
  refine wpListIn_nil ?_
  refine then_n ?_
  refine x_seq ?_
  refine x_seq ?_
  refine wpIn_region_lit ?_
  refine x_run tab hk (k := 4) (lv := []) (ks := [0, 1, 8]) (e' := [(0, .string p0), (1, .int .i64 p1), (8, .bool (decide (((p0).size : Int) > p1)))]) rfl trivial fun a hk => ?_
  refine wpListIn_nil ?_
  refine then_n ?_
  cases b1 : (decide (((p0).size : Int) > p1))
  · rw [b1] at hk H
    replace H := bifF H
    refine x_if hk (b := false) rfl ?_
    refine (show Code.wpIn _ _ _ _ _ _ _ from ?_)
    refine wpIn_skip ?_
    refine then_n ?_
    refine x_seq ?_
    refine wpIn_region_lit ?_
    refine x_run tab hk (k := 2) (lv := []) (ks := [4]) (e' := [(4, .string p0)]) rfl trivial fun a hk => ?_
    refine wpListIn_nil ?_
    refine then_n ?_
    refine wpIn_ret ?_
    obtain rfl := Option.some.inj H
    exact x_retG hk (rs := [.tmp 4]) (vs := [.string p0]) rfl ⟨rfl, trivial⟩ ⟨fun b_ => if b_ < w.heap.size then o b_ else (fun _ => 0) (o0 b_), rfl, hs.close0 o (fun _ => 0)⟩
  · rw [b1] at hk H
    replace H := bifT H
    refine x_if hk (b := true) rfl ?_
    refine (show Code.wpIn _ _ _ _ _ _ _ from ?_)
    refine x_seq ?_
    refine wpIn_region_lit ?_
    obtain ⟨q2, H⟩ := ifS H
    obtain ⟨q3, H⟩ := ifS H
    refine x_run tab hk (k := 4) (lv := []) (ks := [4]) (e' := [(4, .string (ByteArray.extract p0 0 (Int.toNat p1)))]) rfl ⟨q2, q3, trivial⟩ fun a hk => ?_
    refine wpListIn_nil ?_
    refine then_n ?_
    refine wpIn_ret ?_
    refine then_r ?_
    obtain rfl := Option.some.inj H
    exact x_retG hk (rs := [.tmp 4]) (vs := [.string (ByteArray.extract p0 0 (Int.toNat p1))]) rfl ⟨rfl, trivial⟩ ⟨fun b_ => if b_ < w.heap.size then o b_ else (fun _ => 0) (o0 b_), rfl, hs.close0 o (fun _ => 0)⟩

/-! tidewrack/tidewracklaw03.Own -/
theorem tidewracklaw03_Own_calls (Ap0_0 : Option Addr) (cp0_0 : Nat) (p0 : T23) (w : World) (o : Nat → Nat) (Lp0_0 : Nat) (hp0_0 : Ft (RdC (encInt .i64) Ap0_0 p0.Nums) w o Lp0_0) (hcp0_0 : (p0.Nums).length ≤ cp0_0)  (R0 : Nat) (R1 : Nat) (r : T23 × T23) (H : tidewracklaw03_Own p0 = some r) :
    Calls Tryd.prog 9 #[.agg #[.int .i64 p0.Epoch, .int .i64 p0.Kind, .slice Ap0_0 (p0.Nums).length cp0_0, .string p0.Data]] w (Ret fun v_ w' => ∃ o' : Nat → Nat, ∃ A0 : Option Addr, ∃ c0 : Nat, ∃ A1 : Option Addr, ∃ c1 : Nat, v_ = .tuple #[.agg #[.int .i64 r.1.Epoch, .int .i64 r.1.Kind, .slice A0 (r.1.Nums).length c0, .string r.1.Data], .agg #[.int .i64 r.2.Epoch, .int .i64 r.2.Kind, .slice A1 (r.2.Nums).length c1, .string r.2.Data]] ∧ St [] w o w' o' ∧ Ft (Own (encInt .i64) 3 (.slice A0 (r.1.Nums).length c0) (r.1.Nums)) w' o' R0 ∧ (r.1.Nums).length ≤ c0 ∧ Ft (Own (encInt .i64) 3 (.slice A1 (r.2.Nums).length c1) (r.2.Nums)) w' o' R1 ∧ (r.2.Nums).length ≤ c1) := by
  refine x_enter (vs := [.agg #[.int .i64 p0.Epoch, .int .i64 p0.Kind, .slice Ap0_0 (p0.Nums).length cp0_0, .string p0.Data]]) Tryd.func9 rfl rfl rfl fun a hk => ?_
  obtain ⟨o0, hs, h0⟩ := St.start w o
  have f900 := h0 _ _ hp0_0
  clear h0
  rw [tidewracklaw03_Own] at H
  refine x_seq ?_
  refine wpIn_region_lit ?_
  refine x_op hk rfl ?_
  refine op_box (o := o0) (t := 24) (v := .agg #[.int .i64 p0.Epoch, .int .i64 p0.Kind, .slice Ap0_0 (p0.Nums).length cp0_0, .string p0.Data]) (cs := [.int .i64 p0.Epoch, .int .i64 p0.Kind, .slice Ap0_0 (p0.Nums).length cp0_0, .string p0.Data]) hk rfl rfl 1 fun bx4 w1 o2 st3 f5 => ?_
  replace f900 := f900.st st3 (by decide)
  replace hs := hs.loc0 st3 (by decide)
  have hk := hk.put 1 (.pointer (some ⟨bx4, 0, none⟩)) rfl
  refine x_op hk rfl ?_
  refine op_alloc (o := o2) tab (t := 26) (cs := [.int .i64 0, .int .i64 0, .slice none 0 0, .string (⟨#[]⟩ : ByteArray)]) rfl rfl 2 fun bx9 w6 o7 st8 f10 => ?_
  replace f5 := f5.st st8 (by decide)
  replace f900 := f900.st st8 (by decide)
  replace hs := hs.loc0 st8 (by decide)
  have hk := hk.put 2 (.pointer (some ⟨bx9, 0, none⟩)) rfl
  refine x_op hk rfl ?_
  refine op_alloc (o := o7) tab (t := 24) (cs := [.int .i64 0, .int .i64 0, .slice none 0 0, .string (⟨#[]⟩ : ByteArray)]) rfl rfl 3 fun bx14 w11 o12 st13 f15 => ?_
  replace f10 := f10.st st13 (by decide)
  replace f5 := f5.st st13 (by decide)
  replace f900 := f900.st st13 (by decide)
  replace hs := hs.loc0 st13 (by decide)
  have hk := hk.put 3 (.pointer (some ⟨bx14, 0, none⟩)) rfl
  refine wpListIn_nil ?_
  refine then_n ?_
  refine x_seq ?_
  refine xd_begin (o := o12) (fun W_ => (Bx bx4 24 [.int .i64 p0.Epoch, .int .i64 p0.Kind, .slice Ap0_0 (p0.Nums).length cp0_0, .string p0.Data]) W_ ∧ True) mixed rfl rfl fun w77 st78 => ?_
  replace f10 := f10.st st78 (by decide)
  replace f15 := f15.st st78 (by decide)
  replace f5 := f5.st st78 (by decide)
  replace f900 := f900.st st78 (by decide)
  replace hs := hs.loc0 st78 (by decide)
  obtain ⟨q79, H⟩ := ifS H
  obtain ⟨q80, H⟩ := ifS H
  obtain ⟨A81, c82, ak84, f83, hc85⟩ := ask_cut (P := Tryd.prog) tab (t := 22) rfl rfl f900 hcp0_0 none (some (.int .i64 (mnI ((p0.Nums).length : Int) 66))) rfl ⟨q79, (by have := q80; have := hcp0_0; omega), trivial⟩ (by have := q79; have := q80; omega) (by have := q79; have := q80; omega)
  refine xd_take tab hk (k := 5) (is := [0, 1, 2, 3, 5, 6, 7, 8, 9, 10, 11, 13, 14]) (ls' := #[true, true, true, true, false, true, true, true, true, true, true, true, false, true, true, false, false, false]) (lv := [.int .i64 p0.Epoch, .int .i64 p0.Kind, .slice Ap0_0 (p0.Nums).length cp0_0, .slice Ap0_0 (p0.Nums).length cp0_0, .slice A81 ((List.drop 0 (List.take (Int.toNat (mnI ((p0.Nums).length : Int) 66)) p0.Nums))).length c82, .string p0.Data]) (ks := [1, 2, 3, 5, 7, 15, 18]) (e' := [(1, .pointer (some ⟨bx4, 0, none⟩)), (2, .pointer (some ⟨bx9, 0, none⟩)), (3, .pointer (some ⟨bx14, 0, none⟩)), (5, .int .i64 p0.Epoch), (7, .int .i64 p0.Kind), (15, .slice A81 ((List.drop 0 (List.take (Int.toNat (mnI ((p0.Nums).length : Int) 66)) p0.Nums))).length c82), (18, .string p0.Data)]) (by kernel_rfl) rfl rfl (by kernel_rfl) (np_then np_body) ⟨f5.now, trivial⟩ (fun W_ hS => ⟨(load1 tab rfl ((Bx.cell hS.1 0).trans rfl)), (load1 tab rfl ((Bx.cell hS.1 1).trans rfl)), (load1 tab rfl ((Bx.cell hS.1 2).trans rfl)), (load1 tab rfl ((Bx.cell hS.1 2).trans rfl)), (ak84 rfl rfl rfl _), (load1 tab rfl ((Bx.cell hS.1 3).trans rfl)), trivial⟩) fun a hk => ?_
  refine xd_op hk (i := 4) (by kernel_rfl) rfl rfl ?_
  refine op_slice (o := o12) tab hk (vs := []) (cs := []) rfl rfl rfl rfl rfl rfl rfl rfl rfl 6 fun bx89 w86 o87 st88 f90 => ?_
  replace f10 := f10.st st88 (by decide)
  replace f15 := f15.st st88 (by decide)
  replace f5 := f5.st st88 (by decide)
  replace f83 := f83.st st88 (by decide)
  replace f900 := f900.st st88 (by decide)
  replace hs := hs.loc0 st88 (by decide)
  have f91 : Ft (Own (encInt .i64) 3 (.slice (some ⟨bx89, 0, none⟩) (([] : List Int)).length 0) ([] : List Int)) w86 o87 6 := f90.imp fun _ h_ => Own.of_box h_ rfl (by simp)
  have hk := hk.put 8 (.slice (some ⟨bx89, 0, none⟩) (([] : List Int)).length 0) rfl
  refine ⟨.inr ⟨f5.now, trivial⟩, ?_⟩
  refine xd_op hk (i := 12) (by kernel_rfl) rfl rfl ?_
  obtain ⟨q95, H⟩ := ifS H
  refine op_append (o := o87) (E := (encInt .i64)) (xs := ([] : List Int)) (ys := (List.drop 0 (List.take (Int.toNat (mnI ((p0.Nums).length : Int) 66)) p0.Nums))) tab hk rfl rfl rfl rfl rfl rfl rfl f91 f83.now q95 fun A96 c97 w92 o93 st94 f98 hc99 => ?_
  replace f10 := f10.st st94 (by decide)
  replace f15 := f15.st st94 (by decide)
  replace f5 := f5.st st94 (by decide)
  replace f83 := f83.st st94 (by decide)
  replace f900 := f900.st st94 (by decide)
  replace hs := hs.loc0 st94 (by decide)
  have hk := hk.put 16 (.slice A96 ((([] : List Int) ++ (List.drop 0 (List.take (Int.toNat (mnI ((p0.Nums).length : Int) 66)) p0.Nums)))).length c97) rfl
  refine ⟨.inr ⟨f5.now, trivial⟩, ?_⟩
  refine xd_op hk (i := 15) (by kernel_rfl) rfl rfl ?_
  obtain ⟨t103, hc104, H⟩ := bindS H
  refine op_call hk ent_17 (vs := [.string p0.Data, .int .i64 200]) rfl (tidewracklaw01_Cut_calls p0.Data 200 _ o93    _ hc104) ?_
  rintro _ w105 ⟨o106, rfl, st107⟩
  replace f10 := f10.st st107 (by decide)
  replace f15 := f15.st st107 (by decide)
  replace f5 := f5.st st107 (by decide)
  replace f83 := f83.st st107 (by decide)
  replace f900 := f900.st st107 (by decide)
  replace f98 := f98.st st107 (by decide)
  replace hs := hs.loc0 st107 (by decide)
  have hk := hk.put 19 (.string t103) rfl
  refine ⟨.inr ⟨f5.now, trivial⟩, ?_⟩
  refine xd_take tab hk (k := 1) (is := [16]) (ls' := #[true, true, true, true, true, true, true, true, true, true, true, true, true, true, true, true, true, false]) (lv := []) (ks := [1, 2, 3, 20]) (e' := [(1, .pointer (some ⟨bx4, 0, none⟩)), (2, .pointer (some ⟨bx9, 0, none⟩)), (3, .pointer (some ⟨bx14, 0, none⟩)), (20, .agg #[.int .i64 p0.Epoch, .int .i64 p0.Kind, .slice A96 ((([] : List Int) ++ (List.drop 0 (List.take (Int.toNat (mnI ((p0.Nums).length : Int) 66)) p0.Nums)))).length c97, .string t103])]) (by kernel_rfl) rfl rfl (by kernel_rfl) (np_then np_body) ⟨f5.now, trivial⟩ (fun W_ hS => trivial) fun a hk => ?_
  refine xd_op hk (i := 17) (by kernel_rfl) rfl rfl ?_
  refine op_store tab hk (t := 24) (v := .agg #[.int .i64 p0.Epoch, .int .i64 p0.Kind, .slice A96 ((([] : List Int) ++ (List.drop 0 (List.take (Int.toNat (mnI ((p0.Nums).length : Int) 66)) p0.Nums)))).length c97, .string t103]) (b := bx4) (k := 0) (cs' := [.int .i64 p0.Epoch, .int .i64 p0.Kind, .slice A96 ((([] : List Int) ++ (List.drop 0 (List.take (Int.toNat (mnI ((p0.Nums).length : Int) 66)) p0.Nums)))).length c97, .string t103]) rfl rfl rfl rfl rfl rfl f5 rfl rfl fun w108 o109 st110 f5_ => ?_
  replace f10 := f10.st st110 (by decide)
  replace f15 := f15.st st110 (by decide)
  replace f83 := f83.st st110 (by decide)
  replace f900 := f900.st st110 (by decide)
  replace f98 := f98.st st110 (by decide)
  replace hs := hs.loc0 st110 (by decide)
  replace f5 := f5_
  refine ⟨.inl (by kernel_rfl), ?_⟩
  refine xd_done (by kernel_rfl) ?_
  refine then_n ?_
  refine x_seq ?_
  refine xd_begin (o := o109) (fun W_ => (Bx bx4 24 [.int .i64 p0.Epoch, .int .i64 p0.Kind, .slice A96 ((([] : List Int) ++ (List.drop 0 (List.take (Int.toNat (mnI ((p0.Nums).length : Int) 66)) p0.Nums)))).length c97, .string t103]) W_ ∧ True) mixed rfl rfl fun w148 st149 => ?_
  replace f10 := f10.st st149 (by decide)
  replace f15 := f15.st st149 (by decide)
  replace f5 := f5.st st149 (by decide)
  replace f98 := f98.st st149 (by decide)
  replace hs := hs.loc0 st149 (by decide)
  refine xd_take tab hk (k := 5) (is := [0, 1, 2, 3, 5, 6, 8, 9, 11]) (ls' := #[true, true, true, true, false, true, true, false, true, true, false, true, false, false]) (lv := [.int .i64 p0.Epoch, .int .i64 p0.Kind, .slice A96 ((([] : List Int) ++ (List.drop 0 (List.take (Int.toNat (mnI ((p0.Nums).length : Int) 66)) p0.Nums)))).length c97, .string t103, .agg #[.int .i64 p0.Epoch, .int .i64 p0.Kind, .slice A96 ((([] : List Int) ++ (List.drop 0 (List.take (Int.toNat (mnI ((p0.Nums).length : Int) 66)) p0.Nums)))).length c97, .string t103]]) (ks := [2, 3, 22, 24, 27, 30, 32]) (e' := [(2, .pointer (some ⟨bx9, 0, none⟩)), (3, .pointer (some ⟨bx14, 0, none⟩)), (22, .int .i64 p0.Epoch), (24, .int .i64 p0.Kind), (27, .slice A96 ((([] : List Int) ++ (List.drop 0 (List.take (Int.toNat (mnI ((p0.Nums).length : Int) 66)) p0.Nums)))).length c97), (30, .string t103), (32, .agg #[.int .i64 p0.Epoch, .int .i64 p0.Kind, .slice A96 ((([] : List Int) ++ (List.drop 0 (List.take (Int.toNat (mnI ((p0.Nums).length : Int) 66)) p0.Nums)))).length c97, .string t103])]) (by kernel_rfl) rfl rfl (by kernel_rfl) (np_then np_body) ⟨f5.now, trivial⟩ (fun W_ hS => ⟨(load1 tab rfl ((Bx.cell hS.1 0).trans rfl)), (load1 tab rfl ((Bx.cell hS.1 1).trans rfl)), (load1 tab rfl ((Bx.cell hS.1 2).trans rfl)), (load1 tab rfl ((Bx.cell hS.1 3).trans rfl)), (load_box tab rfl rfl hS.1 (k := 0) rfl rfl), trivial⟩) fun a hk => ?_
  refine xd_op hk (i := 4) (by kernel_rfl) rfl rfl ?_
  refine op_slice (o := o109) tab hk (vs := []) (cs := []) rfl rfl rfl rfl rfl rfl rfl rfl rfl 9 fun bx153 w150 o151 st152 f154 => ?_
  replace f10 := f10.st st152 (by decide)
  replace f15 := f15.st st152 (by decide)
  replace f5 := f5.st st152 (by decide)
  replace f98 := f98.st st152 (by decide)
  replace hs := hs.loc0 st152 (by decide)
  have f155 : Ft (Own (encInt .i64) 3 (.slice (some ⟨bx153, 0, none⟩) (([] : List Int)).length 0) ([] : List Int)) w150 o151 9 := f154.imp fun _ h_ => Own.of_box h_ rfl (by simp)
  have hk := hk.put 25 (.slice (some ⟨bx153, 0, none⟩) (([] : List Int)).length 0) rfl
  refine ⟨.inr ⟨f5.now, trivial⟩, ?_⟩
  refine xd_op hk (i := 7) (by kernel_rfl) rfl rfl ?_
  obtain ⟨q159, H⟩ := ifS H
  refine op_append (o := o151) (E := (encInt .i64)) (xs := ([] : List Int)) (ys := (([] : List Int) ++ (List.drop 0 (List.take (Int.toNat (mnI ((p0.Nums).length : Int) 66)) p0.Nums)))) tab hk rfl rfl rfl rfl rfl rfl rfl f155 (Own.rd f98.now) q159 fun A160 c161 w156 o157 st158 f162 hc163 => ?_
  replace f10 := f10.st st158 (by decide)
  replace f15 := f15.st st158 (by decide)
  replace f5 := f5.st st158 (by decide)
  replace f98 := f98.st st158 (by decide)
  replace hs := hs.loc0 st158 (by decide)
  have hk := hk.put 28 (.slice A160 ((([] : List Int) ++ (([] : List Int) ++ (List.drop 0 (List.take (Int.toNat (mnI ((p0.Nums).length : Int) 66)) p0.Nums))))).length c161) rfl
  refine ⟨.inr ⟨f5.now, trivial⟩, ?_⟩
  refine xd_take tab hk (k := 2) (is := [10]) (ls' := #[true, true, true, true, true, true, true, true, true, true, true, true, false, false]) (lv := []) (ks := [2, 3, 31, 32]) (e' := [(2, .pointer (some ⟨bx9, 0, none⟩)), (3, .pointer (some ⟨bx14, 0, none⟩)), (31, .agg #[.int .i64 p0.Epoch, .int .i64 p0.Kind, .slice A160 ((([] : List Int) ++ (([] : List Int) ++ (List.drop 0 (List.take (Int.toNat (mnI ((p0.Nums).length : Int) 66)) p0.Nums))))).length c161, .string t103]), (32, .agg #[.int .i64 p0.Epoch, .int .i64 p0.Kind, .slice A96 ((([] : List Int) ++ (List.drop 0 (List.take (Int.toNat (mnI ((p0.Nums).length : Int) 66)) p0.Nums)))).length c97, .string t103])]) (by kernel_rfl) rfl rfl (by kernel_rfl) (np_then np_body) ⟨f5.now, trivial⟩ (fun W_ hS => trivial) fun a hk => ?_
  refine xd_op hk (i := 12) (by kernel_rfl) rfl rfl ?_
  refine op_store tab hk (t := 26) (v := .agg #[.int .i64 p0.Epoch, .int .i64 p0.Kind, .slice A160 ((([] : List Int) ++ (([] : List Int) ++ (List.drop 0 (List.take (Int.toNat (mnI ((p0.Nums).length : Int) 66)) p0.Nums))))).length c161, .string t103]) (b := bx9) (k := 0) (cs' := [.int .i64 p0.Epoch, .int .i64 p0.Kind, .slice A160 ((([] : List Int) ++ (([] : List Int) ++ (List.drop 0 (List.take (Int.toNat (mnI ((p0.Nums).length : Int) 66)) p0.Nums))))).length c161, .string t103]) rfl rfl rfl rfl rfl rfl f10 rfl rfl fun w164 o165 st166 f10_ => ?_
  replace f15 := f15.st st166 (by decide)
  replace f162 := f162.st st166 (by decide)
  replace f5 := f5.st st166 (by decide)
  replace f98 := f98.st st166 (by decide)
  replace hs := hs.loc0 st166 (by decide)
  replace f10 := f10_
  refine ⟨.inr ⟨f5.now, trivial⟩, ?_⟩
  refine xd_op hk (i := 13) (by kernel_rfl) rfl rfl ?_
  refine op_store tab hk (t := 24) (v := .agg #[.int .i64 p0.Epoch, .int .i64 p0.Kind, .slice A96 ((([] : List Int) ++ (List.drop 0 (List.take (Int.toNat (mnI ((p0.Nums).length : Int) 66)) p0.Nums)))).length c97, .string t103]) (b := bx14) (k := 0) (cs' := [.int .i64 p0.Epoch, .int .i64 p0.Kind, .slice A96 ((([] : List Int) ++ (List.drop 0 (List.take (Int.toNat (mnI ((p0.Nums).length : Int) 66)) p0.Nums)))).length c97, .string t103]) rfl rfl rfl rfl rfl rfl f15 rfl rfl fun w167 o168 st169 f15_ => ?_
  replace f10 := f10.st st169 (by decide)
  replace f162 := f162.st st169 (by decide)
  replace f5 := f5.st st169 (by decide)
  replace f98 := f98.st st169 (by decide)
  replace hs := hs.loc0 st169 (by decide)
  replace f15 := f15_
  refine ⟨.inl (by kernel_rfl), ?_⟩
  refine xd_done (by kernel_rfl) ?_
  refine then_n ?_
  refine wpIn_ret ?_
  obtain rfl := Option.some.inj H
  exact x_retG hk (rs := [.cell 2 26, .cell 3 24]) (vs := [.agg #[.int .i64 p0.Epoch, .int .i64 p0.Kind, .slice A160 ((([] : List Int) ++ (([] : List Int) ++ (List.drop 0 (List.take (Int.toNat (mnI ((p0.Nums).length : Int) 66)) p0.Nums))))).length c161, .string t103], .agg #[.int .i64 p0.Epoch, .int .i64 p0.Kind, .slice A96 ((([] : List Int) ++ (List.drop 0 (List.take (Int.toNat (mnI ((p0.Nums).length : Int) 66)) p0.Nums)))).length c97, .string t103]]) rfl ⟨⟨_, rfl, load_box tab rfl rfl f10.now (k := 0) rfl rfl⟩, ⟨_, rfl, load_box tab rfl rfl f15.now (k := 0) rfl rfl⟩, trivial⟩ ⟨fun b_ => if b_ < w.heap.size then o b_ else (fun l_ => if l_ = 6 then R1 else if l_ = 9 then R0 else 0) (o168 b_), A160, c161, A96, c97, rfl, hs.close0 o (fun l_ => if l_ = 6 then R1 else if l_ = 9 then R0 else 0), hs.close_ft (o := o) (ρ := fun l_ => if l_ = 6 then R1 else if l_ = 9 then R0 else 0) f162 (by decide) rfl, hc163, hs.close_ft (o := o) (ρ := fun l_ => if l_ = 6 then R1 else if l_ = 9 then R0 else 0) f98 (by decide) rfl, hc99⟩

/-! tidewrack/tidewrackref01.Num -/
theorem tidewrackref01_Num_calls (K : Nat) (p0 : Int) (w : World) (o : Nat → Nat)   (r : ByteArray) (H : tidewrackref01_Num K p0 = some r) :
    Calls Tryd.prog 39 #[.int .i64 p0] w (Ret fun v_ w' => ∃ o' : Nat → Nat, v_ = .string r ∧ St [] w o w' o') := by
  refine x_enter (vs := [.int .i64 p0]) Tryd.func39 rfl rfl rfl fun a hk => ?_
  obtain ⟨o0, hs, h0⟩ := St.start w o
  clear h0
  rw [tidewrackref01_Num] at H
  refine x_seq ?_
  refine wpIn_region_lit ?_
  refine x_run tab hk (k := 1) (lv := []) (ks := [0]) (e' := [(0, .int .i64 p0)]) rfl trivial fun a hk => ?_
  refine wpListIn_nil ?_
  refine then_n ?_
  refine x_seq ?_
  refine wpIn_region_lit ?_
  refine x_run tab hk (k := 4) (lv := []) (ks := [0]) (e' := [(0, .int .i64 (mxI 0 (mnI p0 4611686018427387904)))]) rfl trivial fun a hk => ?_
  refine wpListIn_nil ?_
  refine then_n ?_
  refine x_seq ?_
  refine wpIn_region_lit ?_
  refine x_op hk rfl ?_
  refine op_slice (o := o0) tab hk (vs := []) (cs := []) rfl rfl rfl rfl rfl rfl rfl rfl rfl 1 fun bx4 w1 o2 st3 f5 => ?_
  replace hs := hs.loc0 st3 (by decide)
  have f6 : Ft (Own (encInt .u8) 5 (.slice (some ⟨bx4, 0, none⟩) (([] : List Int)).length 0) ([] : List Int)) w1 o2 1 := f5.imp fun _ h_ => Own.of_box h_ rfl (by simp)
  have hk := hk.put 7 (.slice (some ⟨bx4, 0, none⟩) (([] : List Int)).length 0) rfl
  refine x_run tab hk (k := 1) (lv := []) (ks := [0, 3]) (e' := [(0, .int .i64 (mxI 0 (mnI p0 4611686018427387904))), (3, .slice (some ⟨bx4, 0, none⟩) (([] : List Int)).length 0)]) rfl trivial fun a hk => ?_
  refine wpListIn_nil ?_
  refine then_n ?_
  refine x_mid (fun a_ w_ => ∃ o77 : Nat → Nat, ∃ x78 : Int, ∃ A79 : Option Addr, ∃ c80 : Nat, ∃ l81 : List Int, Kn 25 a_ [(0, .int .i64 x78), (3, .slice A79 (l81).length c80)] ∧ St [] w (fun _ => 0) w_ o77 ∧ Ft (Own (encInt .u8) 5 (.slice A79 (l81).length c80) l81) w_ o77 7 ∧ (l81).length ≤ c80 ∧ tidewrackref01_Num_j1 x78 l81 = some r) ?_ ?_
  rotate_left
  · rintro a w84 ⟨o77, x78, A79, c80, l81, hk, hs, f82, hc83, H⟩
    rw [tidewrackref01_Num_j1] at H
    refine x_seq ?_
    refine wpIn_region_lit ?_
    refine x_run tab hk (k := 3) (lv := []) (ks := [19, 21]) (e' := [(19, .slice A79 (l81).length c80), (21, .int .u8 (IntKind.wrap .u8 x78))]) rfl trivial fun a hk => ?_
    refine x_op hk rfl ?_
    refine op_slice (o := o77) tab hk (vs := [.int .u8 (IntKind.wrap .u8 x78)]) (cs := [.int .u8 (IntKind.wrap .u8 x78)]) rfl rfl rfl rfl rfl rfl rfl rfl rfl 8 fun bx88 w85 o86 st87 f89 => ?_
    replace f82 := f82.st st87 (by decide)
    replace hs := hs.loc0 st87 (by decide)
    have f90 : Ft (Own (encInt .u8) 5 (.slice (some ⟨bx88, 0, none⟩) (([(IntKind.wrap .u8 x78)] : List Int)).length 1) ([(IntKind.wrap .u8 x78)] : List Int)) w85 o86 8 := f89.imp fun _ h_ => Own.of_box h_ rfl (by simp)
    have hk := hk.put 22 (.slice (some ⟨bx88, 0, none⟩) (([(IntKind.wrap .u8 x78)] : List Int)).length 1) rfl
    refine x_op hk rfl ?_
    obtain ⟨q94, H⟩ := ifS H
    refine op_append (o := o86) (E := (encInt .u8)) (xs := l81) (ys := ([(IntKind.wrap .u8 x78)] : List Int)) tab hk rfl rfl rfl rfl rfl rfl rfl f82 (Own.rd f90.now) q94 fun A95 c96 w91 o92 st93 f97 hc98 => ?_
    replace f90 := f90.st st93 (by decide)
    replace hs := hs.loc0 st93 (by decide)
    have hk := hk.put 23 (.slice A95 ((l81 ++ ([(IntKind.wrap .u8 x78)] : List Int))).length c96) rfl
    refine x_run tab hk (k := 2) (lv := [.string (strOfNums (l81 ++ ([(IntKind.wrap .u8 x78)] : List Int)))]) (ks := [2]) (e' := [(2, .string (strOfNums (l81 ++ ([(IntKind.wrap .u8 x78)] : List Int))))]) rfl ⟨(ask_str tab rfl rfl rfl rfl (Own.rd f97.now) (Own.plain f97.now _ _ _ rfl)), trivial⟩ fun a hk => ?_
    refine wpListIn_nil ?_
    refine then_n ?_
    refine wpIn_ret ?_
    obtain rfl := Option.some.inj H
    exact x_retG hk (rs := [.tmp 2]) (vs := [.string (strOfNums (l81 ++ ([(IntKind.wrap .u8 x78)] : List Int)))]) rfl ⟨rfl, trivial⟩ ⟨fun b_ => if b_ < w.heap.size then o b_ else (fun _ => 0) (o92 b_), rfl, hs.close0 o (fun _ => 0)⟩
  refine wpIn_block ?_
  refine x_loop (fun j_ a_ w_ => ∃ o117 : Nat → Nat, ∃ x118 : Int, ∃ A119 : Option Addr, ∃ c120 : Nat, ∃ l121 : List Int, Kn 25 a_ [(0, .int .i64 x118), (3, .slice A119 (l121).length c120)] ∧ St [] w (fun _ => 0) w_ o117 ∧ Ft (Own (encInt .u8) 5 (.slice A119 (l121).length c120) l121) w_ o117 11 ∧ (l121).length ≤ c120 ∧ tidewrackref01_Num_l2 j_ x118 l121 = some r) (k := K) ⟨(fun b_ => (fun l_ => if l_ = 1 then 11 else l_) (o2 b_)), (mxI 0 (mnI p0 4611686018427387904)), (some ⟨bx4, 0, none⟩), 0, ([] : List Int), (by exact Kn.pick (ks := [0, 3]) hk rfl), (hs.relab0 (fun l_ => if l_ = 1 then 11 else l_) rfl), (f6.relab (fun l_ => if l_ = 1 then 11 else l_) rfl), (Nat.le_refl _), H⟩ (by rintro _ _ ⟨_, _, _, _, _, _, _, _, _, H_⟩; exact absurd (show (none : Option ByteArray) = some r from H_) (by simp)) ?_
  rintro k140 a w139 ⟨o117, x118, A119, c120, l121, hk, hs, f122, hc123, H⟩
  rw [tidewrackref01_Num_l2] at H
  obtain ⟨lp141, hlp142⟩ : ∃ lp_, lp_ = tidewrackref01_Num_l2 k140 := ⟨_, rfl⟩
  rw [← hlp142] at H
  refine x_seq ?_
  refine x_seq ?_
  refine wpIn_region_lit ?_
  refine x_run tab hk (k := 2) (lv := []) (ks := [0, 3, 9]) (e' := [(0, .int .i64 x118), (3, .slice A119 (l121).length c120), (9, .bool (decide (x118 ≥ (128 : Int))))]) rfl trivial fun a hk => ?_
  refine wpListIn_nil ?_
  refine then_n ?_
  cases b143 : (decide (x118 ≥ (128 : Int)))
  · rw [b143] at hk H
    replace H := bifF H
    refine x_if hk (b := false) rfl ?_
    refine (show Code.wpIn _ _ _ _ _ _ _ from ?_)
    refine wpIn_exit ?_
    refine then_x ?_
    refine then_x ?_
    refine blk_x ?_
    refine then_n ?_
    exact ⟨(fun b_ => (fun l_ => if l_ = 11 then 7 else l_) (o117 b_)), x118, A119, c120, l121, (by exact Kn.pick (ks := [0, 3]) hk rfl), (hs.relab0 (fun l_ => if l_ = 11 then 7 else l_) rfl), (f122.relab (fun l_ => if l_ = 11 then 7 else l_) rfl), hc123, H⟩
  · rw [b143] at hk H
    replace H := bifT H
    refine x_if hk (b := true) rfl ?_
    refine (show Code.wpIn _ _ _ _ _ _ _ from ?_)
    refine wpIn_skip ?_
    refine then_n ?_
    refine wpIn_block ?_
    refine x_seq ?_
    refine wpIn_region_lit ?_
    refine x_run tab hk (k := 5) (lv := []) (ks := [0, 10, 14]) (e' := [(0, .int .i64 x118), (10, .slice A119 (l121).length c120), (14, .int .u8 (IntKind.wrap .u8 (IntKind.wrap .i64 (128 + (Int.tmod x118 128)))))]) rfl ⟨(show (128 : Int) ≠ 0 from by decide), trivial⟩ fun a hk => ?_
    refine x_op hk rfl ?_
    refine op_slice (o := o117) tab hk (vs := [.int .u8 (IntKind.wrap .u8 (IntKind.wrap .i64 (128 + (Int.tmod x118 128))))]) (cs := [.int .u8 (IntKind.wrap .u8 (IntKind.wrap .i64 (128 + (Int.tmod x118 128))))]) rfl rfl rfl rfl rfl rfl rfl rfl rfl 13 fun bx147 w144 o145 st146 f148 => ?_
    replace f122 := f122.st st146 (by decide)
    replace hs := hs.loc0 st146 (by decide)
    have f149 : Ft (Own (encInt .u8) 5 (.slice (some ⟨bx147, 0, none⟩) (([(IntKind.wrap .u8 (IntKind.wrap .i64 (128 + (Int.tmod x118 128))))] : List Int)).length 1) ([(IntKind.wrap .u8 (IntKind.wrap .i64 (128 + (Int.tmod x118 128))))] : List Int)) w144 o145 13 := f148.imp fun _ h_ => Own.of_box h_ rfl (by simp)
    have hk := hk.put 15 (.slice (some ⟨bx147, 0, none⟩) (([(IntKind.wrap .u8 (IntKind.wrap .i64 (128 + (Int.tmod x118 128))))] : List Int)).length 1) rfl
    refine x_op hk rfl ?_
    obtain ⟨q153, H⟩ := ifS H
    refine op_append (o := o145) (E := (encInt .u8)) (xs := l121) (ys := ([(IntKind.wrap .u8 (IntKind.wrap .i64 (128 + (Int.tmod x118 128))))] : List Int)) tab hk rfl rfl rfl rfl rfl rfl rfl f122 (Own.rd f149.now) q153 fun A154 c155 w150 o151 st152 f156 hc157 => ?_
    replace f149 := f149.st st152 (by decide)
    replace hs := hs.loc0 st152 (by decide)
    have hk := hk.put 16 (.slice A154 ((l121 ++ ([(IntKind.wrap .u8 (IntKind.wrap .i64 (128 + (Int.tmod x118 128))))] : List Int))).length c155) rfl
    refine x_run tab hk (k := 1) (lv := []) (ks := [0, 3]) (e' := [(0, .int .i64 x118), (3, .slice A154 ((l121 ++ ([(IntKind.wrap .u8 (IntKind.wrap .i64 (128 + (Int.tmod x118 128))))] : List Int))).length c155)]) rfl trivial fun a hk => ?_
    refine wpListIn_nil ?_
    refine then_n ?_
    refine wpIn_region_lit ?_
    refine x_run tab hk (k := 3) (lv := []) (ks := [0, 3]) (e' := [(0, .int .i64 (IntKind.wrap .i64 (Int.tdiv x118 128))), (3, .slice A154 ((l121 ++ ([(IntKind.wrap .u8 (IntKind.wrap .i64 (128 + (Int.tmod x118 128))))] : List Int))).length c155)]) rfl ⟨(show (128 : Int) ≠ 0 from by decide), trivial⟩ fun a hk => ?_
    refine wpListIn_nil ?_
    refine blk_n ?_
    refine then_n ?_
    exact ⟨k140, Nat.le_refl _, o151, (IntKind.wrap .i64 (Int.tdiv x118 128)), A154, c155, (l121 ++ ([(IntKind.wrap .u8 (IntKind.wrap .i64 (128 + (Int.tmod x118 128))))] : List Int)), (by exact Kn.pick (ks := [0, 3]) hk rfl), hs, f156, hc157, (hlp142 ▸ H)⟩

/-! tidewrack/tidewrackref01.Text -/
theorem tidewrackref01_Text_calls (K : Nat) (p0 : ByteArray) (w : World) (o : Nat → Nat)   (r : ByteArray) (H : tidewrackref01_Text K p0 = some r) :
    Calls Tryd.prog 41 #[.string p0] w (Ret fun v_ w' => ∃ o' : Nat → Nat, v_ = .string r ∧ St [] w o w' o') := by
  refine x_enter (vs := [.string p0]) Tryd.func41 rfl rfl rfl fun a hk => ?_
  obtain ⟨o0, hs, h0⟩ := St.start w o
  clear h0
  rw [tidewrackref01_Text] at H
  refine x_seq ?_
  refine wpIn_region_lit ?_
  refine x_run tab hk (k := 1) (lv := []) (ks := [0]) (e' := [(0, .string p0)]) rfl trivial fun a hk => ?_
  refine wpListIn_nil ?_
  refine then_n ?_
  refine x_seq ?_
  refine wpIn_region_lit ?_
  refine x_run tab hk (k := 2) (lv := []) (ks := [0, 4]) (e' := [(0, .string p0), (4, .int .i64 ((p0).size : Int))]) rfl trivial fun a hk => ?_
  refine x_op hk rfl ?_
  obtain ⟨t4, hc5, H⟩ := bindS H
  refine op_call hk ent_39 (vs := [.int .i64 ((p0).size : Int)]) rfl (tidewrackref01_Num_calls K ((p0).size : Int) _ o0    _ hc5) ?_
  rintro _ w6 ⟨o7, rfl, st8⟩
  replace hs := hs.loc0 st8 (by decide)
  have hk := hk.put 5 (.string t4) rfl
  obtain ⟨q9, H⟩ := ifS H
  refine x_run tab hk (k := 3) (lv := []) (ks := [2]) (e' := [(2, .string (t4 ++ p0))]) rfl ⟨q9, trivial⟩ fun a hk => ?_
  refine wpListIn_nil ?_
  refine then_n ?_
  refine wpIn_ret ?_
  obtain rfl := Option.some.inj H
  exact x_retG hk (rs := [.tmp 2]) (vs := [.string (t4 ++ p0)]) rfl ⟨rfl, trivial⟩ ⟨fun b_ => if b_ < w.heap.size then o b_ else (fun _ => 0) (o7 b_), rfl, hs.close0 o (fun _ => 0)⟩

/-! tidewrack/tidewrackref02.Of -/
theorem tidewrackref02_Of_calls (K : Nat) (p0 : ByteArray) (w : World) (o : Nat → Nat)   (r : Int) (H : tidewrackref02_Of K p0 = some r) :
    Calls Tryd.prog 49 #[.string p0] w (Ret fun v_ w' => ∃ o' : Nat → Nat, v_ = .int .i64 r ∧ St [] w o w' o') := by
  refine x_enter (vs := [.string p0]) Tryd.func49 rfl rfl rfl fun a hk => ?_
  obtain ⟨o0, hs, h0⟩ := St.start w o
  clear h0
  rw [tidewrackref02_Of] at H
  refine x_seq ?_
  refine wpIn_region_lit ?_
  refine x_run tab hk (k := 1) (lv := []) (ks := [0]) (e' := [(0, .string p0)]) rfl trivial fun a hk => ?_
  refine wpListIn_nil ?_
  refine then_n ?_
  refine x_seq ?_
  refine wpIn_region_lit ?_
  refine x_run tab hk (k := 1) (lv := []) (ks := [0, 3]) (e' := [(0, .string p0), (3, .int .i64 4294967295)]) rfl trivial fun a hk => ?_
  refine wpListIn_nil ?_
  refine then_n ?_
  refine x_mid (fun a_ w_ => ∃ o149 : Nat → Nat, ∃ x150 : Int, Kn 32 a_ [(3, .int .i64 x150)] ∧ St [] w (fun _ => 0) w_ o149 ∧ tidewrackref02_Of_j1 x150 = some r) ?_ ?_
  rotate_left
  · rintro a w151 ⟨o149, x150, hk, hs, H⟩
    rw [tidewrackref02_Of_j1] at H
    refine x_seq ?_
    refine wpIn_region_lit ?_
    refine x_run tab hk (k := 3) (lv := []) (ks := [2]) (e' := [(2, .int .i64 (IntKind.wrap .i64 (4294967295 - x150)))]) rfl trivial fun a hk => ?_
    refine wpListIn_nil ?_
    refine then_n ?_
    refine wpIn_ret ?_
    obtain rfl := Option.some.inj H
    exact x_retG hk (rs := [.tmp 2]) (vs := [.int .i64 (IntKind.wrap .i64 (4294967295 - x150))]) rfl ⟨rfl, trivial⟩ ⟨fun b_ => if b_ < w.heap.size then o b_ else (fun _ => 0) (o149 b_), rfl, hs.close0 o (fun _ => 0)⟩
  refine x_seq ?_
  refine wpIn_region_lit ?_
  refine x_run tab hk (k := 1) (lv := []) (ks := [0, 3, 4]) (e' := [(0, .string p0), (3, .int .i64 4294967295), (4, .int .i64 0)]) rfl trivial fun a hk => ?_
  refine wpListIn_nil ?_
  refine then_n ?_
  refine wpIn_block ?_
  refine x_loop (fun j_ a_ w_ => ∃ o199 : Nat → Nat, ∃ x200 : Int, ∃ x201 : Int, Kn 32 a_ [(0, .string p0), (3, .int .i64 x200), (4, .int .i64 x201)] ∧ St [] w (fun _ => 0) w_ o199 ∧ tidewrackref02_Of_l2 K p0 j_ x200 x201 = some r) (k := K) ⟨o0, 4294967295, 0, (by exact Kn.pick (ks := [0, 3, 4]) hk rfl), hs, H⟩ (by rintro _ _ ⟨_, _, _, _, _, H_⟩; exact absurd (show (none : Option Int) = some r from H_) (by simp)) ?_
  rintro k247 a w246 ⟨o199, x200, x201, hk, hs, H⟩
  rw [tidewrackref02_Of_l2] at H
  obtain ⟨lp248, hlp249⟩ : ∃ lp_, lp_ = tidewrackref02_Of_l2 K p0 k247 := ⟨_, rfl⟩
  rw [← hlp249] at H
  refine x_seq ?_
  refine x_seq ?_
  refine wpIn_region_lit ?_
  refine x_run tab hk (k := 4) (lv := []) (ks := [0, 3, 4, 9]) (e' := [(0, .string p0), (3, .int .i64 x200), (4, .int .i64 x201), (9, .bool (decide (x201 < ((p0).size : Int))))]) rfl trivial fun a hk => ?_
  refine wpListIn_nil ?_
  refine then_n ?_
  cases b250 : (decide (x201 < ((p0).size : Int)))
  · rw [b250] at hk H
    replace H := bifF H
    refine x_if hk (b := false) rfl ?_
    refine (show Code.wpIn _ _ _ _ _ _ _ from ?_)
    refine wpIn_exit ?_
    refine then_x ?_
    refine then_x ?_
    refine blk_x ?_
    refine then_n ?_
    exact ⟨o199, x200, (by exact Kn.pick (ks := [3]) hk rfl), hs, H⟩
  · rw [b250] at hk H
    replace H := bifT H
    refine x_if hk (b := true) rfl ?_
    refine (show Code.wpIn _ _ _ _ _ _ _ from ?_)
    refine wpIn_skip ?_
    refine then_n ?_
    refine x_mid (fun a_ w_ => ∃ o274 : Nat → Nat, ∃ x275 : Int, Kn 32 a_ [(0, .string p0), (3, .int .i64 x275), (4, .int .i64 x201)] ∧ St [] w (fun _ => 0) w_ o274 ∧ tidewrackref02_Of_j3 x201 lp248 x275 = some r) ?_ ?_
    rotate_left
    · rintro a w276 ⟨o274, x275, hk, hs, H⟩
      rw [tidewrackref02_Of_j3] at H
      refine wpIn_region_lit ?_
      refine x_run tab hk (k := 3) (lv := []) (ks := [0, 3, 4]) (e' := [(0, .string p0), (3, .int .i64 x275), (4, .int .i64 (IntKind.wrap .i64 (x201 + 1)))]) rfl trivial fun a hk => ?_
      refine wpListIn_nil ?_
      refine then_n ?_
      exact ⟨k247, Nat.le_refl _, o274, x275, (IntKind.wrap .i64 (x201 + 1)), (by exact Kn.pick (ks := [0, 3, 4]) hk rfl), hs, (hlp249 ▸ H)⟩
    refine wpIn_block ?_
    refine x_seq ?_
    refine wpIn_region_lit ?_
    obtain ⟨q277, H⟩ := ifS H
    refine x_run tab hk (k := 7) (lv := []) (ks := [0, 3, 4]) (e' := [(0, .string p0), (3, .int .i64 (bits .xor .i64 x200 (IntKind.wrap .i64 (bt p0 x201)))), (4, .int .i64 x201)]) rfl ⟨q277, trivial⟩ fun a hk => ?_
    refine wpListIn_nil ?_
    refine then_n ?_
    refine x_seq ?_
    refine wpIn_region_lit ?_
    refine x_run tab hk (k := 1) (lv := []) (ks := [0, 3, 4, 5]) (e' := [(0, .string p0), (3, .int .i64 (bits .xor .i64 x200 (IntKind.wrap .i64 (bt p0 x201)))), (4, .int .i64 x201), (5, .int .i64 0)]) rfl trivial fun a hk => ?_
    refine wpListIn_nil ?_
    refine then_n ?_
    refine wpIn_block ?_
    refine x_loop (fun j_ a_ w_ => ∃ o283 : Nat → Nat, ∃ x284 : Int, ∃ x285 : Int, Kn 32 a_ [(0, .string p0), (3, .int .i64 x284), (4, .int .i64 x201), (5, .int .i64 x285)] ∧ St [] w (fun _ => 0) w_ o283 ∧ tidewrackref02_Of_l4 x201 lp248 j_ x284 x285 = some r) (k := K) ⟨o199, (bits .xor .i64 x200 (IntKind.wrap .i64 (bt p0 x201))), 0, (by exact Kn.pick (ks := [0, 3, 4, 5]) hk rfl), hs, H⟩ (by rintro _ _ ⟨_, _, _, _, _, H_⟩; exact absurd (show (none : Option Int) = some r from H_) (by simp)) ?_
    rintro k289 a w288 ⟨o283, x284, x285, hk, hs, H⟩
    rw [tidewrackref02_Of_l4] at H
    obtain ⟨lp290, hlp291⟩ : ∃ lp_, lp_ = tidewrackref02_Of_l4 x201 lp248 k289 := ⟨_, rfl⟩
    rw [← hlp291] at H
    refine x_seq ?_
    refine x_seq ?_
    refine wpIn_region_lit ?_
    refine x_run tab hk (k := 2) (lv := []) (ks := [0, 3, 4, 5, 19]) (e' := [(0, .string p0), (3, .int .i64 x284), (4, .int .i64 x201), (5, .int .i64 x285), (19, .bool (decide (x285 < (8 : Int))))]) rfl trivial fun a hk => ?_
    refine wpListIn_nil ?_
    refine then_n ?_
    cases b292 : (decide (x285 < (8 : Int)))
    · rw [b292] at hk H
      replace H := bifF H
      refine x_if hk (b := false) rfl ?_
      refine (show Code.wpIn _ _ _ _ _ _ _ from ?_)
      refine wpIn_exit ?_
      refine then_x ?_
      refine then_x ?_
      refine blk_x ?_
      refine blk_n ?_
      refine then_n ?_
      exact ⟨o283, x284, (by exact Kn.pick (ks := [0, 3, 4]) hk rfl), hs, H⟩
    · rw [b292] at hk H
      replace H := bifT H
      refine x_if hk (b := true) rfl ?_
      refine (show Code.wpIn _ _ _ _ _ _ _ from ?_)
      refine wpIn_skip ?_
      refine then_n ?_
      refine x_seq ?_
      refine wpIn_block ?_
      refine x_seq ?_
      refine wpIn_region_lit ?_
      refine x_run tab hk (k := 3) (lv := []) (ks := [0, 3, 4, 5, 24]) (e' := [(0, .string p0), (3, .int .i64 x284), (4, .int .i64 x201), (5, .int .i64 x285), (24, .bool ((Int.tmod x284 2) == (1 : Int)))]) rfl ⟨(show (2 : Int) ≠ 0 from by decide), trivial⟩ fun a hk => ?_
      refine wpListIn_nil ?_
      refine then_n ?_
      cases b293 : ((Int.tmod x284 2) == (1 : Int))
      · rw [b293] at hk H
        replace H := bifF H
        refine x_if hk (b := false) rfl ?_
        refine (show Code.wpIn _ _ _ _ _ _ _ from ?_)
        refine wpIn_region_lit ?_
        refine x_run tab hk (k := 3) (lv := []) (ks := [0, 3, 4, 5]) (e' := [(0, .string p0), (3, .int .i64 (IntKind.wrap .i64 (Int.tdiv x284 2))), (4, .int .i64 x201), (5, .int .i64 x285)]) rfl ⟨(show (2 : Int) ≠ 0 from by decide), trivial⟩ fun a hk => ?_
        refine wpListIn_nil ?_
        refine blk_n ?_
        refine then_n ?_
        refine wpIn_region_lit ?_
        refine x_run tab hk (k := 3) (lv := []) (ks := [0, 3, 4, 5]) (e' := [(0, .string p0), (3, .int .i64 (IntKind.wrap .i64 (Int.tdiv x284 2))), (4, .int .i64 x201), (5, .int .i64 (IntKind.wrap .i64 (x285 + 1)))]) rfl trivial fun a hk => ?_
        refine wpListIn_nil ?_
        refine then_n ?_
        exact ⟨k289, Nat.le_refl _, o283, (IntKind.wrap .i64 (Int.tdiv x284 2)), (IntKind.wrap .i64 (x285 + 1)), (by exact Kn.pick (ks := [0, 3, 4, 5]) hk rfl), hs, (hlp291 ▸ H)⟩
      · rw [b293] at hk H
        replace H := bifT H
        refine x_if hk (b := true) rfl ?_
        refine (show Code.wpIn _ _ _ _ _ _ _ from ?_)
        refine wpIn_region_lit ?_
        refine x_run tab hk (k := 4) (lv := []) (ks := [0, 3, 4, 5]) (e' := [(0, .string p0), (3, .int .i64 (bits .xor .i64 (IntKind.wrap .i64 (Int.tdiv x284 2)) 3988292384)), (4, .int .i64 x201), (5, .int .i64 x285)]) rfl ⟨(show (2 : Int) ≠ 0 from by decide), trivial⟩ fun a hk => ?_
        refine wpListIn_nil ?_
        refine blk_n ?_
        refine then_n ?_
        refine wpIn_region_lit ?_
        refine x_run tab hk (k := 3) (lv := []) (ks := [0, 3, 4, 5]) (e' := [(0, .string p0), (3, .int .i64 (bits .xor .i64 (IntKind.wrap .i64 (Int.tdiv x284 2)) 3988292384)), (4, .int .i64 x201), (5, .int .i64 (IntKind.wrap .i64 (x285 + 1)))]) rfl trivial fun a hk => ?_
        refine wpListIn_nil ?_
        refine then_n ?_
        exact ⟨k289, Nat.le_refl _, o283, (bits .xor .i64 (IntKind.wrap .i64 (Int.tdiv x284 2)) 3988292384), (IntKind.wrap .i64 (x285 + 1)), (by exact Kn.pick (ks := [0, 3, 4, 5]) hk rfl), hs, (hlp291 ▸ H)⟩

/-! tidewrack/tidewrackref02.Seal -/
theorem tidewrackref02_Seal_calls (K : Nat) (p0 : ByteArray) (w : World) (o : Nat → Nat)   (r : ByteArray) (H : tidewrackref02_Seal K p0 = some r) :
    Calls Tryd.prog 40 #[.string p0] w (Ret fun v_ w' => ∃ o' : Nat → Nat, v_ = .string r ∧ St [] w o w' o') := by
  refine x_enter (vs := [.string p0]) Tryd.func40 rfl rfl rfl fun a hk => ?_
  obtain ⟨o0, hs, h0⟩ := St.start w o
  clear h0
  rw [tidewrackref02_Seal] at H
  refine x_seq ?_
  refine wpIn_region_lit ?_
  refine x_run tab hk (k := 1) (lv := []) (ks := [0]) (e' := [(0, .string p0)]) rfl trivial fun a hk => ?_
  refine wpListIn_nil ?_
  refine then_n ?_
  refine x_seq ?_
  refine wpIn_region_lit ?_
  refine x_run tab hk (k := 1) (lv := []) (ks := [0, 4]) (e' := [(0, .string p0), (4, .string p0)]) rfl trivial fun a hk => ?_
  refine x_op hk rfl ?_
  obtain ⟨t4, hc5, H⟩ := bindS H
  refine op_call hk ent_49 (vs := [.string p0]) rfl (tidewrackref02_Of_calls K p0 _ o0    _ hc5) ?_
  rintro _ w6 ⟨o7, rfl, st8⟩
  replace hs := hs.loc0 st8 (by decide)
  have hk := hk.put 5 (.int .i64 t4) rfl
  refine x_run tab hk (k := 1) (lv := []) (ks := [0, 3]) (e' := [(0, .string p0), (3, .int .i64 t4)]) rfl trivial fun a hk => ?_
  refine wpListIn_nil ?_
  refine then_n ?_
  refine x_seq ?_
  refine wpIn_region_lit ?_
  refine x_run tab hk (k := 10) (lv := []) (ks := [3, 6, 9, 13, 15]) (e' := [(3, .int .i64 t4), (6, .string p0), (9, .int .u8 (IntKind.wrap .u8 (Int.tmod t4 256))), (13, .int .u8 (IntKind.wrap .u8 (Int.tmod (IntKind.wrap .i64 (Int.tdiv t4 256)) 256))), (15, .int .i64 (IntKind.wrap .i64 (Int.tdiv t4 65536)))]) rfl ⟨(show (256 : Int) ≠ 0 from by decide), (show (256 : Int) ≠ 0 from by decide), (show (256 : Int) ≠ 0 from by decide), (show (65536 : Int) ≠ 0 from by decide), trivial⟩ fun a hk => ?_
  refine x_run tab hk (k := 5) (lv := []) (ks := [6, 9, 13, 17, 20]) (e' := [(6, .string p0), (9, .int .u8 (IntKind.wrap .u8 (Int.tmod t4 256))), (13, .int .u8 (IntKind.wrap .u8 (Int.tmod (IntKind.wrap .i64 (Int.tdiv t4 256)) 256))), (17, .int .u8 (IntKind.wrap .u8 (Int.tmod (IntKind.wrap .i64 (Int.tdiv t4 65536)) 256))), (20, .int .u8 (IntKind.wrap .u8 (IntKind.wrap .i64 (Int.tdiv t4 16777216))))]) rfl ⟨(show (256 : Int) ≠ 0 from by decide), (show (16777216 : Int) ≠ 0 from by decide), trivial⟩ fun a hk => ?_
  refine x_op hk rfl ?_
  refine op_slice (o := o7) tab hk (vs := [.int .u8 (IntKind.wrap .u8 (Int.tmod t4 256)), .int .u8 (IntKind.wrap .u8 (Int.tmod (IntKind.wrap .i64 (Int.tdiv t4 256)) 256)), .int .u8 (IntKind.wrap .u8 (Int.tmod (IntKind.wrap .i64 (Int.tdiv t4 65536)) 256)), .int .u8 (IntKind.wrap .u8 (IntKind.wrap .i64 (Int.tdiv t4 16777216)))]) (cs := [.int .u8 (IntKind.wrap .u8 (Int.tmod t4 256)), .int .u8 (IntKind.wrap .u8 (Int.tmod (IntKind.wrap .i64 (Int.tdiv t4 256)) 256)), .int .u8 (IntKind.wrap .u8 (Int.tmod (IntKind.wrap .i64 (Int.tdiv t4 65536)) 256)), .int .u8 (IntKind.wrap .u8 (IntKind.wrap .i64 (Int.tdiv t4 16777216)))]) rfl rfl rfl rfl rfl rfl rfl rfl rfl 1 fun bx12 w9 o10 st11 f13 => ?_
  replace hs := hs.loc0 st11 (by decide)
  have f14 : Ft (Own (encInt .u8) 5 (.slice (some ⟨bx12, 0, none⟩) (([(IntKind.wrap .u8 (Int.tmod t4 256)), (IntKind.wrap .u8 (Int.tmod (IntKind.wrap .i64 (Int.tdiv t4 256)) 256)), (IntKind.wrap .u8 (Int.tmod (IntKind.wrap .i64 (Int.tdiv t4 65536)) 256)), (IntKind.wrap .u8 (IntKind.wrap .i64 (Int.tdiv t4 16777216)))] : List Int)).length 4) ([(IntKind.wrap .u8 (Int.tmod t4 256)), (IntKind.wrap .u8 (Int.tmod (IntKind.wrap .i64 (Int.tdiv t4 256)) 256)), (IntKind.wrap .u8 (Int.tmod (IntKind.wrap .i64 (Int.tdiv t4 65536)) 256)), (IntKind.wrap .u8 (IntKind.wrap .i64 (Int.tdiv t4 16777216)))] : List Int)) w9 o10 1 := f13.imp fun _ h_ => Own.of_box h_ rfl (by simp)
  have hk := hk.put 21 (.slice (some ⟨bx12, 0, none⟩) (([(IntKind.wrap .u8 (Int.tmod t4 256)), (IntKind.wrap .u8 (Int.tmod (IntKind.wrap .i64 (Int.tdiv t4 256)) 256)), (IntKind.wrap .u8 (Int.tmod (IntKind.wrap .i64 (Int.tdiv t4 65536)) 256)), (IntKind.wrap .u8 (IntKind.wrap .i64 (Int.tdiv t4 16777216)))] : List Int)).length 4) rfl
  obtain ⟨q15, H⟩ := ifS H
  refine x_run tab hk (k := 3) (lv := [.string (strOfNums ([(IntKind.wrap .u8 (Int.tmod t4 256)), (IntKind.wrap .u8 (Int.tmod (IntKind.wrap .i64 (Int.tdiv t4 256)) 256)), (IntKind.wrap .u8 (Int.tmod (IntKind.wrap .i64 (Int.tdiv t4 65536)) 256)), (IntKind.wrap .u8 (IntKind.wrap .i64 (Int.tdiv t4 16777216)))] : List Int))]) (ks := [2]) (e' := [(2, .string (p0 ++ (strOfNums ([(IntKind.wrap .u8 (Int.tmod t4 256)), (IntKind.wrap .u8 (Int.tmod (IntKind.wrap .i64 (Int.tdiv t4 256)) 256)), (IntKind.wrap .u8 (Int.tmod (IntKind.wrap .i64 (Int.tdiv t4 65536)) 256)), (IntKind.wrap .u8 (IntKind.wrap .i64 (Int.tdiv t4 16777216)))] : List Int))))]) rfl ⟨(ask_str tab rfl rfl rfl rfl (Own.rd f14.now) (Own.plain f14.now _ _ _ rfl)), q15, trivial⟩ fun a hk => ?_
  refine wpListIn_nil ?_
  refine then_n ?_
  refine wpIn_ret ?_
  obtain rfl := Option.some.inj H
  exact x_retG hk (rs := [.tmp 2]) (vs := [.string (p0 ++ (strOfNums ([(IntKind.wrap .u8 (Int.tmod t4 256)), (IntKind.wrap .u8 (Int.tmod (IntKind.wrap .i64 (Int.tdiv t4 256)) 256)), (IntKind.wrap .u8 (Int.tmod (IntKind.wrap .i64 (Int.tdiv t4 65536)) 256)), (IntKind.wrap .u8 (IntKind.wrap .i64 (Int.tdiv t4 16777216)))] : List Int)))]) rfl ⟨rfl, trivial⟩ ⟨fun b_ => if b_ < w.heap.size then o b_ else (fun _ => 0) (o10 b_), rfl, hs.close0 o (fun _ => 0)⟩

/-! tidewrack/tidewrackref03.bytes -/
theorem tidewrackref03_bytes_calls (K : Nat) (Ap0_0 : Option Addr) (cp0_0 : Nat) (p0 : T23) (w : World) (o : Nat → Nat) (Lp0_0 : Nat) (hp0_0 : Ft (RdC (encInt .i64) Ap0_0 p0.Nums) w o Lp0_0) (hcp0_0 : (p0.Nums).length ≤ cp0_0)  (r : ByteArray) (H : tidewrackref03_bytes K p0 = some r) :
    Calls Tryd.prog 23 #[.agg #[.int .i64 p0.Epoch, .int .i64 p0.Kind, .slice Ap0_0 (p0.Nums).length cp0_0, .string p0.Data]] w (Ret fun v_ w' => ∃ o' : Nat → Nat, v_ = .string r ∧ St [] w o w' o') := by
  refine x_enter (vs := [.agg #[.int .i64 p0.Epoch, .int .i64 p0.Kind, .slice Ap0_0 (p0.Nums).length cp0_0, .string p0.Data]]) Tryd.func23 rfl rfl rfl fun a hk => ?_
  obtain ⟨o0, hs, h0⟩ := St.start w o
  have f900 := h0 _ _ hp0_0
  clear h0
  rw [tidewrackref03_bytes] at H
  refine x_seq ?_
  refine wpIn_region_lit ?_
  refine x_op hk rfl ?_
  refine op_box (o := o0) (t := 24) (v := .agg #[.int .i64 p0.Epoch, .int .i64 p0.Kind, .slice Ap0_0 (p0.Nums).length cp0_0, .string p0.Data]) (cs := [.int .i64 p0.Epoch, .int .i64 p0.Kind, .slice Ap0_0 (p0.Nums).length cp0_0, .string p0.Data]) hk rfl rfl 1 fun bx4 w1 o2 st3 f5 => ?_
  replace f900 := f900.st st3 (by decide)
  replace hs := hs.loc0 st3 (by decide)
  have hk := hk.put 1 (.pointer (some ⟨bx4, 0, none⟩)) rfl
  refine x_run tab hk (k := 1) (lv := []) (ks := [1]) (e' := [(1, .pointer (some ⟨bx4, 0, none⟩))]) rfl trivial fun a hk => ?_
  refine wpListIn_nil ?_
  refine then_n ?_
  refine x_seq ?_
  refine xd_begin (o := o2) (fun W_ => (Bx bx4 24 [.int .i64 p0.Epoch, .int .i64 p0.Kind, .slice Ap0_0 (p0.Nums).length cp0_0, .string p0.Data]) W_ ∧ True) mixed rfl rfl fun w58 st59 => ?_
  replace f5 := f5.st st59 (by decide)
  replace f900 := f900.st st59 (by decide)
  replace hs := hs.loc0 st59 (by decide)
  refine xd_take tab hk (k := 6) (is := [0, 1, 3, 4, 7, 8, 9]) (ls' := #[true, true, false, true, true, false, false, true, true, true, false, false, false]) (lv := [.int .i64 p0.Epoch, .int .i64 p0.Kind, .slice Ap0_0 (p0.Nums).length cp0_0]) (ks := [1, 7, 10, 15]) (e' := [(1, .pointer (some ⟨bx4, 0, none⟩)), (7, .int .i64 p0.Epoch), (10, .int .i64 p0.Kind), (15, .int .i64 ((p0.Nums).length : Int))]) (by kernel_rfl) rfl rfl (by kernel_rfl) (np_then np_body) ⟨f5.now, trivial⟩ (fun W_ hS => ⟨(load1 tab rfl ((Bx.cell hS.1 0).trans rfl)), (load1 tab rfl ((Bx.cell hS.1 1).trans rfl)), (load1 tab rfl ((Bx.cell hS.1 2).trans rfl)), trivial⟩) fun a hk => ?_
  refine xd_op hk (i := 2) (by kernel_rfl) rfl rfl ?_
  obtain ⟨t63, hc64, H⟩ := bindS H
  refine op_call hk ent_39 (vs := [.int .i64 p0.Epoch]) rfl (tidewrackref01_Num_calls K p0.Epoch _ o2    _ hc64) ?_
  rintro _ w65 ⟨o66, rfl, st67⟩
  replace f5 := f5.st st67 (by decide)
  replace f900 := f900.st st67 (by decide)
  replace hs := hs.loc0 st67 (by decide)
  have hk := hk.put 8 (.string t63) rfl
  refine ⟨.inr ⟨f5.now, trivial⟩, ?_⟩
  refine xd_op hk (i := 5) (by kernel_rfl) rfl rfl ?_
  obtain ⟨t71, hc72, H⟩ := bindS H
  refine op_call hk ent_39 (vs := [.int .i64 p0.Kind]) rfl (tidewrackref01_Num_calls K p0.Kind _ o66    _ hc72) ?_
  rintro _ w73 ⟨o74, rfl, st75⟩
  replace f5 := f5.st st75 (by decide)
  replace f900 := f900.st st75 (by decide)
  replace hs := hs.loc0 st75 (by decide)
  have hk := hk.put 11 (.string t71) rfl
  refine ⟨.inr ⟨f5.now, trivial⟩, ?_⟩
  obtain ⟨q76, H⟩ := ifS H
  refine xd_take tab hk (k := 3) (is := [6]) (ls' := #[true, true, true, true, true, true, true, true, true, true, false, false, false]) (lv := []) (ks := [1, 12, 15]) (e' := [(1, .pointer (some ⟨bx4, 0, none⟩)), (12, .string (t63 ++ t71)), (15, .int .i64 ((p0.Nums).length : Int))]) (by kernel_rfl) rfl rfl (by kernel_rfl) (np_then np_body) ⟨f5.now, trivial⟩ (fun W_ hS => ⟨q76, trivial⟩) fun a hk => ?_
  refine xd_op hk (i := 10) (by kernel_rfl) rfl rfl ?_
  obtain ⟨t80, hc81, H⟩ := bindS H
  refine op_call hk ent_39 (vs := [.int .i64 ((p0.Nums).length : Int)]) rfl (tidewrackref01_Num_calls K ((p0.Nums).length : Int) _ o74    _ hc81) ?_
  rintro _ w82 ⟨o83, rfl, st84⟩
  replace f5 := f5.st st84 (by decide)
  replace f900 := f900.st st84 (by decide)
  replace hs := hs.loc0 st84 (by decide)
  have hk := hk.put 16 (.string t80) rfl
  refine ⟨.inr ⟨f5.now, trivial⟩, ?_⟩
  obtain ⟨q85, H⟩ := ifS H
  refine xd_take tab hk (k := 0) (is := [11, 12]) (ls' := #[true, true, true, true, true, true, true, true, true, true, true, true, true]) (lv := []) (ks := [1, 3]) (e' := [(1, .pointer (some ⟨bx4, 0, none⟩)), (3, .string ((t63 ++ t71) ++ t80))]) (by kernel_rfl) rfl rfl (by kernel_rfl) (np_then np_body) ⟨f5.now, trivial⟩ (fun W_ hS => ⟨q85, trivial⟩) fun a hk => ?_
  refine xd_done (by kernel_rfl) ?_
  refine then_n ?_
  refine x_mid (fun a_ w_ => ∃ o138 : Nat → Nat, ∃ x139 : ByteArray, Kn 36 a_ [(1, .pointer (some ⟨bx4, 0, none⟩)), (3, .string x139)] ∧ St [] w (fun _ => 0) w_ o138 ∧ Ft (Bx bx4 24 [.int .i64 p0.Epoch, .int .i64 p0.Kind, .slice Ap0_0 (p0.Nums).length cp0_0, .string p0.Data]) w_ o138 4 ∧ Ft (RdC (encInt .i64) Ap0_0 p0.Nums) w_ o138 0 ∧ tidewrackref03_bytes_j1 K p0 x139 = some r) ?_ ?_
  rotate_left
  · rintro a w140 ⟨o138, x139, hk, hs, f5, f900, H⟩
    rw [tidewrackref03_bytes_j1] at H
    refine x_seq ?_
    refine wpIn_region_lit ?_
    refine x_run tab hk (k := 3) (lv := [.string p0.Data]) (ks := [30, 32]) (e' := [(30, .string x139), (32, .string p0.Data)]) rfl ⟨(load1 tab rfl ((Bx.cell f5.now 3).trans rfl)), trivial⟩ fun a hk => ?_
    refine x_op hk rfl ?_
    obtain ⟨t144, hc145, H⟩ := bindS H
    refine op_call hk ent_41 (vs := [.string p0.Data]) rfl (tidewrackref01_Text_calls K p0.Data _ o138    _ hc145) ?_
    rintro _ w146 ⟨o147, rfl, st148⟩
    replace hs := hs.loc0 st148 (by decide)
    have hk := hk.put 33 (.string t144) rfl
    obtain ⟨q149, H⟩ := ifS H
    refine x_run tab hk (k := 1) (lv := []) (ks := [34]) (e' := [(34, .string (x139 ++ t144))]) rfl ⟨q149, trivial⟩ fun a hk => ?_
    refine x_op hk rfl ?_
    obtain ⟨t153, hc154, H⟩ := bindS H
    refine op_call hk ent_40 (vs := [.string (x139 ++ t144)]) rfl (tidewrackref02_Seal_calls K (x139 ++ t144) _ o147    _ hc154) ?_
    rintro _ w155 ⟨o156, rfl, st157⟩
    replace hs := hs.loc0 st157 (by decide)
    have hk := hk.put 35 (.string t153) rfl
    refine x_run tab hk (k := 1) (lv := []) (ks := [2]) (e' := [(2, .string t153)]) rfl trivial fun a hk => ?_
    refine wpListIn_nil ?_
    refine then_n ?_
    refine wpIn_ret ?_
    obtain rfl := Option.some.inj H
    exact x_retG hk (rs := [.tmp 2]) (vs := [.string t153]) rfl ⟨rfl, trivial⟩ ⟨fun b_ => if b_ < w.heap.size then o b_ else (fun _ => 0) (o156 b_), rfl, hs.close0 o (fun _ => 0)⟩
  refine x_seq ?_
  refine wpIn_region_lit ?_
  refine x_run tab hk (k := 4) (lv := [.slice Ap0_0 (p0.Nums).length cp0_0]) (ks := [1, 3, 19, 20, 21]) (e' := [(1, .pointer (some ⟨bx4, 0, none⟩)), (3, .string ((t63 ++ t71) ++ t80)), (19, .slice Ap0_0 (p0.Nums).length cp0_0), (20, .int .i64 ((p0.Nums).length : Int)), (21, .int .i64 0)]) rfl ⟨(load1 tab rfl ((Bx.cell f5.now 2).trans rfl)), trivial⟩ fun a hk => ?_
  refine wpListIn_nil ?_
  refine then_n ?_
  refine wpIn_block ?_
  refine x_loop (fun j_ a_ w_ => ∃ o173 : Nat → Nat, ∃ x174 : ByteArray, ∃ x175 : Int, Kn 36 a_ [(1, .pointer (some ⟨bx4, 0, none⟩)), (3, .string x174), (19, .slice Ap0_0 (p0.Nums).length cp0_0), (20, .int .i64 ((p0.Nums).length : Int)), (21, .int .i64 x175)] ∧ St [] w (fun _ => 0) w_ o173 ∧ Ft (Bx bx4 24 [.int .i64 p0.Epoch, .int .i64 p0.Kind, .slice Ap0_0 (p0.Nums).length cp0_0, .string p0.Data]) w_ o173 6 ∧ Ft (RdC (encInt .i64) Ap0_0 p0.Nums) w_ o173 0 ∧ tidewrackref03_bytes_l2 K p0 j_ x174 x175 = some r) (k := K) ⟨(fun b_ => (fun l_ => if l_ = 1 then 6 else l_) (o83 b_)), ((t63 ++ t71) ++ t80), 0, (by exact Kn.pick (ks := [1, 3, 19, 20, 21]) hk rfl), (hs.relab0 (fun l_ => if l_ = 1 then 6 else l_) rfl), (f5.relab (fun l_ => if l_ = 1 then 6 else l_) rfl), (f900.relab (fun l_ => if l_ = 1 then 6 else l_) rfl), H⟩ (by rintro _ _ ⟨_, _, _, _, _, _, _, H_⟩; exact absurd (show (none : Option ByteArray) = some r from H_) (by simp)) ?_
  rintro k189 a w188 ⟨o173, x174, x175, hk, hs, f5, f900, H⟩
  rw [tidewrackref03_bytes_l2] at H
  obtain ⟨lp190, hlp191⟩ : ∃ lp_, lp_ = tidewrackref03_bytes_l2 K p0 k189 := ⟨_, rfl⟩
  rw [← hlp191] at H
  refine x_seq ?_
  refine wpIn_region_lit ?_
  refine x_run tab hk (k := 1) (lv := []) (ks := [1, 3, 19, 20, 21, 22]) (e' := [(1, .pointer (some ⟨bx4, 0, none⟩)), (3, .string x174), (19, .slice Ap0_0 (p0.Nums).length cp0_0), (20, .int .i64 ((p0.Nums).length : Int)), (21, .int .i64 x175), (22, .bool (decide (x175 < ((p0.Nums).length : Int))))]) rfl trivial fun a hk => ?_
  refine wpListIn_nil ?_
  refine then_n ?_
  refine x_seq ?_
  cases b192 : (decide (x175 < ((p0.Nums).length : Int)))
  · rw [b192] at hk H
    replace H := bifF H
    refine x_if hk (b := false) rfl ?_
    refine (show Code.wpIn _ _ _ _ _ _ _ from ?_)
    refine wpIn_exit ?_
    refine then_x ?_
    refine then_x ?_
    refine blk_x ?_
    refine then_n ?_
    exact ⟨(fun b_ => (fun l_ => if l_ = 6 then 4 else l_) (o173 b_)), x174, (by exact Kn.pick (ks := [1, 3]) hk rfl), (hs.relab0 (fun l_ => if l_ = 6 then 4 else l_) rfl), (f5.relab (fun l_ => if l_ = 6 then 4 else l_) rfl), (f900.relab (fun l_ => if l_ = 6 then 4 else l_) rfl), H⟩
  · rw [b192] at hk H
    replace H := bifT H
    refine x_if hk (b := true) rfl ?_
    refine (show Code.wpIn _ _ _ _ _ _ _ from ?_)
    refine wpIn_skip ?_
    refine then_n ?_
    refine x_seq ?_
    refine wpIn_block ?_
    refine x_seq ?_
    refine wpIn_region_lit ?_
    obtain ⟨q193, H⟩ := ifS H
    obtain ⟨ad194, hAad194⟩ := RdC.addr f900.now q193
    have hk_C := hk
    have f5_C := f5
    have f900_C := f900
    subst hAad194
    have hk := hk_C
    clear hk_C
    have f5 := f5_C
    clear f5_C
    have f900 := f900_C
    clear f900_C
    refine x_run tab hk (k := 3) (lv := [.int .i64 (rdD 0 p0.Nums x175)]) (ks := [1, 3, 5, 19, 20, 21]) (e' := [(1, .pointer (some ⟨bx4, 0, none⟩)), (3, .string x174), (5, .int .i64 (rdD 0 p0.Nums x175)), (19, .slice (some ad194) (p0.Nums).length cp0_0), (20, .int .i64 ((p0.Nums).length : Int)), (21, .int .i64 x175)]) rfl ⟨q193, (load1 tab rfl (RdC.at0 (E := (encInt .i64)) (d := 0) (i := x175) f900.now q193 rfl)), trivial⟩ fun a hk => ?_
    refine wpListIn_nil ?_
    refine then_n ?_
    refine wpIn_region_lit ?_
    refine x_run tab hk (k := 2) (lv := []) (ks := [1, 19, 20, 21, 25, 26]) (e' := [(1, .pointer (some ⟨bx4, 0, none⟩)), (19, .slice (some ad194) (p0.Nums).length cp0_0), (20, .int .i64 ((p0.Nums).length : Int)), (21, .int .i64 x175), (25, .string x174), (26, .int .i64 (rdD 0 p0.Nums x175))]) rfl trivial fun a hk => ?_
    refine x_op hk rfl ?_
    obtain ⟨t198, hc199, H⟩ := bindS H
    refine op_call hk ent_39 (vs := [.int .i64 (rdD 0 p0.Nums x175)]) rfl (tidewrackref01_Num_calls K (rdD 0 p0.Nums x175) _ o173    _ hc199) ?_
    rintro _ w200 ⟨o201, rfl, st202⟩
    replace f5 := f5.st st202 (by decide)
    replace f900 := f900.st st202 (by decide)
    replace hs := hs.loc0 st202 (by decide)
    have hk := hk.put 27 (.string t198) rfl
    obtain ⟨q203, H⟩ := ifS H
    refine x_run tab hk (k := 2) (lv := []) (ks := [1, 3, 19, 20, 21]) (e' := [(1, .pointer (some ⟨bx4, 0, none⟩)), (3, .string (x174 ++ t198)), (19, .slice (some ad194) (p0.Nums).length cp0_0), (20, .int .i64 ((p0.Nums).length : Int)), (21, .int .i64 x175)]) rfl ⟨q203, trivial⟩ fun a hk => ?_
    refine wpListIn_nil ?_
    refine blk_n ?_
    refine then_n ?_
    refine wpIn_region_lit ?_
    refine x_run tab hk (k := 2) (lv := []) (ks := [1, 3, 19, 20, 21]) (e' := [(1, .pointer (some ⟨bx4, 0, none⟩)), (3, .string (x174 ++ t198)), (19, .slice (some ad194) (p0.Nums).length cp0_0), (20, .int .i64 ((p0.Nums).length : Int)), (21, .int .i64 (IntKind.wrap .i64 (x175 + 1)))]) rfl trivial fun a hk => ?_
    refine wpListIn_nil ?_
    refine then_n ?_
    exact ⟨k189, Nat.le_refl _, o201, (x174 ++ t198), (IntKind.wrap .i64 (x175 + 1)), (by exact Kn.pick (ks := [1, 3, 19, 20, 21]) hk rfl), hs, f5, f900, (hlp191 ▸ H)⟩

/-! tidewrack/tidewrackref03.Check -/
theorem tidewrackref03_Check_calls (K : Nat) (Ap0_0 : Option Addr) (cp0_0 : Nat) (p0 : T23) (w : World) (o : Nat → Nat) (Lp0_0 : Nat) (hp0_0 : Ft (RdC (encInt .i64) Ap0_0 p0.Nums) w o Lp0_0) (hcp0_0 : (p0.Nums).length ≤ cp0_0)  (r : Int) (H : tidewrackref03_Check K p0 = some r) :
    Calls Tryd.prog 12 #[.agg #[.int .i64 p0.Epoch, .int .i64 p0.Kind, .slice Ap0_0 (p0.Nums).length cp0_0, .string p0.Data]] w (Ret fun v_ w' => ∃ o' : Nat → Nat, v_ = .int .i64 r ∧ St [] w o w' o') := by
  refine x_enter (vs := [.agg #[.int .i64 p0.Epoch, .int .i64 p0.Kind, .slice Ap0_0 (p0.Nums).length cp0_0, .string p0.Data]]) Tryd.func12 rfl rfl rfl fun a hk => ?_
  obtain ⟨o0, hs, h0⟩ := St.start w o
  have f900 := h0 _ _ hp0_0
  clear h0
  rw [tidewrackref03_Check] at H
  refine x_seq ?_
  refine wpIn_region_lit ?_
  refine x_op hk rfl ?_
  refine op_box (o := o0) (t := 24) (v := .agg #[.int .i64 p0.Epoch, .int .i64 p0.Kind, .slice Ap0_0 (p0.Nums).length cp0_0, .string p0.Data]) (cs := [.int .i64 p0.Epoch, .int .i64 p0.Kind, .slice Ap0_0 (p0.Nums).length cp0_0, .string p0.Data]) hk rfl rfl 1 fun bx4 w1 o2 st3 f5 => ?_
  replace f900 := f900.st st3 (by decide)
  replace hs := hs.loc0 st3 (by decide)
  have hk := hk.put 1 (.pointer (some ⟨bx4, 0, none⟩)) rfl
  refine x_run tab hk (k := 1) (lv := []) (ks := [1]) (e' := [(1, .pointer (some ⟨bx4, 0, none⟩))]) rfl trivial fun a hk => ?_
  refine wpListIn_nil ?_
  refine then_n ?_
  refine x_mid (fun a_ w_ => ∃ o14 : Nat → Nat, Kn 47 a_ [(1, .pointer (some ⟨bx4, 0, none⟩))] ∧ St [] w (fun _ => 0) w_ o14 ∧ Ft (Bx bx4 24 [.int .i64 p0.Epoch, .int .i64 p0.Kind, .slice Ap0_0 (p0.Nums).length cp0_0, .string p0.Data]) w_ o14 2 ∧ Ft (RdC (encInt .i64) Ap0_0 p0.Nums) w_ o14 0 ∧ tidewrackref03_Check_j1 K p0 = some r) ?_ ?_
  rotate_left
  · rintro a w15 ⟨o14, hk, hs, f5, f900, H⟩
    rw [tidewrackref03_Check_j1] at H
    refine x_mid (fun a_ w_ => ∃ o43 : Nat → Nat, Kn 47 a_ [(1, .pointer (some ⟨bx4, 0, none⟩))] ∧ St [] w (fun _ => 0) w_ o43 ∧ Ft (Bx bx4 24 [.int .i64 p0.Epoch, .int .i64 p0.Kind, .slice Ap0_0 (p0.Nums).length cp0_0, .string p0.Data]) w_ o43 5 ∧ Ft (RdC (encInt .i64) Ap0_0 p0.Nums) w_ o43 0 ∧ tidewrackref03_Check_j2 K p0 = some r) ?_ ?_
    rotate_left
    · rintro a w44 ⟨o43, hk, hs, f5, f900, H⟩
      rw [tidewrackref03_Check_j2] at H
      refine x_seq ?_
      refine x_seq ?_
      refine wpIn_region_lit ?_
      refine x_run tab hk (k := 1) (lv := [.agg #[.int .i64 p0.Epoch, .int .i64 p0.Kind, .slice Ap0_0 (p0.Nums).length cp0_0, .string p0.Data]]) (ks := [43]) (e' := [(43, .agg #[.int .i64 p0.Epoch, .int .i64 p0.Kind, .slice Ap0_0 (p0.Nums).length cp0_0, .string p0.Data])]) rfl ⟨(load_box tab rfl rfl f5.now (k := 0) rfl rfl), trivial⟩ fun a hk => ?_
      refine x_op hk rfl ?_
      obtain ⟨t48, hc49, H⟩ := bindS H
      refine op_call hk ent_23 (vs := [.agg #[.int .i64 p0.Epoch, .int .i64 p0.Kind, .slice Ap0_0 (p0.Nums).length cp0_0, .string p0.Data]]) rfl (tidewrackref03_bytes_calls K Ap0_0 cp0_0 p0 _ o43 _ f900 hcp0_0   _ hc49) ?_
      rintro _ w50 ⟨o51, rfl, st52⟩
      replace f900 := f900.st st52 (by decide)
      replace hs := hs.loc0 st52 (by decide)
      have hk := hk.put 44 (.string t48) rfl
      refine x_run tab hk (k := 2) (lv := []) (ks := [46]) (e' := [(46, .bool (decide (((t48).size : Int) > (8192 : Int))))]) rfl trivial fun a hk => ?_
      refine wpListIn_nil ?_
      refine then_n ?_
      cases b53 : (decide (((t48).size : Int) > (8192 : Int)))
      · rw [b53] at hk H
        replace H := bifF H
        refine x_if hk (b := false) rfl ?_
        refine (show Code.wpIn _ _ _ _ _ _ _ from ?_)
        refine wpIn_skip ?_
        refine then_n ?_
        refine x_seq ?_
        refine wpIn_region_lit ?_
        refine x_run tab hk (k := 1) (lv := []) (ks := [2]) (e' := [(2, .int .i64 0)]) rfl trivial fun a hk => ?_
        refine wpListIn_nil ?_
        refine then_n ?_
        refine wpIn_ret ?_
        obtain rfl := Option.some.inj H
        exact x_retG hk (rs := [.tmp 2]) (vs := [.int .i64 0]) rfl ⟨rfl, trivial⟩ ⟨fun b_ => if b_ < w.heap.size then o b_ else (fun _ => 0) (o51 b_), rfl, hs.close0 o (fun _ => 0)⟩
      · rw [b53] at hk H
        replace H := bifT H
        refine x_if hk (b := true) rfl ?_
        refine (show Code.wpIn _ _ _ _ _ _ _ from ?_)
        refine x_seq ?_
        refine wpIn_region_lit ?_
        refine x_run tab hk (k := 1) (lv := []) (ks := [2]) (e' := [(2, .int .i64 3)]) rfl trivial fun a hk => ?_
        refine wpListIn_nil ?_
        refine then_n ?_
        refine wpIn_ret ?_
        refine then_r ?_
        obtain rfl := Option.some.inj H
        exact x_retG hk (rs := [.tmp 2]) (vs := [.int .i64 3]) rfl ⟨rfl, trivial⟩ ⟨fun b_ => if b_ < w.heap.size then o b_ else (fun _ => 0) (o51 b_), rfl, hs.close0 o (fun _ => 0)⟩
    refine x_seq ?_
    refine wpIn_region_lit ?_
    refine x_run tab hk (k := 4) (lv := [.slice Ap0_0 (p0.Nums).length cp0_0]) (ks := [1, 30, 31, 32]) (e' := [(1, .pointer (some ⟨bx4, 0, none⟩)), (30, .slice Ap0_0 (p0.Nums).length cp0_0), (31, .int .i64 ((p0.Nums).length : Int)), (32, .int .i64 0)]) rfl ⟨(load1 tab rfl ((Bx.cell f5.now 2).trans rfl)), trivial⟩ fun a hk => ?_
    refine wpListIn_nil ?_
    refine then_n ?_
    refine wpIn_block ?_
    refine x_loop (fun j_ a_ w_ => ∃ o62 : Nat → Nat, ∃ x63 : Int, Kn 47 a_ [(1, .pointer (some ⟨bx4, 0, none⟩)), (30, .slice Ap0_0 (p0.Nums).length cp0_0), (31, .int .i64 ((p0.Nums).length : Int)), (32, .int .i64 x63)] ∧ St [] w (fun _ => 0) w_ o62 ∧ Ft (Bx bx4 24 [.int .i64 p0.Epoch, .int .i64 p0.Kind, .slice Ap0_0 (p0.Nums).length cp0_0, .string p0.Data]) w_ o62 7 ∧ Ft (RdC (encInt .i64) Ap0_0 p0.Nums) w_ o62 0 ∧ tidewrackref03_Check_l3 K p0 j_ x63 = some r) (k := K) ⟨(fun b_ => (fun l_ => if l_ = 2 then 7 else l_) (o14 b_)), 0, (by exact Kn.pick (ks := [1, 30, 31, 32]) hk rfl), (hs.relab0 (fun l_ => if l_ = 2 then 7 else l_) rfl), (f5.relab (fun l_ => if l_ = 2 then 7 else l_) rfl), (f900.relab (fun l_ => if l_ = 2 then 7 else l_) rfl), H⟩ (by rintro _ _ ⟨_, _, _, _, _, _, H_⟩; exact absurd (show (none : Option Int) = some r from H_) (by simp)) ?_
    rintro k70 a w69 ⟨o62, x63, hk, hs, f5, f900, H⟩
    rw [tidewrackref03_Check_l3] at H
    obtain ⟨lp71, hlp72⟩ : ∃ lp_, lp_ = tidewrackref03_Check_l3 K p0 k70 := ⟨_, rfl⟩
    rw [← hlp72] at H
    refine x_seq ?_
    refine wpIn_region_lit ?_
    refine x_run tab hk (k := 1) (lv := []) (ks := [1, 30, 31, 32, 33]) (e' := [(1, .pointer (some ⟨bx4, 0, none⟩)), (30, .slice Ap0_0 (p0.Nums).length cp0_0), (31, .int .i64 ((p0.Nums).length : Int)), (32, .int .i64 x63), (33, .bool (decide (x63 < ((p0.Nums).length : Int))))]) rfl trivial fun a hk => ?_
    refine wpListIn_nil ?_
    refine then_n ?_
    refine x_seq ?_
    cases b73 : (decide (x63 < ((p0.Nums).length : Int)))
    · rw [b73] at hk H
      replace H := bifF H
      refine x_if hk (b := false) rfl ?_
      refine (show Code.wpIn _ _ _ _ _ _ _ from ?_)
      refine wpIn_exit ?_
      refine then_x ?_
      refine then_x ?_
      refine blk_x ?_
      refine then_n ?_
      exact ⟨(fun b_ => (fun l_ => if l_ = 7 then 5 else l_) (o62 b_)), (by exact Kn.pick (ks := [1]) hk rfl), (hs.relab0 (fun l_ => if l_ = 7 then 5 else l_) rfl), (f5.relab (fun l_ => if l_ = 7 then 5 else l_) rfl), (f900.relab (fun l_ => if l_ = 7 then 5 else l_) rfl), H⟩
    · rw [b73] at hk H
      replace H := bifT H
      refine x_if hk (b := true) rfl ?_
      refine (show Code.wpIn _ _ _ _ _ _ _ from ?_)
      refine wpIn_skip ?_
      refine then_n ?_
      refine x_seq ?_
      refine wpIn_block ?_
      refine x_seq ?_
      refine wpIn_region_lit ?_
      obtain ⟨q74, H⟩ := ifS H
      obtain ⟨ad75, hAad75⟩ := RdC.addr f900.now q74
      have hk_C := hk
      have f5_C := f5
      have f900_C := f900
      subst hAad75
      have hk := hk_C
      clear hk_C
      have f5 := f5_C
      clear f5_C
      have f900 := f900_C
      clear f900_C
      refine x_run tab hk (k := 3) (lv := [.int .i64 (rdD 0 p0.Nums x63)]) (ks := [1, 4, 30, 31, 32]) (e' := [(1, .pointer (some ⟨bx4, 0, none⟩)), (4, .int .i64 (rdD 0 p0.Nums x63)), (30, .slice (some ad75) (p0.Nums).length cp0_0), (31, .int .i64 ((p0.Nums).length : Int)), (32, .int .i64 x63)]) rfl ⟨q74, (load1 tab rfl (RdC.at0 (E := (encInt .i64)) (d := 0) (i := x63) f900.now q74 rfl)), trivial⟩ fun a hk => ?_
      refine wpListIn_nil ?_
      refine then_n ?_
      refine x_seq ?_
      refine wpIn_region_lit ?_
      refine x_run tab hk (k := 3) (lv := []) (ks := [1, 4, 30, 31, 32, 38]) (e' := [(1, .pointer (some ⟨bx4, 0, none⟩)), (4, .int .i64 (rdD 0 p0.Nums x63)), (30, .slice (some ad75) (p0.Nums).length cp0_0), (31, .int .i64 ((p0.Nums).length : Int)), (32, .int .i64 x63), (38, .bool (decide ((rdD 0 p0.Nums x63) < (0 : Int))))]) rfl trivial fun a hk => ?_
      cases b76 : (decide ((rdD 0 p0.Nums x63) < (0 : Int)))
      · rw [b76] at hk H
        replace H := bifF H
        refine x_run tab hk (k := 3) (lv := []) (ks := [1, 30, 31, 32, 41]) (e' := [(1, .pointer (some ⟨bx4, 0, none⟩)), (30, .slice (some ad75) (p0.Nums).length cp0_0), (31, .int .i64 ((p0.Nums).length : Int)), (32, .int .i64 x63), (41, .bool (decide ((rdD 0 p0.Nums x63) > (4611686018427387904 : Int))))]) rfl trivial fun a hk => ?_
        refine wpListIn_nil ?_
        refine then_n ?_
        cases b77 : (decide ((rdD 0 p0.Nums x63) > (4611686018427387904 : Int)))
        · rw [b77] at hk H
          replace H := bifF H
          refine x_if hk (b := false) rfl ?_
          refine (show Code.wpIn _ _ _ _ _ _ _ from ?_)
          refine wpIn_skip ?_
          refine blk_n ?_
          refine then_n ?_
          refine wpIn_region_lit ?_
          refine x_run tab hk (k := 2) (lv := []) (ks := [1, 30, 31, 32]) (e' := [(1, .pointer (some ⟨bx4, 0, none⟩)), (30, .slice (some ad75) (p0.Nums).length cp0_0), (31, .int .i64 ((p0.Nums).length : Int)), (32, .int .i64 (IntKind.wrap .i64 (x63 + 1)))]) rfl trivial fun a hk => ?_
          refine wpListIn_nil ?_
          refine then_n ?_
          exact ⟨k70, Nat.le_refl _, o62, (IntKind.wrap .i64 (x63 + 1)), (by exact Kn.pick (ks := [1, 30, 31, 32]) hk rfl), hs, f5, f900, (hlp72 ▸ H)⟩
        · rw [b77] at hk H
          replace H := bifT H
          refine x_if hk (b := true) rfl ?_
          refine (show Code.wpIn _ _ _ _ _ _ _ from ?_)
          refine x_seq ?_
          refine wpIn_region_lit ?_
          refine x_run tab hk (k := 1) (lv := []) (ks := [2]) (e' := [(2, .int .i64 6)]) rfl trivial fun a hk => ?_
          refine wpListIn_nil ?_
          refine then_n ?_
          refine wpIn_ret ?_
          refine blk_r ?_
          refine then_r ?_
          refine then_r ?_
          refine blk_r ?_
          refine then_r ?_
          obtain rfl := Option.some.inj H
          exact x_retG hk (rs := [.tmp 2]) (vs := [.int .i64 6]) rfl ⟨rfl, trivial⟩ ⟨fun b_ => if b_ < w.heap.size then o b_ else (fun _ => 0) (o62 b_), rfl, hs.close0 o (fun _ => 0)⟩
      · rw [b76] at hk H
        replace H := bifT H
        refine x_run tab hk (k := 3) (lv := []) (ks := [1, 30, 31, 32, 41]) (e' := [(1, .pointer (some ⟨bx4, 0, none⟩)), (30, .slice (some ad75) (p0.Nums).length cp0_0), (31, .int .i64 ((p0.Nums).length : Int)), (32, .int .i64 x63), (41, .bool true)]) rfl trivial fun a hk => ?_
        refine wpListIn_nil ?_
        refine then_n ?_
        refine x_if hk (b := true) rfl ?_
        refine (show Code.wpIn _ _ _ _ _ _ _ from ?_)
        refine x_seq ?_
        refine wpIn_region_lit ?_
        refine x_run tab hk (k := 1) (lv := []) (ks := [2]) (e' := [(2, .int .i64 6)]) rfl trivial fun a hk => ?_
        refine wpListIn_nil ?_
        refine then_n ?_
        refine wpIn_ret ?_
        refine blk_r ?_
        refine then_r ?_
        refine then_r ?_
        refine blk_r ?_
        refine then_r ?_
        obtain rfl := Option.some.inj H
        exact x_retG hk (rs := [.tmp 2]) (vs := [.int .i64 6]) rfl ⟨rfl, trivial⟩ ⟨fun b_ => if b_ < w.heap.size then o b_ else (fun _ => 0) (o62 b_), rfl, hs.close0 o (fun _ => 0)⟩
  refine x_seq ?_
  refine wpIn_region_lit ?_
  refine x_run tab hk (k := 4) (lv := [.int .i64 p0.Epoch]) (ks := [1, 8]) (e' := [(1, .pointer (some ⟨bx4, 0, none⟩)), (8, .bool (decide (p0.Epoch < (1 : Int))))]) rfl ⟨(load1 tab rfl ((Bx.cell f5.now 0).trans rfl)), trivial⟩ fun a hk => ?_
  cases b78 : (decide (p0.Epoch < (1 : Int)))
  · rw [b78] at hk H
    replace H := bifF H
    refine x_run tab hk (k := 5) (lv := [.int .i64 p0.Epoch]) (ks := [1, 13]) (e' := [(1, .pointer (some ⟨bx4, 0, none⟩)), (13, .bool (decide (p0.Epoch > (4294967296 : Int))))]) rfl ⟨(load1 tab rfl ((Bx.cell f5.now 0).trans rfl)), trivial⟩ fun a hk => ?_
    cases b79 : (decide (p0.Epoch > (4294967296 : Int)))
    · rw [b79] at hk H
      replace H := bifF H
      refine x_run tab hk (k := 5) (lv := [.int .i64 p0.Kind]) (ks := [1, 18]) (e' := [(1, .pointer (some ⟨bx4, 0, none⟩)), (18, .bool (decide (p0.Kind < (1 : Int))))]) rfl ⟨(load1 tab rfl ((Bx.cell f5.now 1).trans rfl)), trivial⟩ fun a hk => ?_
      cases b80 : (decide (p0.Kind < (1 : Int)))
      · rw [b80] at hk H
        replace H := bifF H
        refine x_run tab hk (k := 5) (lv := [.int .i64 p0.Kind]) (ks := [1, 23]) (e' := [(1, .pointer (some ⟨bx4, 0, none⟩)), (23, .bool (decide (p0.Kind > (4 : Int))))]) rfl ⟨(load1 tab rfl ((Bx.cell f5.now 1).trans rfl)), trivial⟩ fun a hk => ?_
        cases b81 : (decide (p0.Kind > (4 : Int)))
        · rw [b81] at hk H
          replace H := bifF H
          refine x_run tab hk (k := 5) (lv := [.slice Ap0_0 (p0.Nums).length cp0_0]) (ks := [1, 28]) (e' := [(1, .pointer (some ⟨bx4, 0, none⟩)), (28, .bool (decide (((p0.Nums).length : Int) > (64 : Int))))]) rfl ⟨(load1 tab rfl ((Bx.cell f5.now 2).trans rfl)), trivial⟩ fun a hk => ?_
          refine wpListIn_nil ?_
          refine then_n ?_
          cases b82 : (decide (((p0.Nums).length : Int) > (64 : Int)))
          · rw [b82] at hk H
            replace H := bifF H
            refine x_if hk (b := false) rfl ?_
            refine (show Code.wpIn _ _ _ _ _ _ _ from ?_)
            refine wpIn_skip ?_
            refine then_n ?_
            exact ⟨(fun b_ => (fun l_ => if l_ = 1 then 2 else l_) (o2 b_)), (by exact Kn.pick (ks := [1]) hk rfl), (hs.relab0 (fun l_ => if l_ = 1 then 2 else l_) rfl), (f5.relab (fun l_ => if l_ = 1 then 2 else l_) rfl), (f900.relab (fun l_ => if l_ = 1 then 2 else l_) rfl), H⟩
          · rw [b82] at hk H
            replace H := bifT H
            refine x_if hk (b := true) rfl ?_
            refine (show Code.wpIn _ _ _ _ _ _ _ from ?_)
            refine x_seq ?_
            refine wpIn_region_lit ?_
            refine x_run tab hk (k := 1) (lv := []) (ks := [2]) (e' := [(2, .int .i64 6)]) rfl trivial fun a hk => ?_
            refine wpListIn_nil ?_
            refine then_n ?_
            refine wpIn_ret ?_
            refine then_r ?_
            obtain rfl := Option.some.inj H
            exact x_retG hk (rs := [.tmp 2]) (vs := [.int .i64 6]) rfl ⟨rfl, trivial⟩ ⟨fun b_ => if b_ < w.heap.size then o b_ else (fun _ => 0) (o2 b_), rfl, hs.close0 o (fun _ => 0)⟩
        · rw [b81] at hk H
          replace H := bifT H
          refine x_run tab hk (k := 5) (lv := []) (ks := [1, 28]) (e' := [(1, .pointer (some ⟨bx4, 0, none⟩)), (28, .bool true)]) rfl trivial fun a hk => ?_
          refine wpListIn_nil ?_
          refine then_n ?_
          refine x_if hk (b := true) rfl ?_
          refine (show Code.wpIn _ _ _ _ _ _ _ from ?_)
          refine x_seq ?_
          refine wpIn_region_lit ?_
          refine x_run tab hk (k := 1) (lv := []) (ks := [2]) (e' := [(2, .int .i64 6)]) rfl trivial fun a hk => ?_
          refine wpListIn_nil ?_
          refine then_n ?_
          refine wpIn_ret ?_
          refine then_r ?_
          obtain rfl := Option.some.inj H
          exact x_retG hk (rs := [.tmp 2]) (vs := [.int .i64 6]) rfl ⟨rfl, trivial⟩ ⟨fun b_ => if b_ < w.heap.size then o b_ else (fun _ => 0) (o2 b_), rfl, hs.close0 o (fun _ => 0)⟩
      · rw [b80] at hk H
        replace H := bifT H
        refine x_run tab hk (k := 10) (lv := []) (ks := [1, 28]) (e' := [(1, .pointer (some ⟨bx4, 0, none⟩)), (28, .bool true)]) rfl trivial fun a hk => ?_
        refine wpListIn_nil ?_
        refine then_n ?_
        refine x_if hk (b := true) rfl ?_
        refine (show Code.wpIn _ _ _ _ _ _ _ from ?_)
        refine x_seq ?_
        refine wpIn_region_lit ?_
        refine x_run tab hk (k := 1) (lv := []) (ks := [2]) (e' := [(2, .int .i64 6)]) rfl trivial fun a hk => ?_
        refine wpListIn_nil ?_
        refine then_n ?_
        refine wpIn_ret ?_
        refine then_r ?_
        obtain rfl := Option.some.inj H
        exact x_retG hk (rs := [.tmp 2]) (vs := [.int .i64 6]) rfl ⟨rfl, trivial⟩ ⟨fun b_ => if b_ < w.heap.size then o b_ else (fun _ => 0) (o2 b_), rfl, hs.close0 o (fun _ => 0)⟩
    · rw [b79] at hk H
      replace H := bifT H
      refine x_run tab hk (k := 14) (lv := []) (ks := [1, 23, 27]) (e' := [(1, .pointer (some ⟨bx4, 0, none⟩)), (23, .bool true), (27, undef)]) rfl trivial fun a hk => ?_
      refine x_run tab hk (k := 1) (lv := []) (ks := [1, 28]) (e' := [(1, .pointer (some ⟨bx4, 0, none⟩)), (28, .bool true)]) rfl trivial fun a hk => ?_
      refine wpListIn_nil ?_
      refine then_n ?_
      refine x_if hk (b := true) rfl ?_
      refine (show Code.wpIn _ _ _ _ _ _ _ from ?_)
      refine x_seq ?_
      refine wpIn_region_lit ?_
      refine x_run tab hk (k := 1) (lv := []) (ks := [2]) (e' := [(2, .int .i64 6)]) rfl trivial fun a hk => ?_
      refine wpListIn_nil ?_
      refine then_n ?_
      refine wpIn_ret ?_
      refine then_r ?_
      obtain rfl := Option.some.inj H
      exact x_retG hk (rs := [.tmp 2]) (vs := [.int .i64 6]) rfl ⟨rfl, trivial⟩ ⟨fun b_ => if b_ < w.heap.size then o b_ else (fun _ => 0) (o2 b_), rfl, hs.close0 o (fun _ => 0)⟩
  · rw [b78] at hk H
    replace H := bifT H
    refine x_run tab hk (k := 13) (lv := []) (ks := [1, 18, 21]) (e' := [(1, .pointer (some ⟨bx4, 0, none⟩)), (18, .bool true), (21, undef)]) rfl trivial fun a hk => ?_
    refine x_run tab hk (k := 7) (lv := []) (ks := [1, 28]) (e' := [(1, .pointer (some ⟨bx4, 0, none⟩)), (28, .bool true)]) rfl trivial fun a hk => ?_
    refine wpListIn_nil ?_
    refine then_n ?_
    refine x_if hk (b := true) rfl ?_
    refine (show Code.wpIn _ _ _ _ _ _ _ from ?_)
    refine x_seq ?_
    refine wpIn_region_lit ?_
    refine x_run tab hk (k := 1) (lv := []) (ks := [2]) (e' := [(2, .int .i64 6)]) rfl trivial fun a hk => ?_
    refine wpListIn_nil ?_
    refine then_n ?_
    refine wpIn_ret ?_
    refine then_r ?_
    obtain rfl := Option.some.inj H
    exact x_retG hk (rs := [.tmp 2]) (vs := [.int .i64 6]) rfl ⟨rfl, trivial⟩ ⟨fun b_ => if b_ < w.heap.size then o b_ else (fun _ => 0) (o2 b_), rfl, hs.close0 o (fun _ => 0)⟩

/-! tidewrack/tidewrackref03.Pack -/
theorem tidewrackref03_Pack_calls (K : Nat) (Ap0_0 : Option Addr) (cp0_0 : Nat) (p0 : T23) (w : World) (o : Nat → Nat) (Lp0_0 : Nat) (hp0_0 : Ft (RdC (encInt .i64) Ap0_0 p0.Nums) w o Lp0_0) (hcp0_0 : (p0.Nums).length ≤ cp0_0)  (r : ByteArray) (H : tidewrackref03_Pack K p0 = some r) :
    Calls Tryd.prog 13 #[.agg #[.int .i64 p0.Epoch, .int .i64 p0.Kind, .slice Ap0_0 (p0.Nums).length cp0_0, .string p0.Data]] w (Ret fun v_ w' => ∃ o' : Nat → Nat, v_ = .string r ∧ St [] w o w' o') := by
  refine x_enter (vs := [.agg #[.int .i64 p0.Epoch, .int .i64 p0.Kind, .slice Ap0_0 (p0.Nums).length cp0_0, .string p0.Data]]) Tryd.func13 rfl rfl rfl fun a hk => ?_
  obtain ⟨o0, hs, h0⟩ := St.start w o
  have f900 := h0 _ _ hp0_0
  clear h0
  rw [tidewrackref03_Pack] at H
  refine x_seq ?_
  refine wpIn_region_lit ?_
  refine x_op hk rfl ?_
  refine op_box (o := o0) (t := 24) (v := .agg #[.int .i64 p0.Epoch, .int .i64 p0.Kind, .slice Ap0_0 (p0.Nums).length cp0_0, .string p0.Data]) (cs := [.int .i64 p0.Epoch, .int .i64 p0.Kind, .slice Ap0_0 (p0.Nums).length cp0_0, .string p0.Data]) hk rfl rfl 1 fun bx4 w1 o2 st3 f5 => ?_
  replace f900 := f900.st st3 (by decide)
  replace hs := hs.loc0 st3 (by decide)
  have hk := hk.put 1 (.pointer (some ⟨bx4, 0, none⟩)) rfl
  refine x_run tab hk (k := 1) (lv := []) (ks := [1]) (e' := [(1, .pointer (some ⟨bx4, 0, none⟩))]) rfl trivial fun a hk => ?_
  refine wpListIn_nil ?_
  refine then_n ?_
  refine x_seq ?_
  refine x_seq ?_
  refine wpIn_region_lit ?_
  refine x_run tab hk (k := 1) (lv := [.agg #[.int .i64 p0.Epoch, .int .i64 p0.Kind, .slice Ap0_0 (p0.Nums).length cp0_0, .string p0.Data]]) (ks := [1, 3]) (e' := [(1, .pointer (some ⟨bx4, 0, none⟩)), (3, .agg #[.int .i64 p0.Epoch, .int .i64 p0.Kind, .slice Ap0_0 (p0.Nums).length cp0_0, .string p0.Data])]) rfl ⟨(load_box tab rfl rfl f5.now (k := 0) rfl rfl), trivial⟩ fun a hk => ?_
  refine x_op hk rfl ?_
  obtain ⟨t9, hc10, H⟩ := bindS H
  refine op_call hk ent_12 (vs := [.agg #[.int .i64 p0.Epoch, .int .i64 p0.Kind, .slice Ap0_0 (p0.Nums).length cp0_0, .string p0.Data]]) rfl (tidewrackref03_Check_calls K Ap0_0 cp0_0 p0 _ o2 _ f900 hcp0_0   _ hc10) ?_
  rintro _ w11 ⟨o12, rfl, st13⟩
  replace f5 := f5.st st13 (by decide)
  replace f900 := f900.st st13 (by decide)
  replace hs := hs.loc0 st13 (by decide)
  have hk := hk.put 4 (.int .i64 t9) rfl
  refine x_run tab hk (k := 1) (lv := []) (ks := [1, 5]) (e' := [(1, .pointer (some ⟨bx4, 0, none⟩)), (5, .bool (t9 != (0 : Int)))]) rfl trivial fun a hk => ?_
  refine wpListIn_nil ?_
  refine then_n ?_
  cases b14 : (t9 != (0 : Int))
  · rw [b14] at hk H
    replace H := bifF H
    refine x_if hk (b := false) rfl ?_
    refine (show Code.wpIn _ _ _ _ _ _ _ from ?_)
    refine wpIn_skip ?_
    refine then_n ?_
    refine x_seq ?_
    refine wpIn_region_lit ?_
    refine x_run tab hk (k := 1) (lv := [.agg #[.int .i64 p0.Epoch, .int .i64 p0.Kind, .slice Ap0_0 (p0.Nums).length cp0_0, .string p0.Data]]) (ks := [6]) (e' := [(6, .agg #[.int .i64 p0.Epoch, .int .i64 p0.Kind, .slice Ap0_0 (p0.Nums).length cp0_0, .string p0.Data])]) rfl ⟨(load_box tab rfl rfl f5.now (k := 0) rfl rfl), trivial⟩ fun a hk => ?_
    refine x_op hk rfl ?_
    obtain ⟨t18, hc19, H⟩ := bindS H
    refine op_call hk ent_23 (vs := [.agg #[.int .i64 p0.Epoch, .int .i64 p0.Kind, .slice Ap0_0 (p0.Nums).length cp0_0, .string p0.Data]]) rfl (tidewrackref03_bytes_calls K Ap0_0 cp0_0 p0 _ o12 _ f900 hcp0_0   _ hc19) ?_
    rintro _ w20 ⟨o21, rfl, st22⟩
    replace f900 := f900.st st22 (by decide)
    replace hs := hs.loc0 st22 (by decide)
    have hk := hk.put 7 (.string t18) rfl
    refine x_run tab hk (k := 1) (lv := []) (ks := [2]) (e' := [(2, .string t18)]) rfl trivial fun a hk => ?_
    refine wpListIn_nil ?_
    refine then_n ?_
    refine wpIn_ret ?_
    obtain rfl := Option.some.inj H
    exact x_retG hk (rs := [.tmp 2]) (vs := [.string t18]) rfl ⟨rfl, trivial⟩ ⟨fun b_ => if b_ < w.heap.size then o b_ else (fun _ => 0) (o21 b_), rfl, hs.close0 o (fun _ => 0)⟩
  · rw [b14] at hk H
    replace H := bifT H
    refine x_if hk (b := true) rfl ?_
    refine (show Code.wpIn _ _ _ _ _ _ _ from ?_)
    refine x_seq ?_
    refine wpIn_region_lit ?_
    refine x_run tab hk (k := 1) (lv := []) (ks := [2]) (e' := [(2, .string (⟨#[]⟩ : ByteArray))]) rfl trivial fun a hk => ?_
    refine wpListIn_nil ?_
    refine then_n ?_
    refine wpIn_ret ?_
    refine then_r ?_
    obtain rfl := Option.some.inj H
    exact x_retG hk (rs := [.tmp 2]) (vs := [.string (⟨#[]⟩ : ByteArray)]) rfl ⟨rfl, trivial⟩ ⟨fun b_ => if b_ < w.heap.size then o b_ else (fun _ => 0) (o12 b_), rfl, hs.close0 o (fun _ => 0)⟩

/-! tidewrack/tidewracklaw01.Same -/
theorem tidewracklaw01_Same_calls (K : Nat) (Ap0 : Option Addr) (cp0 : Nat) (p0 : List Int) (Ap1 : Option Addr) (cp1 : Nat) (p1 : List Int) (w : World) (o : Nat → Nat) (Lp0 : Nat) (hp0 : Ft (RdC (encInt .i64) Ap0 p0) w o Lp0) (hcp0 : (p0).length ≤ cp0) (Lp1 : Nat) (hp1 : Ft (RdC (encInt .i64) Ap1 p1) w o Lp1) (hcp1 : (p1).length ≤ cp1)  (r : Bool) (H : tidewracklaw01_Same K p0 p1 = some r) :
    Calls Tryd.prog 29 #[.slice Ap0 (p0).length cp0, .slice Ap1 (p1).length cp1] w (Ret fun v_ w' => ∃ o' : Nat → Nat, v_ = .bool r ∧ St [] w o w' o') := by
  refine x_enter (vs := [.slice Ap0 (p0).length cp0, .slice Ap1 (p1).length cp1]) Tryd.func29 rfl rfl rfl fun a hk => ?_
  obtain ⟨o0, hs, h0⟩ := St.start w o
  have f900 := h0 _ _ hp0
  have f920 := h0 _ _ hp1
  clear h0
  rw [tidewracklaw01_Same] at H
  refine x_seq ?_
  refine wpIn_region_lit ?_
  refine x_run tab hk (k := 1) (lv := []) (ks := [0, 1]) (e' := [(0, .slice Ap0 (p0).length cp0), (1, .slice Ap1 (p1).length cp1)]) rfl trivial fun a hk => ?_
  refine wpListIn_nil ?_
  refine then_n ?_
  refine x_seq ?_
  refine x_seq ?_
  refine wpIn_region_lit ?_
  refine x_run tab hk (k := 5) (lv := []) (ks := [0, 1, 10]) (e' := [(0, .slice Ap0 (p0).length cp0), (1, .slice Ap1 (p1).length cp1), (10, .bool (((p0).length : Int) != ((p1).length : Int)))]) rfl trivial fun a hk => ?_
  refine wpListIn_nil ?_
  refine then_n ?_
  cases b1 : (((p0).length : Int) != ((p1).length : Int))
  · rw [b1] at hk H
    replace H := bifF H
    refine x_if hk (b := false) rfl ?_
    refine (show Code.wpIn _ _ _ _ _ _ _ from ?_)
    refine wpIn_skip ?_
    refine then_n ?_
    refine x_mid (fun a_ w_ => ∃ o62 : Nat → Nat, Kn 26 a_ [] ∧ St [] w (fun _ => 0) w_ o62 ∧ tidewracklaw01_Same_j1 = some r) ?_ ?_
    rotate_left
    · rintro a w63 ⟨o62, hk, hs, H⟩
      rw [tidewracklaw01_Same_j1] at H
      refine x_seq ?_
      refine wpIn_region_lit ?_
      refine x_run tab hk (k := 1) (lv := []) (ks := [4]) (e' := [(4, .bool true)]) rfl trivial fun a hk => ?_
      refine wpListIn_nil ?_
      refine then_n ?_
      refine wpIn_ret ?_
      obtain rfl := Option.some.inj H
      exact x_retG hk (rs := [.tmp 4]) (vs := [.bool true]) rfl ⟨rfl, trivial⟩ ⟨fun b_ => if b_ < w.heap.size then o b_ else (fun _ => 0) (o62 b_), rfl, hs.close0 o (fun _ => 0)⟩
    refine x_seq ?_
    refine wpIn_region_lit ?_
    refine x_run tab hk (k := 3) (lv := []) (ks := [0, 1, 12, 13]) (e' := [(0, .slice Ap0 (p0).length cp0), (1, .slice Ap1 (p1).length cp1), (12, .int .i64 ((p0).length : Int)), (13, .int .i64 0)]) rfl trivial fun a hk => ?_
    refine wpListIn_nil ?_
    refine then_n ?_
    refine wpIn_block ?_
    refine x_loop (fun j_ a_ w_ => ∃ o83 : Nat → Nat, ∃ x84 : Int, Kn 26 a_ [(0, .slice Ap0 (p0).length cp0), (1, .slice Ap1 (p1).length cp1), (12, .int .i64 ((p0).length : Int)), (13, .int .i64 x84)] ∧ St [] w (fun _ => 0) w_ o83 ∧ Ft (RdC (encInt .i64) Ap0 p0) w_ o83 0 ∧ Ft (RdC (encInt .i64) Ap1 p1) w_ o83 0 ∧ tidewracklaw01_Same_l2 p0 p1 j_ x84 = some r) (k := K) ⟨o0, 0, (by exact Kn.pick (ks := [0, 1, 12, 13]) hk rfl), hs, f900, f920, H⟩ (by rintro _ _ ⟨_, _, _, _, _, _, H_⟩; exact absurd (show (none : Option Bool) = some r from H_) (by simp)) ?_
    rintro k102 a w101 ⟨o83, x84, hk, hs, f900, f920, H⟩
    rw [tidewracklaw01_Same_l2] at H
    obtain ⟨lp103, hlp104⟩ : ∃ lp_, lp_ = tidewracklaw01_Same_l2 p0 p1 k102 := ⟨_, rfl⟩
    rw [← hlp104] at H
    refine x_seq ?_
    refine wpIn_region_lit ?_
    refine x_run tab hk (k := 1) (lv := []) (ks := [0, 1, 12, 13, 14]) (e' := [(0, .slice Ap0 (p0).length cp0), (1, .slice Ap1 (p1).length cp1), (12, .int .i64 ((p0).length : Int)), (13, .int .i64 x84), (14, .bool (decide (x84 < ((p0).length : Int))))]) rfl trivial fun a hk => ?_
    refine wpListIn_nil ?_
    refine then_n ?_
    refine x_seq ?_
    cases b105 : (decide (x84 < ((p0).length : Int)))
    · rw [b105] at hk H
      replace H := bifF H
      refine x_if hk (b := false) rfl ?_
      refine (show Code.wpIn _ _ _ _ _ _ _ from ?_)
      refine wpIn_exit ?_
      refine then_x ?_
      refine then_x ?_
      refine blk_x ?_
      refine then_n ?_
      exact ⟨o83, (by exact Kn.pick (ks := []) hk rfl), hs, H⟩
    · rw [b105] at hk H
      replace H := bifT H
      refine x_if hk (b := true) rfl ?_
      refine (show Code.wpIn _ _ _ _ _ _ _ from ?_)
      refine wpIn_skip ?_
      refine then_n ?_
      refine x_seq ?_
      refine wpIn_block ?_
      refine x_seq ?_
      refine wpIn_region_lit ?_
      refine x_run tab hk (k := 2) (lv := []) (ks := [0, 1, 5, 12, 13]) (e' := [(0, .slice Ap0 (p0).length cp0), (1, .slice Ap1 (p1).length cp1), (5, .int .i64 x84), (12, .int .i64 ((p0).length : Int)), (13, .int .i64 x84)]) rfl trivial fun a hk => ?_
      refine wpListIn_nil ?_
      refine then_n ?_
      refine x_seq ?_
      refine xd_begin (o := o83) (fun W_ => (RdC (encInt .i64) Ap0 p0) W_ ∧ (RdC (encInt .i64) Ap1 p1) W_ ∧ True) mixed rfl rfl fun w114 st115 => ?_
      replace f900 := f900.st st115 (by decide)
      replace f920 := f920.st st115 (by decide)
      replace hs := hs.loc0 st115 (by decide)
      obtain ⟨q116, H⟩ := ifS H
      obtain ⟨ad117, hAad117⟩ := RdC.addr f900.now q116
      have hk_C := hk
      have f900_C := f900
      have f920_C := f920
      subst hAad117
      have hk := hk_C
      clear hk_C
      have f900 := f900_C
      clear f900_C
      have f920 := f920_C
      clear f920_C
      obtain ⟨q118, H⟩ := ifS H
      obtain ⟨ad119, hAad119⟩ := RdC.addr f920.now q118
      have hk_C := hk
      have f900_C := f900
      have f920_C := f920
      subst hAad119
      have hk := hk_C
      clear hk_C
      have f900 := f900_C
      clear f900_C
      have f920 := f920_C
      clear f920_C
      refine xd_take tab hk (k := 0) (is := [0, 1, 2, 3, 4, 5, 6, 7, 8]) (ls' := #[true, true, true, true, true, true, true, true, true]) (lv := [.int .i64 (rdD 0 p0 x84), .int .i64 (rdD 0 p1 x84)]) (ks := [0, 1, 12, 13, 24]) (e' := [(0, .slice (some ad117) (p0).length cp0), (1, .slice (some ad119) (p1).length cp1), (12, .int .i64 ((p0).length : Int)), (13, .int .i64 x84), (24, .bool ((rdD 0 p0 x84) != (rdD 0 p1 x84)))]) (by kernel_rfl) rfl rfl (by kernel_rfl) (np_then (np_blk (np_then (np_then (np_blk (np_then np_body)))))) ⟨f900.now, f920.now, trivial⟩ (fun W_ hS => ⟨q116, (load1 tab rfl (RdC.at0 (E := (encInt .i64)) (d := 0) (i := x84) hS.1 q116 rfl)), q118, (load1 tab rfl (RdC.at0 (E := (encInt .i64)) (d := 0) (i := x84) hS.2.1 q118 rfl)), trivial⟩) fun a hk => ?_
      refine xd_done (by kernel_rfl) ?_
      refine then_n ?_
      cases b120 : ((rdD 0 p0 x84) != (rdD 0 p1 x84))
      · rw [b120] at hk H
        replace H := bifF H
        refine x_if hk (b := false) rfl ?_
        refine (show Code.wpIn _ _ _ _ _ _ _ from ?_)
        refine wpIn_skip ?_
        refine blk_n ?_
        refine then_n ?_
        refine wpIn_region_lit ?_
        refine x_run tab hk (k := 2) (lv := []) (ks := [0, 1, 12, 13]) (e' := [(0, .slice (some ad117) (p0).length cp0), (1, .slice (some ad119) (p1).length cp1), (12, .int .i64 ((p0).length : Int)), (13, .int .i64 (IntKind.wrap .i64 (x84 + 1)))]) rfl trivial fun a hk => ?_
        refine wpListIn_nil ?_
        refine then_n ?_
        exact ⟨k102, Nat.le_refl _, o83, (IntKind.wrap .i64 (x84 + 1)), (by exact Kn.pick (ks := [0, 1, 12, 13]) hk rfl), hs, f900, f920, (hlp104 ▸ H)⟩
      · rw [b120] at hk H
        replace H := bifT H
        refine x_if hk (b := true) rfl ?_
        refine (show Code.wpIn _ _ _ _ _ _ _ from ?_)
        refine x_seq ?_
        refine wpIn_region_lit ?_
        refine x_run tab hk (k := 1) (lv := []) (ks := [4]) (e' := [(4, .bool false)]) rfl trivial fun a hk => ?_
        refine wpListIn_nil ?_
        refine then_n ?_
        refine wpIn_ret ?_
        refine blk_r ?_
        refine then_r ?_
        refine then_r ?_
        refine blk_r ?_
        refine then_r ?_
        obtain rfl := Option.some.inj H
        exact x_retG hk (rs := [.tmp 4]) (vs := [.bool false]) rfl ⟨rfl, trivial⟩ ⟨fun b_ => if b_ < w.heap.size then o b_ else (fun _ => 0) (o83 b_), rfl, hs.close0 o (fun _ => 0)⟩
  · rw [b1] at hk H
    replace H := bifT H
    refine x_if hk (b := true) rfl ?_
    refine (show Code.wpIn _ _ _ _ _ _ _ from ?_)
    refine x_seq ?_
    refine wpIn_region_lit ?_
    refine x_run tab hk (k := 1) (lv := []) (ks := [4]) (e' := [(4, .bool false)]) rfl trivial fun a hk => ?_
    refine wpListIn_nil ?_
    refine then_n ?_
    refine wpIn_ret ?_
    refine then_r ?_
    obtain rfl := Option.some.inj H
    exact x_retG hk (rs := [.tmp 4]) (vs := [.bool false]) rfl ⟨rfl, trivial⟩ ⟨fun b_ => if b_ < w.heap.size then o b_ else (fun _ => 0) (o0 b_), rfl, hs.close0 o (fun _ => 0)⟩

/-! tidewrack/tidewracklaw03.Is -/
theorem tidewracklaw03_Is_calls (K : Nat) (Ap0_0 : Option Addr) (cp0_0 : Nat) (p0 : T23) (Ap1_0 : Option Addr) (cp1_0 : Nat) (p1 : T23) (w : World) (o : Nat → Nat) (Lp0_0 : Nat) (hp0_0 : Ft (RdC (encInt .i64) Ap0_0 p0.Nums) w o Lp0_0) (hcp0_0 : (p0.Nums).length ≤ cp0_0) (Lp1_0 : Nat) (hp1_0 : Ft (RdC (encInt .i64) Ap1_0 p1.Nums) w o Lp1_0) (hcp1_0 : (p1.Nums).length ≤ cp1_0)  (r : Bool) (H : tidewracklaw03_Is K p0 p1 = some r) :
    Calls Tryd.prog 16 #[.agg #[.int .i64 p0.Epoch, .int .i64 p0.Kind, .slice Ap0_0 (p0.Nums).length cp0_0, .string p0.Data], .agg #[.int .i64 p1.Epoch, .int .i64 p1.Kind, .slice Ap1_0 (p1.Nums).length cp1_0, .string p1.Data]] w (Ret fun v_ w' => ∃ o' : Nat → Nat, v_ = .bool r ∧ St [] w o w' o') := by
  refine x_enter (vs := [.agg #[.int .i64 p0.Epoch, .int .i64 p0.Kind, .slice Ap0_0 (p0.Nums).length cp0_0, .string p0.Data], .agg #[.int .i64 p1.Epoch, .int .i64 p1.Kind, .slice Ap1_0 (p1.Nums).length cp1_0, .string p1.Data]]) Tryd.func16 rfl rfl rfl fun a hk => ?_
  obtain ⟨o0, hs, h0⟩ := St.start w o
  have f900 := h0 _ _ hp0_0
  have f920 := h0 _ _ hp1_0
  clear h0
  rw [tidewracklaw03_Is] at H
  refine x_seq ?_
  refine wpIn_region_lit ?_
  refine x_op hk rfl ?_
  refine op_box (o := o0) (t := 26) (v := .agg #[.int .i64 p0.Epoch, .int .i64 p0.Kind, .slice Ap0_0 (p0.Nums).length cp0_0, .string p0.Data]) (cs := [.int .i64 p0.Epoch, .int .i64 p0.Kind, .slice Ap0_0 (p0.Nums).length cp0_0, .string p0.Data]) hk rfl rfl 1 fun bx4 w1 o2 st3 f5 => ?_
  replace f900 := f900.st st3 (by decide)
  replace f920 := f920.st st3 (by decide)
  replace hs := hs.loc0 st3 (by decide)
  have hk := hk.put 2 (.pointer (some ⟨bx4, 0, none⟩)) rfl
  refine x_op hk rfl ?_
  refine op_box (o := o2) (t := 24) (v := .agg #[.int .i64 p1.Epoch, .int .i64 p1.Kind, .slice Ap1_0 (p1.Nums).length cp1_0, .string p1.Data]) (cs := [.int .i64 p1.Epoch, .int .i64 p1.Kind, .slice Ap1_0 (p1.Nums).length cp1_0, .string p1.Data]) hk rfl rfl 2 fun bx9 w6 o7 st8 f10 => ?_
  replace f5 := f5.st st8 (by decide)
  replace f900 := f900.st st8 (by decide)
  replace f920 := f920.st st8 (by decide)
  replace hs := hs.loc0 st8 (by decide)
  have hk := hk.put 3 (.pointer (some ⟨bx9, 0, none⟩)) rfl
  refine x_run tab hk (k := 1) (lv := []) (ks := [2, 3]) (e' := [(2, .pointer (some ⟨bx4, 0, none⟩)), (3, .pointer (some ⟨bx9, 0, none⟩))]) rfl trivial fun a hk => ?_
  refine wpListIn_nil ?_
  refine then_n ?_
  refine x_seq ?_
  refine wpIn_region_lit ?_
  refine x_run tab hk (k := 6) (lv := [.int .i64 p0.Epoch, .int .i64 p1.Epoch]) (ks := [2, 3, 10]) (e' := [(2, .pointer (some ⟨bx4, 0, none⟩)), (3, .pointer (some ⟨bx9, 0, none⟩)), (10, .bool (p0.Epoch == p1.Epoch))]) rfl ⟨(load1 tab rfl ((Bx.cell f5.now 0).trans rfl)), (load1 tab rfl ((Bx.cell f10.now 0).trans rfl)), trivial⟩ fun a hk => ?_
  cases b11 : (p0.Epoch == p1.Epoch)
  · rw [b11] at hk H
    replace H := bifF H
    refine x_run tab hk (k := 12) (lv := []) (ks := [2, 3, 17, 22]) (e' := [(2, .pointer (some ⟨bx4, 0, none⟩)), (3, .pointer (some ⟨bx9, 0, none⟩)), (17, .bool false), (22, undef)]) rfl trivial fun a hk => ?_
    refine x_run tab hk (k := 9) (lv := []) (ks := [4]) (e' := [(4, .bool false)]) rfl trivial fun a hk => ?_
    refine wpListIn_nil ?_
    refine then_n ?_
    refine wpIn_ret ?_
    obtain rfl := Option.some.inj H
    exact x_retG hk (rs := [.tmp 4]) (vs := [.bool false]) rfl ⟨rfl, trivial⟩ ⟨fun b_ => if b_ < w.heap.size then o b_ else (fun _ => 0) (o7 b_), rfl, hs.close0 o (fun _ => 0)⟩
  · rw [b11] at hk H
    replace H := bifT H
    refine x_run tab hk (k := 7) (lv := [.int .i64 p0.Kind, .int .i64 p1.Kind]) (ks := [2, 3, 17]) (e' := [(2, .pointer (some ⟨bx4, 0, none⟩)), (3, .pointer (some ⟨bx9, 0, none⟩)), (17, .bool (p0.Kind == p1.Kind))]) rfl ⟨(load1 tab rfl ((Bx.cell f5.now 1).trans rfl)), (load1 tab rfl ((Bx.cell f10.now 1).trans rfl)), trivial⟩ fun a hk => ?_
    cases b12 : (p0.Kind == p1.Kind)
    · rw [b12] at hk H
      replace H := bifF H
      refine x_run tab hk (k := 12) (lv := []) (ks := [24, 29]) (e' := [(24, .bool false), (29, undef)]) rfl trivial fun a hk => ?_
      refine x_run tab hk (k := 2) (lv := []) (ks := [4]) (e' := [(4, .bool false)]) rfl trivial fun a hk => ?_
      refine wpListIn_nil ?_
      refine then_n ?_
      refine wpIn_ret ?_
      obtain rfl := Option.some.inj H
      exact x_retG hk (rs := [.tmp 4]) (vs := [.bool false]) rfl ⟨rfl, trivial⟩ ⟨fun b_ => if b_ < w.heap.size then o b_ else (fun _ => 0) (o7 b_), rfl, hs.close0 o (fun _ => 0)⟩
    · rw [b12] at hk H
      replace H := bifT H
      refine x_run tab hk (k := 4) (lv := [.slice Ap0_0 (p0.Nums).length cp0_0, .slice Ap1_0 (p1.Nums).length cp1_0]) (ks := [2, 3, 17, 19, 21]) (e' := [(2, .pointer (some ⟨bx4, 0, none⟩)), (3, .pointer (some ⟨bx9, 0, none⟩)), (17, .bool true), (19, .slice Ap0_0 (p0.Nums).length cp0_0), (21, .slice Ap1_0 (p1.Nums).length cp1_0)]) rfl ⟨(load1 tab rfl ((Bx.cell f5.now 2).trans rfl)), (load1 tab rfl ((Bx.cell f10.now 2).trans rfl)), trivial⟩ fun a hk => ?_
      refine x_op hk rfl ?_
      obtain ⟨t16, hc17, H⟩ := bindS H
      refine op_call hk ent_29 (vs := [.slice Ap0_0 (p0.Nums).length cp0_0, .slice Ap1_0 (p1.Nums).length cp1_0]) rfl (tidewracklaw01_Same_calls K Ap0_0 cp0_0 p0.Nums Ap1_0 cp1_0 p1.Nums _ o7 _ f900 hcp0_0 _ f920 hcp1_0   _ hc17) ?_
      rintro _ w18 ⟨o19, rfl, st20⟩
      replace f10 := f10.st st20 (by decide)
      replace f5 := f5.st st20 (by decide)
      replace f900 := f900.st st20 (by decide)
      replace f920 := f920.st st20 (by decide)
      replace hs := hs.loc0 st20 (by decide)
      have hk := hk.put 22 (.bool t16) rfl
      refine x_run tab hk (k := 2) (lv := []) (ks := [2, 3, 24]) (e' := [(2, .pointer (some ⟨bx4, 0, none⟩)), (3, .pointer (some ⟨bx9, 0, none⟩)), (24, .bool t16)]) rfl trivial fun a hk => ?_
      cases b21 : t16
      · rw [b21] at hk H
        replace H := bifF H
        refine x_run tab hk (k := 7) (lv := []) (ks := [4]) (e' := [(4, .bool false)]) rfl trivial fun a hk => ?_
        refine wpListIn_nil ?_
        refine then_n ?_
        refine wpIn_ret ?_
        obtain rfl := Option.some.inj H
        exact x_retG hk (rs := [.tmp 4]) (vs := [.bool false]) rfl ⟨rfl, trivial⟩ ⟨fun b_ => if b_ < w.heap.size then o b_ else (fun _ => 0) (o19 b_), rfl, hs.close0 o (fun _ => 0)⟩
      · rw [b21] at hk H
        replace H := bifT H
        refine x_run tab hk (k := 7) (lv := [.string p0.Data, .string p1.Data]) (ks := [4]) (e' := [(4, .bool (ByteArray.toList p0.Data == ByteArray.toList p1.Data))]) rfl ⟨(load1 tab rfl ((Bx.cell f5.now 3).trans rfl)), (load1 tab rfl ((Bx.cell f10.now 3).trans rfl)), trivial⟩ fun a hk => ?_
        refine wpListIn_nil ?_
        refine then_n ?_
        refine wpIn_ret ?_
        obtain rfl := Option.some.inj H
        exact x_retG hk (rs := [.tmp 4]) (vs := [.bool (ByteArray.toList p0.Data == ByteArray.toList p1.Data)]) rfl ⟨rfl, trivial⟩ ⟨fun b_ => if b_ < w.heap.size then o b_ else (fun _ => 0) (o19 b_), rfl, hs.close0 o (fun _ => 0)⟩

/-! tidewrack/tidewracklaw03.GramBack -/
theorem tidewracklaw03_GramBack_calls (K : Nat) (Ap0_0 : Option Addr) (cp0_0 : Nat) (p0 : T23) (p1 : Int) (w : World) (o : Nat → Nat) (Lg0 : Nat) (hg0 : Ft (RdC (encInt .u32) (some ⟨0, 0, none⟩) glob0) w o Lg0) (Lp0_0 : Nat) (hp0_0 : Ft (RdC (encInt .i64) Ap0_0 p0.Nums) w o Lp0_0) (hcp0_0 : (p0.Nums).length ≤ cp0_0)  (r : Bool) (H : tidewracklaw03_GramBack K p0 p1 = some r) :
    Calls Tryd.prog 3 #[.agg #[.int .i64 p0.Epoch, .int .i64 p0.Kind, .slice Ap0_0 (p0.Nums).length cp0_0, .string p0.Data], .int .i64 p1] w (Ret fun v_ w' => ∃ o' : Nat → Nat, v_ = .bool r ∧ St [] w o w' o') := by
  refine x_enter (vs := [.agg #[.int .i64 p0.Epoch, .int .i64 p0.Kind, .slice Ap0_0 (p0.Nums).length cp0_0, .string p0.Data], .int .i64 p1]) Tryd.func3 rfl rfl rfl fun a hk => ?_
  obtain ⟨o0, hs, h0⟩ := St.start w o
  have fg0 := h0 _ _ hg0
  have f900 := h0 _ _ hp0_0
  clear h0
  rw [tidewracklaw03_GramBack] at H
  refine x_seq ?_
  refine wpIn_region_lit ?_
  refine x_op hk rfl ?_
  refine op_box (o := o0) (t := 24) (v := .agg #[.int .i64 p0.Epoch, .int .i64 p0.Kind, .slice Ap0_0 (p0.Nums).length cp0_0, .string p0.Data]) (cs := [.int .i64 p0.Epoch, .int .i64 p0.Kind, .slice Ap0_0 (p0.Nums).length cp0_0, .string p0.Data]) hk rfl rfl 1 fun bx4 w1 o2 st3 f5 => ?_
  replace f900 := f900.st st3 (by decide)
  replace fg0 := fg0.st st3 (by decide)
  replace hs := hs.loc0 st3 (by decide)
  have hk := hk.put 2 (.pointer (some ⟨bx4, 0, none⟩)) rfl
  refine x_run tab hk (k := 1) (lv := []) (ks := [1, 2]) (e' := [(1, .int .i64 p1), (2, .pointer (some ⟨bx4, 0, none⟩))]) rfl trivial fun a hk => ?_
  refine wpListIn_nil ?_
  refine then_n ?_
  refine x_seq ?_
  refine x_seq ?_
  refine wpIn_region_lit ?_
  refine x_op hk rfl ?_
  obtain ⟨t9, hc10, H⟩ := bindS H
  refine op_call hk ent_8 (vs := []) rfl (tidewracklaw03_awake_calls K  _ o2 0 fg0   _ hc10) ?_
  rintro _ w11 ⟨o12, rfl, st13⟩
  replace f5 := f5.st st13 (by decide)
  replace f900 := f900.st st13 (by decide)
  replace fg0 := fg0.st st13 (by decide)
  replace hs := hs.loc0 st13 (by decide)
  have hk := hk.put 11 (.bool t9) rfl
  refine x_run tab hk (k := 1) (lv := []) (ks := [1, 2, 12]) (e' := [(1, .int .i64 p1), (2, .pointer (some ⟨bx4, 0, none⟩)), (12, .bool (!t9))]) rfl trivial fun a hk => ?_
  refine wpListIn_nil ?_
  refine then_n ?_
  cases b14 : (!t9)
  · rw [b14] at hk H
    replace H := bifF H
    refine x_if hk (b := false) rfl ?_
    refine (show Code.wpIn _ _ _ _ _ _ _ from ?_)
    refine wpIn_skip ?_
    refine then_n ?_
    refine x_seq ?_
    refine wpIn_region_lit ?_
    refine x_run tab hk (k := 1) (lv := [.agg #[.int .i64 p0.Epoch, .int .i64 p0.Kind, .slice Ap0_0 (p0.Nums).length cp0_0, .string p0.Data]]) (ks := [1, 14]) (e' := [(1, .int .i64 p1), (14, .agg #[.int .i64 p0.Epoch, .int .i64 p0.Kind, .slice Ap0_0 (p0.Nums).length cp0_0, .string p0.Data])]) rfl ⟨(load_box tab rfl rfl f5.now (k := 0) rfl rfl), trivial⟩ fun a hk => ?_
    refine x_op hk rfl ?_
    obtain ⟨t18, hc19, H⟩ := bindS H
    refine op_call hk ent_9 (vs := [.agg #[.int .i64 p0.Epoch, .int .i64 p0.Kind, .slice Ap0_0 (p0.Nums).length cp0_0, .string p0.Data]]) rfl (tidewracklaw03_Own_calls Ap0_0 cp0_0 p0 _ o12 _ f900 hcp0_0 2 3  _ hc19) ?_
    rintro _ w20 ⟨o21, A23, c24, A27, c28, rfl, st22, f25, hc26, f29, hc30⟩
    replace f900 := f900.st st22 (by decide)
    replace fg0 := fg0.st st22 (by decide)
    replace hs := hs.loc0 st22 (by decide)
    have hk := hk.put 15 (.tuple #[.agg #[.int .i64 t18.1.Epoch, .int .i64 t18.1.Kind, .slice A23 (t18.1.Nums).length c24, .string t18.1.Data], .agg #[.int .i64 t18.2.Epoch, .int .i64 t18.2.Kind, .slice A27 (t18.2.Nums).length c28, .string t18.2.Data]]) rfl
    refine x_run tab hk (k := 3) (lv := []) (ks := [1, 16, 17]) (e' := [(1, .int .i64 p1), (16, .agg #[.int .i64 t18.1.Epoch, .int .i64 t18.1.Kind, .slice A23 (t18.1.Nums).length c24, .string t18.1.Data]), (17, .agg #[.int .i64 t18.2.Epoch, .int .i64 t18.2.Kind, .slice A27 (t18.2.Nums).length c28, .string t18.2.Data])]) rfl trivial fun a hk => ?_
    refine x_op hk rfl ?_
    refine op_alloc (o := o21) tab (t := 26) (cs := [.int .i64 0, .int .i64 0, .slice none 0 0, .string (⟨#[]⟩ : ByteArray)]) rfl rfl 4 fun bx34 w31 o32 st33 f35 => ?_
    replace f25 := f25.st st33 (by decide)
    replace f29 := f29.st st33 (by decide)
    replace fg0 := fg0.st st33 (by decide)
    replace hs := hs.loc0 st33 (by decide)
    have hk := hk.put 5 (.pointer (some ⟨bx34, 0, none⟩)) rfl
    refine x_op hk rfl ?_
    refine op_alloc (o := o32) tab (t := 24) (cs := [.int .i64 0, .int .i64 0, .slice none 0 0, .string (⟨#[]⟩ : ByteArray)]) rfl rfl 5 fun bx39 w36 o37 st38 f40 => ?_
    replace f25 := f25.st st38 (by decide)
    replace f29 := f29.st st38 (by decide)
    replace f35 := f35.st st38 (by decide)
    replace fg0 := fg0.st st38 (by decide)
    replace hs := hs.loc0 st38 (by decide)
    have hk := hk.put 6 (.pointer (some ⟨bx39, 0, none⟩)) rfl
    refine x_op hk rfl ?_
    refine op_store tab hk (t := 26) (v := .agg #[.int .i64 t18.1.Epoch, .int .i64 t18.1.Kind, .slice A23 (t18.1.Nums).length c24, .string t18.1.Data]) (b := bx34) (k := 0) (cs' := [.int .i64 t18.1.Epoch, .int .i64 t18.1.Kind, .slice A23 (t18.1.Nums).length c24, .string t18.1.Data]) rfl rfl rfl rfl rfl rfl f35 rfl rfl fun w41 o42 st43 f35_ => ?_
    replace f25 := f25.st st43 (by decide)
    replace f29 := f29.st st43 (by decide)
    replace f40 := f40.st st43 (by decide)
    replace fg0 := fg0.st st43 (by decide)
    replace hs := hs.loc0 st43 (by decide)
    replace f35 := f35_
    refine x_op hk rfl ?_
    refine op_store tab hk (t := 24) (v := .agg #[.int .i64 t18.2.Epoch, .int .i64 t18.2.Kind, .slice A27 (t18.2.Nums).length c28, .string t18.2.Data]) (b := bx39) (k := 0) (cs' := [.int .i64 t18.2.Epoch, .int .i64 t18.2.Kind, .slice A27 (t18.2.Nums).length c28, .string t18.2.Data]) rfl rfl rfl rfl rfl rfl f40 rfl rfl fun w44 o45 st46 f40_ => ?_
    replace f25 := f25.st st46 (by decide)
    replace f29 := f29.st st46 (by decide)
    replace f35 := f35.st st46 (by decide)
    replace fg0 := fg0.st st46 (by decide)
    replace hs := hs.loc0 st46 (by decide)
    replace f40 := f40_
    refine wpListIn_nil ?_
    refine then_n ?_
    refine x_seq ?_
    refine wpIn_region_lit ?_
    refine x_run tab hk (k := 1) (lv := [.agg #[.int .i64 t18.1.Epoch, .int .i64 t18.1.Kind, .slice A23 (t18.1.Nums).length c24, .string t18.1.Data]]) (ks := [1, 5, 6, 18]) (e' := [(1, .int .i64 p1), (5, .pointer (some ⟨bx34, 0, none⟩)), (6, .pointer (some ⟨bx39, 0, none⟩)), (18, .agg #[.int .i64 t18.1.Epoch, .int .i64 t18.1.Kind, .slice A23 (t18.1.Nums).length c24, .string t18.1.Data])]) rfl ⟨(load_box tab rfl rfl f35.now (k := 0) rfl rfl), trivial⟩ fun a hk => ?_
    refine x_op hk rfl ?_
    obtain ⟨t50, hc51, H⟩ := bindS H
    refine op_call hk ent_10 (vs := [.agg #[.int .i64 t18.1.Epoch, .int .i64 t18.1.Kind, .slice A23 (t18.1.Nums).length c24, .string t18.1.Data]]) rfl (gram_Gram_Pack_calls K A23 c24 t18.1 _ o45 0 fg0 _ (f25.imp fun _ h_ => Own.rd h_) hc26   _ hc51) ?_
    rintro _ w52 ⟨o53, rfl, st54⟩
    replace f25 := f25.st st54 (by decide)
    replace f29 := f29.st st54 (by decide)
    replace f35 := f35.st st54 (by decide)
    replace f40 := f40.st st54 (by decide)
    replace fg0 := fg0.st st54 (by decide)
    replace hs := hs.loc0 st54 (by decide)
    have hk := hk.put 19 (.string t50) rfl
    refine x_run tab hk (k := 1) (lv := []) (ks := [1, 5, 6, 7]) (e' := [(1, .int .i64 p1), (5, .pointer (some ⟨bx34, 0, none⟩)), (6, .pointer (some ⟨bx39, 0, none⟩)), (7, .string t50)]) rfl trivial fun a hk => ?_
    refine wpListIn_nil ?_
    refine then_n ?_
    refine x_seq ?_
    refine wpIn_region_lit ?_
    refine x_run tab hk (k := 1) (lv := []) (ks := [1, 5, 6, 7, 8]) (e' := [(1, .int .i64 p1), (5, .pointer (some ⟨bx34, 0, none⟩)), (6, .pointer (some ⟨bx39, 0, none⟩)), (7, .string t50), (8, .int .i64 0)]) rfl trivial fun a hk => ?_
    refine wpListIn_nil ?_
    refine then_n ?_
    refine x_mid (fun a_ w_ => ∃ o75 : Nat → Nat, ∃ x76 : Int, Kn 69 a_ [(1, .int .i64 p1), (5, .pointer (some ⟨bx34, 0, none⟩)), (6, .pointer (some ⟨bx39, 0, none⟩)), (7, .string t50), (8, .int .i64 x76)] ∧ St [] w (fun _ => 0) w_ o75 ∧ Ft (Own (encInt .i64) 3 (.slice A23 (t18.1.Nums).length c24) t18.1.Nums) w_ o75 10 ∧ Ft (Own (encInt .i64) 3 (.slice A27 (t18.2.Nums).length c28) t18.2.Nums) w_ o75 12 ∧ Ft (Bx bx34 26 [.int .i64 t18.1.Epoch, .int .i64 t18.1.Kind, .slice A23 (t18.1.Nums).length c24, .string t18.1.Data]) w_ o75 11 ∧ Ft (Bx bx39 24 [.int .i64 t18.2.Epoch, .int .i64 t18.2.Kind, .slice A27 (t18.2.Nums).length c28, .string t18.2.Data]) w_ o75 13 ∧ Ft (RdC (encInt .u32) (some ⟨0, 0, none⟩) glob0) w_ o75 0 ∧ tidewracklaw03_GramBack_j1 K p1 t18 t50 x76 = some r) ?_ ?_
    rotate_left
    · rintro a w77 ⟨o75, x76, hk, hs, f25, f29, f35, f40, fg0, H⟩
      rw [tidewracklaw03_GramBack_j1] at H
      refine x_mid (fun a_ w_ => ∃ o186 : Nat → Nat, Kn 69 a_ [(6, .pointer (some ⟨bx39, 0, none⟩)), (7, .string t50)] ∧ St [] w (fun _ => 0) w_ o186 ∧ Ft (Own (encInt .i64) 3 (.slice A27 (t18.2.Nums).length c28) t18.2.Nums) w_ o186 14 ∧ Ft (Bx bx39 24 [.int .i64 t18.2.Epoch, .int .i64 t18.2.Kind, .slice A27 (t18.2.Nums).length c28, .string t18.2.Data]) w_ o186 15 ∧ Ft (RdC (encInt .u32) (some ⟨0, 0, none⟩) glob0) w_ o186 0 ∧ tidewracklaw03_GramBack_j2 K t18 t50 = some r) ?_ ?_
      rotate_left
      · rintro a w187 ⟨o186, hk, hs, f29, f40, fg0, H⟩
        rw [tidewracklaw03_GramBack_j2] at H
        refine x_seq ?_
        refine x_seq ?_
        refine wpIn_region_lit ?_
        refine x_run tab hk (k := 1) (lv := [.agg #[.int .i64 t18.2.Epoch, .int .i64 t18.2.Kind, .slice A27 (t18.2.Nums).length c28, .string t18.2.Data]]) (ks := [6, 7, 52]) (e' := [(6, .pointer (some ⟨bx39, 0, none⟩)), (7, .string t50), (52, .agg #[.int .i64 t18.2.Epoch, .int .i64 t18.2.Kind, .slice A27 (t18.2.Nums).length c28, .string t18.2.Data])]) rfl ⟨(load_box tab rfl rfl f40.now (k := 0) rfl rfl), trivial⟩ fun a hk => ?_
        refine x_op hk rfl ?_
        obtain ⟨t191, hc192, H⟩ := bindS H
        refine op_call hk ent_12 (vs := [.agg #[.int .i64 t18.2.Epoch, .int .i64 t18.2.Kind, .slice A27 (t18.2.Nums).length c28, .string t18.2.Data]]) rfl (tidewrackref03_Check_calls K A27 c28 t18.2 _ o186 _ (f29.imp fun _ h_ => Own.rd h_) hc30   _ hc192) ?_
        rintro _ w193 ⟨o194, rfl, st195⟩
        replace f29 := f29.st st195 (by decide)
        replace f40 := f40.st st195 (by decide)
        replace fg0 := fg0.st st195 (by decide)
        replace hs := hs.loc0 st195 (by decide)
        have hk := hk.put 53 (.int .i64 t191) rfl
        refine x_run tab hk (k := 1) (lv := []) (ks := [6, 7, 54]) (e' := [(6, .pointer (some ⟨bx39, 0, none⟩)), (7, .string t50), (54, .bool (t191 != (0 : Int)))]) rfl trivial fun a hk => ?_
        refine wpListIn_nil ?_
        refine then_n ?_
        cases b196 : (t191 != (0 : Int))
        · rw [b196] at hk H
          replace H := bifF H
          refine x_if hk (b := false) rfl ?_
          refine (show Code.wpIn _ _ _ _ _ _ _ from ?_)
          refine wpIn_skip ?_
          refine then_n ?_
          refine x_seq ?_
          refine wpIn_region_lit ?_
          refine x_run tab hk (k := 1) (lv := []) (ks := [6, 58]) (e' := [(6, .pointer (some ⟨bx39, 0, none⟩)), (58, .string t50)]) rfl trivial fun a hk => ?_
          refine x_op hk rfl ?_
          obtain ⟨t200, hc201, H⟩ := bindS H
          refine op_call hk ent_15 (vs := [.string t50]) rfl (gram_Parse_calls K t50 _ o194 0 fg0 16  _ hc201) ?_
          rintro _ w202 ⟨o203, A205, c206, rfl, st204, f207, hc208⟩
          replace f29 := f29.st st204 (by decide)
          replace f40 := f40.st st204 (by decide)
          replace fg0 := fg0.st st204 (by decide)
          replace hs := hs.loc0 st204 (by decide)
          have hk := hk.put 59 (.tuple #[.agg #[.int .i64 t200.1.Epoch, .int .i64 t200.1.Kind, .slice A205 (t200.1.Nums).length c206, .string t200.1.Data], .int .i64 t200.2]) rfl
          refine x_run tab hk (k := 3) (lv := []) (ks := [6, 60, 61]) (e' := [(6, .pointer (some ⟨bx39, 0, none⟩)), (60, .agg #[.int .i64 t200.1.Epoch, .int .i64 t200.1.Kind, .slice A205 (t200.1.Nums).length c206, .string t200.1.Data]), (61, .int .i64 t200.2)]) rfl trivial fun a hk => ?_
          refine x_op hk rfl ?_
          refine op_alloc (o := o203) tab (t := 26) (cs := [.int .i64 0, .int .i64 0, .slice none 0 0, .string (⟨#[]⟩ : ByteArray)]) rfl rfl 17 fun bx212 w209 o210 st211 f213 => ?_
          replace f207 := f207.st st211 (by decide)
          replace f29 := f29.st st211 (by decide)
          replace f40 := f40.st st211 (by decide)
          replace fg0 := fg0.st st211 (by decide)
          replace hs := hs.loc0 st211 (by decide)
          have hk := hk.put 9 (.pointer (some ⟨bx212, 0, none⟩)) rfl
          refine x_op hk rfl ?_
          refine op_store tab hk (t := 26) (v := .agg #[.int .i64 t200.1.Epoch, .int .i64 t200.1.Kind, .slice A205 (t200.1.Nums).length c206, .string t200.1.Data]) (b := bx212) (k := 0) (cs' := [.int .i64 t200.1.Epoch, .int .i64 t200.1.Kind, .slice A205 (t200.1.Nums).length c206, .string t200.1.Data]) rfl rfl rfl rfl rfl rfl f213 rfl rfl fun w214 o215 st216 f213_ => ?_
          replace f207 := f207.st st216 (by decide)
          replace f29 := f29.st st216 (by decide)
          replace f40 := f40.st st216 (by decide)
          replace fg0 := fg0.st st216 (by decide)
          replace hs := hs.loc0 st216 (by decide)
          replace f213 := f213_
          refine x_run tab hk (k := 1) (lv := []) (ks := [6, 9, 10]) (e' := [(6, .pointer (some ⟨bx39, 0, none⟩)), (9, .pointer (some ⟨bx212, 0, none⟩)), (10, .int .i64 t200.2)]) rfl trivial fun a hk => ?_
          refine wpListIn_nil ?_
          refine then_n ?_
          refine x_seq ?_
          refine wpIn_region_lit ?_
          refine x_run tab hk (k := 3) (lv := []) (ks := [6, 9, 64]) (e' := [(6, .pointer (some ⟨bx39, 0, none⟩)), (9, .pointer (some ⟨bx212, 0, none⟩)), (64, .bool (t200.2 == (0 : Int)))]) rfl trivial fun a hk => ?_
          cases b217 : (t200.2 == (0 : Int))
          · rw [b217] at hk H
            replace H := bifF H
            refine x_run tab hk (k := 5) (lv := []) (ks := [4]) (e' := [(4, .bool false)]) rfl trivial fun a hk => ?_
            refine wpListIn_nil ?_
            refine then_n ?_
            refine wpIn_ret ?_
            obtain rfl := Option.some.inj H
            exact x_retG hk (rs := [.tmp 4]) (vs := [.bool false]) rfl ⟨rfl, trivial⟩ ⟨fun b_ => if b_ < w.heap.size then o b_ else (fun _ => 0) (o215 b_), rfl, hs.close0 o (fun _ => 0)⟩
          · rw [b217] at hk H
            replace H := bifT H
            refine x_run tab hk (k := 2) (lv := [.agg #[.int .i64 t200.1.Epoch, .int .i64 t200.1.Kind, .slice A205 (t200.1.Nums).length c206, .string t200.1.Data], .agg #[.int .i64 t18.2.Epoch, .int .i64 t18.2.Kind, .slice A27 (t18.2.Nums).length c28, .string t18.2.Data]]) (ks := [64, 65, 66]) (e' := [(64, .bool true), (65, .agg #[.int .i64 t200.1.Epoch, .int .i64 t200.1.Kind, .slice A205 (t200.1.Nums).length c206, .string t200.1.Data]), (66, .agg #[.int .i64 t18.2.Epoch, .int .i64 t18.2.Kind, .slice A27 (t18.2.Nums).length c28, .string t18.2.Data])]) rfl ⟨(load_box tab rfl rfl f213.now (k := 0) rfl rfl), (load_box tab rfl rfl f40.now (k := 0) rfl rfl), trivial⟩ fun a hk => ?_
            refine x_op hk rfl ?_
            obtain ⟨t221, hc222, H⟩ := bindS H
            refine op_call hk ent_16 (vs := [.agg #[.int .i64 t200.1.Epoch, .int .i64 t200.1.Kind, .slice A205 (t200.1.Nums).length c206, .string t200.1.Data], .agg #[.int .i64 t18.2.Epoch, .int .i64 t18.2.Kind, .slice A27 (t18.2.Nums).length c28, .string t18.2.Data]]) rfl (tidewracklaw03_Is_calls K A205 c206 t200.1 A27 c28 t18.2 _ o215 _ (f207.imp fun _ h_ => Own.rd h_) hc208 _ (f29.imp fun _ h_ => Own.rd h_) hc30   _ hc222) ?_
            rintro _ w223 ⟨o224, rfl, st225⟩
            replace f207 := f207.st st225 (by decide)
            replace f29 := f29.st st225 (by decide)
            replace fg0 := fg0.st st225 (by decide)
            replace hs := hs.loc0 st225 (by decide)
            have hk := hk.put 67 (.bool t221) rfl
            refine x_run tab hk (k := 2) (lv := []) (ks := [4]) (e' := [(4, .bool t221)]) rfl trivial fun a hk => ?_
            refine wpListIn_nil ?_
            refine then_n ?_
            refine wpIn_ret ?_
            obtain rfl := Option.some.inj H
            exact x_retG hk (rs := [.tmp 4]) (vs := [.bool t221]) rfl ⟨rfl, trivial⟩ ⟨fun b_ => if b_ < w.heap.size then o b_ else (fun _ => 0) (o224 b_), rfl, hs.close0 o (fun _ => 0)⟩
        · rw [b196] at hk H
          replace H := bifT H
          refine x_if hk (b := true) rfl ?_
          refine (show Code.wpIn _ _ _ _ _ _ _ from ?_)
          refine x_seq ?_
          refine wpIn_region_lit ?_
          refine x_run tab hk (k := 3) (lv := []) (ks := [4]) (e' := [(4, .bool (ByteArray.toList t50 == ByteArray.toList (⟨#[]⟩ : ByteArray)))]) rfl trivial fun a hk => ?_
          refine wpListIn_nil ?_
          refine then_n ?_
          refine wpIn_ret ?_
          refine then_r ?_
          obtain rfl := Option.some.inj H
          exact x_retG hk (rs := [.tmp 4]) (vs := [.bool (ByteArray.toList t50 == ByteArray.toList (⟨#[]⟩ : ByteArray))]) rfl ⟨rfl, trivial⟩ ⟨fun b_ => if b_ < w.heap.size then o b_ else (fun _ => 0) (o194 b_), rfl, hs.close0 o (fun _ => 0)⟩
      refine x_seq ?_
      refine xd_begin (o := o75) (fun W_ => (Bx bx34 26 [.int .i64 t18.1.Epoch, .int .i64 t18.1.Kind, .slice A23 (t18.1.Nums).length c24, .string t18.1.Data]) W_ ∧ (Bx bx39 24 [.int .i64 t18.2.Epoch, .int .i64 t18.2.Kind, .slice A27 (t18.2.Nums).length c28, .string t18.2.Data]) W_ ∧ True) mixed rfl rfl fun w294 st295 => ?_
      replace f25 := f25.st st295 (by decide)
      replace f29 := f29.st st295 (by decide)
      replace f35 := f35.st st295 (by decide)
      replace f40 := f40.st st295 (by decide)
      replace fg0 := fg0.st st295 (by decide)
      replace hs := hs.loc0 st295 (by decide)
      refine xd_take tab hk (k := 16) (is := [0, 2]) (ls' := #[true, false, true, false, false, false, false, false, false, false, false, false, false, false, false, false, false, false]) (lv := [.agg #[.int .i64 t18.1.Epoch, .int .i64 t18.1.Kind, .slice A23 (t18.1.Nums).length c24, .string t18.1.Data], .agg #[.int .i64 t18.2.Epoch, .int .i64 t18.2.Kind, .slice A27 (t18.2.Nums).length c28, .string t18.2.Data]]) (ks := [1, 5, 6, 7, 8, 34, 36]) (e' := [(1, .int .i64 p1), (5, .pointer (some ⟨bx34, 0, none⟩)), (6, .pointer (some ⟨bx39, 0, none⟩)), (7, .string t50), (8, .int .i64 x76), (34, .agg #[.int .i64 t18.1.Epoch, .int .i64 t18.1.Kind, .slice A23 (t18.1.Nums).length c24, .string t18.1.Data]), (36, .agg #[.int .i64 t18.2.Epoch, .int .i64 t18.2.Kind, .slice A27 (t18.2.Nums).length c28, .string t18.2.Data])]) (by kernel_rfl) rfl rfl (by kernel_rfl) (np_then (np_then np_body)) ⟨f35.now, f40.now, trivial⟩ (fun W_ hS => ⟨(load_box tab rfl rfl hS.1 (k := 0) rfl rfl), (load_box tab rfl rfl hS.2.1 (k := 0) rfl rfl), trivial⟩) fun a hk => ?_
      refine xd_op hk (i := 1) (by kernel_rfl) rfl rfl ?_
      obtain ⟨t299, hc300, H⟩ := bindS H
      refine op_call hk ent_11 (vs := [.agg #[.int .i64 t18.1.Epoch, .int .i64 t18.1.Kind, .slice A23 (t18.1.Nums).length c24, .string t18.1.Data]]) rfl (gram_Gram_Check_calls K A23 c24 t18.1 _ o75 0 fg0 _ (f25.imp fun _ h_ => Own.rd h_) hc26   _ hc300) ?_
      rintro _ w301 ⟨o302, rfl, st303⟩
      replace f25 := f25.st st303 (by decide)
      replace f29 := f29.st st303 (by decide)
      replace f35 := f35.st st303 (by decide)
      replace f40 := f40.st st303 (by decide)
      replace fg0 := fg0.st st303 (by decide)
      replace hs := hs.loc0 st303 (by decide)
      have hk := hk.put 35 (.int .i64 t299) rfl
      refine ⟨.inr ⟨f35.now, f40.now, trivial⟩, ?_⟩
      refine xd_op hk (i := 3) (by kernel_rfl) rfl rfl ?_
      obtain ⟨t307, hc308, H⟩ := bindS H
      refine op_call hk ent_12 (vs := [.agg #[.int .i64 t18.2.Epoch, .int .i64 t18.2.Kind, .slice A27 (t18.2.Nums).length c28, .string t18.2.Data]]) rfl (tidewrackref03_Check_calls K A27 c28 t18.2 _ o302 _ (f29.imp fun _ h_ => Own.rd h_) hc30   _ hc308) ?_
      rintro _ w309 ⟨o310, rfl, st311⟩
      replace f25 := f25.st st311 (by decide)
      replace f29 := f29.st st311 (by decide)
      replace f35 := f35.st st311 (by decide)
      replace f40 := f40.st st311 (by decide)
      replace fg0 := fg0.st st311 (by decide)
      replace hs := hs.loc0 st311 (by decide)
      have hk := hk.put 37 (.int .i64 t307) rfl
      refine ⟨.inr ⟨f35.now, f40.now, trivial⟩, ?_⟩
      refine xd_take tab hk (k := 12) (is := [4, 5]) (ls' := #[true, true, true, true, true, true, false, false, false, false, false, false, false, false, false, false, false, false]) (lv := []) (ks := [1, 5, 6, 7, 8, 39]) (e' := [(1, .int .i64 p1), (5, .pointer (some ⟨bx34, 0, none⟩)), (6, .pointer (some ⟨bx39, 0, none⟩)), (7, .string t50), (8, .int .i64 x76), (39, .bool (t299 != t307))]) (by kernel_rfl) rfl rfl (by kernel_rfl) (np_then (np_then np_body)) ⟨f35.now, f40.now, trivial⟩ (fun W_ hS => trivial) fun a hk => ?_
      cases b312 : (t299 != t307)
      · rw [b312] at hk H
        replace H := bifF H
        refine xd_take tab hk (k := 10) (is := [6, 7]) (ls' := #[true, true, true, true, true, true, true, true, false, false, false, false, false, false, false, false, false, false]) (lv := [.agg #[.int .i64 t18.2.Epoch, .int .i64 t18.2.Kind, .slice A27 (t18.2.Nums).length c28, .string t18.2.Data]]) (ks := [1, 5, 6, 7, 8, 39, 40, 41]) (e' := [(1, .int .i64 p1), (5, .pointer (some ⟨bx34, 0, none⟩)), (6, .pointer (some ⟨bx39, 0, none⟩)), (7, .string t50), (8, .int .i64 x76), (39, .bool false), (40, .string t50), (41, .agg #[.int .i64 t18.2.Epoch, .int .i64 t18.2.Kind, .slice A27 (t18.2.Nums).length c28, .string t18.2.Data])]) (by kernel_rfl) rfl rfl (by kernel_rfl) (np_then (np_then np_body)) ⟨f35.now, f40.now, trivial⟩ (fun W_ hS => ⟨(load_box tab rfl rfl hS.2.1 (k := 0) rfl rfl), trivial⟩) fun a hk => ?_
        refine xd_op hk (i := 8) (by kernel_rfl) rfl rfl ?_
        obtain ⟨t316, hc317, H⟩ := bindS H
        refine op_call hk ent_13 (vs := [.agg #[.int .i64 t18.2.Epoch, .int .i64 t18.2.Kind, .slice A27 (t18.2.Nums).length c28, .string t18.2.Data]]) rfl (tidewrackref03_Pack_calls K A27 c28 t18.2 _ o310 _ (f29.imp fun _ h_ => Own.rd h_) hc30   _ hc317) ?_
        rintro _ w318 ⟨o319, rfl, st320⟩
        replace f25 := f25.st st320 (by decide)
        replace f29 := f29.st st320 (by decide)
        replace f35 := f35.st st320 (by decide)
        replace f40 := f40.st st320 (by decide)
        replace fg0 := fg0.st st320 (by decide)
        replace hs := hs.loc0 st320 (by decide)
        have hk := hk.put 42 (.string t316) rfl
        refine ⟨.inr ⟨f35.now, f40.now, trivial⟩, ?_⟩
        refine xd_take tab hk (k := 6) (is := [9, 10, 11]) (ls' := #[true, true, true, true, true, true, true, true, true, true, true, true, false, false, false, false, false, false]) (lv := []) (ks := [1, 5, 6, 7, 8, 45]) (e' := [(1, .int .i64 p1), (5, .pointer (some ⟨bx34, 0, none⟩)), (6, .pointer (some ⟨bx39, 0, none⟩)), (7, .string t50), (8, .int .i64 x76), (45, .bool (!(ByteArray.toList t50 == ByteArray.toList t316)))]) (by kernel_rfl) rfl rfl (by kernel_rfl) (np_then (np_then np_body)) ⟨f35.now, f40.now, trivial⟩ (fun W_ hS => trivial) fun a hk => ?_
        cases b321 : (!(ByteArray.toList t50 == ByteArray.toList t316))
        · rw [b321] at hk H
          replace H := bifF H
          refine xd_take tab hk (k := 3) (is := [12, 13, 15]) (ls' := #[true, true, true, true, true, true, true, true, true, true, true, true, true, true, false, true, false, false]) (lv := [.agg #[.int .i64 t18.1.Epoch, .int .i64 t18.1.Kind, .slice A23 (t18.1.Nums).length c24, .string t18.1.Data]]) (ks := [6, 7, 45, 46, 47, 49]) (e' := [(6, .pointer (some ⟨bx39, 0, none⟩)), (7, .string t50), (45, .bool false), (46, .agg #[.int .i64 t18.1.Epoch, .int .i64 t18.1.Kind, .slice A23 (t18.1.Nums).length c24, .string t18.1.Data]), (47, .int .i64 p1), (49, .int .i64 x76)]) (by kernel_rfl) rfl rfl (by kernel_rfl) (np_then (np_then np_body)) ⟨f35.now, f40.now, trivial⟩ (fun W_ hS => ⟨(load_box tab rfl rfl hS.1 (k := 0) rfl rfl), trivial⟩) fun a hk => ?_
          refine xd_op hk (i := 14) (by kernel_rfl) rfl rfl ?_
          obtain ⟨t325, hc326, H⟩ := bindS H
          refine op_call hk ent_14 (vs := [.agg #[.int .i64 t18.1.Epoch, .int .i64 t18.1.Kind, .slice A23 (t18.1.Nums).length c24, .string t18.1.Data], .int .i64 p1]) rfl (gram_Gram_Num_calls A23 c24 t18.1 p1 _ o319 _ (f25.imp fun _ h_ => Own.rd h_) hc26   _ hc326) ?_
          rintro _ w327 ⟨o328, rfl, st329⟩
          replace f25 := f25.st st329 (by decide)
          replace f29 := f29.st st329 (by decide)
          replace f35 := f35.st st329 (by decide)
          replace f40 := f40.st st329 (by decide)
          replace fg0 := fg0.st st329 (by decide)
          replace hs := hs.loc0 st329 (by decide)
          have hk := hk.put 48 (.int .i64 t325) rfl
          refine ⟨.inr ⟨f35.now, f40.now, trivial⟩, ?_⟩
          refine xd_take tab hk (k := 0) (is := [16, 17]) (ls' := #[true, true, true, true, true, true, true, true, true, true, true, true, true, true, true, true, true, true]) (lv := []) (ks := [6, 7, 51]) (e' := [(6, .pointer (some ⟨bx39, 0, none⟩)), (7, .string t50), (51, .bool (t325 != x76))]) (by kernel_rfl) rfl rfl (by kernel_rfl) (np_then (np_then np_body)) ⟨f35.now, f40.now, trivial⟩ (fun W_ hS => trivial) fun a hk => ?_
          refine xd_done (by kernel_rfl) ?_
          refine then_n ?_
          cases b330 : (t325 != x76)
          · rw [b330] at hk H
            replace H := bifF H
            refine x_if hk (b := false) rfl ?_
            refine (show Code.wpIn _ _ _ _ _ _ _ from ?_)
            refine wpIn_skip ?_
            refine then_n ?_
            exact ⟨(fun b_ => (fun l_ => if l_ = 12 then 14 else if l_ = 13 then 15 else l_) (o328 b_)), (by exact Kn.pick (ks := [6, 7]) hk rfl), (hs.relab0 (fun l_ => if l_ = 12 then 14 else if l_ = 13 then 15 else l_) rfl), (f29.relab (fun l_ => if l_ = 12 then 14 else if l_ = 13 then 15 else l_) rfl), (f40.relab (fun l_ => if l_ = 12 then 14 else if l_ = 13 then 15 else l_) rfl), (fg0.relab (fun l_ => if l_ = 12 then 14 else if l_ = 13 then 15 else l_) rfl), H⟩
          · rw [b330] at hk H
            replace H := bifT H
            refine x_if hk (b := true) rfl ?_
            refine (show Code.wpIn _ _ _ _ _ _ _ from ?_)
            refine x_seq ?_
            refine wpIn_region_lit ?_
            refine x_run tab hk (k := 1) (lv := []) (ks := [4]) (e' := [(4, .bool false)]) rfl trivial fun a hk => ?_
            refine wpListIn_nil ?_
            refine then_n ?_
            refine wpIn_ret ?_
            refine then_r ?_
            obtain rfl := Option.some.inj H
            exact x_retG hk (rs := [.tmp 4]) (vs := [.bool false]) rfl ⟨rfl, trivial⟩ ⟨fun b_ => if b_ < w.heap.size then o b_ else (fun _ => 0) (o328 b_), rfl, hs.close0 o (fun _ => 0)⟩
        · rw [b321] at hk H
          replace H := bifT H
          refine xd_take tab hk (k := 0) (is := [12, 13, 14, 15, 16, 17]) (ls' := #[true, true, true, true, true, true, true, true, true, true, true, true, true, true, true, true, true, true]) (lv := []) (ks := [6, 7, 51]) (e' := [(6, .pointer (some ⟨bx39, 0, none⟩)), (7, .string t50), (51, .bool true)]) (by kernel_rfl) rfl rfl (by kernel_rfl) (np_then (np_then np_body)) ⟨f35.now, f40.now, trivial⟩ (fun W_ hS => trivial) fun a hk => ?_
          refine xd_done (by kernel_rfl) ?_
          refine then_n ?_
          refine x_if hk (b := true) rfl ?_
          refine (show Code.wpIn _ _ _ _ _ _ _ from ?_)
          refine x_seq ?_
          refine wpIn_region_lit ?_
          refine x_run tab hk (k := 1) (lv := []) (ks := [4]) (e' := [(4, .bool false)]) rfl trivial fun a hk => ?_
          refine wpListIn_nil ?_
          refine then_n ?_
          refine wpIn_ret ?_
          refine then_r ?_
          obtain rfl := Option.some.inj H
          exact x_retG hk (rs := [.tmp 4]) (vs := [.bool false]) rfl ⟨rfl, trivial⟩ ⟨fun b_ => if b_ < w.heap.size then o b_ else (fun _ => 0) (o319 b_), rfl, hs.close0 o (fun _ => 0)⟩
      · rw [b312] at hk H
        replace H := bifT H
        refine xd_take tab hk (k := 0) (is := [6, 7, 8, 9, 10, 11, 12, 13, 14, 15, 16, 17]) (ls' := #[true, true, true, true, true, true, true, true, true, true, true, true, true, true, true, true, true, true]) (lv := []) (ks := [6, 7, 51]) (e' := [(6, .pointer (some ⟨bx39, 0, none⟩)), (7, .string t50), (51, .bool true)]) (by kernel_rfl) rfl rfl (by kernel_rfl) (np_then (np_then np_body)) ⟨f35.now, f40.now, trivial⟩ (fun W_ hS => trivial) fun a hk => ?_
        refine xd_done (by kernel_rfl) ?_
        refine then_n ?_
        refine x_if hk (b := true) rfl ?_
        refine (show Code.wpIn _ _ _ _ _ _ _ from ?_)
        refine x_seq ?_
        refine wpIn_region_lit ?_
        refine x_run tab hk (k := 1) (lv := []) (ks := [4]) (e' := [(4, .bool false)]) rfl trivial fun a hk => ?_
        refine wpListIn_nil ?_
        refine then_n ?_
        refine wpIn_ret ?_
        refine then_r ?_
        obtain rfl := Option.some.inj H
        exact x_retG hk (rs := [.tmp 4]) (vs := [.bool false]) rfl ⟨rfl, trivial⟩ ⟨fun b_ => if b_ < w.heap.size then o b_ else (fun _ => 0) (o310 b_), rfl, hs.close0 o (fun _ => 0)⟩
    refine x_mid (fun a_ w_ => ∃ o338 : Nat → Nat, ∃ x339 : Bool, Kn 69 a_ [(1, .int .i64 p1), (5, .pointer (some ⟨bx34, 0, none⟩)), (6, .pointer (some ⟨bx39, 0, none⟩)), (7, .string t50), (8, .int .i64 0), (28, .bool x339)] ∧ St [] w (fun _ => 0) w_ o338 ∧ Ft (Own (encInt .i64) 3 (.slice A23 (t18.1.Nums).length c24) t18.1.Nums) w_ o338 18 ∧ Ft (Own (encInt .i64) 3 (.slice A27 (t18.2.Nums).length c28) t18.2.Nums) w_ o338 20 ∧ Ft (Bx bx34 26 [.int .i64 t18.1.Epoch, .int .i64 t18.1.Kind, .slice A23 (t18.1.Nums).length c24, .string t18.1.Data]) w_ o338 19 ∧ Ft (Bx bx39 24 [.int .i64 t18.2.Epoch, .int .i64 t18.2.Kind, .slice A27 (t18.2.Nums).length c28, .string t18.2.Data]) w_ o338 21 ∧ Ft (RdC (encInt .u32) (some ⟨0, 0, none⟩) glob0) w_ o338 0 ∧ tidewracklaw03_GramBack_j3 K p1 t18 t50 x339 = some r) ?_ ?_
    rotate_left
    · rintro a w340 ⟨o338, x339, hk, hs, f25, f29, f35, f40, fg0, H⟩
      rw [tidewracklaw03_GramBack_j3] at H
      cases b341 : x339
      · rw [b341] at hk H
        replace H := bifF H
        refine x_if hk (b := false) rfl ?_
        refine (show Code.wpIn _ _ _ _ _ _ _ from ?_)
        refine wpIn_skip ?_
        refine then_n ?_
        exact ⟨(fun b_ => (fun l_ => if l_ = 18 then 10 else if l_ = 19 then 11 else if l_ = 20 then 12 else if l_ = 21 then 13 else l_) (o338 b_)), 0, (by exact Kn.pick (ks := [1, 5, 6, 7, 8]) hk rfl), (hs.relab0 (fun l_ => if l_ = 18 then 10 else if l_ = 19 then 11 else if l_ = 20 then 12 else if l_ = 21 then 13 else l_) rfl), (f25.relab (fun l_ => if l_ = 18 then 10 else if l_ = 19 then 11 else if l_ = 20 then 12 else if l_ = 21 then 13 else l_) rfl), (f29.relab (fun l_ => if l_ = 18 then 10 else if l_ = 19 then 11 else if l_ = 20 then 12 else if l_ = 21 then 13 else l_) rfl), (f35.relab (fun l_ => if l_ = 18 then 10 else if l_ = 19 then 11 else if l_ = 20 then 12 else if l_ = 21 then 13 else l_) rfl), (f40.relab (fun l_ => if l_ = 18 then 10 else if l_ = 19 then 11 else if l_ = 20 then 12 else if l_ = 21 then 13 else l_) rfl), (fg0.relab (fun l_ => if l_ = 18 then 10 else if l_ = 19 then 11 else if l_ = 20 then 12 else if l_ = 21 then 13 else l_) rfl), H⟩
      · rw [b341] at hk H
        replace H := bifT H
        refine x_if hk (b := true) rfl ?_
        refine (show Code.wpIn _ _ _ _ _ _ _ from ?_)
        refine wpIn_region_lit ?_
        obtain ⟨q342, H⟩ := ifS H
        obtain ⟨ad343, hAad343⟩ := RdC.addr (Own.rd f29.now) q342
        have hk_C := hk
        have f25_C := f25
        have f29_C := f29
        have f35_C := f35
        have f40_C := f40
        have fg0_C := fg0
        subst hAad343
        have hk := hk_C
        clear hk_C
        have f25 := f25_C
        clear f25_C
        have f29 := f29_C
        clear f29_C
        have f35 := f35_C
        clear f35_C
        have f40 := f40_C
        clear f40_C
        have fg0 := fg0_C
        clear fg0_C
        refine x_run tab hk (k := 6) (lv := [.slice (some ad343) (t18.2.Nums).length c28, .int .i64 (rdD 0 t18.2.Nums p1)]) (ks := [1, 5, 6, 7, 8]) (e' := [(1, .int .i64 p1), (5, .pointer (some ⟨bx34, 0, none⟩)), (6, .pointer (some ⟨bx39, 0, none⟩)), (7, .string t50), (8, .int .i64 (rdD 0 t18.2.Nums p1))]) rfl ⟨(load1 tab rfl ((Bx.cell f40.now 2).trans rfl)), q342, (load1 tab rfl (RdC.at0 (E := (encInt .i64)) (d := 0) (i := p1) (Own.rd f29.now) q342 rfl)), trivial⟩ fun a hk => ?_
        refine wpListIn_nil ?_
        refine then_n ?_
        exact ⟨(fun b_ => (fun l_ => if l_ = 18 then 10 else if l_ = 19 then 11 else if l_ = 20 then 12 else if l_ = 21 then 13 else l_) (o338 b_)), (rdD 0 t18.2.Nums p1), (by exact Kn.pick (ks := [1, 5, 6, 7, 8]) hk rfl), (hs.relab0 (fun l_ => if l_ = 18 then 10 else if l_ = 19 then 11 else if l_ = 20 then 12 else if l_ = 21 then 13 else l_) rfl), (f25.relab (fun l_ => if l_ = 18 then 10 else if l_ = 19 then 11 else if l_ = 20 then 12 else if l_ = 21 then 13 else l_) rfl), (f29.relab (fun l_ => if l_ = 18 then 10 else if l_ = 19 then 11 else if l_ = 20 then 12 else if l_ = 21 then 13 else l_) rfl), (f35.relab (fun l_ => if l_ = 18 then 10 else if l_ = 19 then 11 else if l_ = 20 then 12 else if l_ = 21 then 13 else l_) rfl), (f40.relab (fun l_ => if l_ = 18 then 10 else if l_ = 19 then 11 else if l_ = 20 then 12 else if l_ = 21 then 13 else l_) rfl), (fg0.relab (fun l_ => if l_ = 18 then 10 else if l_ = 19 then 11 else if l_ = 20 then 12 else if l_ = 21 then 13 else l_) rfl), H⟩
    refine wpIn_region_lit ?_
    refine x_run tab hk (k := 3) (lv := []) (ks := [1, 5, 6, 7, 8, 22]) (e' := [(1, .int .i64 p1), (5, .pointer (some ⟨bx34, 0, none⟩)), (6, .pointer (some ⟨bx39, 0, none⟩)), (7, .string t50), (8, .int .i64 0), (22, .bool (decide (p1 ≥ (0 : Int))))]) rfl trivial fun a hk => ?_
    cases b344 : (decide (p1 ≥ (0 : Int)))
    · rw [b344] at hk H
      replace H := bifF H
      refine x_run tab hk (k := 6) (lv := []) (ks := [1, 5, 6, 7, 8, 28]) (e' := [(1, .int .i64 p1), (5, .pointer (some ⟨bx34, 0, none⟩)), (6, .pointer (some ⟨bx39, 0, none⟩)), (7, .string t50), (8, .int .i64 0), (28, .bool false)]) rfl trivial fun a hk => ?_
      refine wpListIn_nil ?_
      refine then_n ?_
      exact ⟨(fun b_ => (fun l_ => if l_ = 2 then 18 else if l_ = 3 then 20 else if l_ = 4 then 19 else if l_ = 5 then 21 else l_) (o53 b_)), false, (by exact Kn.pick (ks := [1, 5, 6, 7, 8, 28]) hk rfl), (hs.relab0 (fun l_ => if l_ = 2 then 18 else if l_ = 3 then 20 else if l_ = 4 then 19 else if l_ = 5 then 21 else l_) rfl), (f25.relab (fun l_ => if l_ = 2 then 18 else if l_ = 3 then 20 else if l_ = 4 then 19 else if l_ = 5 then 21 else l_) rfl), (f29.relab (fun l_ => if l_ = 2 then 18 else if l_ = 3 then 20 else if l_ = 4 then 19 else if l_ = 5 then 21 else l_) rfl), (f35.relab (fun l_ => if l_ = 2 then 18 else if l_ = 3 then 20 else if l_ = 4 then 19 else if l_ = 5 then 21 else l_) rfl), (f40.relab (fun l_ => if l_ = 2 then 18 else if l_ = 3 then 20 else if l_ = 4 then 19 else if l_ = 5 then 21 else l_) rfl), (fg0.relab (fun l_ => if l_ = 2 then 18 else if l_ = 3 then 20 else if l_ = 4 then 19 else if l_ = 5 then 21 else l_) rfl), H⟩
    · rw [b344] at hk H
      replace H := bifT H
      refine x_run tab hk (k := 6) (lv := [.slice A27 (t18.2.Nums).length c28]) (ks := [1, 5, 6, 7, 8, 28]) (e' := [(1, .int .i64 p1), (5, .pointer (some ⟨bx34, 0, none⟩)), (6, .pointer (some ⟨bx39, 0, none⟩)), (7, .string t50), (8, .int .i64 0), (28, .bool (decide (p1 < ((t18.2.Nums).length : Int))))]) rfl ⟨(load1 tab rfl ((Bx.cell f40.now 2).trans rfl)), trivial⟩ fun a hk => ?_
      refine wpListIn_nil ?_
      refine then_n ?_
      exact ⟨(fun b_ => (fun l_ => if l_ = 2 then 18 else if l_ = 3 then 20 else if l_ = 4 then 19 else if l_ = 5 then 21 else l_) (o53 b_)), (decide (p1 < ((t18.2.Nums).length : Int))), (by exact Kn.pick (ks := [1, 5, 6, 7, 8, 28]) hk rfl), (hs.relab0 (fun l_ => if l_ = 2 then 18 else if l_ = 3 then 20 else if l_ = 4 then 19 else if l_ = 5 then 21 else l_) rfl), (f25.relab (fun l_ => if l_ = 2 then 18 else if l_ = 3 then 20 else if l_ = 4 then 19 else if l_ = 5 then 21 else l_) rfl), (f29.relab (fun l_ => if l_ = 2 then 18 else if l_ = 3 then 20 else if l_ = 4 then 19 else if l_ = 5 then 21 else l_) rfl), (f35.relab (fun l_ => if l_ = 2 then 18 else if l_ = 3 then 20 else if l_ = 4 then 19 else if l_ = 5 then 21 else l_) rfl), (f40.relab (fun l_ => if l_ = 2 then 18 else if l_ = 3 then 20 else if l_ = 4 then 19 else if l_ = 5 then 21 else l_) rfl), (fg0.relab (fun l_ => if l_ = 2 then 18 else if l_ = 3 then 20 else if l_ = 4 then 19 else if l_ = 5 then 21 else l_) rfl), H⟩
  · rw [b14] at hk H
    replace H := bifT H
    refine x_if hk (b := true) rfl ?_
    refine (show Code.wpIn _ _ _ _ _ _ _ from ?_)
    refine x_seq ?_
    refine wpIn_region_lit ?_
    refine x_run tab hk (k := 1) (lv := []) (ks := [4]) (e' := [(4, .bool false)]) rfl trivial fun a hk => ?_
    refine wpListIn_nil ?_
    refine then_n ?_
    refine wpIn_ret ?_
    refine then_r ?_
    obtain rfl := Option.some.inj H
    exact x_retG hk (rs := [.tmp 4]) (vs := [.bool false]) rfl ⟨rfl, trivial⟩ ⟨fun b_ => if b_ < w.heap.size then o b_ else (fun _ => 0) (o12 b_), rfl, hs.close0 o (fun _ => 0)⟩

/-! tidewrack/tidewrackref02.Open -/
theorem tidewrackref02_Open_calls (K : Nat) (p0 : ByteArray) (w : World) (o : Nat → Nat)   (r : ByteArray × Bool) (H : tidewrackref02_Open K p0 = some r) :
    Calls Tryd.prog 32 #[.string p0] w (Ret fun v_ w' => ∃ o' : Nat → Nat, v_ = .tuple #[.string r.1, .bool r.2] ∧ St [] w o w' o') := by
  refine x_enter (vs := [.string p0]) Tryd.func32 rfl rfl rfl fun a hk => ?_
  obtain ⟨o0, hs, h0⟩ := St.start w o
  clear h0
  rw [tidewrackref02_Open] at H
  refine x_seq ?_
  refine wpIn_region_lit ?_
  refine x_run tab hk (k := 2) (lv := []) (ks := [0]) (e' := [(0, .string p0)]) rfl trivial fun a hk => ?_
  refine wpListIn_nil ?_
  refine then_n ?_
  refine x_seq ?_
  refine x_mid (fun a_ w_ => ∃ o18 : Nat → Nat, ∃ x19 : Bool, Kn 22 a_ [(0, .string p0), (16, .bool x19)] ∧ St [] w (fun _ => 0) w_ o18 ∧ tidewrackref02_Open_j1 p0 x19 = some r) ?_ ?_
  rotate_left
  · rintro a w20 ⟨o18, x19, hk, hs, H⟩
    rw [tidewrackref02_Open_j1] at H
    cases b21 : x19
    · rw [b21] at hk H
      replace H := bifF H
      refine x_if hk (b := false) rfl ?_
      refine (show Code.wpIn _ _ _ _ _ _ _ from ?_)
      refine wpIn_skip ?_
      refine then_n ?_
      refine x_seq ?_
      refine wpIn_region_lit ?_
      obtain ⟨q22, H⟩ := ifS H
      obtain ⟨q23, H⟩ := ifS H
      refine x_run tab hk (k := 7) (lv := []) (ks := [2, 3]) (e' := [(2, .string (ByteArray.extract p0 0 (Int.toNat (IntKind.wrap .i64 (((p0).size : Int) - 4))))), (3, .bool true)]) rfl ⟨q22, q23, trivial⟩ fun a hk => ?_
      refine wpListIn_nil ?_
      refine then_n ?_
      refine wpIn_ret ?_
      obtain rfl := Option.some.inj H
      exact x_retG hk (rs := [.tmp 2, .tmp 3]) (vs := [.string (ByteArray.extract p0 0 (Int.toNat (IntKind.wrap .i64 (((p0).size : Int) - 4)))), .bool true]) rfl ⟨rfl, rfl, trivial⟩ ⟨fun b_ => if b_ < w.heap.size then o b_ else (fun _ => 0) (o18 b_), rfl, hs.close0 o (fun _ => 0)⟩
    · rw [b21] at hk H
      replace H := bifT H
      refine x_if hk (b := true) rfl ?_
      refine (show Code.wpIn _ _ _ _ _ _ _ from ?_)
      refine x_seq ?_
      refine wpIn_region_lit ?_
      refine x_run tab hk (k := 2) (lv := []) (ks := [2, 3]) (e' := [(2, .string (⟨#[]⟩ : ByteArray)), (3, .bool false)]) rfl trivial fun a hk => ?_
      refine wpListIn_nil ?_
      refine then_n ?_
      refine wpIn_ret ?_
      refine then_r ?_
      obtain rfl := Option.some.inj H
      exact x_retG hk (rs := [.tmp 2, .tmp 3]) (vs := [.string (⟨#[]⟩ : ByteArray), .bool false]) rfl ⟨rfl, rfl, trivial⟩ ⟨fun b_ => if b_ < w.heap.size then o b_ else (fun _ => 0) (o18 b_), rfl, hs.close0 o (fun _ => 0)⟩
  refine wpIn_region_lit ?_
  refine x_run tab hk (k := 4) (lv := []) (ks := [0, 7]) (e' := [(0, .string p0), (7, .bool (decide (((p0).size : Int) < (4 : Int))))]) rfl trivial fun a hk => ?_
  cases b24 : (decide (((p0).size : Int) < (4 : Int)))
  · rw [b24] at hk H
    replace H := bifF H
    obtain ⟨q25, H⟩ := ifS H
    obtain ⟨q26, H⟩ := ifS H
    refine x_run tab hk (k := 5) (lv := []) (ks := [0, 7, 12]) (e' := [(0, .string p0), (7, .bool false), (12, .string (ByteArray.extract p0 0 (Int.toNat (IntKind.wrap .i64 (((p0).size : Int) - 4)))))]) rfl ⟨q25, q26, trivial⟩ fun a hk => ?_
    refine x_op hk rfl ?_
    obtain ⟨t30, hc31, H⟩ := bindS H
    refine op_call hk ent_40 (vs := [.string (ByteArray.extract p0 0 (Int.toNat (IntKind.wrap .i64 (((p0).size : Int) - 4))))]) rfl (tidewrackref02_Seal_calls K (ByteArray.extract p0 0 (Int.toNat (IntKind.wrap .i64 (((p0).size : Int) - 4)))) _ o0    _ hc31) ?_
    rintro _ w32 ⟨o33, rfl, st34⟩
    replace hs := hs.loc0 st34 (by decide)
    have hk := hk.put 13 (.string t30) rfl
    refine x_run tab hk (k := 3) (lv := []) (ks := [0, 16]) (e' := [(0, .string p0), (16, .bool (!(ByteArray.toList t30 == ByteArray.toList p0)))]) rfl trivial fun a hk => ?_
    refine wpListIn_nil ?_
    refine then_n ?_
    exact ⟨o33, (!(ByteArray.toList t30 == ByteArray.toList p0)), (by exact Kn.pick (ks := [0, 16]) hk rfl), hs, H⟩
  · rw [b24] at hk H
    replace H := bifT H
    refine x_run tab hk (k := 9) (lv := []) (ks := [0, 16]) (e' := [(0, .string p0), (16, .bool true)]) rfl trivial fun a hk => ?_
    refine wpListIn_nil ?_
    refine then_n ?_
    exact ⟨o0, true, (by exact Kn.pick (ks := [0, 16]) hk rfl), hs, H⟩

/-! tidewrack/tidewrackref01.Read -/
theorem tidewrackref01_Read_calls (K : Nat) (p0 : T59) (w : World) (o : Nat → Nat)   (r : T59 × Int) (H : tidewrackref01_Read K p0 = some r) :
    Calls Tryd.prog 33 #[.agg #[.string p0.S, .int .i64 p0.E]] w (Ret fun v_ w' => ∃ o' : Nat → Nat, v_ = .tuple #[.agg #[.string r.1.S, .int .i64 r.1.E], .int .i64 r.2] ∧ St [] w o w' o') := by
  refine x_enter (vs := [.agg #[.string p0.S, .int .i64 p0.E]]) Tryd.func33 rfl rfl rfl fun a hk => ?_
  obtain ⟨o0, hs, h0⟩ := St.start w o
  clear h0
  rw [tidewrackref01_Read] at H
  refine x_seq ?_
  refine wpIn_region_lit ?_
  refine x_op hk rfl ?_
  refine op_box (o := o0) (t := 60) (v := .agg #[.string p0.S, .int .i64 p0.E]) (cs := [.string p0.S, .int .i64 p0.E]) hk rfl rfl 1 fun bx4 w1 o2 st3 f5 => ?_
  replace hs := hs.loc0 st3 (by decide)
  have hk := hk.put 1 (.pointer (some ⟨bx4, 0, none⟩)) rfl
  refine x_op hk rfl ?_
  refine op_alloc (o := o2) tab (t := 60) (cs := [.string (⟨#[]⟩ : ByteArray), .int .i64 0]) rfl rfl 2 fun bx9 w6 o7 st8 f10 => ?_
  replace f5 := f5.st st8 (by decide)
  replace hs := hs.loc0 st8 (by decide)
  have hk := hk.put 2 (.pointer (some ⟨bx9, 0, none⟩)) rfl
  refine x_run tab hk (k := 1) (lv := []) (ks := [1, 2]) (e' := [(1, .pointer (some ⟨bx4, 0, none⟩)), (2, .pointer (some ⟨bx9, 0, none⟩))]) rfl trivial fun a hk => ?_
  refine wpListIn_nil ?_
  refine then_n ?_
  refine x_seq ?_
  refine x_seq ?_
  refine wpIn_region_lit ?_
  refine x_run tab hk (k := 3) (lv := [.int .i64 p0.E]) (ks := [1, 2, 10]) (e' := [(1, .pointer (some ⟨bx4, 0, none⟩)), (2, .pointer (some ⟨bx9, 0, none⟩)), (10, .bool (p0.E != (0 : Int)))]) rfl ⟨(load1 tab rfl ((Bx.cell f5.now 1).trans rfl)), trivial⟩ fun a hk => ?_
  refine wpListIn_nil ?_
  refine then_n ?_
  cases b11 : (p0.E != (0 : Int))
  · rw [b11] at hk H
    replace H := bifF H
    refine x_if hk (b := false) rfl ?_
    refine (show Code.wpIn _ _ _ _ _ _ _ from ?_)
    refine wpIn_skip ?_
    refine then_n ?_
    refine x_seq ?_
    refine wpIn_region_lit ?_
    refine x_run tab hk (k := 1) (lv := []) (ks := [1, 2, 4]) (e' := [(1, .pointer (some ⟨bx4, 0, none⟩)), (2, .pointer (some ⟨bx9, 0, none⟩)), (4, .int .i64 0)]) rfl trivial fun a hk => ?_
    refine wpListIn_nil ?_
    refine then_n ?_
    refine x_seq ?_
    refine wpIn_region_lit ?_
    refine x_run tab hk (k := 1) (lv := []) (ks := [1, 2, 4, 5]) (e' := [(1, .pointer (some ⟨bx4, 0, none⟩)), (2, .pointer (some ⟨bx9, 0, none⟩)), (4, .int .i64 0), (5, .int .i64 1)]) rfl trivial fun a hk => ?_
    refine wpListIn_nil ?_
    refine then_n ?_
    refine x_mid (fun a_ w_ => ∃ o182 : Nat → Nat, Kn 58 a_ [(2, .pointer (some ⟨bx9, 0, none⟩))] ∧ St [] w (fun _ => 0) w_ o182 ∧ Ft (Bx bx9 60 [.string (⟨#[]⟩ : ByteArray), .int .i64 0]) w_ o182 25 ∧ tidewrackref01_Read_j1 = some r) ?_ ?_
    rotate_left
    · rintro a w183 ⟨o182, hk, hs, f10, H⟩
      rw [tidewrackref01_Read_j1] at H
      refine x_seq ?_
      refine wpIn_region_lit ?_
      refine x_run tab hk (k := 1) (lv := []) (ks := [2, 57]) (e' := [(2, .pointer (some ⟨bx9, 0, none⟩)), (57, .agg #[.string (⟨#[]⟩ : ByteArray), .int .i64 1])]) rfl trivial fun a hk => ?_
      refine x_op hk rfl ?_
      refine op_store tab hk (t := 60) (v := .agg #[.string (⟨#[]⟩ : ByteArray), .int .i64 1]) (b := bx9) (k := 0) (cs' := [.string (⟨#[]⟩ : ByteArray), .int .i64 1]) rfl rfl rfl rfl rfl rfl f10 rfl rfl fun w184 o185 st186 f10_ => ?_
      replace hs := hs.loc0 st186 (by decide)
      replace f10 := f10_
      refine x_run tab hk (k := 1) (lv := []) (ks := [2, 3]) (e' := [(2, .pointer (some ⟨bx9, 0, none⟩)), (3, .int .i64 0)]) rfl trivial fun a hk => ?_
      refine wpListIn_nil ?_
      refine then_n ?_
      refine wpIn_ret ?_
      obtain rfl := Option.some.inj H
      exact x_retG hk (rs := [.cell 2 60, .tmp 3]) (vs := [.agg #[.string (⟨#[]⟩ : ByteArray), .int .i64 1], .int .i64 0]) rfl ⟨⟨_, rfl, load_box tab rfl rfl f10.now (k := 0) rfl rfl⟩, rfl, trivial⟩ ⟨fun b_ => if b_ < w.heap.size then o b_ else (fun _ => 0) (o185 b_), rfl, hs.close0 o (fun _ => 0)⟩
    refine x_seq ?_
    refine wpIn_region_lit ?_
    refine x_run tab hk (k := 1) (lv := []) (ks := [1, 2, 4, 5, 6]) (e' := [(1, .pointer (some ⟨bx4, 0, none⟩)), (2, .pointer (some ⟨bx9, 0, none⟩)), (4, .int .i64 0), (5, .int .i64 1), (6, .int .i64 0)]) rfl trivial fun a hk => ?_
    refine wpListIn_nil ?_
    refine then_n ?_
    refine wpIn_block ?_
    refine x_loop (fun j_ a_ w_ => ∃ o242 : Nat → Nat, ∃ x243 : Int, ∃ x244 : Int, ∃ x245 : Int, Kn 58 a_ [(1, .pointer (some ⟨bx4, 0, none⟩)), (2, .pointer (some ⟨bx9, 0, none⟩)), (4, .int .i64 x243), (5, .int .i64 x244), (6, .int .i64 x245)] ∧ St [] w (fun _ => 0) w_ o242 ∧ Ft (Bx bx9 60 [.string (⟨#[]⟩ : ByteArray), .int .i64 0]) w_ o242 35 ∧ Ft (Bx bx4 60 [.string p0.S, .int .i64 p0.E]) w_ o242 34 ∧ tidewrackref01_Read_l2 p0 j_ x243 x244 x245 = some r) (k := K) ⟨(fun b_ => (fun l_ => if l_ = 1 then 34 else if l_ = 2 then 35 else l_) (o7 b_)), 0, 1, 0, (by exact Kn.pick (ks := [1, 2, 4, 5, 6]) hk rfl), (hs.relab0 (fun l_ => if l_ = 1 then 34 else if l_ = 2 then 35 else l_) rfl), (f10.relab (fun l_ => if l_ = 1 then 34 else if l_ = 2 then 35 else l_) rfl), (f5.relab (fun l_ => if l_ = 1 then 34 else if l_ = 2 then 35 else l_) rfl), H⟩ (by rintro _ _ ⟨_, _, _, _, _, _, _, _, H_⟩; exact absurd (show (none : Option (T59 × Int)) = some r from H_) (by simp)) ?_
    rintro k299 a w298 ⟨o242, x243, x244, x245, hk, hs, f10, f5, H⟩
    rw [tidewrackref01_Read_l2] at H
    obtain ⟨lp300, hlp301⟩ : ∃ lp_, lp_ = tidewrackref01_Read_l2 p0 k299 := ⟨_, rfl⟩
    rw [← hlp301] at H
    refine x_seq ?_
    refine x_seq ?_
    refine wpIn_region_lit ?_
    refine x_run tab hk (k := 2) (lv := []) (ks := [1, 2, 4, 5, 6, 13]) (e' := [(1, .pointer (some ⟨bx4, 0, none⟩)), (2, .pointer (some ⟨bx9, 0, none⟩)), (4, .int .i64 x243), (5, .int .i64 x244), (6, .int .i64 x245), (13, .bool (decide (x245 < (9 : Int))))]) rfl trivial fun a hk => ?_
    refine wpListIn_nil ?_
    refine then_n ?_
    cases b302 : (decide (x245 < (9 : Int)))
    · rw [b302] at hk H
      replace H := bifF H
      refine x_if hk (b := false) rfl ?_
      refine (show Code.wpIn _ _ _ _ _ _ _ from ?_)
      refine wpIn_exit ?_
      refine then_x ?_
      refine then_x ?_
      refine blk_x ?_
      refine then_n ?_
      exact ⟨(fun b_ => (fun l_ => if l_ = 35 then 25 else l_) (o242 b_)), (by exact Kn.pick (ks := [2]) hk rfl), (hs.relab0 (fun l_ => if l_ = 35 then 25 else l_) rfl), (f10.relab (fun l_ => if l_ = 35 then 25 else l_) rfl), H⟩
    · rw [b302] at hk H
      replace H := bifT H
      refine x_if hk (b := true) rfl ?_
      refine (show Code.wpIn _ _ _ _ _ _ _ from ?_)
      refine wpIn_skip ?_
      refine then_n ?_
      refine x_seq ?_
      refine wpIn_block ?_
      refine x_seq ?_
      refine x_seq ?_
      refine wpIn_region_lit ?_
      refine x_run tab hk (k := 5) (lv := [.string p0.S]) (ks := [1, 2, 4, 5, 6, 20]) (e' := [(1, .pointer (some ⟨bx4, 0, none⟩)), (2, .pointer (some ⟨bx9, 0, none⟩)), (4, .int .i64 x243), (5, .int .i64 x244), (6, .int .i64 x245), (20, .bool (x245 == ((p0.S).size : Int)))]) rfl ⟨(load1 tab rfl ((Bx.cell f5.now 0).trans rfl)), trivial⟩ fun a hk => ?_
      refine wpListIn_nil ?_
      refine then_n ?_
      cases b303 : (x245 == ((p0.S).size : Int))
      · rw [b303] at hk H
        replace H := bifF H
        refine x_if hk (b := false) rfl ?_
        refine (show Code.wpIn _ _ _ _ _ _ _ from ?_)
        refine wpIn_skip ?_
        refine then_n ?_
        refine x_seq ?_
        refine wpIn_region_lit ?_
        obtain ⟨q304, H⟩ := ifS H
        refine x_run tab hk (k := 6) (lv := [.string p0.S]) (ks := [1, 2, 4, 5, 6, 7]) (e' := [(1, .pointer (some ⟨bx4, 0, none⟩)), (2, .pointer (some ⟨bx9, 0, none⟩)), (4, .int .i64 x243), (5, .int .i64 x244), (6, .int .i64 x245), (7, .int .i64 (IntKind.wrap .i64 (bt p0.S x245)))]) rfl ⟨(load1 tab rfl ((Bx.cell f5.now 0).trans rfl)), q304, trivial⟩ fun a hk => ?_
        refine wpListIn_nil ?_
        refine then_n ?_
        refine x_seq ?_
        refine wpIn_region_lit ?_
        refine x_run tab hk (k := 7) (lv := []) (ks := [1, 2, 4, 5, 6, 7]) (e' := [(1, .pointer (some ⟨bx4, 0, none⟩)), (2, .pointer (some ⟨bx9, 0, none⟩)), (4, .int .i64 (IntKind.wrap .i64 (x243 + (IntKind.wrap .i64 ((Int.tmod (IntKind.wrap .i64 (bt p0.S x245)) 128) * x244))))), (5, .int .i64 x244), (6, .int .i64 x245), (7, .int .i64 (IntKind.wrap .i64 (bt p0.S x245)))]) rfl ⟨(show (128 : Int) ≠ 0 from by decide), trivial⟩ fun a hk => ?_
        refine wpListIn_nil ?_
        refine then_n ?_
        refine x_seq ?_
        refine x_seq ?_
        refine wpIn_region_lit ?_
        refine x_run tab hk (k := 2) (lv := []) (ks := [1, 2, 4, 5, 6, 7, 34]) (e' := [(1, .pointer (some ⟨bx4, 0, none⟩)), (2, .pointer (some ⟨bx9, 0, none⟩)), (4, .int .i64 (IntKind.wrap .i64 (x243 + (IntKind.wrap .i64 ((Int.tmod (IntKind.wrap .i64 (bt p0.S x245)) 128) * x244))))), (5, .int .i64 x244), (6, .int .i64 x245), (7, .int .i64 (IntKind.wrap .i64 (bt p0.S x245))), (34, .bool (decide ((IntKind.wrap .i64 (bt p0.S x245)) < (128 : Int))))]) rfl trivial fun a hk => ?_
        refine wpListIn_nil ?_
        refine then_n ?_
        cases b305 : (decide ((IntKind.wrap .i64 (bt p0.S x245)) < (128 : Int)))
        · rw [b305] at hk H
          replace H := bifF H
          refine x_if hk (b := false) rfl ?_
          refine (show Code.wpIn _ _ _ _ _ _ _ from ?_)
          refine wpIn_skip ?_
          refine then_n ?_
          refine x_seq ?_
          refine wpIn_region_lit ?_
          refine x_run tab hk (k := 2) (lv := []) (ks := [1, 2, 4, 5, 6, 54]) (e' := [(1, .pointer (some ⟨bx4, 0, none⟩)), (2, .pointer (some ⟨bx9, 0, none⟩)), (4, .int .i64 (IntKind.wrap .i64 (x243 + (IntKind.wrap .i64 ((Int.tmod (IntKind.wrap .i64 (bt p0.S x245)) 128) * x244))))), (5, .int .i64 x244), (6, .int .i64 x245), (54, .bool (decide (x245 < (8 : Int))))]) rfl trivial fun a hk => ?_
          refine wpListIn_nil ?_
          refine then_n ?_
          cases b306 : (decide (x245 < (8 : Int)))
          · rw [b306] at hk H
            replace H := bifF H
            refine x_if hk (b := false) rfl ?_
            refine (show Code.wpIn _ _ _ _ _ _ _ from ?_)
            refine wpIn_skip ?_
            refine blk_n ?_
            refine then_n ?_
            refine wpIn_region_lit ?_
            refine x_run tab hk (k := 3) (lv := []) (ks := [1, 2, 4, 5, 6]) (e' := [(1, .pointer (some ⟨bx4, 0, none⟩)), (2, .pointer (some ⟨bx9, 0, none⟩)), (4, .int .i64 (IntKind.wrap .i64 (x243 + (IntKind.wrap .i64 ((Int.tmod (IntKind.wrap .i64 (bt p0.S x245)) 128) * x244))))), (5, .int .i64 x244), (6, .int .i64 (IntKind.wrap .i64 (x245 + 1)))]) rfl trivial fun a hk => ?_
            refine wpListIn_nil ?_
            refine then_n ?_
            exact ⟨k299, Nat.le_refl _, o242, (IntKind.wrap .i64 (x243 + (IntKind.wrap .i64 ((Int.tmod (IntKind.wrap .i64 (bt p0.S x245)) 128) * x244)))), x244, (IntKind.wrap .i64 (x245 + 1)), (by exact Kn.pick (ks := [1, 2, 4, 5, 6]) hk rfl), hs, f10, f5, (hlp301 ▸ H)⟩
          · rw [b306] at hk H
            replace H := bifT H
            refine x_if hk (b := true) rfl ?_
            refine (show Code.wpIn _ _ _ _ _ _ _ from ?_)
            refine wpIn_region_lit ?_
            refine x_run tab hk (k := 3) (lv := []) (ks := [1, 2, 4, 5, 6]) (e' := [(1, .pointer (some ⟨bx4, 0, none⟩)), (2, .pointer (some ⟨bx9, 0, none⟩)), (4, .int .i64 (IntKind.wrap .i64 (x243 + (IntKind.wrap .i64 ((Int.tmod (IntKind.wrap .i64 (bt p0.S x245)) 128) * x244))))), (5, .int .i64 (IntKind.wrap .i64 (x244 * 128))), (6, .int .i64 x245)]) rfl trivial fun a hk => ?_
            refine wpListIn_nil ?_
            refine blk_n ?_
            refine then_n ?_
            refine wpIn_region_lit ?_
            refine x_run tab hk (k := 3) (lv := []) (ks := [1, 2, 4, 5, 6]) (e' := [(1, .pointer (some ⟨bx4, 0, none⟩)), (2, .pointer (some ⟨bx9, 0, none⟩)), (4, .int .i64 (IntKind.wrap .i64 (x243 + (IntKind.wrap .i64 ((Int.tmod (IntKind.wrap .i64 (bt p0.S x245)) 128) * x244))))), (5, .int .i64 (IntKind.wrap .i64 (x244 * 128))), (6, .int .i64 (IntKind.wrap .i64 (x245 + 1)))]) rfl trivial fun a hk => ?_
            refine wpListIn_nil ?_
            refine then_n ?_
            exact ⟨k299, Nat.le_refl _, o242, (IntKind.wrap .i64 (x243 + (IntKind.wrap .i64 ((Int.tmod (IntKind.wrap .i64 (bt p0.S x245)) 128) * x244)))), (IntKind.wrap .i64 (x244 * 128)), (IntKind.wrap .i64 (x245 + 1)), (by exact Kn.pick (ks := [1, 2, 4, 5, 6]) hk rfl), hs, f10, f5, (hlp301 ▸ H)⟩
        · rw [b305] at hk H
          replace H := bifT H
          refine x_if hk (b := true) rfl ?_
          refine (show Code.wpIn _ _ _ _ _ _ _ from ?_)
          refine x_mid (fun a_ w_ => ∃ o327 : Nat → Nat, Kn 58 a_ [(1, .pointer (some ⟨bx4, 0, none⟩)), (2, .pointer (some ⟨bx9, 0, none⟩)), (4, .int .i64 (IntKind.wrap .i64 (x243 + (IntKind.wrap .i64 ((Int.tmod (IntKind.wrap .i64 (bt p0.S x245)) 128) * x244))))), (6, .int .i64 x245)] ∧ St [] w (fun _ => 0) w_ o327 ∧ Ft (Bx bx9 60 [.string (⟨#[]⟩ : ByteArray), .int .i64 0]) w_ o327 45 ∧ Ft (Bx bx4 60 [.string p0.S, .int .i64 p0.E]) w_ o327 44 ∧ tidewrackref01_Read_j3 p0 x243 x244 x245 = some r) ?_ ?_
          rotate_left
          · rintro a w328 ⟨o327, hk, hs, f10, f5, H⟩
            rw [tidewrackref01_Read_j3] at H
            refine x_seq ?_
            refine wpIn_region_lit ?_
            obtain ⟨q329, H⟩ := ifS H
            obtain ⟨q330, H⟩ := ifS H
            refine x_run tab hk (k := 7) (lv := [.string p0.S]) (ks := [2, 51, 52]) (e' := [(2, .pointer (some ⟨bx9, 0, none⟩)), (51, .agg #[.string (ByteArray.extract p0.S (Int.toNat (IntKind.wrap .i64 (x245 + 1))) (p0.S).size), .int .i64 0]), (52, .int .i64 (IntKind.wrap .i64 (x243 + (IntKind.wrap .i64 ((Int.tmod (IntKind.wrap .i64 (bt p0.S x245)) 128) * x244)))))]) rfl ⟨(load1 tab rfl ((Bx.cell f5.now 0).trans rfl)), q329, q330, trivial⟩ fun a hk => ?_
            refine x_op hk rfl ?_
            refine op_store tab hk (t := 60) (v := .agg #[.string (ByteArray.extract p0.S (Int.toNat (IntKind.wrap .i64 (x245 + 1))) (p0.S).size), .int .i64 0]) (b := bx9) (k := 0) (cs' := [.string (ByteArray.extract p0.S (Int.toNat (IntKind.wrap .i64 (x245 + 1))) (p0.S).size), .int .i64 0]) rfl rfl rfl rfl rfl rfl f10 rfl rfl fun w331 o332 st333 f10_ => ?_
            replace hs := hs.loc0 st333 (by decide)
            replace f10 := f10_
            refine x_run tab hk (k := 1) (lv := []) (ks := [2, 3]) (e' := [(2, .pointer (some ⟨bx9, 0, none⟩)), (3, .int .i64 (IntKind.wrap .i64 (x243 + (IntKind.wrap .i64 ((Int.tmod (IntKind.wrap .i64 (bt p0.S x245)) 128) * x244)))))]) rfl trivial fun a hk => ?_
            refine wpListIn_nil ?_
            refine then_n ?_
            refine wpIn_ret ?_
            refine then_r ?_
            refine blk_r ?_
            refine then_r ?_
            refine then_r ?_
            refine blk_r ?_
            refine then_r ?_
            obtain rfl := Option.some.inj H
            exact x_retG hk (rs := [.cell 2 60, .tmp 3]) (vs := [.agg #[.string (ByteArray.extract p0.S (Int.toNat (IntKind.wrap .i64 (x245 + 1))) (p0.S).size), .int .i64 0], .int .i64 (IntKind.wrap .i64 (x243 + (IntKind.wrap .i64 ((Int.tmod (IntKind.wrap .i64 (bt p0.S x245)) 128) * x244))))]) rfl ⟨⟨_, rfl, load_box tab rfl rfl f10.now (k := 0) rfl rfl⟩, rfl, trivial⟩ ⟨fun b_ => if b_ < w.heap.size then o b_ else (fun _ => 0) (o332 b_), rfl, hs.close0 o (fun _ => 0)⟩
          refine x_mid (fun a_ w_ => ∃ o342 : Nat → Nat, ∃ x343 : Bool, Kn 58 a_ [(1, .pointer (some ⟨bx4, 0, none⟩)), (2, .pointer (some ⟨bx9, 0, none⟩)), (4, .int .i64 (IntKind.wrap .i64 (x243 + (IntKind.wrap .i64 ((Int.tmod (IntKind.wrap .i64 (bt p0.S x245)) 128) * x244))))), (6, .int .i64 x245), (44, .bool x343)] ∧ St [] w (fun _ => 0) w_ o342 ∧ Ft (Bx bx9 60 [.string (⟨#[]⟩ : ByteArray), .int .i64 0]) w_ o342 47 ∧ Ft (Bx bx4 60 [.string p0.S, .int .i64 p0.E]) w_ o342 46 ∧ tidewrackref01_Read_j4 p0 x243 x244 x245 x343 = some r) ?_ ?_
          rotate_left
          · rintro a w344 ⟨o342, x343, hk, hs, f10, f5, H⟩
            rw [tidewrackref01_Read_j4] at H
            cases b345 : x343
            · rw [b345] at hk H
              replace H := bifF H
              refine x_if hk (b := false) rfl ?_
              refine (show Code.wpIn _ _ _ _ _ _ _ from ?_)
              refine wpIn_skip ?_
              refine then_n ?_
              exact ⟨(fun b_ => (fun l_ => if l_ = 46 then 44 else if l_ = 47 then 45 else l_) (o342 b_)), (by exact Kn.pick (ks := [1, 2, 4, 6]) hk rfl), (hs.relab0 (fun l_ => if l_ = 46 then 44 else if l_ = 47 then 45 else l_) rfl), (f10.relab (fun l_ => if l_ = 46 then 44 else if l_ = 47 then 45 else l_) rfl), (f5.relab (fun l_ => if l_ = 46 then 44 else if l_ = 47 then 45 else l_) rfl), H⟩
            · rw [b345] at hk H
              replace H := bifT H
              refine x_if hk (b := true) rfl ?_
              refine (show Code.wpIn _ _ _ _ _ _ _ from ?_)
              refine x_seq ?_
              refine wpIn_region_lit ?_
              refine x_run tab hk (k := 1) (lv := []) (ks := [2, 45]) (e' := [(2, .pointer (some ⟨bx9, 0, none⟩)), (45, .agg #[.string (⟨#[]⟩ : ByteArray), .int .i64 1])]) rfl trivial fun a hk => ?_
              refine x_op hk rfl ?_
              refine op_store tab hk (t := 60) (v := .agg #[.string (⟨#[]⟩ : ByteArray), .int .i64 1]) (b := bx9) (k := 0) (cs' := [.string (⟨#[]⟩ : ByteArray), .int .i64 1]) rfl rfl rfl rfl rfl rfl f10 rfl rfl fun w346 o347 st348 f10_ => ?_
              replace hs := hs.loc0 st348 (by decide)
              replace f10 := f10_
              refine x_run tab hk (k := 1) (lv := []) (ks := [2, 3]) (e' := [(2, .pointer (some ⟨bx9, 0, none⟩)), (3, .int .i64 0)]) rfl trivial fun a hk => ?_
              refine wpListIn_nil ?_
              refine then_n ?_
              refine wpIn_ret ?_
              refine then_r ?_
              refine then_r ?_
              refine blk_r ?_
              refine then_r ?_
              refine then_r ?_
              refine blk_r ?_
              refine then_r ?_
              obtain rfl := Option.some.inj H
              exact x_retG hk (rs := [.cell 2 60, .tmp 3]) (vs := [.agg #[.string (⟨#[]⟩ : ByteArray), .int .i64 1], .int .i64 0]) rfl ⟨⟨_, rfl, load_box tab rfl rfl f10.now (k := 0) rfl rfl⟩, rfl, trivial⟩ ⟨fun b_ => if b_ < w.heap.size then o b_ else (fun _ => 0) (o347 b_), rfl, hs.close0 o (fun _ => 0)⟩
          refine wpIn_region_lit ?_
          refine x_run tab hk (k := 3) (lv := []) (ks := [1, 2, 4, 6, 7, 37]) (e' := [(1, .pointer (some ⟨bx4, 0, none⟩)), (2, .pointer (some ⟨bx9, 0, none⟩)), (4, .int .i64 (IntKind.wrap .i64 (x243 + (IntKind.wrap .i64 ((Int.tmod (IntKind.wrap .i64 (bt p0.S x245)) 128) * x244))))), (6, .int .i64 x245), (7, .int .i64 (IntKind.wrap .i64 (bt p0.S x245))), (37, .bool (decide (x245 > (0 : Int))))]) rfl trivial fun a hk => ?_
          cases b349 : (decide (x245 > (0 : Int)))
          · rw [b349] at hk H
            replace H := bifF H
            refine x_run tab hk (k := 7) (lv := []) (ks := [1, 2, 4, 6, 44]) (e' := [(1, .pointer (some ⟨bx4, 0, none⟩)), (2, .pointer (some ⟨bx9, 0, none⟩)), (4, .int .i64 (IntKind.wrap .i64 (x243 + (IntKind.wrap .i64 ((Int.tmod (IntKind.wrap .i64 (bt p0.S x245)) 128) * x244))))), (6, .int .i64 x245), (44, .bool (decide ((IntKind.wrap .i64 (x243 + (IntKind.wrap .i64 ((Int.tmod (IntKind.wrap .i64 (bt p0.S x245)) 128) * x244)))) > (4611686018427387904 : Int))))]) rfl trivial fun a hk => ?_
            refine wpListIn_nil ?_
            refine then_n ?_
            exact ⟨(fun b_ => (fun l_ => if l_ = 34 then 46 else if l_ = 35 then 47 else l_) (o242 b_)), (decide ((IntKind.wrap .i64 (x243 + (IntKind.wrap .i64 ((Int.tmod (IntKind.wrap .i64 (bt p0.S x245)) 128) * x244)))) > (4611686018427387904 : Int))), (by exact Kn.pick (ks := [1, 2, 4, 6, 44]) hk rfl), (hs.relab0 (fun l_ => if l_ = 34 then 46 else if l_ = 35 then 47 else l_) rfl), (f10.relab (fun l_ => if l_ = 34 then 46 else if l_ = 35 then 47 else l_) rfl), (f5.relab (fun l_ => if l_ = 34 then 46 else if l_ = 35 then 47 else l_) rfl), H⟩
          · rw [b349] at hk H
            replace H := bifT H
            refine x_run tab hk (k := 4) (lv := []) (ks := [1, 2, 4, 6, 41]) (e' := [(1, .pointer (some ⟨bx4, 0, none⟩)), (2, .pointer (some ⟨bx9, 0, none⟩)), (4, .int .i64 (IntKind.wrap .i64 (x243 + (IntKind.wrap .i64 ((Int.tmod (IntKind.wrap .i64 (bt p0.S x245)) 128) * x244))))), (6, .int .i64 x245), (41, .bool ((IntKind.wrap .i64 (bt p0.S x245)) == (0 : Int)))]) rfl trivial fun a hk => ?_
            cases b350 : ((IntKind.wrap .i64 (bt p0.S x245)) == (0 : Int))
            · rw [b350] at hk H
              replace H := bifF H
              refine x_run tab hk (k := 3) (lv := []) (ks := [1, 2, 4, 6, 44]) (e' := [(1, .pointer (some ⟨bx4, 0, none⟩)), (2, .pointer (some ⟨bx9, 0, none⟩)), (4, .int .i64 (IntKind.wrap .i64 (x243 + (IntKind.wrap .i64 ((Int.tmod (IntKind.wrap .i64 (bt p0.S x245)) 128) * x244))))), (6, .int .i64 x245), (44, .bool (decide ((IntKind.wrap .i64 (x243 + (IntKind.wrap .i64 ((Int.tmod (IntKind.wrap .i64 (bt p0.S x245)) 128) * x244)))) > (4611686018427387904 : Int))))]) rfl trivial fun a hk => ?_
              refine wpListIn_nil ?_
              refine then_n ?_
              exact ⟨(fun b_ => (fun l_ => if l_ = 34 then 46 else if l_ = 35 then 47 else l_) (o242 b_)), (decide ((IntKind.wrap .i64 (x243 + (IntKind.wrap .i64 ((Int.tmod (IntKind.wrap .i64 (bt p0.S x245)) 128) * x244)))) > (4611686018427387904 : Int))), (by exact Kn.pick (ks := [1, 2, 4, 6, 44]) hk rfl), (hs.relab0 (fun l_ => if l_ = 34 then 46 else if l_ = 35 then 47 else l_) rfl), (f10.relab (fun l_ => if l_ = 34 then 46 else if l_ = 35 then 47 else l_) rfl), (f5.relab (fun l_ => if l_ = 34 then 46 else if l_ = 35 then 47 else l_) rfl), H⟩
            · rw [b350] at hk H
              replace H := bifT H
              refine x_run tab hk (k := 3) (lv := []) (ks := [1, 2, 4, 6, 44]) (e' := [(1, .pointer (some ⟨bx4, 0, none⟩)), (2, .pointer (some ⟨bx9, 0, none⟩)), (4, .int .i64 (IntKind.wrap .i64 (x243 + (IntKind.wrap .i64 ((Int.tmod (IntKind.wrap .i64 (bt p0.S x245)) 128) * x244))))), (6, .int .i64 x245), (44, .bool true)]) rfl trivial fun a hk => ?_
              refine wpListIn_nil ?_
              refine then_n ?_
              exact ⟨(fun b_ => (fun l_ => if l_ = 34 then 46 else if l_ = 35 then 47 else l_) (o242 b_)), true, (by exact Kn.pick (ks := [1, 2, 4, 6, 44]) hk rfl), (hs.relab0 (fun l_ => if l_ = 34 then 46 else if l_ = 35 then 47 else l_) rfl), (f10.relab (fun l_ => if l_ = 34 then 46 else if l_ = 35 then 47 else l_) rfl), (f5.relab (fun l_ => if l_ = 34 then 46 else if l_ = 35 then 47 else l_) rfl), H⟩
      · rw [b303] at hk H
        replace H := bifT H
        refine x_if hk (b := true) rfl ?_
        refine (show Code.wpIn _ _ _ _ _ _ _ from ?_)
        refine x_seq ?_
        refine wpIn_region_lit ?_
        refine x_run tab hk (k := 1) (lv := []) (ks := [2, 21]) (e' := [(2, .pointer (some ⟨bx9, 0, none⟩)), (21, .agg #[.string (⟨#[]⟩ : ByteArray), .int .i64 2])]) rfl trivial fun a hk => ?_
        refine x_op hk rfl ?_
        refine op_store tab hk (t := 60) (v := .agg #[.string (⟨#[]⟩ : ByteArray), .int .i64 2]) (b := bx9) (k := 0) (cs' := [.string (⟨#[]⟩ : ByteArray), .int .i64 2]) rfl rfl rfl rfl rfl rfl f10 rfl rfl fun w351 o352 st353 f10_ => ?_
        replace hs := hs.loc0 st353 (by decide)
        replace f10 := f10_
        refine x_run tab hk (k := 1) (lv := []) (ks := [2, 3]) (e' := [(2, .pointer (some ⟨bx9, 0, none⟩)), (3, .int .i64 0)]) rfl trivial fun a hk => ?_
        refine wpListIn_nil ?_
        refine then_n ?_
        refine wpIn_ret ?_
        refine then_r ?_
        refine blk_r ?_
        refine then_r ?_
        refine then_r ?_
        refine blk_r ?_
        refine then_r ?_
        obtain rfl := Option.some.inj H
        exact x_retG hk (rs := [.cell 2 60, .tmp 3]) (vs := [.agg #[.string (⟨#[]⟩ : ByteArray), .int .i64 2], .int .i64 0]) rfl ⟨⟨_, rfl, load_box tab rfl rfl f10.now (k := 0) rfl rfl⟩, rfl, trivial⟩ ⟨fun b_ => if b_ < w.heap.size then o b_ else (fun _ => 0) (o352 b_), rfl, hs.close0 o (fun _ => 0)⟩
  · rw [b11] at hk H
    replace H := bifT H
    refine x_if hk (b := true) rfl ?_
    refine (show Code.wpIn _ _ _ _ _ _ _ from ?_)
    refine x_seq ?_
    refine wpIn_region_lit ?_
    refine x_run tab hk (k := 1) (lv := [.agg #[.string p0.S, .int .i64 p0.E]]) (ks := [2, 11]) (e' := [(2, .pointer (some ⟨bx9, 0, none⟩)), (11, .agg #[.string p0.S, .int .i64 p0.E])]) rfl ⟨(load_box tab rfl rfl f5.now (k := 0) rfl rfl), trivial⟩ fun a hk => ?_
    refine x_op hk rfl ?_
    refine op_store tab hk (t := 60) (v := .agg #[.string p0.S, .int .i64 p0.E]) (b := bx9) (k := 0) (cs' := [.string p0.S, .int .i64 p0.E]) rfl rfl rfl rfl rfl rfl f10 rfl rfl fun w354 o355 st356 f10_ => ?_
    replace hs := hs.loc0 st356 (by decide)
    replace f10 := f10_
    refine x_run tab hk (k := 1) (lv := []) (ks := [2, 3]) (e' := [(2, .pointer (some ⟨bx9, 0, none⟩)), (3, .int .i64 0)]) rfl trivial fun a hk => ?_
    refine wpListIn_nil ?_
    refine then_n ?_
    refine wpIn_ret ?_
    refine then_r ?_
    obtain rfl := Option.some.inj H
    exact x_retG hk (rs := [.cell 2 60, .tmp 3]) (vs := [.agg #[.string p0.S, .int .i64 p0.E], .int .i64 0]) rfl ⟨⟨_, rfl, load_box tab rfl rfl f10.now (k := 0) rfl rfl⟩, rfl, trivial⟩ ⟨fun b_ => if b_ < w.heap.size then o b_ else (fun _ => 0) (o355 b_), rfl, hs.close0 o (fun _ => 0)⟩

/-! tidewrack/tidewrackref01.Raw -/
theorem tidewrackref01_Raw_calls (p0 : T59) (p1 : Int) (w : World) (o : Nat → Nat)   (r : T59 × ByteArray) (H : tidewrackref01_Raw p0 p1 = some r) :
    Calls Tryd.prog 46 #[.agg #[.string p0.S, .int .i64 p0.E], .int .i64 p1] w (Ret fun v_ w' => ∃ o' : Nat → Nat, v_ = .tuple #[.agg #[.string r.1.S, .int .i64 r.1.E], .string r.2] ∧ St [] w o w' o') := by
  refine x_enter (vs := [.agg #[.string p0.S, .int .i64 p0.E], .int .i64 p1]) Tryd.func46 rfl rfl rfl fun a hk => ?_
  obtain ⟨o0, hs, h0⟩ := St.start w o
  clear h0
  rw [tidewrackref01_Raw] at H
  refine x_seq ?_
  refine wpIn_region_lit ?_
  refine x_op hk rfl ?_
  refine op_box (o := o0) (t := 60) (v := .agg #[.string p0.S, .int .i64 p0.E]) (cs := [.string p0.S, .int .i64 p0.E]) hk rfl rfl 1 fun bx4 w1 o2 st3 f5 => ?_
  replace hs := hs.loc0 st3 (by decide)
  have hk := hk.put 2 (.pointer (some ⟨bx4, 0, none⟩)) rfl
  refine x_op hk rfl ?_
  refine op_alloc (o := o2) tab (t := 60) (cs := [.string (⟨#[]⟩ : ByteArray), .int .i64 0]) rfl rfl 2 fun bx9 w6 o7 st8 f10 => ?_
  replace f5 := f5.st st8 (by decide)
  replace hs := hs.loc0 st8 (by decide)
  have hk := hk.put 4 (.pointer (some ⟨bx9, 0, none⟩)) rfl
  refine x_run tab hk (k := 1) (lv := []) (ks := [1, 2, 4]) (e' := [(1, .int .i64 p1), (2, .pointer (some ⟨bx4, 0, none⟩)), (4, .pointer (some ⟨bx9, 0, none⟩))]) rfl trivial fun a hk => ?_
  refine wpListIn_nil ?_
  refine then_n ?_
  refine x_seq ?_
  refine wpIn_region_lit ?_
  refine x_run tab hk (k := 3) (lv := []) (ks := [1, 2, 4]) (e' := [(1, .int .i64 (mxI 0 p1)), (2, .pointer (some ⟨bx4, 0, none⟩)), (4, .pointer (some ⟨bx9, 0, none⟩))]) rfl trivial fun a hk => ?_
  refine wpListIn_nil ?_
  refine then_n ?_
  refine x_seq ?_
  refine x_seq ?_
  refine wpIn_region_lit ?_
  refine x_run tab hk (k := 3) (lv := [.int .i64 p0.E]) (ks := [1, 2, 4, 10]) (e' := [(1, .int .i64 (mxI 0 p1)), (2, .pointer (some ⟨bx4, 0, none⟩)), (4, .pointer (some ⟨bx9, 0, none⟩)), (10, .bool (p0.E != (0 : Int)))]) rfl ⟨(load1 tab rfl ((Bx.cell f5.now 1).trans rfl)), trivial⟩ fun a hk => ?_
  refine wpListIn_nil ?_
  refine then_n ?_
  cases b11 : (p0.E != (0 : Int))
  · rw [b11] at hk H
    replace H := bifF H
    refine x_if hk (b := false) rfl ?_
    refine (show Code.wpIn _ _ _ _ _ _ _ from ?_)
    refine wpIn_skip ?_
    refine then_n ?_
    refine x_seq ?_
    refine x_seq ?_
    refine wpIn_region_lit ?_
    refine x_run tab hk (k := 5) (lv := [.string p0.S]) (ks := [1, 2, 4, 16]) (e' := [(1, .int .i64 (mxI 0 p1)), (2, .pointer (some ⟨bx4, 0, none⟩)), (4, .pointer (some ⟨bx9, 0, none⟩)), (16, .bool (decide ((mxI 0 p1) > ((p0.S).size : Int))))]) rfl ⟨(load1 tab rfl ((Bx.cell f5.now 0).trans rfl)), trivial⟩ fun a hk => ?_
    refine wpListIn_nil ?_
    refine then_n ?_
    cases b12 : (decide ((mxI 0 p1) > ((p0.S).size : Int)))
    · rw [b12] at hk H
      replace H := bifF H
      refine x_if hk (b := false) rfl ?_
      refine (show Code.wpIn _ _ _ _ _ _ _ from ?_)
      refine wpIn_skip ?_
      refine then_n ?_
      refine x_seq ?_
      refine xd_begin (o := o7) (fun W_ => (Bx bx4 60 [.string p0.S, .int .i64 p0.E]) W_ ∧ True) mixed rfl rfl fun w23 st24 => ?_
      replace f10 := f10.st st24 (by decide)
      replace f5 := f5.st st24 (by decide)
      replace hs := hs.loc0 st24 (by decide)
      obtain ⟨q25, H⟩ := ifS H
      obtain ⟨q26, H⟩ := ifS H
      refine xd_take tab hk (k := 2) (is := [0, 1, 2, 3, 4, 5, 6, 7, 8]) (ls' := #[true, true, true, true, true, true, true, true, true, false, false]) (lv := [.string p0.S, .string p0.S]) (ks := [4, 22, 26]) (e' := [(4, .pointer (some ⟨bx9, 0, none⟩)), (22, .agg #[.string (ByteArray.extract p0.S (Int.toNat (mxI 0 p1)) (p0.S).size), .int .i64 0]), (26, .string (ByteArray.extract p0.S 0 (Int.toNat (mxI 0 p1))))]) (by kernel_rfl) rfl rfl (by kernel_rfl) (np_then np_body) ⟨f5.now, trivial⟩ (fun W_ hS => ⟨(load1 tab rfl ((Bx.cell hS.1 0).trans rfl)), q25, q26, (load1 tab rfl ((Bx.cell hS.1 0).trans rfl)), q25, q26, trivial⟩) fun a hk => ?_
      refine xd_op hk (i := 9) (by kernel_rfl) rfl rfl ?_
      refine op_store tab hk (t := 60) (v := .agg #[.string (ByteArray.extract p0.S (Int.toNat (mxI 0 p1)) (p0.S).size), .int .i64 0]) (b := bx9) (k := 0) (cs' := [.string (ByteArray.extract p0.S (Int.toNat (mxI 0 p1)) (p0.S).size), .int .i64 0]) rfl rfl rfl rfl rfl rfl f10 rfl rfl fun w27 o28 st29 f10_ => ?_
      replace f5 := f5.st st29 (by decide)
      replace hs := hs.loc0 st29 (by decide)
      replace f10 := f10_
      refine ⟨.inr ⟨f5.now, trivial⟩, ?_⟩
      refine xd_take tab hk (k := 0) (is := [10]) (ls' := #[true, true, true, true, true, true, true, true, true, true, true]) (lv := []) (ks := [4, 5]) (e' := [(4, .pointer (some ⟨bx9, 0, none⟩)), (5, .string (ByteArray.extract p0.S 0 (Int.toNat (mxI 0 p1))))]) (by kernel_rfl) rfl rfl (by kernel_rfl) (np_then np_body) ⟨f5.now, trivial⟩ (fun W_ hS => trivial) fun a hk => ?_
      refine xd_done (by kernel_rfl) ?_
      refine then_n ?_
      refine wpIn_ret ?_
      obtain rfl := Option.some.inj H
      exact x_retG hk (rs := [.cell 4 60, .tmp 5]) (vs := [.agg #[.string (ByteArray.extract p0.S (Int.toNat (mxI 0 p1)) (p0.S).size), .int .i64 0], .string (ByteArray.extract p0.S 0 (Int.toNat (mxI 0 p1)))]) rfl ⟨⟨_, rfl, load_box tab rfl rfl f10.now (k := 0) rfl rfl⟩, rfl, trivial⟩ ⟨fun b_ => if b_ < w.heap.size then o b_ else (fun _ => 0) (o28 b_), rfl, hs.close0 o (fun _ => 0)⟩
    · rw [b12] at hk H
      replace H := bifT H
      refine x_if hk (b := true) rfl ?_
      refine (show Code.wpIn _ _ _ _ _ _ _ from ?_)
      refine x_seq ?_
      refine wpIn_region_lit ?_
      refine x_run tab hk (k := 1) (lv := []) (ks := [4, 17]) (e' := [(4, .pointer (some ⟨bx9, 0, none⟩)), (17, .agg #[.string (⟨#[]⟩ : ByteArray), .int .i64 2])]) rfl trivial fun a hk => ?_
      refine x_op hk rfl ?_
      refine op_store tab hk (t := 60) (v := .agg #[.string (⟨#[]⟩ : ByteArray), .int .i64 2]) (b := bx9) (k := 0) (cs' := [.string (⟨#[]⟩ : ByteArray), .int .i64 2]) rfl rfl rfl rfl rfl rfl f10 rfl rfl fun w30 o31 st32 f10_ => ?_
      replace hs := hs.loc0 st32 (by decide)
      replace f10 := f10_
      refine x_run tab hk (k := 1) (lv := []) (ks := [4, 5]) (e' := [(4, .pointer (some ⟨bx9, 0, none⟩)), (5, .string (⟨#[]⟩ : ByteArray))]) rfl trivial fun a hk => ?_
      refine wpListIn_nil ?_
      refine then_n ?_
      refine wpIn_ret ?_
      refine then_r ?_
      obtain rfl := Option.some.inj H
      exact x_retG hk (rs := [.cell 4 60, .tmp 5]) (vs := [.agg #[.string (⟨#[]⟩ : ByteArray), .int .i64 2], .string (⟨#[]⟩ : ByteArray)]) rfl ⟨⟨_, rfl, load_box tab rfl rfl f10.now (k := 0) rfl rfl⟩, rfl, trivial⟩ ⟨fun b_ => if b_ < w.heap.size then o b_ else (fun _ => 0) (o31 b_), rfl, hs.close0 o (fun _ => 0)⟩
  · rw [b11] at hk H
    replace H := bifT H
    refine x_if hk (b := true) rfl ?_
    refine (show Code.wpIn _ _ _ _ _ _ _ from ?_)
    refine x_seq ?_
    refine wpIn_region_lit ?_
    refine x_run tab hk (k := 1) (lv := [.agg #[.string p0.S, .int .i64 p0.E]]) (ks := [4, 11]) (e' := [(4, .pointer (some ⟨bx9, 0, none⟩)), (11, .agg #[.string p0.S, .int .i64 p0.E])]) rfl ⟨(load_box tab rfl rfl f5.now (k := 0) rfl rfl), trivial⟩ fun a hk => ?_
    refine x_op hk rfl ?_
    refine op_store tab hk (t := 60) (v := .agg #[.string p0.S, .int .i64 p0.E]) (b := bx9) (k := 0) (cs' := [.string p0.S, .int .i64 p0.E]) rfl rfl rfl rfl rfl rfl f10 rfl rfl fun w33 o34 st35 f10_ => ?_
    replace hs := hs.loc0 st35 (by decide)
    replace f10 := f10_
    refine x_run tab hk (k := 1) (lv := []) (ks := [4, 5]) (e' := [(4, .pointer (some ⟨bx9, 0, none⟩)), (5, .string (⟨#[]⟩ : ByteArray))]) rfl trivial fun a hk => ?_
    refine wpListIn_nil ?_
    refine then_n ?_
    refine wpIn_ret ?_
    refine then_r ?_
    obtain rfl := Option.some.inj H
    exact x_retG hk (rs := [.cell 4 60, .tmp 5]) (vs := [.agg #[.string p0.S, .int .i64 p0.E], .string (⟨#[]⟩ : ByteArray)]) rfl ⟨⟨_, rfl, load_box tab rfl rfl f10.now (k := 0) rfl rfl⟩, rfl, trivial⟩ ⟨fun b_ => if b_ < w.heap.size then o b_ else (fun _ => 0) (o34 b_), rfl, hs.close0 o (fun _ => 0)⟩

end Go.Proofs.YticilepdpobheaaDoor
