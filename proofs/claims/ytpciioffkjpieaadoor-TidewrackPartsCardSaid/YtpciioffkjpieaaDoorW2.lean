/- Walks, printed by an own program: the machine's calls compute the plain functions. -/
import Derived.Test.YtpciioffkjpieaaDoorW1
set_option linter.unusedVariables false
set_option linter.unusedSimpArgs false
namespace Go.Proofs.YtpciioffkjpieaaDoor
open Go Go.Proofs.XC
/-! tidewrack/gram.Parse -/
theorem gram_Parse_calls (K : Nat) (p0 : ByteArray) (w : World) (o : Nat → Nat) (Lg2 : Nat) (hg2 : Ft (RdC (encInt .u32) (some ⟨2, 0, none⟩) glob2) w o Lg2)   (R0 : Nat) (r : T76 × Int) (H : gram_Parse K p0 = some r) :
    Calls Tryd.prog 27 #[.string p0] w (Ret fun v_ w' => ∃ o' : Nat → Nat, ∃ A0 : Option Addr, ∃ c0 : Nat, v_ = .tuple #[.agg #[.int .i64 r.1.Epoch, .int .i64 r.1.Kind, .slice A0 (r.1.Nums).length c0, .string r.1.Data], .int .i64 r.2] ∧ St [] w o w' o' ∧ Ft (Own (encInt .i64) 3 (.slice A0 (r.1.Nums).length c0) r.1.Nums) w' o' R0 ∧ (r.1.Nums).length ≤ c0) := by
  refine x_enter (vs := [.string p0]) Tryd.func27 rfl rfl rfl fun a hk => ?_
  obtain ⟨o0, hs, h0⟩ := St.start w o
  have fg2 := h0 _ _ hg2
  clear h0
  rw [gram_Parse] at H
  refine x_seq ?_
  refine wpIn_region_lit ?_
  refine x_op hk rfl ?_
  refine op_alloc (o := o0) tab (t := 77) (cs := [.int .i64 0, .int .i64 0, .slice none 0 0, .string (⟨#[]⟩ : ByteArray)]) rfl rfl 1 fun bx4 w1 o2 st3 f5 => ?_
  replace fg2 := fg2.st st3 (by decide)
  replace hs := hs.loc0 st3 (by decide)
  have hk := hk.put 2 (.pointer (some ⟨bx4, 0, none⟩)) rfl
  refine x_run tab hk (k := 1) (lv := []) (ks := [0, 2]) (e' := [(0, .string p0), (2, .pointer (some ⟨bx4, 0, none⟩))]) rfl trivial fun a hk => ?_
  refine wpListIn_nil ?_
  refine then_n ?_
  refine x_seq ?_
  refine x_seq ?_
  refine wpIn_region_lit ?_
  refine x_run tab hk (k := 3) (lv := []) (ks := [0, 2, 11]) (e' := [(0, .string p0), (2, .pointer (some ⟨bx4, 0, none⟩)), (11, .bool (decide (((p0).size : Int) > (8192 : Int))))]) rfl trivial fun a hk => ?_
  refine wpListIn_nil ?_
  refine then_n ?_
  cases b6 : (decide (((p0).size : Int) > (8192 : Int)))
  · rw [b6] at hk H
    replace H := bifF H
    refine x_if hk (b := false) rfl ?_
    refine (show Code.wpIn _ _ _ _ _ _ _ from ?_)
    refine wpIn_skip ?_
    refine then_n ?_
    refine x_seq ?_
    refine wpIn_region_lit ?_
    refine x_run tab hk (k := 1) (lv := []) (ks := [2, 14]) (e' := [(2, .pointer (some ⟨bx4, 0, none⟩)), (14, .string p0)]) rfl trivial fun a hk => ?_
    refine x_op hk rfl ?_
    obtain ⟨t10, hc11, H⟩ := bindS H
    refine op_call hk ent_61 (vs := [.string p0]) rfl (sum_Open_calls K p0 _ o2 0 fg2   _ hc11) ?_
    rintro _ w12 ⟨o13, rfl, st14⟩
    replace f5 := f5.st st14 (by decide)
    replace fg2 := fg2.st st14 (by decide)
    replace hs := hs.loc0 st14 (by decide)
    have hk := hk.put 15 (.tuple #[.string t10.1, .bool t10.2]) rfl
    refine x_run tab hk (k := 5) (lv := []) (ks := [2, 4, 5]) (e' := [(2, .pointer (some ⟨bx4, 0, none⟩)), (4, .string t10.1), (5, .bool t10.2)]) rfl trivial fun a hk => ?_
    refine wpListIn_nil ?_
    refine then_n ?_
    refine x_seq ?_
    refine x_seq ?_
    refine wpIn_region_lit ?_
    refine x_run tab hk (k := 2) (lv := []) (ks := [2, 4, 19]) (e' := [(2, .pointer (some ⟨bx4, 0, none⟩)), (4, .string t10.1), (19, .bool (!t10.2))]) rfl trivial fun a hk => ?_
    refine wpListIn_nil ?_
    refine then_n ?_
    cases b15 : (!t10.2)
    · rw [b15] at hk H
      replace H := bifF H
      refine x_if hk (b := false) rfl ?_
      refine (show Code.wpIn _ _ _ _ _ _ _ from ?_)
      refine wpIn_skip ?_
      refine then_n ?_
      refine x_seq ?_
      refine wpIn_region_lit ?_
      refine x_run tab hk (k := 1) (lv := []) (ks := [2, 21]) (e' := [(2, .pointer (some ⟨bx4, 0, none⟩)), (21, .string t10.1)]) rfl trivial fun a hk => ?_
      refine x_op hk rfl ?_
      obtain ⟨t19, hc20, H⟩ := bindS H
      refine op_call hk ent_62 (vs := [.string t10.1]) rfl (num_Of_calls t10.1 _ o13  2  _ hc20) ?_
      rintro _ w21 ⟨o22, bx24, rfl, st23, f25⟩
      replace f5 := f5.st st23 (by decide)
      replace fg2 := fg2.st st23 (by decide)
      replace hs := hs.loc0 st23 (by decide)
      have hk := hk.put 22 (.pointer (some ⟨bx24, 0, none⟩)) rfl
      refine x_run tab hk (k := 1) (lv := []) (ks := [2, 6]) (e' := [(2, .pointer (some ⟨bx4, 0, none⟩)), (6, .pointer (some ⟨bx24, 0, none⟩))]) rfl trivial fun a hk => ?_
      refine wpListIn_nil ?_
      refine then_n ?_
      refine x_seq ?_
      refine wpIn_region_lit ?_
      refine x_run tab hk (k := 1) (lv := []) (ks := [2, 6, 23]) (e' := [(2, .pointer (some ⟨bx4, 0, none⟩)), (6, .pointer (some ⟨bx24, 0, none⟩)), (23, .pointer (some ⟨bx24, 0, none⟩))]) rfl trivial fun a hk => ?_
      refine x_op hk rfl ?_
      obtain ⟨t29, hc30, H⟩ := bindS H
      refine op_call hk ent_63 (vs := [.pointer (some ⟨bx24, 0, none⟩)]) rfl (gram_read_calls K bx24 t19 _ o22 2 f25 (by decide) 3  _ hc30) ?_
      rintro _ w31 ⟨o32, A34, c35, rfl, st33, f36, hc37, f38⟩
      replace f5 := f5.st st33 (by decide)
      replace fg2 := fg2.st st33 (by decide)
      replace hs := hs.loc0 st33 (by decide)
      have hk := hk.put 24 (.agg #[.int .i64 t29.1.Epoch, .int .i64 t29.1.Kind, .slice A34 (t29.1.Nums).length c35, .string t29.1.Data]) rfl
      refine x_op hk rfl ?_
      refine op_alloc (o := o32) tab (t := 77) (cs := [.int .i64 0, .int .i64 0, .slice none 0 0, .string (⟨#[]⟩ : ByteArray)]) rfl rfl 4 fun bx42 w39 o40 st41 f43 => ?_
      replace f36 := f36.st st41 (by decide)
      replace f38 := f38.st st41 (by decide)
      replace f5 := f5.st st41 (by decide)
      replace fg2 := fg2.st st41 (by decide)
      replace hs := hs.loc0 st41 (by decide)
      have hk := hk.put 7 (.pointer (some ⟨bx42, 0, none⟩)) rfl
      refine x_op hk rfl ?_
      refine op_store tab hk (t := 77) (v := .agg #[.int .i64 t29.1.Epoch, .int .i64 t29.1.Kind, .slice A34 (t29.1.Nums).length c35, .string t29.1.Data]) (b := bx42) (k := 0) (cs' := [.int .i64 t29.1.Epoch, .int .i64 t29.1.Kind, .slice A34 (t29.1.Nums).length c35, .string t29.1.Data]) rfl rfl rfl rfl rfl rfl f43 rfl rfl fun w44 o45 st46 f43_ => ?_
      replace f36 := f36.st st46 (by decide)
      replace f38 := f38.st st46 (by decide)
      replace f5 := f5.st st46 (by decide)
      replace fg2 := fg2.st st46 (by decide)
      replace hs := hs.loc0 st46 (by decide)
      replace f43 := f43_
      refine wpListIn_nil ?_
      refine then_n ?_
      refine x_seq ?_
      refine wpIn_region_lit ?_
      refine x_run tab hk (k := 1) (lv := []) (ks := [2, 7, 25]) (e' := [(2, .pointer (some ⟨bx4, 0, none⟩)), (7, .pointer (some ⟨bx42, 0, none⟩)), (25, .pointer (some ⟨bx24, 0, none⟩))]) rfl trivial fun a hk => ?_
      refine x_op hk rfl ?_
      obtain ⟨t50, hc51, H⟩ := bindS H
      refine op_call hk ent_64 (vs := [.pointer (some ⟨bx24, 0, none⟩)]) rfl (num_In_End_calls bx24 t29.2 _ o45 2 f38   _ hc51) ?_
      rintro _ w52 ⟨o53, rfl, st54⟩
      replace f36 := f36.st st54 (by decide)
      replace f38 := f38.st st54 (by decide)
      replace f43 := f43.st st54 (by decide)
      replace f5 := f5.st st54 (by decide)
      replace fg2 := fg2.st st54 (by decide)
      replace hs := hs.loc0 st54 (by decide)
      have hk := hk.put 26 (.int .i64 t50) rfl
      refine x_run tab hk (k := 1) (lv := []) (ks := [2, 7, 8]) (e' := [(2, .pointer (some ⟨bx4, 0, none⟩)), (7, .pointer (some ⟨bx42, 0, none⟩)), (8, .int .i64 t50)]) rfl trivial fun a hk => ?_
      refine wpListIn_nil ?_
      refine then_n ?_
      refine x_mid (fun a_ w_ => ∃ o70 : Nat → Nat, ∃ x71 : Int, Kn 36 a_ [(2, .pointer (some ⟨bx4, 0, none⟩)), (7, .pointer (some ⟨bx42, 0, none⟩)), (8, .int .i64 x71)] ∧ St [] w (fun _ => 0) w_ o70 ∧ Ft (Own (encInt .i64) 3 (.slice A34 (t29.1.Nums).length c35) t29.1.Nums) w_ o70 6 ∧ Ft (Bx bx42 77 [.int .i64 t29.1.Epoch, .int .i64 t29.1.Kind, .slice A34 (t29.1.Nums).length c35, .string t29.1.Data]) w_ o70 7 ∧ Ft (Bx bx4 77 [.int .i64 0, .int .i64 0, .slice none 0 0, .string (⟨#[]⟩ : ByteArray)]) w_ o70 5 ∧ Ft (RdC (encInt .u32) (some ⟨2, 0, none⟩) glob2) w_ o70 0 ∧ gram_Parse_j1 t29 x71 = some r) ?_ ?_
      rotate_left
      · rintro a w72 ⟨o70, x71, hk, hs, f36, f43, f5, fg2, H⟩
        rw [gram_Parse_j1] at H
        refine x_seq ?_
        refine x_seq ?_
        refine wpIn_region_lit ?_
        refine x_run tab hk (k := 2) (lv := []) (ks := [2, 7, 8, 32]) (e' := [(2, .pointer (some ⟨bx4, 0, none⟩)), (7, .pointer (some ⟨bx42, 0, none⟩)), (8, .int .i64 x71), (32, .bool (x71 != (0 : Int)))]) rfl trivial fun a hk => ?_
        refine wpListIn_nil ?_
        refine then_n ?_
        cases b73 : (x71 != (0 : Int))
        · rw [b73] at hk H
          replace H := bifF H
          refine x_if hk (b := false) rfl ?_
          refine (show Code.wpIn _ _ _ _ _ _ _ from ?_)
          refine wpIn_skip ?_
          refine then_n ?_
          refine x_seq ?_
          refine wpIn_region_lit ?_
          refine x_run tab hk (k := 1) (lv := [.agg #[.int .i64 t29.1.Epoch, .int .i64 t29.1.Kind, .slice A34 (t29.1.Nums).length c35, .string t29.1.Data]]) (ks := [2, 35]) (e' := [(2, .pointer (some ⟨bx4, 0, none⟩)), (35, .agg #[.int .i64 t29.1.Epoch, .int .i64 t29.1.Kind, .slice A34 (t29.1.Nums).length c35, .string t29.1.Data])]) rfl ⟨(load_box tab rfl rfl f43.now (k := 0) rfl rfl), trivial⟩ fun a hk => ?_
          refine x_op hk rfl ?_
          refine op_store tab hk (t := 77) (v := .agg #[.int .i64 t29.1.Epoch, .int .i64 t29.1.Kind, .slice A34 (t29.1.Nums).length c35, .string t29.1.Data]) (b := bx4) (k := 0) (cs' := [.int .i64 t29.1.Epoch, .int .i64 t29.1.Kind, .slice A34 (t29.1.Nums).length c35, .string t29.1.Data]) rfl rfl rfl rfl rfl rfl f5 rfl rfl fun w74 o75 st76 f5_ => ?_
          replace f36 := f36.st st76 (by decide)
          replace fg2 := fg2.st st76 (by decide)
          replace hs := hs.loc0 st76 (by decide)
          replace f5 := f5_
          refine x_run tab hk (k := 1) (lv := []) (ks := [2, 3]) (e' := [(2, .pointer (some ⟨bx4, 0, none⟩)), (3, .int .i64 0)]) rfl trivial fun a hk => ?_
          refine wpListIn_nil ?_
          refine then_n ?_
          refine wpIn_ret ?_
          obtain rfl := Option.some.inj H
          exact x_retG hk (rs := [.cell 2 77, .tmp 3]) (vs := [.agg #[.int .i64 t29.1.Epoch, .int .i64 t29.1.Kind, .slice A34 (t29.1.Nums).length c35, .string t29.1.Data], .int .i64 0]) rfl ⟨⟨_, rfl, load_box tab rfl rfl f5.now (k := 0) rfl rfl⟩, rfl, trivial⟩ ⟨fun b_ => if b_ < w.heap.size then o b_ else (fun _ => R0) (o75 b_), A34, c35, rfl, hs.close0 o (fun _ => R0), hs.close_ft (o := o) (ρ := fun _ => R0) f36 (by decide) rfl, hc37⟩
        · rw [b73] at hk H
          replace H := bifT H
          refine x_if hk (b := true) rfl ?_
          refine (show Code.wpIn _ _ _ _ _ _ _ from ?_)
          refine x_seq ?_
          refine wpIn_region_lit ?_
          refine x_run tab hk (k := 2) (lv := []) (ks := [2, 33, 34]) (e' := [(2, .pointer (some ⟨bx4, 0, none⟩)), (33, .agg #[.int .i64 0, .int .i64 0, .slice none 0 0, .string (⟨#[]⟩ : ByteArray)]), (34, .int .i64 x71)]) rfl trivial fun a hk => ?_
          refine x_op hk rfl ?_
          refine op_store tab hk (t := 77) (v := .agg #[.int .i64 0, .int .i64 0, .slice none 0 0, .string (⟨#[]⟩ : ByteArray)]) (b := bx4) (k := 0) (cs' := [.int .i64 0, .int .i64 0, .slice none 0 0, .string (⟨#[]⟩ : ByteArray)]) rfl rfl rfl rfl rfl rfl f5 rfl rfl fun w77 o78 st79 f5_ => ?_
          replace fg2 := fg2.st st79 (by decide)
          replace hs := hs.loc0 st79 (by decide)
          replace f5 := f5_
          refine x_run tab hk (k := 1) (lv := []) (ks := [2, 3]) (e' := [(2, .pointer (some ⟨bx4, 0, none⟩)), (3, .int .i64 x71)]) rfl trivial fun a hk => ?_
          refine wpListIn_nil ?_
          refine then_n ?_
          refine wpIn_ret ?_
          refine then_r ?_
          obtain rfl := Option.some.inj H
          exact x_retG hk (rs := [.cell 2 77, .tmp 3]) (vs := [.agg #[.int .i64 0, .int .i64 0, .slice none 0 0, .string (⟨#[]⟩ : ByteArray)], .int .i64 x71]) rfl ⟨⟨_, rfl, load_box tab rfl rfl f5.now (k := 0) rfl rfl⟩, rfl, trivial⟩ ⟨fun b_ => if b_ < w.heap.size then o b_ else (fun _ => 0) (o78 b_), none, 0, rfl, hs.close0 o (fun _ => 0), (Ft.of_all (fun _ => Own.nil _ _ _) _ _ _), (by simp)⟩
      refine x_seq ?_
      refine wpIn_region_lit ?_
      refine x_run tab hk (k := 2) (lv := []) (ks := [2, 7, 8, 28]) (e' := [(2, .pointer (some ⟨bx4, 0, none⟩)), (7, .pointer (some ⟨bx42, 0, none⟩)), (8, .int .i64 t50), (28, .bool (t50 == (0 : Int)))]) rfl trivial fun a hk => ?_
      refine wpListIn_nil ?_
      refine then_n ?_
      cases b80 : (t50 == (0 : Int))
      · rw [b80] at hk H
        replace H := bifF H
        refine x_if hk (b := false) rfl ?_
        refine (show Code.wpIn _ _ _ _ _ _ _ from ?_)
        refine wpIn_skip ?_
        refine then_n ?_
        exact ⟨(fun b_ => (fun l_ => if l_ = 1 then 5 else if l_ = 3 then 6 else if l_ = 4 then 7 else l_) (o53 b_)), t50, (by exact Kn.pick (ks := [2, 7, 8]) hk rfl), (hs.relab0 (fun l_ => if l_ = 1 then 5 else if l_ = 3 then 6 else if l_ = 4 then 7 else l_) rfl), (f36.relab (fun l_ => if l_ = 1 then 5 else if l_ = 3 then 6 else if l_ = 4 then 7 else l_) rfl), (f43.relab (fun l_ => if l_ = 1 then 5 else if l_ = 3 then 6 else if l_ = 4 then 7 else l_) rfl), (f5.relab (fun l_ => if l_ = 1 then 5 else if l_ = 3 then 6 else if l_ = 4 then 7 else l_) rfl), (fg2.relab (fun l_ => if l_ = 1 then 5 else if l_ = 3 then 6 else if l_ = 4 then 7 else l_) rfl), H⟩
      · rw [b80] at hk H
        replace H := bifT H
        refine x_if hk (b := true) rfl ?_
        refine (show Code.wpIn _ _ _ _ _ _ _ from ?_)
        refine wpIn_region_lit ?_
        refine x_run tab hk (k := 1) (lv := [.agg #[.int .i64 t29.1.Epoch, .int .i64 t29.1.Kind, .slice A34 (t29.1.Nums).length c35, .string t29.1.Data]]) (ks := [2, 7, 29]) (e' := [(2, .pointer (some ⟨bx4, 0, none⟩)), (7, .pointer (some ⟨bx42, 0, none⟩)), (29, .agg #[.int .i64 t29.1.Epoch, .int .i64 t29.1.Kind, .slice A34 (t29.1.Nums).length c35, .string t29.1.Data])]) rfl ⟨(load_box tab rfl rfl f43.now (k := 0) rfl rfl), trivial⟩ fun a hk => ?_
        refine x_op hk rfl ?_
        obtain ⟨t84, hc85, H⟩ := bindS H
        refine op_call hk ent_65 (vs := [.agg #[.int .i64 t29.1.Epoch, .int .i64 t29.1.Kind, .slice A34 (t29.1.Nums).length c35, .string t29.1.Data]]) rfl (gram_Gram_Check_calls K A34 c35 t29.1 _ o53 0 fg2 _ (f36.imp fun _ h_ => Own.rd h_) hc37   _ hc85) ?_
        rintro _ w86 ⟨o87, rfl, st88⟩
        replace f36 := f36.st st88 (by decide)
        replace f43 := f43.st st88 (by decide)
        replace f5 := f5.st st88 (by decide)
        replace fg2 := fg2.st st88 (by decide)
        replace hs := hs.loc0 st88 (by decide)
        have hk := hk.put 30 (.int .i64 t84) rfl
        refine x_run tab hk (k := 1) (lv := []) (ks := [2, 7, 8]) (e' := [(2, .pointer (some ⟨bx4, 0, none⟩)), (7, .pointer (some ⟨bx42, 0, none⟩)), (8, .int .i64 t84)]) rfl trivial fun a hk => ?_
        refine wpListIn_nil ?_
        refine then_n ?_
        exact ⟨(fun b_ => (fun l_ => if l_ = 1 then 5 else if l_ = 3 then 6 else if l_ = 4 then 7 else l_) (o87 b_)), t84, (by exact Kn.pick (ks := [2, 7, 8]) hk rfl), (hs.relab0 (fun l_ => if l_ = 1 then 5 else if l_ = 3 then 6 else if l_ = 4 then 7 else l_) rfl), (f36.relab (fun l_ => if l_ = 1 then 5 else if l_ = 3 then 6 else if l_ = 4 then 7 else l_) rfl), (f43.relab (fun l_ => if l_ = 1 then 5 else if l_ = 3 then 6 else if l_ = 4 then 7 else l_) rfl), (f5.relab (fun l_ => if l_ = 1 then 5 else if l_ = 3 then 6 else if l_ = 4 then 7 else l_) rfl), (fg2.relab (fun l_ => if l_ = 1 then 5 else if l_ = 3 then 6 else if l_ = 4 then 7 else l_) rfl), H⟩
    · rw [b15] at hk H
      replace H := bifT H
      refine x_if hk (b := true) rfl ?_
      refine (show Code.wpIn _ _ _ _ _ _ _ from ?_)
      refine x_seq ?_
      refine wpIn_region_lit ?_
      refine x_run tab hk (k := 1) (lv := []) (ks := [2, 20]) (e' := [(2, .pointer (some ⟨bx4, 0, none⟩)), (20, .agg #[.int .i64 0, .int .i64 0, .slice none 0 0, .string (⟨#[]⟩ : ByteArray)])]) rfl trivial fun a hk => ?_
      refine x_op hk rfl ?_
      refine op_store tab hk (t := 77) (v := .agg #[.int .i64 0, .int .i64 0, .slice none 0 0, .string (⟨#[]⟩ : ByteArray)]) (b := bx4) (k := 0) (cs' := [.int .i64 0, .int .i64 0, .slice none 0 0, .string (⟨#[]⟩ : ByteArray)]) rfl rfl rfl rfl rfl rfl f5 rfl rfl fun w89 o90 st91 f5_ => ?_
      replace fg2 := fg2.st st91 (by decide)
      replace hs := hs.loc0 st91 (by decide)
      replace f5 := f5_
      refine x_run tab hk (k := 1) (lv := []) (ks := [2, 3]) (e' := [(2, .pointer (some ⟨bx4, 0, none⟩)), (3, .int .i64 4)]) rfl trivial fun a hk => ?_
      refine wpListIn_nil ?_
      refine then_n ?_
      refine wpIn_ret ?_
      refine then_r ?_
      obtain rfl := Option.some.inj H
      exact x_retG hk (rs := [.cell 2 77, .tmp 3]) (vs := [.agg #[.int .i64 0, .int .i64 0, .slice none 0 0, .string (⟨#[]⟩ : ByteArray)], .int .i64 4]) rfl ⟨⟨_, rfl, load_box tab rfl rfl f5.now (k := 0) rfl rfl⟩, rfl, trivial⟩ ⟨fun b_ => if b_ < w.heap.size then o b_ else (fun _ => 0) (o90 b_), none, 0, rfl, hs.close0 o (fun _ => 0), (Ft.of_all (fun _ => Own.nil _ _ _) _ _ _), (by simp)⟩
  · rw [b6] at hk H
    replace H := bifT H
    refine x_if hk (b := true) rfl ?_
    refine (show Code.wpIn _ _ _ _ _ _ _ from ?_)
    refine x_seq ?_
    refine wpIn_region_lit ?_
    refine x_run tab hk (k := 1) (lv := []) (ks := [2, 12]) (e' := [(2, .pointer (some ⟨bx4, 0, none⟩)), (12, .agg #[.int .i64 0, .int .i64 0, .slice none 0 0, .string (⟨#[]⟩ : ByteArray)])]) rfl trivial fun a hk => ?_
    refine x_op hk rfl ?_
    refine op_store tab hk (t := 77) (v := .agg #[.int .i64 0, .int .i64 0, .slice none 0 0, .string (⟨#[]⟩ : ByteArray)]) (b := bx4) (k := 0) (cs' := [.int .i64 0, .int .i64 0, .slice none 0 0, .string (⟨#[]⟩ : ByteArray)]) rfl rfl rfl rfl rfl rfl f5 rfl rfl fun w92 o93 st94 f5_ => ?_
    replace fg2 := fg2.st st94 (by decide)
    replace hs := hs.loc0 st94 (by decide)
    replace f5 := f5_
    refine x_run tab hk (k := 1) (lv := []) (ks := [2, 3]) (e' := [(2, .pointer (some ⟨bx4, 0, none⟩)), (3, .int .i64 3)]) rfl trivial fun a hk => ?_
    refine wpListIn_nil ?_
    refine then_n ?_
    refine wpIn_ret ?_
    refine then_r ?_
    obtain rfl := Option.some.inj H
    exact x_retG hk (rs := [.cell 2 77, .tmp 3]) (vs := [.agg #[.int .i64 0, .int .i64 0, .slice none 0 0, .string (⟨#[]⟩ : ByteArray)], .int .i64 3]) rfl ⟨⟨_, rfl, load_box tab rfl rfl f5.now (k := 0) rfl rfl⟩, rfl, trivial⟩ ⟨fun b_ => if b_ < w.heap.size then o b_ else (fun _ => 0) (o93 b_), none, 0, rfl, hs.close0 o (fun _ => 0), (Ft.of_all (fun _ => Own.nil _ _ _) _ _ _), (by simp)⟩

/-! tidewrack/tidewracklaw01.Cut -/
theorem tidewracklaw01_Cut_calls (p0 : ByteArray) (p1 : Int) (w : World) (o : Nat → Nat)   (r : ByteArray) (H : tidewracklaw01_Cut p0 p1 = some r) :
    Calls Tryd.prog 10 #[.string p0, .int .i64 p1] w (Ret fun v_ w' => ∃ o' : Nat → Nat, v_ = .string r ∧ St [] w o w' o') := by
  refine x_enter (vs := [.string p0, .int .i64 p1]) Tryd.func10 rfl rfl rfl fun a hk => ?_
  obtain ⟨o0, hs, h0⟩ := St.start w o
  clear h0
  rw [tidewracklaw01_Cut] at H
  refine x_seq ?_
  refine wpIn_region_lit ?_
  refine x_run tab hk (k := 1) (lv := []) (ks := [0, 1]) (e' := [(0, .string p0), (1, .int .i64 p1)]) rfl trivial fun a hk => ?_
  refine wpListIn_nil ?_
  refine then_n ?_
  refine x_seq ?_
  refine x_seq ?_
  refine wpIn_region_lit ?_
  refine x_run tab hk (k := 4) (lv := []) (ks := [0, 1, 8]) (e' := [(0, .string p0), (1, .int .i64 p1), (8, .bool (decide (((p0).size : Int) > p1)))]) rfl trivial fun a hk => ?_
  refine wpListIn_nil ?_
  refine then_n ?_
  cases b1 : (decide (((p0).size : Int) > p1))
  · rw [b1] at hk H
    replace H := bifF H
    refine x_if hk (b := false) rfl ?_
    refine (show Code.wpIn _ _ _ _ _ _ _ from ?_)
    refine wpIn_skip ?_
    refine then_n ?_
    refine x_seq ?_
    refine wpIn_region_lit ?_
    refine x_run tab hk (k := 2) (lv := []) (ks := [4]) (e' := [(4, .string p0)]) rfl trivial fun a hk => ?_
    refine wpListIn_nil ?_
    refine then_n ?_
    refine wpIn_ret ?_
    obtain rfl := Option.some.inj H
    exact x_retG hk (rs := [.tmp 4]) (vs := [.string p0]) rfl ⟨rfl, trivial⟩ ⟨fun b_ => if b_ < w.heap.size then o b_ else (fun _ => 0) (o0 b_), rfl, hs.close0 o (fun _ => 0)⟩
  · rw [b1] at hk H
    replace H := bifT H
    refine x_if hk (b := true) rfl ?_
    refine (show Code.wpIn _ _ _ _ _ _ _ from ?_)
    refine x_seq ?_
    refine wpIn_region_lit ?_
    obtain ⟨q2, H⟩ := ifS H
    obtain ⟨q3, H⟩ := ifS H
    refine x_run tab hk (k := 4) (lv := []) (ks := [4]) (e' := [(4, .string (ByteArray.extract p0 0 (Int.toNat p1)))]) rfl ⟨q2, q3, trivial⟩ fun a hk => ?_
    refine wpListIn_nil ?_
    refine then_n ?_
    refine wpIn_ret ?_
    refine then_r ?_
    obtain rfl := Option.some.inj H
    exact x_retG hk (rs := [.tmp 4]) (vs := [.string (ByteArray.extract p0 0 (Int.toNat p1))]) rfl ⟨rfl, trivial⟩ ⟨fun b_ => if b_ < w.heap.size then o b_ else (fun _ => 0) (o0 b_), rfl, hs.close0 o (fun _ => 0)⟩

/-! tidewrack/parts.Split -/
theorem parts_Split_calls (K : Nat) (p0 : ByteArray) (p1 : Int) (w : World) (o : Nat → Nat)   (R0 : Nat) (r : List ByteArray) (H : parts_Split K p0 p1 = some r) :
    Calls Tryd.prog 28 #[.string p0, .int .i64 p1] w (Ret fun v_ w' => ∃ o' : Nat → Nat, ∃ A0 : Option Addr, ∃ c0 : Nat, v_ = .slice A0 (r).length c0 ∧ St [] w o w' o' ∧ Ft (Own encStr 9 (.slice A0 (r).length c0) r) w' o' R0 ∧ (r).length ≤ c0) := by
  refine x_enter (vs := [.string p0, .int .i64 p1]) Tryd.func28 rfl rfl rfl fun a hk => ?_
  obtain ⟨o0, hs, h0⟩ := St.start w o
  clear h0
  rw [parts_Split] at H
  refine x_seq ?_
  refine wpIn_region_lit ?_
  refine x_run tab hk (k := 1) (lv := []) (ks := [0, 1]) (e' := [(0, .string p0), (1, .int .i64 p1)]) rfl trivial fun a hk => ?_
  refine wpListIn_nil ?_
  refine then_n ?_
  refine x_seq ?_
  refine wpIn_region_lit ?_
  refine x_run tab hk (k := 4) (lv := []) (ks := [0, 1]) (e' := [(0, .string p0), (1, .int .i64 (mxI 1 (mnI p1 8000)))]) rfl trivial fun a hk => ?_
  refine wpListIn_nil ?_
  refine then_n ?_
  refine x_seq ?_
  refine wpIn_region_lit ?_
  refine x_run tab hk (k := 1) (lv := []) (ks := [0, 1, 5]) (e' := [(0, .string p0), (1, .int .i64 (mxI 1 (mnI p1 8000))), (5, .slice none 0 0)]) rfl trivial fun a hk => ?_
  refine wpListIn_nil ?_
  refine then_n ?_
  refine x_mid (fun a_ w_ => ∃ o77 : Nat → Nat, ∃ x78 : ByteArray, ∃ A79 : Option Addr, ∃ c80 : Nat, ∃ l81 : List ByteArray, Kn 26 a_ [(0, .string x78), (5, .slice A79 (l81).length c80)] ∧ St [] w (fun _ => 0) w_ o77 ∧ Ft (Own encStr 9 (.slice A79 (l81).length c80) l81) w_ o77 7 ∧ (l81).length ≤ c80 ∧ parts_Split_j1 x78 l81 = some r) ?_ ?_
  rotate_left
  · rintro a w84 ⟨o77, x78, A79, c80, l81, hk, hs, f82, hc83, H⟩
    rw [parts_Split_j1] at H
    refine x_seq ?_
    refine wpIn_region_lit ?_
    refine x_run tab hk (k := 2) (lv := []) (ks := [22, 23]) (e' := [(22, .slice A79 (l81).length c80), (23, .string x78)]) rfl trivial fun a hk => ?_
    refine x_op hk rfl ?_
    refine op_slice (o := o77) tab hk (vs := [.string x78]) (cs := [.string x78]) rfl rfl rfl rfl rfl rfl rfl rfl rfl 8 fun bx88 w85 o86 st87 f89 => ?_
    replace f82 := f82.st st87 (by decide)
    replace hs := hs.loc0 st87 (by decide)
    have f90 : Ft (Own encStr 9 (.slice (some ⟨bx88, 0, none⟩) (([x78] : List ByteArray)).length 1) ([x78] : List ByteArray)) w85 o86 8 := f89.imp fun _ h_ => Own.of_box h_ rfl (by simp)
    have hk := hk.put 24 (.slice (some ⟨bx88, 0, none⟩) (([x78] : List ByteArray)).length 1) rfl
    refine x_op hk rfl ?_
    obtain ⟨q94, H⟩ := ifS H
    refine op_append (o := o86) (E := encStr) (xs := l81) (ys := ([x78] : List ByteArray)) tab hk rfl rfl rfl rfl rfl rfl rfl f82 (Own.rd f90.now) q94 fun A95 c96 w91 o92 st93 f97 hc98 => ?_
    replace f90 := f90.st st93 (by decide)
    replace hs := hs.loc0 st93 (by decide)
    have hk := hk.put 25 (.slice A95 ((l81 ++ ([x78] : List ByteArray))).length c96) rfl
    refine x_run tab hk (k := 1) (lv := []) (ks := [4]) (e' := [(4, .slice A95 ((l81 ++ ([x78] : List ByteArray))).length c96)]) rfl trivial fun a hk => ?_
    refine wpListIn_nil ?_
    refine then_n ?_
    refine wpIn_ret ?_
    obtain rfl := Option.some.inj H
    exact x_retG hk (rs := [.tmp 4]) (vs := [.slice A95 ((l81 ++ ([x78] : List ByteArray))).length c96]) rfl ⟨rfl, trivial⟩ ⟨fun b_ => if b_ < w.heap.size then o b_ else (fun _ => R0) (o92 b_), A95, c96, rfl, hs.close0 o (fun _ => R0), hs.close_ft (o := o) (ρ := fun _ => R0) f97 (by decide) rfl, hc98⟩
  refine wpIn_block ?_
  refine x_loop (fun j_ a_ w_ => ∃ o119 : Nat → Nat, ∃ x120 : ByteArray, ∃ A121 : Option Addr, ∃ c122 : Nat, ∃ l123 : List ByteArray, Kn 26 a_ [(0, .string x120), (1, .int .i64 (mxI 1 (mnI p1 8000))), (5, .slice A121 (l123).length c122)] ∧ St [] w (fun _ => 0) w_ o119 ∧ Ft (Own encStr 9 (.slice A121 (l123).length c122) l123) w_ o119 11 ∧ (l123).length ≤ c122 ∧ parts_Split_l2 p1 j_ x120 l123 = some r) (k := K) ⟨o0, p0, none, 0, ([] : List ByteArray), (by exact Kn.pick (ks := [0, 1, 5]) hk rfl), hs, (Ft.of_all (fun _ => Own.nil _ _ _) _ _ _), (by simp), H⟩ (by rintro _ _ ⟨_, _, _, _, _, _, _, _, _, H_⟩; exact absurd (show (none : Option (List ByteArray)) = some r from H_) (by simp)) ?_
  rintro k144 a w143 ⟨o119, x120, A121, c122, l123, hk, hs, f124, hc125, H⟩
  rw [parts_Split_l2] at H
  obtain ⟨lp145, hlp146⟩ : ∃ lp_, lp_ = parts_Split_l2 p1 k144 := ⟨_, rfl⟩
  rw [← hlp146] at H
  refine x_seq ?_
  refine x_seq ?_
  refine wpIn_region_lit ?_
  refine x_run tab hk (k := 4) (lv := []) (ks := [0, 1, 5, 12]) (e' := [(0, .string x120), (1, .int .i64 (mxI 1 (mnI p1 8000))), (5, .slice A121 (l123).length c122), (12, .bool (decide (((x120).size : Int) > (mxI 1 (mnI p1 8000)))))]) rfl trivial fun a hk => ?_
  refine wpListIn_nil ?_
  refine then_n ?_
  cases b147 : (decide (((x120).size : Int) > (mxI 1 (mnI p1 8000))))
  · rw [b147] at hk H
    replace H := bifF H
    refine x_if hk (b := false) rfl ?_
    refine (show Code.wpIn _ _ _ _ _ _ _ from ?_)
    refine wpIn_exit ?_
    refine then_x ?_
    refine then_x ?_
    refine blk_x ?_
    refine then_n ?_
    exact ⟨(fun b_ => (fun l_ => if l_ = 11 then 7 else l_) (o119 b_)), x120, A121, c122, l123, (by exact Kn.pick (ks := [0, 5]) hk rfl), (hs.relab0 (fun l_ => if l_ = 11 then 7 else l_) rfl), (f124.relab (fun l_ => if l_ = 11 then 7 else l_) rfl), hc125, H⟩
  · rw [b147] at hk H
    replace H := bifT H
    refine x_if hk (b := true) rfl ?_
    refine (show Code.wpIn _ _ _ _ _ _ _ from ?_)
    refine wpIn_skip ?_
    refine then_n ?_
    refine wpIn_block ?_
    refine x_seq ?_
    refine wpIn_region_lit ?_
    obtain ⟨q148, H⟩ := ifS H
    obtain ⟨q149, H⟩ := ifS H
    refine x_run tab hk (k := 4) (lv := []) (ks := [0, 1, 13, 16]) (e' := [(0, .string x120), (1, .int .i64 (mxI 1 (mnI p1 8000))), (13, .slice A121 (l123).length c122), (16, .string (ByteArray.extract x120 0 (Int.toNat (mxI 1 (mnI p1 8000)))))]) rfl ⟨q148, q149, trivial⟩ fun a hk => ?_
    refine x_op hk rfl ?_
    refine op_slice (o := o119) tab hk (vs := [.string (ByteArray.extract x120 0 (Int.toNat (mxI 1 (mnI p1 8000))))]) (cs := [.string (ByteArray.extract x120 0 (Int.toNat (mxI 1 (mnI p1 8000))))]) rfl rfl rfl rfl rfl rfl rfl rfl rfl 13 fun bx153 w150 o151 st152 f154 => ?_
    replace f124 := f124.st st152 (by decide)
    replace hs := hs.loc0 st152 (by decide)
    have f155 : Ft (Own encStr 9 (.slice (some ⟨bx153, 0, none⟩) (([(ByteArray.extract x120 0 (Int.toNat (mxI 1 (mnI p1 8000))))] : List ByteArray)).length 1) ([(ByteArray.extract x120 0 (Int.toNat (mxI 1 (mnI p1 8000))))] : List ByteArray)) w150 o151 13 := f154.imp fun _ h_ => Own.of_box h_ rfl (by simp)
    have hk := hk.put 17 (.slice (some ⟨bx153, 0, none⟩) (([(ByteArray.extract x120 0 (Int.toNat (mxI 1 (mnI p1 8000))))] : List ByteArray)).length 1) rfl
    refine x_op hk rfl ?_
    obtain ⟨q159, H⟩ := ifS H
    refine op_append (o := o151) (E := encStr) (xs := l123) (ys := ([(ByteArray.extract x120 0 (Int.toNat (mxI 1 (mnI p1 8000))))] : List ByteArray)) tab hk rfl rfl rfl rfl rfl rfl rfl f124 (Own.rd f155.now) q159 fun A160 c161 w156 o157 st158 f162 hc163 => ?_
    replace f155 := f155.st st158 (by decide)
    replace hs := hs.loc0 st158 (by decide)
    have hk := hk.put 18 (.slice A160 ((l123 ++ ([(ByteArray.extract x120 0 (Int.toNat (mxI 1 (mnI p1 8000))))] : List ByteArray))).length c161) rfl
    refine x_run tab hk (k := 1) (lv := []) (ks := [0, 1, 5]) (e' := [(0, .string x120), (1, .int .i64 (mxI 1 (mnI p1 8000))), (5, .slice A160 ((l123 ++ ([(ByteArray.extract x120 0 (Int.toNat (mxI 1 (mnI p1 8000))))] : List ByteArray))).length c161)]) rfl trivial fun a hk => ?_
    refine wpListIn_nil ?_
    refine then_n ?_
    refine wpIn_region_lit ?_
    refine x_run tab hk (k := 4) (lv := []) (ks := [0, 1, 5]) (e' := [(0, .string (ByteArray.extract x120 (Int.toNat (mxI 1 (mnI p1 8000))) (x120).size)), (1, .int .i64 (mxI 1 (mnI p1 8000))), (5, .slice A160 ((l123 ++ ([(ByteArray.extract x120 0 (Int.toNat (mxI 1 (mnI p1 8000))))] : List ByteArray))).length c161)]) rfl ⟨q148, q149, trivial⟩ fun a hk => ?_
    refine wpListIn_nil ?_
    refine blk_n ?_
    refine then_n ?_
    exact ⟨k144, Nat.le_refl _, o157, (ByteArray.extract x120 (Int.toNat (mxI 1 (mnI p1 8000))) (x120).size), A160, c161, (l123 ++ ([(ByteArray.extract x120 0 (Int.toNat (mxI 1 (mnI p1 8000))))] : List ByteArray)), (by exact Kn.pick (ks := [0, 1, 5]) hk rfl), hs, f162, hc163, (hlp146 ▸ H)⟩

/-! (tidewrack/gram.Gram).Pack -/
theorem gram_Gram_Pack_calls (K : Nat) (Ap0_0 : Option Addr) (cp0_0 : Nat) (p0 : T76) (w : World) (o : Nat → Nat) (Lg2 : Nat) (hg2 : Ft (RdC (encInt .u32) (some ⟨2, 0, none⟩) glob2) w o Lg2) (Lp0_0 : Nat) (hp0_0 : Ft (RdC (encInt .i64) Ap0_0 p0.Nums) w o Lp0_0) (hcp0_0 : (p0.Nums).length ≤ cp0_0)  (r : ByteArray) (H : gram_Gram_Pack K p0 = some r) :
    Calls Tryd.prog 29 #[.agg #[.int .i64 p0.Epoch, .int .i64 p0.Kind, .slice Ap0_0 (p0.Nums).length cp0_0, .string p0.Data]] w (Ret fun v_ w' => ∃ o' : Nat → Nat, v_ = .string r ∧ St [] w o w' o') := by
  refine x_enter (vs := [.agg #[.int .i64 p0.Epoch, .int .i64 p0.Kind, .slice Ap0_0 (p0.Nums).length cp0_0, .string p0.Data]]) Tryd.func29 rfl rfl rfl fun a hk => ?_
  obtain ⟨o0, hs, h0⟩ := St.start w o
  have fg2 := h0 _ _ hg2
  have f900000 := h0 _ _ hp0_0
  clear h0
  rw [gram_Gram_Pack] at H
  refine x_seq ?_
  refine wpIn_region_lit ?_
  refine x_op hk rfl ?_
  refine op_box (o := o0) (t := 77) (v := .agg #[.int .i64 p0.Epoch, .int .i64 p0.Kind, .slice Ap0_0 (p0.Nums).length cp0_0, .string p0.Data]) (cs := [.int .i64 p0.Epoch, .int .i64 p0.Kind, .slice Ap0_0 (p0.Nums).length cp0_0, .string p0.Data]) hk rfl rfl 1 fun bx4 w1 o2 st3 f5 => ?_
  replace f900000 := f900000.st st3 (by decide)
  replace fg2 := fg2.st st3 (by decide)
  replace hs := hs.loc0 st3 (by decide)
  have hk := hk.put 1 (.pointer (some ⟨bx4, 0, none⟩)) rfl
  refine x_run tab hk (k := 1) (lv := []) (ks := [1]) (e' := [(1, .pointer (some ⟨bx4, 0, none⟩))]) rfl trivial fun a hk => ?_
  refine wpListIn_nil ?_
  refine then_n ?_
  refine x_seq ?_
  refine x_seq ?_
  refine wpIn_region_lit ?_
  refine x_run tab hk (k := 1) (lv := [.agg #[.int .i64 p0.Epoch, .int .i64 p0.Kind, .slice Ap0_0 (p0.Nums).length cp0_0, .string p0.Data]]) (ks := [1, 3]) (e' := [(1, .pointer (some ⟨bx4, 0, none⟩)), (3, .agg #[.int .i64 p0.Epoch, .int .i64 p0.Kind, .slice Ap0_0 (p0.Nums).length cp0_0, .string p0.Data])]) rfl ⟨(load_box tab rfl rfl f5.now (k := 0) rfl rfl), trivial⟩ fun a hk => ?_
  refine x_op hk rfl ?_
  obtain ⟨t9, hc10, H⟩ := bindS H
  refine op_call hk ent_65 (vs := [.agg #[.int .i64 p0.Epoch, .int .i64 p0.Kind, .slice Ap0_0 (p0.Nums).length cp0_0, .string p0.Data]]) rfl (gram_Gram_Check_calls K Ap0_0 cp0_0 p0 _ o2 0 fg2 _ f900000 hcp0_0   _ hc10) ?_
  rintro _ w11 ⟨o12, rfl, st13⟩
  replace f5 := f5.st st13 (by decide)
  replace f900000 := f900000.st st13 (by decide)
  replace fg2 := fg2.st st13 (by decide)
  replace hs := hs.loc0 st13 (by decide)
  have hk := hk.put 4 (.int .i64 t9) rfl
  refine x_run tab hk (k := 1) (lv := []) (ks := [1, 5]) (e' := [(1, .pointer (some ⟨bx4, 0, none⟩)), (5, .bool (t9 != (0 : Int)))]) rfl trivial fun a hk => ?_
  refine wpListIn_nil ?_
  refine then_n ?_
  cases b14 : (t9 != (0 : Int))
  · rw [b14] at hk H
    replace H := bifF H
    refine x_if hk (b := false) rfl ?_
    refine (show Code.wpIn _ _ _ _ _ _ _ from ?_)
    refine wpIn_skip ?_
    refine then_n ?_
    refine x_seq ?_
    refine wpIn_region_lit ?_
    refine x_run tab hk (k := 1) (lv := [.agg #[.int .i64 p0.Epoch, .int .i64 p0.Kind, .slice Ap0_0 (p0.Nums).length cp0_0, .string p0.Data]]) (ks := [6]) (e' := [(6, .agg #[.int .i64 p0.Epoch, .int .i64 p0.Kind, .slice Ap0_0 (p0.Nums).length cp0_0, .string p0.Data])]) rfl ⟨(load_box tab rfl rfl f5.now (k := 0) rfl rfl), trivial⟩ fun a hk => ?_
    refine x_op hk rfl ?_
    obtain ⟨t18, hc19, H⟩ := bindS H
    refine op_call hk ent_66 (vs := [.agg #[.int .i64 p0.Epoch, .int .i64 p0.Kind, .slice Ap0_0 (p0.Nums).length cp0_0, .string p0.Data]]) rfl (gram_Gram_bytes_calls K Ap0_0 cp0_0 p0 _ o12 0 fg2 _ f900000 hcp0_0   _ hc19) ?_
    rintro _ w20 ⟨o21, rfl, st22⟩
    replace f900000 := f900000.st st22 (by decide)
    replace fg2 := fg2.st st22 (by decide)
    replace hs := hs.loc0 st22 (by decide)
    have hk := hk.put 7 (.string t18) rfl
    refine x_run tab hk (k := 1) (lv := []) (ks := [2]) (e' := [(2, .string t18)]) rfl trivial fun a hk => ?_
    refine wpListIn_nil ?_
    refine then_n ?_
    refine wpIn_ret ?_
    obtain rfl := Option.some.inj H
    exact x_retG hk (rs := [.tmp 2]) (vs := [.string t18]) rfl ⟨rfl, trivial⟩ ⟨fun b_ => if b_ < w.heap.size then o b_ else (fun _ => 0) (o21 b_), rfl, hs.close0 o (fun _ => 0)⟩
  · rw [b14] at hk H
    replace H := bifT H
    refine x_if hk (b := true) rfl ?_
    refine (show Code.wpIn _ _ _ _ _ _ _ from ?_)
    refine x_seq ?_
    refine wpIn_region_lit ?_
    refine x_run tab hk (k := 1) (lv := []) (ks := [2]) (e' := [(2, .string (⟨#[]⟩ : ByteArray))]) rfl trivial fun a hk => ?_
    refine wpListIn_nil ?_
    refine then_n ?_
    refine wpIn_ret ?_
    refine then_r ?_
    obtain rfl := Option.some.inj H
    exact x_retG hk (rs := [.tmp 2]) (vs := [.string (⟨#[]⟩ : ByteArray)]) rfl ⟨rfl, trivial⟩ ⟨fun b_ => if b_ < w.heap.size then o b_ else (fun _ => 0) (o12 b_), rfl, hs.close0 o (fun _ => 0)⟩

/-! tidewrack/sum.Turn -/
theorem sum_Turn_calls (K : Nat) (p0 : ByteArray) (p1 : Int) (p2 : Int) (w : World) (o : Nat → Nat)   (r : ByteArray) (H : sum_Turn K p0 p1 p2 = some r) :
    Calls Tryd.prog 30 #[.string p0, .int .i64 p1, .int .u32 p2] w (Ret fun v_ w' => ∃ o' : Nat → Nat, v_ = .string r ∧ St [] w o w' o') := by
  refine x_enter (vs := [.string p0, .int .i64 p1, .int .u32 p2]) Tryd.func30 rfl rfl rfl fun a hk => ?_
  obtain ⟨o0, hs, h0⟩ := St.start w o
  clear h0
  rw [sum_Turn] at H
  refine x_seq ?_
  refine wpIn_region_lit ?_
  refine x_run tab hk (k := 1) (lv := []) (ks := [0, 1, 2]) (e' := [(0, .string p0), (1, .int .i64 p1), (2, .int .u32 p2)]) rfl trivial fun a hk => ?_
  refine wpListIn_nil ?_
  refine then_n ?_
  refine x_seq ?_
  refine wpIn_region_lit ?_
  refine x_run tab hk (k := 1) (lv := []) (ks := [1, 2, 9]) (e' := [(1, .int .i64 p1), (2, .int .u32 p2), (9, .string p0)]) rfl trivial fun a hk => ?_
  refine x_op hk rfl ?_
  refine op_bytes (o := o0) (s := p0) tab hk rfl rfl rfl rfl 1 fun A4 c5 w1 o2 st3 f6 hc7 => ?_
  replace hs := hs.loc0 st3 (by decide)
  have hk := hk.put 10 (.slice A4 ((numsOf p0)).length c5) rfl
  refine x_run tab hk (k := 1) (lv := []) (ks := [1, 2, 7]) (e' := [(1, .int .i64 p1), (2, .int .u32 p2), (7, .slice A4 ((numsOf p0)).length c5)]) rfl trivial fun a hk => ?_
  refine wpListIn_nil ?_
  refine then_n ?_
  refine x_mid (fun a_ w_ => ∃ o117 : Nat → Nat, ∃ A118 : Option Addr, ∃ c119 : Nat, ∃ l120 : List Int, Kn 45 a_ [(7, .slice A118 (l120).length c119)] ∧ St [] w (fun _ => 0) w_ o117 ∧ Ft (Wr (encInt .u8) 5 (.slice A118 (l120).length c119) l120) w_ o117 7 ∧ (l120).length ≤ c119 ∧ sum_Turn_j1 l120 = some r) ?_ ?_
  rotate_left
  · rintro a w123 ⟨o117, A118, c119, l120, hk, hs, f121, hc122, H⟩
    rw [sum_Turn_j1] at H
    refine x_seq ?_
    refine wpIn_region_lit ?_
    refine x_run tab hk (k := 3) (lv := [.string (strOfNums l120)]) (ks := [6]) (e' := [(6, .string (strOfNums l120))]) rfl ⟨(ask_str tab rfl rfl rfl rfl (Wr.rd f121.now) (Wr.plain f121.now _ _ _ rfl)), trivial⟩ fun a hk => ?_
    refine wpListIn_nil ?_
    refine then_n ?_
    refine wpIn_ret ?_
    obtain rfl := Option.some.inj H
    exact x_retG hk (rs := [.tmp 6]) (vs := [.string (strOfNums l120)]) rfl ⟨rfl, trivial⟩ ⟨fun b_ => if b_ < w.heap.size then o b_ else (fun _ => 0) (o117 b_), rfl, hs.close0 o (fun _ => 0)⟩
  refine x_seq ?_
  refine wpIn_region_lit ?_
  refine x_run tab hk (k := 7) (lv := []) (ks := [2, 7, 8]) (e' := [(2, .int .u32 p2), (7, .slice A4 ((numsOf p0)).length c5), (8, .int .i64 (mxI 0 (mnI p1 (IntKind.wrap .i64 (8 * (((numsOf p0)).length : Int))))))]) rfl trivial fun a hk => ?_
  refine wpListIn_nil ?_
  refine then_n ?_
  refine wpIn_block ?_
  refine x_loop (fun j_ a_ w_ => ∃ o155 : Nat → Nat, ∃ x156 : Int, ∃ A157 : Option Addr, ∃ c158 : Nat, ∃ l159 : List Int, ∃ x162 : Int, Kn 45 a_ [(2, .int .u32 x156), (7, .slice A157 (l159).length c158), (8, .int .i64 x162)] ∧ St [] w (fun _ => 0) w_ o155 ∧ Ft (Wr (encInt .u8) 5 (.slice A157 (l159).length c158) l159) w_ o155 10 ∧ (l159).length ≤ c158 ∧ sum_Turn_l2 j_ x156 l159 x162 = some r) (k := K) ⟨(fun b_ => (fun l_ => if l_ = 1 then 10 else l_) (o2 b_)), p2, A4, c5, (numsOf p0), (mxI 0 (mnI p1 (IntKind.wrap .i64 (8 * (((numsOf p0)).length : Int))))), (by exact Kn.pick (ks := [2, 7, 8]) hk rfl), (hs.relab0 (fun l_ => if l_ = 1 then 10 else l_) rfl), (f6.relab (fun l_ => if l_ = 1 then 10 else l_) rfl), hc7, H⟩ (by rintro _ _ ⟨_, _, _, _, _, _, _, _, _, _, H_⟩; exact absurd (show (none : Option ByteArray) = some r from H_) (by simp)) ?_
  rintro k192 a w191 ⟨o155, x156, A157, c158, l159, x162, hk, hs, f160, hc161, H⟩
  rw [sum_Turn_l2] at H
  obtain ⟨lp193, hlp194⟩ : ∃ lp_, lp_ = sum_Turn_l2 k192 := ⟨_, rfl⟩
  rw [← hlp194] at H
  refine x_mid (fun a_ w_ => ∃ o200 : Nat → Nat, Kn 45 a_ [(2, .int .u32 x156), (7, .slice A157 (l159).length c158), (8, .int .i64 x162)] ∧ St [] w (fun _ => 0) w_ o200 ∧ Ft (Wr (encInt .u8) 5 (.slice A157 (l159).length c158) l159) w_ o200 12 ∧ sum_Turn_j3 x156 l159 x162 lp193 = some r) ?_ ?_
  rotate_left
  · rintro a w201 ⟨o200, hk, hs, f160, H⟩
    rw [sum_Turn_j3] at H
    refine x_seq ?_
    refine wpIn_block ?_
    refine x_seq ?_
    refine xd_begin (o := o200) (fun W_ => (Wr (encInt .u8) 5 (.slice A157 (l159).length c158) l159) W_ ∧ True) mixed rfl rfl fun w212 st213 => ?_
    replace f160 := f160.st st213 (by decide)
    replace hs := hs.loc0 st213 (by decide)
    obtain ⟨q214, H⟩ := ifS H
    obtain ⟨ad215, hAad215⟩ := RdC.addr (Wr.rd f160.now) q214
    have hk_C := hk
    have f160_C := f160
    subst hAad215
    have hk := hk_C
    clear hk_C
    have f160 := f160_C
    clear f160_C
    obtain ⟨q216, H⟩ := ifS H
    refine xd_take tab hk (k := 1) (is := [0, 1, 2, 3, 4, 5, 6, 7, 8, 9, 10, 11, 12]) (ls' := #[true, true, true, true, true, true, true, true, true, true, true, true, true, false]) (lv := [.int .u8 (rdD 0 l159 (IntKind.wrap .i64 (Int.tdiv x162 8)))]) (ks := [2, 7, 8, 39, 40]) (e' := [(2, .int .u32 x156), (7, .slice (some ad215) (l159).length c158), (8, .int .i64 x162), (39, .int .u8 (bits .xor .u8 (rdD 0 l159 (IntKind.wrap .i64 (Int.tdiv x162 8))) (IntKind.wrap .u8 ((IntKind.wrap .u8 (bits .and .u32 x156 1)) * 2 ^ min (Int.toNat (Int.tmod x162 8)) 8)))), (40, .pointer (some (ad215.add (Int.toNat (IntKind.wrap .i64 (Int.tdiv x162 8)) * 1))))]) (by kernel_rfl) rfl rfl (by kernel_rfl) (np_then (np_blk (np_then (np_then (np_blk (np_then np_body)))))) ⟨f160.now, trivial⟩ (fun W_ hS => ⟨(show (8 : Int) ≠ 0 from by decide), q214, (load1 tab rfl (RdC.at0 (E := (encInt .u8)) (d := 0) (i := (IntKind.wrap .i64 (Int.tdiv x162 8))) (Wr.rd hS.1) q214 rfl)), (show (8 : Int) ≠ 0 from by decide), q216, q214, trivial⟩) fun a hk => ?_
    refine xd_op hk (i := 13) (by kernel_rfl) rfl rfl ?_
    refine op_storeW tab hk (E := (encInt .u8)) (i := (IntKind.wrap .i64 (Int.tdiv x162 8))) (j := 0) (dx := 0) (y' := (bits .xor .u8 (rdD 0 l159 (IntKind.wrap .i64 (Int.tdiv x162 8))) (IntKind.wrap .u8 ((IntKind.wrap .u8 (bits .and .u32 x156 1)) * 2 ^ min (Int.toNat (Int.tmod x162 8)) 8)))) rfl rfl rfl f160 rfl q214 rfl rfl rfl rfl fun w217 o218 st219 f160_ => ?_
    replace hs := hs.loc0 st219 (by decide)
    replace f160 := f160_
    have hl220 : (List.set l159 (Int.toNat (IntKind.wrap .i64 (Int.tdiv x162 8))) (bits .xor .u8 (rdD 0 l159 (IntKind.wrap .i64 (Int.tdiv x162 8))) (IntKind.wrap .u8 ((IntKind.wrap .u8 (bits .and .u32 x156 1)) * 2 ^ min (Int.toNat (Int.tmod x162 8)) 8)))).length = (l159).length := List.length_set
    replace hk := Kn.re hk [2, 7, 8, 39] (e2 := [(2, .int .u32 x156), (7, .slice (some ad215) ((List.set l159 (Int.toNat (IntKind.wrap .i64 (Int.tdiv x162 8))) (bits .xor .u8 (rdD 0 l159 (IntKind.wrap .i64 (Int.tdiv x162 8))) (IntKind.wrap .u8 ((IntKind.wrap .u8 (bits .and .u32 x156 1)) * 2 ^ min (Int.toNat (Int.tmod x162 8)) 8))))).length c158), (8, .int .i64 x162), (39, .int .u8 (bits .xor .u8 (rdD 0 l159 (IntKind.wrap .i64 (Int.tdiv x162 8))) (IntKind.wrap .u8 ((IntKind.wrap .u8 (bits .and .u32 x156 1)) * 2 ^ min (Int.toNat (Int.tmod x162 8)) 8))))]) rfl (by rw [hl220])
    refine ⟨.inl (by kernel_rfl), ?_⟩
    refine xd_done (by kernel_rfl) ?_
    refine then_n ?_
    refine wpIn_region_lit ?_
    refine x_run tab hk (k := 3) (lv := []) (ks := [2, 7, 8]) (e' := [(2, .int .u32 (Int.fdiv x156 (2 ^ min (Int.toNat 1) 32))), (7, .slice (some ad215) ((List.set l159 (Int.toNat (IntKind.wrap .i64 (Int.tdiv x162 8))) (bits .xor .u8 (rdD 0 l159 (IntKind.wrap .i64 (Int.tdiv x162 8))) (IntKind.wrap .u8 ((IntKind.wrap .u8 (bits .and .u32 x156 1)) * 2 ^ min (Int.toNat (Int.tmod x162 8)) 8))))).length c158), (8, .int .i64 x162)]) rfl ⟨(show 0 ≤ (1 : Int) from by decide), trivial⟩ fun a hk => ?_
    refine wpListIn_nil ?_
    refine blk_n ?_
    refine then_n ?_
    refine wpIn_region_lit ?_
    refine x_run tab hk (k := 3) (lv := []) (ks := [2, 7, 8]) (e' := [(2, .int .u32 (Int.fdiv x156 (2 ^ min (Int.toNat 1) 32))), (7, .slice (some ad215) ((List.set l159 (Int.toNat (IntKind.wrap .i64 (Int.tdiv x162 8))) (bits .xor .u8 (rdD 0 l159 (IntKind.wrap .i64 (Int.tdiv x162 8))) (IntKind.wrap .u8 ((IntKind.wrap .u8 (bits .and .u32 x156 1)) * 2 ^ min (Int.toNat (Int.tmod x162 8)) 8))))).length c158), (8, .int .i64 (IntKind.wrap .i64 (x162 + 1)))]) rfl trivial fun a hk => ?_
    refine wpListIn_nil ?_
    refine then_n ?_
    exact ⟨k192, Nat.le_refl _, (fun b_ => (fun l_ => if l_ = 12 then 10 else l_) (o218 b_)), (Int.fdiv x156 (2 ^ min (Int.toNat 1) 32)), (some ad215), c158, (List.set l159 (Int.toNat (IntKind.wrap .i64 (Int.tdiv x162 8))) (bits .xor .u8 (rdD 0 l159 (IntKind.wrap .i64 (Int.tdiv x162 8))) (IntKind.wrap .u8 ((IntKind.wrap .u8 (bits .and .u32 x156 1)) * 2 ^ min (Int.toNat (Int.tmod x162 8)) 8)))), (IntKind.wrap .i64 (x162 + 1)), (by exact Kn.pick (ks := [2, 7, 8]) hk rfl), (hs.relab0 (fun l_ => if l_ = 12 then 10 else l_) rfl), (f160.relab (fun l_ => if l_ = 12 then 10 else l_) rfl), (by rw [List.length_set]; exact hc161), (hlp194 ▸ H)⟩
  refine x_seq ?_
  refine wpIn_region_lit ?_
  refine x_run tab hk (k := 3) (lv := []) (ks := [2, 7, 8, 19]) (e' := [(2, .int .u32 x156), (7, .slice A157 (l159).length c158), (8, .int .i64 x162), (19, .bool (x156 != (0 : Int)))]) rfl trivial fun a hk => ?_
  cases b221 : (x156 != (0 : Int))
  · rw [b221] at hk H
    replace H := bifF H
    refine x_run tab hk (k := 6) (lv := []) (ks := [2, 7, 8, 25]) (e' := [(2, .int .u32 x156), (7, .slice A157 (l159).length c158), (8, .int .i64 x162), (25, .bool false)]) rfl trivial fun a hk => ?_
    refine wpListIn_nil ?_
    refine then_n ?_
    refine x_if hk (b := false) rfl ?_
    refine (show Code.wpIn _ _ _ _ _ _ _ from ?_)
    refine wpIn_exit ?_
    refine then_x ?_
    refine then_x ?_
    refine blk_x ?_
    refine then_n ?_
    exact ⟨(fun b_ => (fun l_ => if l_ = 10 then 7 else l_) (o155 b_)), A157, c158, l159, (by exact Kn.pick (ks := [7]) hk rfl), (hs.relab0 (fun l_ => if l_ = 10 then 7 else l_) rfl), (f160.relab (fun l_ => if l_ = 10 then 7 else l_) rfl), hc161, H⟩
  · rw [b221] at hk H
    replace H := bifT H
    refine x_run tab hk (k := 6) (lv := []) (ks := [2, 7, 8, 25]) (e' := [(2, .int .u32 x156), (7, .slice A157 (l159).length c158), (8, .int .i64 x162), (25, .bool (decide (x162 < (IntKind.wrap .i64 (8 * ((l159).length : Int))))))]) rfl trivial fun a hk => ?_
    refine wpListIn_nil ?_
    refine then_n ?_
    cases b222 : (decide (x162 < (IntKind.wrap .i64 (8 * ((l159).length : Int)))))
    · rw [b222] at hk H
      replace H := bifF H
      refine x_if hk (b := false) rfl ?_
      refine (show Code.wpIn _ _ _ _ _ _ _ from ?_)
      refine wpIn_exit ?_
      refine then_x ?_
      refine then_x ?_
      refine blk_x ?_
      refine then_n ?_
      exact ⟨(fun b_ => (fun l_ => if l_ = 10 then 7 else l_) (o155 b_)), A157, c158, l159, (by exact Kn.pick (ks := [7]) hk rfl), (hs.relab0 (fun l_ => if l_ = 10 then 7 else l_) rfl), (f160.relab (fun l_ => if l_ = 10 then 7 else l_) rfl), hc161, H⟩
    · rw [b222] at hk H
      replace H := bifT H
      refine x_if hk (b := true) rfl ?_
      refine (show Code.wpIn _ _ _ _ _ _ _ from ?_)
      refine wpIn_skip ?_
      refine then_n ?_
      exact ⟨(fun b_ => (fun l_ => if l_ = 10 then 12 else l_) (o155 b_)), (by exact Kn.pick (ks := [2, 7, 8]) hk rfl), (hs.relab0 (fun l_ => if l_ = 10 then 12 else l_) rfl), (f160.relab (fun l_ => if l_ = 10 then 12 else l_) rfl), H⟩

/-! (tidewrack/gram.Gram).Num -/
theorem gram_Gram_Num_calls (Ap0_0 : Option Addr) (cp0_0 : Nat) (p0 : T76) (p1 : Int) (w : World) (o : Nat → Nat) (Lp0_0 : Nat) (hp0_0 : Ft (RdC (encInt .i64) Ap0_0 p0.Nums) w o Lp0_0) (hcp0_0 : (p0.Nums).length ≤ cp0_0)  (r : Int) (H : gram_Gram_Num p0 p1 = some r) :
    Calls Tryd.prog 32 #[.agg #[.int .i64 p0.Epoch, .int .i64 p0.Kind, .slice Ap0_0 (p0.Nums).length cp0_0, .string p0.Data], .int .i64 p1] w (Ret fun v_ w' => ∃ o' : Nat → Nat, v_ = .int .i64 r ∧ St [] w o w' o') := by
  refine x_enter (vs := [.agg #[.int .i64 p0.Epoch, .int .i64 p0.Kind, .slice Ap0_0 (p0.Nums).length cp0_0, .string p0.Data], .int .i64 p1]) Tryd.func32 rfl rfl rfl fun a hk => ?_
  obtain ⟨o0, hs, h0⟩ := St.start w o
  have f900000 := h0 _ _ hp0_0
  clear h0
  rw [gram_Gram_Num] at H
  refine x_seq ?_
  refine wpIn_region_lit ?_
  refine x_op hk rfl ?_
  refine op_box (o := o0) (t := 77) (v := .agg #[.int .i64 p0.Epoch, .int .i64 p0.Kind, .slice Ap0_0 (p0.Nums).length cp0_0, .string p0.Data]) (cs := [.int .i64 p0.Epoch, .int .i64 p0.Kind, .slice Ap0_0 (p0.Nums).length cp0_0, .string p0.Data]) hk rfl rfl 1 fun bx4 w1 o2 st3 f5 => ?_
  replace f900000 := f900000.st st3 (by decide)
  replace hs := hs.loc0 st3 (by decide)
  have hk := hk.put 2 (.pointer (some ⟨bx4, 0, none⟩)) rfl
  refine x_run tab hk (k := 1) (lv := []) (ks := [1, 2]) (e' := [(1, .int .i64 p1), (2, .pointer (some ⟨bx4, 0, none⟩))]) rfl trivial fun a hk => ?_
  refine wpListIn_nil ?_
  refine then_n ?_
  refine x_seq ?_
  refine x_seq ?_
  refine wpIn_region_lit ?_
  refine x_run tab hk (k := 5) (lv := [.slice Ap0_0 (p0.Nums).length cp0_0]) (ks := [1, 2, 5, 9]) (e' := [(1, .int .i64 p1), (2, .pointer (some ⟨bx4, 0, none⟩)), (5, .int .i64 p1), (9, .int .i64 (IntKind.wrap .i64 (((p0.Nums).length : Int) - 1)))]) rfl ⟨(load1 tab rfl ((Bx.cell f5.now 2).trans rfl)), trivial⟩ fun a hk => ?_
  refine x_op hk rfl ?_
  obtain ⟨t9, hc10, H⟩ := bindS H
  refine op_call hk ent_67 (vs := [.int .i64 p1, .int .i64 0, .int .i64 (IntKind.wrap .i64 (((p0.Nums).length : Int) - 1))]) rfl (gram_within_calls p1 0 (IntKind.wrap .i64 (((p0.Nums).length : Int) - 1)) _ o2    _ hc10) ?_
  rintro _ w11 ⟨o12, rfl, st13⟩
  replace f5 := f5.st st13 (by decide)
  replace f900000 := f900000.st st13 (by decide)
  replace hs := hs.loc0 st13 (by decide)
  have hk := hk.put 10 (.bool t9) rfl
  refine x_run tab hk (k := 1) (lv := []) (ks := [1, 2, 11]) (e' := [(1, .int .i64 p1), (2, .pointer (some ⟨bx4, 0, none⟩)), (11, .bool (!t9))]) rfl trivial fun a hk => ?_
  refine wpListIn_nil ?_
  refine then_n ?_
  cases b14 : (!t9)
  · rw [b14] at hk H
    replace H := bifF H
    refine x_if hk (b := false) rfl ?_
    refine (show Code.wpIn _ _ _ _ _ _ _ from ?_)
    refine wpIn_skip ?_
    refine then_n ?_
    refine x_seq ?_
    refine wpIn_region_lit ?_
    obtain ⟨q15, H⟩ := ifS H
    obtain ⟨ad16, hAad16⟩ := RdC.addr f900000.now q15
    have hk_C := hk
    have f5_C := f5
    have f900000_C := f900000
    subst hAad16
    have hk := hk_C
    clear hk_C
    have f5 := f5_C
    clear f5_C
    have f900000 := f900000_C
    clear f900000_C
    refine x_run tab hk (k := 6) (lv := [.slice (some ad16) (p0.Nums).length cp0_0, .int .i64 (rdD 0 p0.Nums p1)]) (ks := [4]) (e' := [(4, .int .i64 (rdD 0 p0.Nums p1))]) rfl ⟨(load1 tab rfl ((Bx.cell f5.now 2).trans rfl)), q15, (load1 tab rfl (RdC.at0 (E := (encInt .i64)) (d := 0) (i := p1) f900000.now q15 rfl)), trivial⟩ fun a hk => ?_
    refine wpListIn_nil ?_
    refine then_n ?_
    refine wpIn_ret ?_
    obtain rfl := Option.some.inj H
    exact x_retG hk (rs := [.tmp 4]) (vs := [.int .i64 (rdD 0 p0.Nums p1)]) rfl ⟨rfl, trivial⟩ ⟨fun b_ => if b_ < w.heap.size then o b_ else (fun _ => 0) (o12 b_), rfl, hs.close0 o (fun _ => 0)⟩
  · rw [b14] at hk H
    replace H := bifT H
    refine x_if hk (b := true) rfl ?_
    refine (show Code.wpIn _ _ _ _ _ _ _ from ?_)
    refine x_seq ?_
    refine wpIn_region_lit ?_
    refine x_run tab hk (k := 1) (lv := []) (ks := [4]) (e' := [(4, .int .i64 0)]) rfl trivial fun a hk => ?_
    refine wpListIn_nil ?_
    refine then_n ?_
    refine wpIn_ret ?_
    refine then_r ?_
    obtain rfl := Option.some.inj H
    exact x_retG hk (rs := [.tmp 4]) (vs := [.int .i64 0]) rfl ⟨rfl, trivial⟩ ⟨fun b_ => if b_ < w.heap.size then o b_ else (fun _ => 0) (o12 b_), rfl, hs.close0 o (fun _ => 0)⟩

/-! (*tidewrack/parts.Slot).Put -/
theorem parts_Slot_Put_calls (bp0 : Nat) (Ap0_0 : Option Addr) (cp0_0 : Nat) (p0 : T83) (p1 : Int) (p2 : Int) (p3 : Int) (p4 : ByteArray) (w : World) (o : Nat → Nat) (Lp0 : Nat) (hp0 : Ft (Bx bp0 84 [.int .i64 p0.key, .int .i64 p0.count, mv Ap0_0, .int .i64 p0.bytes]) w o Lp0) (Lp0_0 : Nat) (hp0_0 : Ft (MpF encStr false Ap0_0 p0.parts) w o Lp0_0) (hcp0_0 : (p0.parts).length ≤ cp0_0) (hd0 : ([Lp0, Lp0_0] : List Nat).Nodup) (r : Int × T83) (H : parts_Slot_Put p0 p1 p2 p3 p4 = some r) :
    Calls Tryd.prog 31 #[.pointer (some ⟨bp0, 0, none⟩), .int .i64 p1, .int .i64 p2, .int .i64 p3, .string p4] w (Ret fun v_ w' => ∃ o' : Nat → Nat, ∃ A0 : Option Addr, ∃ c0 : Nat, v_ = .int .i64 r.1 ∧ St [Lp0, Lp0_0] w o w' o' ∧ Ft (Bx bp0 84 [.int .i64 r.2.key, .int .i64 r.2.count, mv A0, .int .i64 r.2.bytes]) w' o' Lp0 ∧ Ft (MpF encStr false A0 r.2.parts) w' o' Lp0_0 ∧ (r.2.parts).length ≤ c0) := by
  refine x_enter (vs := [.pointer (some ⟨bp0, 0, none⟩), .int .i64 p1, .int .i64 p2, .int .i64 p3, .string p4]) Tryd.func31 rfl rfl rfl fun a hk => ?_
  obtain ⟨oi, hs0, h0, h1, hob, hoz, hoa⟩ := St.startM2 w o (m := 2) hd0 rfl
  have hs := hs0 [1, 2]
  have hom := lab_in hob (MM := [1, 2]) (by decide)
  have f900000 := h1 1 2 hp0_0 rfl rfl
  have f900019 := h1 0 1 hp0 rfl rfl
  clear h0 h1 hs0
  rw [parts_Slot_Put] at H
  refine x_seq ?_
  refine wpIn_region_lit ?_
  refine x_run tab hk (k := 1) (lv := []) (ks := [0, 1, 2, 3, 4]) (e' := [(0, .pointer (some ⟨bp0, 0, none⟩)), (1, .int .i64 p1), (2, .int .i64 p2), (3, .int .i64 p3), (4, .string p4)]) rfl trivial fun a hk => ?_
  refine wpListIn_nil ?_
  refine then_n ?_
  refine x_mid (fun a_ w_ => ∃ o43 : Nat → Nat, ∃ x44 : Int, ∃ x45 : Int, ∃ A46 : Option Addr, ∃ c47 : Nat, ∃ l48 : M ByteArray, ∃ x51 : Int, Kn 86 a_ [(0, .pointer (some ⟨bp0, 0, none⟩)), (2, .int .i64 p2), (4, .string p4)] ∧ St [1, 2] w oi w_ o43 ∧ Ft (MpF encStr false A46 l48) w_ o43 2 ∧ Ft (Bx bp0 84 [.int .i64 x44, .int .i64 x45, mv A46, .int .i64 x51]) w_ o43 1 ∧ (l48).length ≤ c47 ∧ parts_Slot_Put_j1 p2 p4 x44 x45 l48 x51 = some r) ?_ ?_
  rotate_left
  · rintro a w52 ⟨o43, x44, x45, A46, c47, l48, x51, hk, hs, f49, f900019, hc50, H⟩
    rw [parts_Slot_Put_j1] at H
    refine x_seq ?_
    refine x_seq ?_
    refine wpIn_region_lit ?_
    refine x_run tab hk (k := 10) (lv := [mv A46, .tuple #[.string (M.get (⟨#[]⟩ : ByteArray) l48 p2), .bool (M.has l48 p2)]]) (ks := [0, 2, 4, 68]) (e' := [(0, .pointer (some ⟨bp0, 0, none⟩)), (2, .int .i64 p2), (4, .string p4), (68, .bool (M.has l48 p2))]) rfl ⟨(load1 tab rfl ((Bx.cell f900019.now 2).trans rfl)), (ask_look (E := encStr) (ag := false) (zx := (⟨#[]⟩ : ByteArray)) tab rfl rfl rfl rfl f49.now rfl rfl), trivial⟩ fun a hk => ?_
    refine x_run tab hk (k := 1) (lv := []) (ks := [0, 2, 4, 12]) (e' := [(0, .pointer (some ⟨bp0, 0, none⟩)), (2, .int .i64 p2), (4, .string p4), (12, .bool (M.has l48 p2))]) rfl trivial fun a hk => ?_
    refine wpListIn_nil ?_
    refine then_n ?_
    refine x_seq ?_
    refine wpIn_region_lit ?_
    refine x_run tab hk (k := 2) (lv := []) (ks := [0, 2, 4, 70]) (e' := [(0, .pointer (some ⟨bp0, 0, none⟩)), (2, .int .i64 p2), (4, .string p4), (70, .bool (!(M.has l48 p2)))]) rfl trivial fun a hk => ?_
    refine wpListIn_nil ?_
    refine then_n ?_
    cases b53 : (!(M.has l48 p2))
    · rw [b53] at hk H
      replace H := bifF H
      refine x_if hk (b := false) rfl ?_
      refine (show Code.wpIn _ _ _ _ _ _ _ from ?_)
      refine wpIn_skip ?_
      refine then_n ?_
      refine x_seq ?_
      refine wpIn_region_lit ?_
      refine x_run tab hk (k := 1) (lv := []) (ks := [10]) (e' := [(10, .int .i64 0)]) rfl trivial fun a hk => ?_
      refine wpListIn_nil ?_
      refine then_n ?_
      refine wpIn_ret ?_
      obtain rfl := Option.some.inj H
      exact x_retG hk (rs := [.tmp 10]) (vs := [.int .i64 0]) rfl ⟨rfl, trivial⟩ ⟨cl w oi o [1, 2] (fun l_ => if l_ = 1 then Lp0 else if l_ = 2 then Lp0_0 else 0) o43, A46, c47, rfl, hs.closeM hoz (by decide) (fun l_ => if l_ = 1 then Lp0 else if l_ = 2 then Lp0_0 else 0), hs.closeM_ft (o := o) (ρ := fun l_ => if l_ = 1 then Lp0 else if l_ = 2 then Lp0_0 else 0) f900019 (lab_at hoa (i := 0) rfl) rfl, hs.closeM_ft (o := o) (ρ := fun l_ => if l_ = 1 then Lp0 else if l_ = 2 then Lp0_0 else 0) f49 (lab_at hoa (i := 1) rfl) rfl, hc50⟩
    · rw [b53] at hk H
      replace H := bifT H
      refine x_if hk (b := true) rfl ?_
      refine (show Code.wpIn _ _ _ _ _ _ _ from ?_)
      refine x_seq ?_
      refine wpIn_region_lit ?_
      refine x_run tab hk (k := 6) (lv := [mv A46]) (ks := [0, 4, 74, 75, 76]) (e' := [(0, .pointer (some ⟨bp0, 0, none⟩)), (4, .string p4), (74, mv A46), (75, .int .i64 p2), (76, .string p4)]) rfl ⟨(load1 tab rfl ((Bx.cell f900019.now 2).trans rfl)), trivial⟩ fun a hk => ?_
      refine x_op hk rfl ?_
      obtain ⟨q57, H⟩ := ifS H
      refine op_mput tab hk (E := encStr) (ag := false) (k := p2) (v := p4) rfl rfl rfl rfl rfl f49 q57 fun w54 st56 f49_ => ?_
      replace f900019 := f900019.st st56 (by decide)
      replace hs := hs.locM st56 (by decide) hom
      replace f49 := f49_
      refine wpListIn_nil ?_
      refine then_n ?_
      refine wpIn_region_lit ?_
      refine x_run tab hk (k := 9) (lv := [.int .i64 x51]) (ks := [83, 85]) (e' := [(83, .int .i64 (IntKind.wrap .i64 (x51 + ((p4).size : Int)))), (85, .pointer (some ((⟨bp0, 0, none⟩ : Addr).add 3)))]) rfl ⟨(load1 tab rfl ((Bx.cell f900019.now 3).trans rfl)), trivial⟩ fun a hk => ?_
      refine x_op hk rfl ?_
      refine op_store tab hk (t := 3) (v := .int .i64 (IntKind.wrap .i64 (x51 + ((p4).size : Int)))) (b := bp0) (k := 3) (cs' := [.int .i64 x44, .int .i64 x45, mv A46, .int .i64 (IntKind.wrap .i64 (x51 + ((p4).size : Int)))]) rfl rfl rfl rfl rfl rfl f900019 rfl rfl fun w58 o59 st60 f900019_ => ?_
      replace f49 := f49.st st60 (by decide)
      replace hs := hs.locM st60 (by decide) hom
      replace f900019 := f900019_
      refine wpListIn_nil ?_
      refine then_n ?_
      refine x_seq ?_
      refine wpIn_region_lit ?_
      refine x_run tab hk (k := 1) (lv := []) (ks := [10]) (e' := [(10, .int .i64 0)]) rfl trivial fun a hk => ?_
      refine wpListIn_nil ?_
      refine then_n ?_
      refine wpIn_ret ?_
      obtain rfl := Option.some.inj H
      exact x_retG hk (rs := [.tmp 10]) (vs := [.int .i64 0]) rfl ⟨rfl, trivial⟩ ⟨cl w oi o [1, 2] (fun l_ => if l_ = 1 then Lp0 else if l_ = 2 then Lp0_0 else 0) o59, A46, ((M.put l48 p2 p4)).length, rfl, hs.closeM hoz (by decide) (fun l_ => if l_ = 1 then Lp0 else if l_ = 2 then Lp0_0 else 0), hs.closeM_ft (o := o) (ρ := fun l_ => if l_ = 1 then Lp0 else if l_ = 2 then Lp0_0 else 0) f900019 (lab_at hoa (i := 0) rfl) rfl, hs.closeM_ft (o := o) (ρ := fun l_ => if l_ = 1 then Lp0 else if l_ = 2 then Lp0_0 else 0) f49 (lab_at hoa (i := 1) rfl) rfl, (Nat.le_refl _)⟩
  refine wpIn_block ?_
  refine x_mid (fun a_ w_ => ∃ o71 : Nat → Nat, ∃ x72 : Bool, Kn 86 a_ [(0, .pointer (some ⟨bp0, 0, none⟩)), (1, .int .i64 p1), (2, .int .i64 p2), (3, .int .i64 p3), (4, .string p4), (13, .bool x72)] ∧ St [1, 2] w oi w_ o71 ∧ Ft (MpF encStr false Ap0_0 p0.parts) w_ o71 2 ∧ Ft (Bx bp0 84 [.int .i64 p0.key, .int .i64 p0.count, mv Ap0_0, .int .i64 p0.bytes]) w_ o71 1 ∧ parts_Slot_Put_j2 p0 p1 p2 p3 p4 x72 = some r) ?_ ?_
  rotate_left
  · rintro a w73 ⟨o71, x72, hk, hs, f900000, f900019, H⟩
    rw [parts_Slot_Put_j2] at H
    cases b74 : x72
    · rw [b74] at hk H
      replace H := bifF H
      refine x_if hk (b := false) rfl ?_
      refine (show Code.wpIn _ _ _ _ _ _ _ from ?_)
      refine x_seq ?_
      refine wpIn_region_lit ?_
      refine x_run tab hk (k := 7) (lv := [.int .i64 p0.key]) (ks := [0, 1, 2, 3, 4, 33]) (e' := [(0, .pointer (some ⟨bp0, 0, none⟩)), (1, .int .i64 p1), (2, .int .i64 p2), (3, .int .i64 p3), (4, .string p4), (33, .bool (decide (p1 < p0.key)))]) rfl ⟨(load1 tab rfl ((Bx.cell f900019.now 0).trans rfl)), trivial⟩ fun a hk => ?_
      refine wpListIn_nil ?_
      refine then_n ?_
      cases b75 : (decide (p1 < p0.key))
      · rw [b75] at hk H
        replace H := bifF H
        refine x_if hk (b := false) rfl ?_
        refine (show Code.wpIn _ _ _ _ _ _ _ from ?_)
        refine x_seq ?_
        refine wpIn_region_lit ?_
        refine x_run tab hk (k := 7) (lv := [.int .i64 p0.key]) (ks := [0, 1, 2, 3, 4, 40]) (e' := [(0, .pointer (some ⟨bp0, 0, none⟩)), (1, .int .i64 p1), (2, .int .i64 p2), (3, .int .i64 p3), (4, .string p4), (40, .bool (decide (p1 > p0.key)))]) rfl ⟨(load1 tab rfl ((Bx.cell f900019.now 0).trans rfl)), trivial⟩ fun a hk => ?_
        refine wpListIn_nil ?_
        refine then_n ?_
        cases b76 : (decide (p1 > p0.key))
        · rw [b76] at hk H
          replace H := bifF H
          refine x_if hk (b := false) rfl ?_
          refine (show Code.wpIn _ _ _ _ _ _ _ from ?_)
          refine x_seq ?_
          refine wpIn_region_lit ?_
          refine x_run tab hk (k := 7) (lv := [.int .i64 p0.count]) (ks := [0, 2, 4, 53]) (e' := [(0, .pointer (some ⟨bp0, 0, none⟩)), (2, .int .i64 p2), (4, .string p4), (53, .bool (p3 != p0.count))]) rfl ⟨(load1 tab rfl ((Bx.cell f900019.now 1).trans rfl)), trivial⟩ fun a hk => ?_
          refine wpListIn_nil ?_
          refine then_n ?_
          cases b77 : (p3 != p0.count)
          · rw [b77] at hk H
            replace H := bifF H
            refine x_if hk (b := false) rfl ?_
            refine (show Code.wpIn _ _ _ _ _ _ _ from ?_)
            refine wpIn_skip ?_
            refine blk_n ?_
            refine then_n ?_
            exact ⟨o71, p0.key, p0.count, Ap0_0, cp0_0, p0.parts, p0.bytes, (by exact Kn.pick (ks := [0, 2, 4]) hk rfl), hs, f900000, f900019, hcp0_0, H⟩
          · rw [b77] at hk H
            replace H := bifT H
            refine x_if hk (b := true) rfl ?_
            refine (show Code.wpIn _ _ _ _ _ _ _ from ?_)
            refine x_seq ?_
            refine wpIn_region_lit ?_
            refine x_run tab hk (k := 1) (lv := []) (ks := [10]) (e' := [(10, .int .i64 1)]) rfl trivial fun a hk => ?_
            refine wpListIn_nil ?_
            refine then_n ?_
            refine wpIn_ret ?_
            refine blk_r ?_
            refine then_r ?_
            obtain rfl := Option.some.inj H
            exact x_retG hk (rs := [.tmp 10]) (vs := [.int .i64 1]) rfl ⟨rfl, trivial⟩ ⟨cl w oi o [1, 2] (fun l_ => if l_ = 1 then Lp0 else if l_ = 2 then Lp0_0 else 0) o71, Ap0_0, cp0_0, rfl, hs.closeM hoz (by decide) (fun l_ => if l_ = 1 then Lp0 else if l_ = 2 then Lp0_0 else 0), hs.closeM_ft (o := o) (ρ := fun l_ => if l_ = 1 then Lp0 else if l_ = 2 then Lp0_0 else 0) f900019 (lab_at hoa (i := 0) rfl) rfl, hs.closeM_ft (o := o) (ρ := fun l_ => if l_ = 1 then Lp0 else if l_ = 2 then Lp0_0 else 0) f900000 (lab_at hoa (i := 1) rfl) rfl, hcp0_0⟩
        · rw [b76] at hk H
          replace H := bifT H
          refine x_if hk (b := true) rfl ?_
          refine (show Code.wpIn _ _ _ _ _ _ _ from ?_)
          refine wpIn_region_lit ?_
          refine x_run tab hk (k := 3) (lv := []) (ks := [0, 2, 4, 47, 48, 49]) (e' := [(0, .pointer (some ⟨bp0, 0, none⟩)), (2, .int .i64 p2), (4, .string p4), (47, .pointer (some ⟨bp0, 0, none⟩)), (48, .int .i64 p1), (49, .int .i64 p3)]) rfl trivial fun a hk => ?_
          refine x_op hk rfl ?_
          refine op_mmake (o := o71) rfl encStr false 4 fun bx81 w78 o79 st80 f82 => ?_
          replace f900000 := f900000.st st80 (by decide)
          replace f900019 := f900019.st st80 (by decide)
          replace hs := hs.locM st80 (by decide) hom
          have hk := hk.put 50 (mv (some ⟨bx81, 0, none⟩)) rfl
          refine x_run tab hk (k := 2) (lv := []) (ks := [0, 2, 4, 51, 52]) (e' := [(0, .pointer (some ⟨bp0, 0, none⟩)), (2, .int .i64 p2), (4, .string p4), (51, .agg #[.int .i64 p1, .int .i64 p3, mv (some ⟨bx81, 0, none⟩), .int .i64 0]), (52, .pointer (some ⟨bp0, 0, none⟩))]) rfl trivial fun a hk => ?_
          refine x_op hk rfl ?_
          refine op_store tab hk (t := 84) (v := .agg #[.int .i64 p1, .int .i64 p3, mv (some ⟨bx81, 0, none⟩), .int .i64 0]) (b := bp0) (k := 0) (cs' := [.int .i64 p1, .int .i64 p3, mv (some ⟨bx81, 0, none⟩), .int .i64 0]) rfl rfl rfl rfl rfl rfl f900019 rfl rfl fun w83 o84 st85 f900019_ => ?_
          replace f82 := f82.st st85 (by decide)
          replace f900000 := f900000.st st85 (by decide)
          replace hs := hs.locM st85 (by decide) hom
          replace f900019 := f900019_
          refine wpListIn_nil ?_
          refine blk_n ?_
          refine then_n ?_
          exact ⟨(fun b_ => (fun l_ => if l_ = 4 then 2 else l_) (o84 b_)), p1, p3, (some ⟨bx81, 0, none⟩), 0, (M.new : M ByteArray), 0, (by exact Kn.pick (ks := [0, 2, 4]) hk rfl), (hs.relabM hob (fun l_ => if l_ = 4 then 2 else l_) (by decide)), (f82.relab (fun l_ => if l_ = 4 then 2 else l_) rfl), (f900019.relab (fun l_ => if l_ = 4 then 2 else l_) rfl), (Nat.le_refl _), H⟩
      · rw [b75] at hk H
        replace H := bifT H
        refine x_if hk (b := true) rfl ?_
        refine (show Code.wpIn _ _ _ _ _ _ _ from ?_)
        refine x_seq ?_
        refine wpIn_region_lit ?_
        refine x_run tab hk (k := 1) (lv := []) (ks := [10]) (e' := [(10, .int .i64 8)]) rfl trivial fun a hk => ?_
        refine wpListIn_nil ?_
        refine then_n ?_
        refine wpIn_ret ?_
        refine blk_r ?_
        refine then_r ?_
        obtain rfl := Option.some.inj H
        exact x_retG hk (rs := [.tmp 10]) (vs := [.int .i64 8]) rfl ⟨rfl, trivial⟩ ⟨cl w oi o [1, 2] (fun l_ => if l_ = 1 then Lp0 else if l_ = 2 then Lp0_0 else 0) o71, Ap0_0, cp0_0, rfl, hs.closeM hoz (by decide) (fun l_ => if l_ = 1 then Lp0 else if l_ = 2 then Lp0_0 else 0), hs.closeM_ft (o := o) (ρ := fun l_ => if l_ = 1 then Lp0 else if l_ = 2 then Lp0_0 else 0) f900019 (lab_at hoa (i := 0) rfl) rfl, hs.closeM_ft (o := o) (ρ := fun l_ => if l_ = 1 then Lp0 else if l_ = 2 then Lp0_0 else 0) f900000 (lab_at hoa (i := 1) rfl) rfl, hcp0_0⟩
    · rw [b74] at hk H
      replace H := bifT H
      refine x_if hk (b := true) rfl ?_
      refine (show Code.wpIn _ _ _ _ _ _ _ from ?_)
      refine x_seq ?_
      refine wpIn_region_lit ?_
      refine x_run tab hk (k := 1) (lv := []) (ks := [10]) (e' := [(10, .int .i64 6)]) rfl trivial fun a hk => ?_
      refine wpListIn_nil ?_
      refine then_n ?_
      refine wpIn_ret ?_
      refine blk_r ?_
      refine then_r ?_
      obtain rfl := Option.some.inj H
      exact x_retG hk (rs := [.tmp 10]) (vs := [.int .i64 6]) rfl ⟨rfl, trivial⟩ ⟨cl w oi o [1, 2] (fun l_ => if l_ = 1 then Lp0 else if l_ = 2 then Lp0_0 else 0) o71, Ap0_0, cp0_0, rfl, hs.closeM hoz (by decide) (fun l_ => if l_ = 1 then Lp0 else if l_ = 2 then Lp0_0 else 0), hs.closeM_ft (o := o) (ρ := fun l_ => if l_ = 1 then Lp0 else if l_ = 2 then Lp0_0 else 0) f900019 (lab_at hoa (i := 0) rfl) rfl, hs.closeM_ft (o := o) (ρ := fun l_ => if l_ = 1 then Lp0 else if l_ = 2 then Lp0_0 else 0) f900000 (lab_at hoa (i := 1) rfl) rfl, hcp0_0⟩
  refine wpIn_region_lit ?_
  refine x_run tab hk (k := 3) (lv := []) (ks := [0, 1, 2, 3, 4, 16]) (e' := [(0, .pointer (some ⟨bp0, 0, none⟩)), (1, .int .i64 p1), (2, .int .i64 p2), (3, .int .i64 p3), (4, .string p4), (16, .bool (decide (p3 < (1 : Int))))]) rfl trivial fun a hk => ?_
  cases b86 : (decide (p3 < (1 : Int)))
  · rw [b86] at hk H
    replace H := bifF H
    refine x_run tab hk (k := 4) (lv := []) (ks := [0, 1, 2, 3, 4, 20]) (e' := [(0, .pointer (some ⟨bp0, 0, none⟩)), (1, .int .i64 p1), (2, .int .i64 p2), (3, .int .i64 p3), (4, .string p4), (20, .bool (decide (p3 > (4096 : Int))))]) rfl trivial fun a hk => ?_
    cases b87 : (decide (p3 > (4096 : Int)))
    · rw [b87] at hk H
      replace H := bifF H
      refine x_run tab hk (k := 4) (lv := []) (ks := [0, 1, 2, 3, 4, 24]) (e' := [(0, .pointer (some ⟨bp0, 0, none⟩)), (1, .int .i64 p1), (2, .int .i64 p2), (3, .int .i64 p3), (4, .string p4), (24, .bool (decide (p2 < (0 : Int))))]) rfl trivial fun a hk => ?_
      cases b88 : (decide (p2 < (0 : Int)))
      · rw [b88] at hk H
        replace H := bifF H
        refine x_run tab hk (k := 5) (lv := []) (ks := [0, 1, 2, 3, 4, 29]) (e' := [(0, .pointer (some ⟨bp0, 0, none⟩)), (1, .int .i64 p1), (2, .int .i64 p2), (3, .int .i64 p3), (4, .string p4), (29, .bool (decide (p2 ≥ p3)))]) rfl trivial fun a hk => ?_
        cases b89 : (decide (p2 ≥ p3))
        · rw [b89] at hk H
          replace H := bifF H
          refine x_run tab hk (k := 4) (lv := []) (ks := [0, 1, 2, 3, 4, 13]) (e' := [(0, .pointer (some ⟨bp0, 0, none⟩)), (1, .int .i64 p1), (2, .int .i64 p2), (3, .int .i64 p3), (4, .string p4), (13, .bool (decide (p1 < (1 : Int))))]) rfl trivial fun a hk => ?_
          refine wpListIn_nil ?_
          refine then_n ?_
          exact ⟨oi, (decide (p1 < (1 : Int))), (by exact Kn.pick (ks := [0, 1, 2, 3, 4, 13]) hk rfl), hs, f900000, f900019, H⟩
        · rw [b89] at hk H
          replace H := bifT H
          refine x_run tab hk (k := 4) (lv := []) (ks := [0, 1, 2, 3, 4, 13]) (e' := [(0, .pointer (some ⟨bp0, 0, none⟩)), (1, .int .i64 p1), (2, .int .i64 p2), (3, .int .i64 p3), (4, .string p4), (13, .bool true)]) rfl trivial fun a hk => ?_
          refine wpListIn_nil ?_
          refine then_n ?_
          exact ⟨oi, true, (by exact Kn.pick (ks := [0, 1, 2, 3, 4, 13]) hk rfl), hs, f900000, f900019, H⟩
      · rw [b88] at hk H
        replace H := bifT H
        refine x_run tab hk (k := 9) (lv := []) (ks := [0, 1, 2, 3, 4, 13]) (e' := [(0, .pointer (some ⟨bp0, 0, none⟩)), (1, .int .i64 p1), (2, .int .i64 p2), (3, .int .i64 p3), (4, .string p4), (13, .bool true)]) rfl trivial fun a hk => ?_
        refine wpListIn_nil ?_
        refine then_n ?_
        exact ⟨oi, true, (by exact Kn.pick (ks := [0, 1, 2, 3, 4, 13]) hk rfl), hs, f900000, f900019, H⟩
    · rw [b87] at hk H
      replace H := bifT H
      refine x_run tab hk (k := 11) (lv := []) (ks := [0, 1, 2, 3, 4, 29, 31]) (e' := [(0, .pointer (some ⟨bp0, 0, none⟩)), (1, .int .i64 p1), (2, .int .i64 p2), (3, .int .i64 p3), (4, .string p4), (29, .bool true), (31, undef)]) rfl trivial fun a hk => ?_
      refine x_run tab hk (k := 2) (lv := []) (ks := [0, 1, 2, 3, 4, 13]) (e' := [(0, .pointer (some ⟨bp0, 0, none⟩)), (1, .int .i64 p1), (2, .int .i64 p2), (3, .int .i64 p3), (4, .string p4), (13, .bool true)]) rfl trivial fun a hk => ?_
      refine wpListIn_nil ?_
      refine then_n ?_
      exact ⟨oi, true, (by exact Kn.pick (ks := [0, 1, 2, 3, 4, 13]) hk rfl), hs, f900000, f900019, H⟩
  · rw [b86] at hk H
    replace H := bifT H
    refine x_run tab hk (k := 11) (lv := []) (ks := [0, 1, 2, 3, 4, 24, 27]) (e' := [(0, .pointer (some ⟨bp0, 0, none⟩)), (1, .int .i64 p1), (2, .int .i64 p2), (3, .int .i64 p3), (4, .string p4), (24, .bool true), (27, undef)]) rfl trivial fun a hk => ?_
    refine x_run tab hk (k := 6) (lv := []) (ks := [0, 1, 2, 3, 4, 13]) (e' := [(0, .pointer (some ⟨bp0, 0, none⟩)), (1, .int .i64 p1), (2, .int .i64 p2), (3, .int .i64 p3), (4, .string p4), (13, .bool true)]) rfl trivial fun a hk => ?_
    refine wpListIn_nil ?_
    refine then_n ?_
    exact ⟨oi, true, (by exact Kn.pick (ks := [0, 1, 2, 3, 4, 13]) hk rfl), hs, f900000, f900019, H⟩

/-! (*tidewrack/parts.Slot).each -/
theorem parts_Slot_each_iter (K : Nat) (bp0 : Nat) (Ap0_0 : Option Addr) (cp0_0 : Nat) (p0 : T83) (w : World) (o : Nat → Nat) (Lp0 : Nat) (hp0 : Ft (Bx bp0 84 [.int .i64 p0.key, .int .i64 p0.count, mv Ap0_0, .int .i64 p0.bytes]) w o Lp0) (Lp0_0 : Nat) (hp0_0 : Ft (MpF encStr false Ap0_0 p0.parts) w o Lp0_0) (hcp0_0 : (p0.parts).length ≤ cp0_0) (hd0 : ([] : List Nat).Nodup) (hd1 : Lp0_0 ∉ ([] : List Nat)) (hd2 : Lp0 ∉ ([] : List Nat)) (r : List (Int × Bool)) (H : parts_Slot_each K p0 = some r) :
    IterC Tryd.prog 68 [.pointer (some ⟨bp0, 0, none⟩)] [] (fun (x_ : Int × Bool) vs_ _ => vs_ = [.int .i64 x_.1, .bool x_.2]) none r w o [] [Lp0, Lp0_0] := by
  refine iter_start hd0 (fun _ h_ => by cases h_) fun l_ JJ XX Res w1 oi h1 h2 h3 hJ hX hRl hY hE0 hE1 hs => ?_
  refine x_enter (vs := [.pointer (some ⟨bp0, 0, none⟩), .func (.yield l_) #[] #[]]) Tryd.func68 rfl rfl rfl fun a hk => ?_
  have f900000 := h3 2 hp0_0 (by simp) hd1 (by simp) rfl
  have f900019 := h3 2 hp0 (by simp) hd2 (by simp) rfl
  clear h1 h2 h3
  rw [parts_Slot_each] at H
  refine x_seq ?_
  refine wpIn_region_lit ?_
  refine x_run tab hk (k := 5) (lv := [.int .i64 p0.count]) (ks := [0, 1, 10, 11]) (e' := [(0, .pointer (some ⟨bp0, 0, none⟩)), (1, .func (.yield l_) #[] #[]), (10, .int .i64 p0.count), (11, .int .i64 0)]) rfl ⟨(load1 tab rfl ((Bx.cell f900019.now 1).trans rfl)), trivial⟩ fun a hk => ?_
  refine wpListIn_nil ?_
  refine then_n ?_
  refine wpIn_block ?_
  refine x_loop (fun j_ a_ w_ => ∃ o12 : Nat → Nat, ∃ r13 : List (Int × Bool), ∃ x14 : Int, Kn 29 a_ [(0, .pointer (some ⟨bp0, 0, none⟩)), (1, .func (.yield l_) #[] #[]), (10, .int .i64 p0.count), (11, .int .i64 x14)] ∧ JJ r13 w_ o12 ∧ Ft (MpF encStr false Ap0_0 p0.parts) w_ o12 2 ∧ Ft (Bx bp0 84 [.int .i64 p0.key, .int .i64 p0.count, mv Ap0_0, .int .i64 p0.bytes]) w_ o12 2 ∧ parts_Slot_each_l1 p0 j_ x14 = some r13) (k := K) ⟨oi, r, 0, (by exact Kn.pick (ks := [0, 1, 10, 11]) hk rfl), hs, f900000, f900019, H⟩ (by rintro _ _ ⟨_, _, _, _, _, _, _, H_⟩; exact absurd (show (none : Option (List (Int × Bool))) = some _ from H_) (by simp)) ?_
  rintro k23 a w22 ⟨o12, r13, x14, hk, hs, f900000, f900019, H⟩
  rw [parts_Slot_each_l1] at H
  obtain ⟨lp24, hlp25⟩ : ∃ lp_, lp_ = parts_Slot_each_l1 p0 k23 := ⟨_, rfl⟩
  rw [← hlp25] at H
  refine x_seq ?_
  refine wpIn_region_lit ?_
  refine x_run tab hk (k := 1) (lv := []) (ks := [0, 1, 10, 11, 12]) (e' := [(0, .pointer (some ⟨bp0, 0, none⟩)), (1, .func (.yield l_) #[] #[]), (10, .int .i64 p0.count), (11, .int .i64 x14), (12, .bool (decide (x14 < p0.count)))]) rfl trivial fun a hk => ?_
  refine wpListIn_nil ?_
  refine then_n ?_
  refine x_seq ?_
  cases b26 : (decide (x14 < p0.count))
  · rw [b26] at hk H
    replace H := bifF H
    refine x_if hk (b := false) rfl ?_
    refine (show Code.wpIn _ _ _ _ _ _ _ from ?_)
    refine wpIn_exit ?_
    refine then_x ?_
    refine then_x ?_
    refine blk_x ?_
    obtain rfl := Option.some.inj H
    exact x_endG hk (rs := []) (vs := []) rfl trivial (hE0 hs)
  · rw [b26] at hk H
    replace H := bifT H
    refine x_if hk (b := true) rfl ?_
    refine (show Code.wpIn _ _ _ _ _ _ _ from ?_)
    refine wpIn_skip ?_
    refine then_n ?_
    refine x_seq ?_
    refine wpIn_block ?_
    refine x_seq ?_
    refine wpIn_region_lit ?_
    refine x_run tab hk (k := 2) (lv := []) (ks := [0, 1, 4, 10, 11]) (e' := [(0, .pointer (some ⟨bp0, 0, none⟩)), (1, .func (.yield l_) #[] #[]), (4, .int .i64 x14), (10, .int .i64 p0.count), (11, .int .i64 x14)]) rfl trivial fun a hk => ?_
    refine wpListIn_nil ?_
    refine then_n ?_
    refine x_seq ?_
    refine wpIn_region_lit ?_
    refine x_run tab hk (k := 10) (lv := [mv Ap0_0, .tuple #[.string (M.get (⟨#[]⟩ : ByteArray) p0.parts x14), .bool (M.has p0.parts x14)]]) (ks := [0, 1, 4, 10, 11, 22]) (e' := [(0, .pointer (some ⟨bp0, 0, none⟩)), (1, .func (.yield l_) #[] #[]), (4, .int .i64 x14), (10, .int .i64 p0.count), (11, .int .i64 x14), (22, .bool (M.has p0.parts x14))]) rfl ⟨(load1 tab rfl ((Bx.cell f900019.now 2).trans rfl)), (ask_look (E := encStr) (ag := false) (zx := (⟨#[]⟩ : ByteArray)) tab rfl rfl rfl rfl f900000.now rfl rfl), trivial⟩ fun a hk => ?_
    refine x_run tab hk (k := 1) (lv := []) (ks := [0, 1, 4, 6, 10, 11]) (e' := [(0, .pointer (some ⟨bp0, 0, none⟩)), (1, .func (.yield l_) #[] #[]), (4, .int .i64 x14), (6, .bool (M.has p0.parts x14)), (10, .int .i64 p0.count), (11, .int .i64 x14)]) rfl trivial fun a hk => ?_
    refine wpListIn_nil ?_
    refine then_n ?_
    refine x_seq ?_
    refine wpIn_region_lit ?_
    refine x_run tab hk (k := 3) (lv := []) (ks := [0, 1, 10, 11, 23, 24, 25]) (e' := [(0, .pointer (some ⟨bp0, 0, none⟩)), (1, .func (.yield l_) #[] #[]), (10, .int .i64 p0.count), (11, .int .i64 x14), (23, .func (.yield l_) #[] #[]), (24, .int .i64 x14), (25, .bool (M.has p0.parts x14))]) rfl trivial fun a hk => ?_
    refine x_op hk rfl ?_
    obtain ⟨r27, hr28, H⟩ := consS H
    rw [hr28] at hs
    refine op_yield hk rfl (vs := [.int .i64 x14, .bool (M.has p0.parts x14)]) rfl (hY hs (fun _ => rfl)) ?_
    rintro b29 w30 ⟨o31, st32, ht_, hf_⟩
    replace f900000 := f900000.st st32 (by decide)
    replace f900019 := f900019.st st32 (by decide)
    cases b29
    · have hs := hf_ rfl
      have hk := hk.put 26 (.bool false) rfl
      refine x_run tab hk (k := 1) (lv := []) (ks := [0, 1, 10, 11, 27]) (e' := [(0, .pointer (some ⟨bp0, 0, none⟩)), (1, .func (.yield l_) #[] #[]), (10, .int .i64 p0.count), (11, .int .i64 x14), (27, .bool true)]) rfl trivial fun a hk => ?_
      refine wpListIn_nil ?_
      refine then_n ?_
      refine x_if hk (b := true) rfl ?_
      refine (show Code.wpIn _ _ _ _ _ _ _ from ?_)
      refine wpIn_ret ?_
      refine blk_r ?_
      refine then_r ?_
      refine then_r ?_
      refine blk_r ?_
      exact x_retG hk (rs := []) (vs := []) rfl trivial (hE1 hs)
    · have hs := ht_ rfl
      have hk := hk.put 26 (.bool true) rfl
      refine x_run tab hk (k := 1) (lv := []) (ks := [0, 1, 10, 11, 27]) (e' := [(0, .pointer (some ⟨bp0, 0, none⟩)), (1, .func (.yield l_) #[] #[]), (10, .int .i64 p0.count), (11, .int .i64 x14), (27, .bool false)]) rfl trivial fun a hk => ?_
      refine wpListIn_nil ?_
      refine then_n ?_
      refine x_if hk (b := false) rfl ?_
      refine (show Code.wpIn _ _ _ _ _ _ _ from ?_)
      refine wpIn_skip ?_
      refine blk_n ?_
      refine then_n ?_
      refine wpIn_region_lit ?_
      refine x_run tab hk (k := 2) (lv := []) (ks := [0, 1, 10, 11]) (e' := [(0, .pointer (some ⟨bp0, 0, none⟩)), (1, .func (.yield l_) #[] #[]), (10, .int .i64 p0.count), (11, .int .i64 (IntKind.wrap .i64 (x14 + 1)))]) rfl trivial fun a hk => ?_
      refine wpListIn_nil ?_
      refine then_n ?_
      exact ⟨k23, Nat.le_refl _, o31, r27, (IntKind.wrap .i64 (x14 + 1)), (by exact Kn.pick (ks := [0, 1, 10, 11]) hk rfl), hs, f900000, f900019, (hlp25 ▸ H)⟩

/-! (*strings.Builder).copyCheck -/
theorem strings_Builder_copyCheck_calls (bp0 : Nat) (Ap0_0 : Option Addr) (cp0_0 : Nat) (p0 : T146) (w : World) (o : Nat → Nat) (Lp0 : Nat) (hp0 : Ft (Bl bp0 147 (.slice Ap0_0 (p0.buf).length cp0_0)) w o Lp0) (Lp0_0 : Nat) (hp0_0 : Ft (Own (encInt .u8) 5 (.slice Ap0_0 (p0.buf).length cp0_0) p0.buf) w o Lp0_0) (hcp0_0 : (p0.buf).length ≤ cp0_0) (hd0 : ([Lp0, Lp0_0] : List Nat).Nodup) (r : T146) (H : strings_Builder_copyCheck p0 = some r) :
    Calls Tryd.prog 101 #[.pointer (some ⟨bp0, 0, none⟩)] w (Ret fun v_ w' => ∃ o' : Nat → Nat, ∃ A0 : Option Addr, ∃ c0 : Nat, v_ = .tuple #[] ∧ St [Lp0, Lp0_0] w o w' o' ∧ Ft (Bl bp0 147 (.slice A0 (r.buf).length c0)) w' o' Lp0 ∧ Ft (Own (encInt .u8) 5 (.slice A0 (r.buf).length c0) r.buf) w' o' Lp0_0 ∧ (r.buf).length ≤ c0) := by
  refine x_enter (vs := [.pointer (some ⟨bp0, 0, none⟩)]) Tryd.func101 rfl rfl rfl fun a hk => ?_
  obtain ⟨oi, hs0, h0, h1, hob, hoz, hoa⟩ := St.startM2 w o (m := 2) hd0 rfl
  have hs := hs0 [1, 2]
  have hom := lab_in hob (MM := [1, 2]) (by decide)
  have f900000 := h1 1 2 hp0_0 rfl rfl
  have f900019 := h1 0 1 hp0 rfl rfl
  clear h0 h1 hs0
  rw [strings_Builder_copyCheck] at H
  obtain ⟨pb_, hpb_, f900019⟩ := Bl.open f900019
  rcases hpb_ with rfl | rfl
  · skip
    refine x_seq ?_
    refine wpIn_region_lit ?_
    refine x_run tab hk (k := 5) (lv := [.pointer none]) (ks := [0, 6]) (e' := [(0, .pointer (some ⟨bp0, 0, none⟩)), (6, .bool true)]) rfl ⟨(load1 tab rfl ((Bx.cell f900019.now 0).trans rfl)), trivial⟩ fun a hk => ?_
    refine wpListIn_nil ?_
    refine then_n ?_
    refine x_if hk (b := true) rfl ?_
    refine (show Code.wpIn _ _ _ _ _ _ _ from ?_)
    refine wpIn_region_lit ?_
    refine x_run tab hk (k := 7) (lv := [.pointer (some ⟨bp0, 0, none⟩), .pointer (some ⟨bp0, 0, none⟩), .pointer (some ⟨bp0, 0, none⟩)]) (ks := [11, 13]) (e' := [(11, .pointer (some ⟨bp0, 0, none⟩)), (13, .pointer (some ⟨bp0, 0, none⟩))]) rfl ⟨(ask_toU tab rfl rfl rfl rfl f900019.now rfl), (ask_noesc Tryd.func115 (by kernel_rfl) (by kernel_rfl) (by kernel_rfl) (by kernel_rfl) rfl _), (ask_ofU tab rfl rfl rfl (by kernel_rfl) f900019.now rfl), trivial⟩ fun a hk => ?_
    refine x_op hk rfl ?_
    refine op_store tab hk (t := 145) (v := .pointer (some ⟨bp0, 0, none⟩)) (b := bp0) (k := 0) (cs' := [.pointer (some ⟨bp0, 0, none⟩), .slice Ap0_0 (p0.buf).length cp0_0]) rfl rfl rfl rfl rfl rfl f900019 rfl rfl fun w1 o2 st3 f900019_ => ?_
    replace f900000 := f900000.st st3 (by decide)
    replace hs := hs.locM st3 (by decide) hom
    replace f900019 := f900019_
    refine wpListIn_nil ?_
    obtain rfl := Option.some.inj H
    exact x_endG hk (rs := []) (vs := []) rfl trivial ⟨cl w oi o [1, 2] (fun l_ => if l_ = 1 then Lp0 else if l_ = 2 then Lp0_0 else 0) o2, Ap0_0, cp0_0, rfl, hs.closeM hoz (by decide) (fun l_ => if l_ = 1 then Lp0 else if l_ = 2 then Lp0_0 else 0), ((hs.closeM_ft (o := o) (ρ := fun l_ => if l_ = 1 then Lp0 else if l_ = 2 then Lp0_0 else 0) f900019 (lab_at hoa (i := 0) rfl) rfl).imp fun _ h_ => Bl.of h_ (.inr rfl)), hs.closeM_ft (o := o) (ρ := fun l_ => if l_ = 1 then Lp0 else if l_ = 2 then Lp0_0 else 0) f900000 (lab_at hoa (i := 1) rfl) rfl, hcp0_0⟩
  · skip
    refine x_seq ?_
    refine wpIn_region_lit ?_
    refine x_run tab hk (k := 5) (lv := [.pointer (some ⟨bp0, 0, none⟩)]) (ks := [0, 6]) (e' := [(0, .pointer (some ⟨bp0, 0, none⟩)), (6, .bool false)]) rfl ⟨(load1 tab rfl ((Bx.cell f900019.now 0).trans rfl)), trivial⟩ fun a hk => ?_
    refine wpListIn_nil ?_
    refine then_n ?_
    refine x_if hk (b := false) rfl ?_
    refine (show Code.wpIn _ _ _ _ _ _ _ from ?_)
    refine x_seq ?_
    refine wpIn_region_lit ?_
    refine x_run tab hk (k := 6) (lv := [.pointer (some ⟨bp0, 0, none⟩), .bool false]) (ks := [19]) (e' := [(19, .bool false)]) rfl ⟨(load1 tab rfl ((Bx.cell f900019.now 0).trans rfl)), (ask_pne tab rfl rfl rfl rfl rfl), trivial⟩ fun a hk => ?_
    refine wpListIn_nil ?_
    refine then_n ?_
    refine x_if hk (b := false) rfl ?_
    refine (show Code.wpIn _ _ _ _ _ _ _ from ?_)
    refine wpIn_skip ?_
    obtain rfl := Option.some.inj H
    exact x_endG hk (rs := []) (vs := []) rfl trivial ⟨cl w oi o [1, 2] (fun l_ => if l_ = 1 then Lp0 else if l_ = 2 then Lp0_0 else 0) oi, Ap0_0, cp0_0, rfl, hs.closeM hoz (by decide) (fun l_ => if l_ = 1 then Lp0 else if l_ = 2 then Lp0_0 else 0), ((hs.closeM_ft (o := o) (ρ := fun l_ => if l_ = 1 then Lp0 else if l_ = 2 then Lp0_0 else 0) f900019 (lab_at hoa (i := 0) rfl) rfl).imp fun _ h_ => Bl.of h_ (.inr rfl)), hs.closeM_ft (o := o) (ρ := fun l_ => if l_ = 1 then Lp0 else if l_ = 2 then Lp0_0 else 0) f900000 (lab_at hoa (i := 1) rfl) rfl, hcp0_0⟩

/-! (*strings.Builder).WriteString -/
theorem strings_Builder_WriteString_calls (bp0 : Nat) (Ap0_0 : Option Addr) (cp0_0 : Nat) (p0 : T146) (p1 : ByteArray) (w : World) (o : Nat → Nat) (Lp0 : Nat) (hp0 : Ft (Bl bp0 147 (.slice Ap0_0 (p0.buf).length cp0_0)) w o Lp0) (Lp0_0 : Nat) (hp0_0 : Ft (Own (encInt .u8) 5 (.slice Ap0_0 (p0.buf).length cp0_0) p0.buf) w o Lp0_0) (hcp0_0 : (p0.buf).length ≤ cp0_0) (hd0 : ([Lp0, Lp0_0] : List Nat).Nodup) (r : Int × T146) (H : strings_Builder_WriteString p0 p1 = some r) :
    Calls Tryd.prog 69 #[.pointer (some ⟨bp0, 0, none⟩), .string p1] w (Ret fun v_ w' => ∃ o' : Nat → Nat, ∃ A0 : Option Addr, ∃ c0 : Nat, v_ = .tuple #[.int .i64 r.1, .nilIface] ∧ St [Lp0, Lp0_0] w o w' o' ∧ Ft (Bl bp0 147 (.slice A0 (r.2.buf).length c0)) w' o' Lp0 ∧ Ft (Own (encInt .u8) 5 (.slice A0 (r.2.buf).length c0) r.2.buf) w' o' Lp0_0 ∧ (r.2.buf).length ≤ c0) := by
  refine x_enter (vs := [.pointer (some ⟨bp0, 0, none⟩), .string p1]) Tryd.func69 rfl rfl rfl fun a hk => ?_
  obtain ⟨oi, hs0, h0, h1, hob, hoz, hoa⟩ := St.startM2 w o (m := 2) hd0 rfl
  have hs := hs0 [1, 2]
  have hom := lab_in hob (MM := [1, 2]) (by decide)
  have f900000 := h1 1 2 hp0_0 rfl rfl
  have f900019 := h1 0 1 hp0 rfl rfl
  clear h0 h1 hs0
  rw [strings_Builder_WriteString] at H
  obtain ⟨pb_, hpb_, f900019⟩ := Bl.open f900019
  rcases hpb_ with rfl | rfl
  · skip
    refine x_seq ?_
    refine wpIn_region_lit ?_
    refine x_run tab hk (k := 2) (lv := []) (ks := [0, 1]) (e' := [(0, .pointer (some ⟨bp0, 0, none⟩)), (1, .string p1)]) rfl trivial fun a hk => ?_
    refine wpListIn_nil ?_
    refine then_n ?_
    refine x_seq ?_
    refine wpIn_region_lit ?_
    refine x_run tab hk (k := 1) (lv := []) (ks := [0, 1, 6]) (e' := [(0, .pointer (some ⟨bp0, 0, none⟩)), (1, .string p1), (6, .pointer (some ⟨bp0, 0, none⟩))]) rfl trivial fun a hk => ?_
    refine x_op hk rfl ?_
    obtain ⟨t4, hc5, H⟩ := bindS H
    refine op_call hk ent_101 (vs := [.pointer (some ⟨bp0, 0, none⟩)]) rfl (strings_Builder_copyCheck_calls bp0 Ap0_0 cp0_0 p0 _ oi 1 ((f900019).imp fun _ h_ => Bl.of h_ (.inl rfl)) 2 f900000 hcp0_0 (by decide)   _ hc5) ?_
    rintro _ w6 ⟨o7, A10, c11, rfl, st8, f9, f12, hc13⟩
    replace hs := hs.locM st8 (by decide) hom
    obtain ⟨pb14, hb15, f9⟩ := Bl.open f9
    have hk := hk.put 7 (.tuple #[]) rfl
    refine wpListIn_nil ?_
    refine then_n ?_
    refine x_seq ?_
    refine wpIn_region_lit ?_
    refine x_run tab hk (k := 6) (lv := [.slice A10 (t4.buf).length c11]) (ks := [1, 8, 12, 13]) (e' := [(1, .string p1), (8, .pointer (some ⟨bp0, 0, none⟩)), (12, .slice A10 (t4.buf).length c11), (13, .string p1)]) rfl ⟨(load1 tab rfl ((Bx.cell f9.now 1).trans rfl)), trivial⟩ fun a hk => ?_
    refine x_op hk rfl ?_
    obtain ⟨q19, H⟩ := ifS H
    refine op_appendS (o := o7) (xs := t4.buf) (y := p1) tab hk rfl rfl rfl rfl rfl f12 q19 fun A20 c21 w16 o17 st18 f22 hc23 => ?_
    replace f9 := f9.st st18 (by decide)
    replace hs := hs.locM st18 (by decide) hom
    have hk := hk.put 14 (.slice A20 ((t4.buf ++ numsOf p1)).length c21) rfl
    refine x_run tab hk (k := 2) (lv := []) (ks := [1, 14, 16]) (e' := [(1, .string p1), (14, .slice A20 ((t4.buf ++ numsOf p1)).length c21), (16, .pointer (some ((⟨bp0, 0, none⟩ : Addr).add 1)))]) rfl trivial fun a hk => ?_
    refine x_op hk rfl ?_
    refine op_store tab hk (t := 106) (v := .slice A20 ((t4.buf ++ numsOf p1)).length c21) (b := bp0) (k := 1) (cs' := [.pointer pb14, .slice A20 ((t4.buf ++ numsOf p1)).length c21]) rfl rfl rfl rfl rfl rfl f9 rfl rfl fun w24 o25 st26 f9_ => ?_
    replace f22 := f22.st st26 (by decide)
    replace hs := hs.locM st26 (by decide) hom
    replace f9 := f9_
    refine wpListIn_nil ?_
    refine then_n ?_
    refine x_seq ?_
    refine wpIn_region_lit ?_
    refine x_run tab hk (k := 4) (lv := []) (ks := [4, 5]) (e' := [(4, .int .i64 ((p1).size : Int)), (5, .nilIface)]) rfl trivial fun a hk => ?_
    refine wpListIn_nil ?_
    refine then_n ?_
    refine wpIn_ret ?_
    obtain rfl := Option.some.inj H
    exact x_retG hk (rs := [.tmp 4, .tmp 5]) (vs := [.int .i64 ((p1).size : Int), .nilIface]) rfl ⟨rfl, rfl, trivial⟩ ⟨cl w oi o [1, 2] (fun l_ => if l_ = 1 then Lp0 else if l_ = 2 then Lp0_0 else 0) o25, A20, c21, rfl, hs.closeM hoz (by decide) (fun l_ => if l_ = 1 then Lp0 else if l_ = 2 then Lp0_0 else 0), ((hs.closeM_ft (o := o) (ρ := fun l_ => if l_ = 1 then Lp0 else if l_ = 2 then Lp0_0 else 0) f9 (lab_at hoa (i := 0) rfl) rfl).imp fun _ h_ => Bl.of h_ hb15), hs.closeM_ft (o := o) (ρ := fun l_ => if l_ = 1 then Lp0 else if l_ = 2 then Lp0_0 else 0) f22 (lab_at hoa (i := 1) rfl) rfl, hc23⟩
  · skip
    refine x_seq ?_
    refine wpIn_region_lit ?_
    refine x_run tab hk (k := 2) (lv := []) (ks := [0, 1]) (e' := [(0, .pointer (some ⟨bp0, 0, none⟩)), (1, .string p1)]) rfl trivial fun a hk => ?_
    refine wpListIn_nil ?_
    refine then_n ?_
    refine x_seq ?_
    refine wpIn_region_lit ?_
    refine x_run tab hk (k := 1) (lv := []) (ks := [0, 1, 6]) (e' := [(0, .pointer (some ⟨bp0, 0, none⟩)), (1, .string p1), (6, .pointer (some ⟨bp0, 0, none⟩))]) rfl trivial fun a hk => ?_
    refine x_op hk rfl ?_
    obtain ⟨t30, hc31, H⟩ := bindS H
    refine op_call hk ent_101 (vs := [.pointer (some ⟨bp0, 0, none⟩)]) rfl (strings_Builder_copyCheck_calls bp0 Ap0_0 cp0_0 p0 _ oi 1 ((f900019).imp fun _ h_ => Bl.of h_ (.inr rfl)) 2 f900000 hcp0_0 (by decide)   _ hc31) ?_
    rintro _ w32 ⟨o33, A36, c37, rfl, st34, f35, f38, hc39⟩
    replace hs := hs.locM st34 (by decide) hom
    obtain ⟨pb40, hb41, f35⟩ := Bl.open f35
    have hk := hk.put 7 (.tuple #[]) rfl
    refine wpListIn_nil ?_
    refine then_n ?_
    refine x_seq ?_
    refine wpIn_region_lit ?_
    refine x_run tab hk (k := 6) (lv := [.slice A36 (t30.buf).length c37]) (ks := [1, 8, 12, 13]) (e' := [(1, .string p1), (8, .pointer (some ⟨bp0, 0, none⟩)), (12, .slice A36 (t30.buf).length c37), (13, .string p1)]) rfl ⟨(load1 tab rfl ((Bx.cell f35.now 1).trans rfl)), trivial⟩ fun a hk => ?_
    refine x_op hk rfl ?_
    obtain ⟨q45, H⟩ := ifS H
    refine op_appendS (o := o33) (xs := t30.buf) (y := p1) tab hk rfl rfl rfl rfl rfl f38 q45 fun A46 c47 w42 o43 st44 f48 hc49 => ?_
    replace f35 := f35.st st44 (by decide)
    replace hs := hs.locM st44 (by decide) hom
    have hk := hk.put 14 (.slice A46 ((t30.buf ++ numsOf p1)).length c47) rfl
    refine x_run tab hk (k := 2) (lv := []) (ks := [1, 14, 16]) (e' := [(1, .string p1), (14, .slice A46 ((t30.buf ++ numsOf p1)).length c47), (16, .pointer (some ((⟨bp0, 0, none⟩ : Addr).add 1)))]) rfl trivial fun a hk => ?_
    refine x_op hk rfl ?_
    refine op_store tab hk (t := 106) (v := .slice A46 ((t30.buf ++ numsOf p1)).length c47) (b := bp0) (k := 1) (cs' := [.pointer pb40, .slice A46 ((t30.buf ++ numsOf p1)).length c47]) rfl rfl rfl rfl rfl rfl f35 rfl rfl fun w50 o51 st52 f35_ => ?_
    replace f48 := f48.st st52 (by decide)
    replace hs := hs.locM st52 (by decide) hom
    replace f35 := f35_
    refine wpListIn_nil ?_
    refine then_n ?_
    refine x_seq ?_
    refine wpIn_region_lit ?_
    refine x_run tab hk (k := 4) (lv := []) (ks := [4, 5]) (e' := [(4, .int .i64 ((p1).size : Int)), (5, .nilIface)]) rfl trivial fun a hk => ?_
    refine wpListIn_nil ?_
    refine then_n ?_
    refine wpIn_ret ?_
    obtain rfl := Option.some.inj H
    exact x_retG hk (rs := [.tmp 4, .tmp 5]) (vs := [.int .i64 ((p1).size : Int), .nilIface]) rfl ⟨rfl, rfl, trivial⟩ ⟨cl w oi o [1, 2] (fun l_ => if l_ = 1 then Lp0 else if l_ = 2 then Lp0_0 else 0) o51, A46, c47, rfl, hs.closeM hoz (by decide) (fun l_ => if l_ = 1 then Lp0 else if l_ = 2 then Lp0_0 else 0), ((hs.closeM_ft (o := o) (ρ := fun l_ => if l_ = 1 then Lp0 else if l_ = 2 then Lp0_0 else 0) f35 (lab_at hoa (i := 0) rfl) rfl).imp fun _ h_ => Bl.of h_ hb41), hs.closeM_ft (o := o) (ρ := fun l_ => if l_ = 1 then Lp0 else if l_ = 2 then Lp0_0 else 0) f48 (lab_at hoa (i := 1) rfl) rfl, hc49⟩

/-! (*strings.Builder).String -/
theorem strings_Builder_String_calls (bp0 : Nat) (Ap0_0 : Option Addr) (cp0_0 : Nat) (p0 : T146) (w : World) (o : Nat → Nat) (Lp0 : Nat) (hp0 : Ft (Bl bp0 147 (.slice Ap0_0 (p0.buf).length cp0_0)) w o Lp0) (Lp0_0 : Nat) (hp0_0 : Ft (Own (encInt .u8) 5 (.slice Ap0_0 (p0.buf).length cp0_0) p0.buf) w o Lp0_0) (hcp0_0 : (p0.buf).length ≤ cp0_0) (hd0 : ([Lp0, Lp0_0] : List Nat).Nodup) (r : ByteArray) (H : strings_Builder_String p0 = some r) :
    Calls Tryd.prog 70 #[.pointer (some ⟨bp0, 0, none⟩)] w (Ret fun v_ w' => ∃ o' : Nat → Nat, v_ = .string r ∧ St [Lp0, Lp0_0] w o w' o') := by
  refine x_enter (vs := [.pointer (some ⟨bp0, 0, none⟩)]) Tryd.func70 rfl rfl rfl fun a hk => ?_
  obtain ⟨oi, hs0, h0, h1, hob, hoz, hoa⟩ := St.startM2 w o (m := 2) hd0 rfl
  have hs := hs0 [1, 2]
  have hom := lab_in hob (MM := [1, 2]) (by decide)
  have f900000 := h1 1 2 hp0_0 rfl rfl
  have f900019 := h1 0 1 hp0 rfl rfl
  clear h0 h1 hs0
  rw [strings_Builder_String] at H
  obtain ⟨pb_, hpb_, f900019⟩ := Bl.open f900019
  rcases hpb_ with rfl | rfl
  · skip
    refine x_seq ?_
    refine wpIn_region_lit ?_
    refine x_run tab hk (k := 1) (lv := []) (ks := [0]) (e' := [(0, .pointer (some ⟨bp0, 0, none⟩))]) rfl trivial fun a hk => ?_
    refine wpListIn_nil ?_
    refine then_n ?_
    refine x_seq ?_
    refine xd_begin (o := oi) (fun W_ => (Bx bp0 147 [.pointer none, .slice Ap0_0 (p0.buf).length cp0_0]) W_ ∧ True) mixed rfl rfl fun w17 st18 => ?_
    replace f900000 := f900000.st st18 (by decide)
    replace f900019 := f900019.st st18 (by decide)
    replace hs := hs.locM st18 (by decide) hom
    refine xd_take tab hk (k := 3) (is := [0, 1, 2, 3, 5, 6, 7, 8, 9]) (ls' := #[true, true, true, true, false, true, true, true, true, true, false, false]) (lv := [.slice Ap0_0 (p0.buf).length cp0_0, .slice Ap0_0 (p0.buf).length cp0_0]) (ks := [6, 12]) (e' := [(6, .slice Ap0_0 (p0.buf).length cp0_0), (12, .int .i64 ((p0.buf).length : Int))]) (by kernel_rfl) rfl rfl (by kernel_rfl) (np_then np_body) ⟨f900019.now, trivial⟩ (fun W_ hS => ⟨(load1 tab rfl ((Bx.cell hS.1 1).trans rfl)), (load1 tab rfl ((Bx.cell hS.1 1).trans rfl)), trivial⟩) fun a hk => ?_
    refine xd_op hk (i := 4) (by kernel_rfl) rfl rfl ?_
    refine op_sdata (o := oi) hk tab (xs := p0.buf) rfl rfl f900000 fun p22 w19 o20 st21 hp23 => ?_
    replace f900000 := f900000.st st21 (by decide)
    replace f900019 := f900019.st st21 (by decide)
    replace hs := hs.locM st21 (by decide) hom
    have hk := hk.put 7 (.pointer p22) rfl
    refine ⟨.inr ⟨f900019.now, trivial⟩, ?_⟩
    refine xd_op hk (i := 10) (by kernel_rfl) rfl rfl ?_
    refine op_ustr hk tab (xs := p0.buf) rfl rfl rfl rfl hp23 f900000 fun w24 st26 => ?_
    replace f900019 := f900019.st st26 (by decide)
    replace hs := hs.locM st26 (by decide) hom
    have hk := hk.put 13 (.string (strOfNums p0.buf)) rfl
    refine ⟨.inr ⟨f900019.now, trivial⟩, ?_⟩
    refine xd_take tab hk (k := 0) (is := [11]) (ls' := #[true, true, true, true, true, true, true, true, true, true, true, true]) (lv := []) (ks := [2]) (e' := [(2, .string (strOfNums p0.buf))]) (by kernel_rfl) rfl rfl (by kernel_rfl) (np_then np_body) ⟨f900019.now, trivial⟩ (fun W_ hS => trivial) fun a hk => ?_
    refine xd_done (by kernel_rfl) ?_
    refine then_n ?_
    refine wpIn_ret ?_
    obtain rfl := Option.some.inj H
    exact x_retG hk (rs := [.tmp 2]) (vs := [.string (strOfNums p0.buf)]) rfl ⟨rfl, trivial⟩ ⟨cl w oi o [1, 2] (fun _ => 0) o20, rfl, hs.closeM hoz (by decide) (fun _ => 0)⟩
  · skip
    refine x_seq ?_
    refine wpIn_region_lit ?_
    refine x_run tab hk (k := 1) (lv := []) (ks := [0]) (e' := [(0, .pointer (some ⟨bp0, 0, none⟩))]) rfl trivial fun a hk => ?_
    refine wpListIn_nil ?_
    refine then_n ?_
    refine x_seq ?_
    refine xd_begin (o := oi) (fun W_ => (Bx bp0 147 [.pointer (some ⟨bp0, 0, none⟩), .slice Ap0_0 (p0.buf).length cp0_0]) W_ ∧ True) mixed rfl rfl fun w43 st44 => ?_
    replace f900000 := f900000.st st44 (by decide)
    replace f900019 := f900019.st st44 (by decide)
    replace hs := hs.locM st44 (by decide) hom
    refine xd_take tab hk (k := 3) (is := [0, 1, 2, 3, 5, 6, 7, 8, 9]) (ls' := #[true, true, true, true, false, true, true, true, true, true, false, false]) (lv := [.slice Ap0_0 (p0.buf).length cp0_0, .slice Ap0_0 (p0.buf).length cp0_0]) (ks := [6, 12]) (e' := [(6, .slice Ap0_0 (p0.buf).length cp0_0), (12, .int .i64 ((p0.buf).length : Int))]) (by kernel_rfl) rfl rfl (by kernel_rfl) (np_then np_body) ⟨f900019.now, trivial⟩ (fun W_ hS => ⟨(load1 tab rfl ((Bx.cell hS.1 1).trans rfl)), (load1 tab rfl ((Bx.cell hS.1 1).trans rfl)), trivial⟩) fun a hk => ?_
    refine xd_op hk (i := 4) (by kernel_rfl) rfl rfl ?_
    refine op_sdata (o := oi) hk tab (xs := p0.buf) rfl rfl f900000 fun p48 w45 o46 st47 hp49 => ?_
    replace f900000 := f900000.st st47 (by decide)
    replace f900019 := f900019.st st47 (by decide)
    replace hs := hs.locM st47 (by decide) hom
    have hk := hk.put 7 (.pointer p48) rfl
    refine ⟨.inr ⟨f900019.now, trivial⟩, ?_⟩
    refine xd_op hk (i := 10) (by kernel_rfl) rfl rfl ?_
    refine op_ustr hk tab (xs := p0.buf) rfl rfl rfl rfl hp49 f900000 fun w50 st52 => ?_
    replace f900019 := f900019.st st52 (by decide)
    replace hs := hs.locM st52 (by decide) hom
    have hk := hk.put 13 (.string (strOfNums p0.buf)) rfl
    refine ⟨.inr ⟨f900019.now, trivial⟩, ?_⟩
    refine xd_take tab hk (k := 0) (is := [11]) (ls' := #[true, true, true, true, true, true, true, true, true, true, true, true]) (lv := []) (ks := [2]) (e' := [(2, .string (strOfNums p0.buf))]) (by kernel_rfl) rfl rfl (by kernel_rfl) (np_then np_body) ⟨f900019.now, trivial⟩ (fun W_ hS => trivial) fun a hk => ?_
    refine xd_done (by kernel_rfl) ?_
    refine then_n ?_
    refine wpIn_ret ?_
    obtain rfl := Option.some.inj H
    exact x_retG hk (rs := [.tmp 2]) (vs := [.string (strOfNums p0.buf)]) rfl ⟨rfl, trivial⟩ ⟨cl w oi o [1, 2] (fun _ => 0) o46, rfl, hs.closeM hoz (by decide) (fun _ => 0)⟩

/-! (*tidewrack/parts.Slot).Whole -/
theorem parts_Slot_Whole_calls (K : Nat) (bp0 : Nat) (Ap0_0 : Option Addr) (cp0_0 : Nat) (p0 : T83) (w : World) (o : Nat → Nat) (Lp0 : Nat) (hp0 : Ft (Bx bp0 84 [.int .i64 p0.key, .int .i64 p0.count, mv Ap0_0, .int .i64 p0.bytes]) w o Lp0) (Lp0_0 : Nat) (hp0_0 : Ft (MpF encStr false Ap0_0 p0.parts) w o Lp0_0) (hcp0_0 : (p0.parts).length ≤ cp0_0)  (r : ByteArray × Bool) (H : parts_Slot_Whole K p0 = some r) :
    Calls Tryd.prog 33 #[.pointer (some ⟨bp0, 0, none⟩)] w (Ret fun v_ w' => ∃ o' : Nat → Nat, v_ = .tuple #[.string r.1, .bool r.2] ∧ St [] w o w' o') := by
  refine x_enterQ (vs := [.pointer (some ⟨bp0, 0, none⟩)]) Tryd.func33 rfl rfl rfl fun a hk => ?_
  obtain ⟨o0, hs, h0⟩ := St.start w o
  have f900000 := h0 _ _ hp0_0
  have f900019 := h0 _ _ hp0
  have fxm : Ft (MK []) w o0 1 := Ft.of_all (fun _ => MK.nil _) _ _ _
  clear h0
  rw [parts_Slot_Whole] at H
  refine x_seq ?_
  refine wpIn_region_lit ?_
  refine x_op hk rfl ?_
  refine op_box (o := o0) (t := 143) (v := .pointer (some ⟨bp0, 0, none⟩)) (cs := [.pointer (some ⟨bp0, 0, none⟩)]) hk rfl rfl 2 fun bx4 w1 o2 st3 f5 => ?_
  replace f900000 := f900000.st st3 (by decide)
  replace f900019 := f900019.st st3 (by decide)
  replace fxm := fxm.st st3 (by decide)
  replace hs := hs.loc0 st3 (by decide)
  have hk := hk.put 1 (.pointer (some ⟨bx4, 0, none⟩)) rfl
  refine x_run tab hk (k := 2) (lv := []) (ks := [1]) (e' := [(1, .pointer (some ⟨bx4, 0, none⟩))]) rfl trivial fun a hk => ?_
  refine wpListIn_nil ?_
  refine then_n ?_
  refine x_mid (fun a_ w_ => ∃ o35 : Nat → Nat, ∃ ds36 : List Deferred, KnD 35 ds36 a_ [(1, .pointer (some ⟨bx4, 0, none⟩))] ∧ St [] w (fun _ => 0) w_ o35 ∧ Ft (Bx bx4 143 [.pointer (some ⟨bp0, 0, none⟩)]) w_ o35 4 ∧ Ft (MpF encStr false Ap0_0 p0.parts) w_ o35 0 ∧ Ft (Bx bp0 84 [.int .i64 p0.key, .int .i64 p0.count, mv Ap0_0, .int .i64 p0.bytes]) w_ o35 0 ∧ Ft (MK ds36) w_ o35 1 ∧ parts_Slot_Whole_j1 K p0 = some r) ?_ ?_
  rotate_left
  · rintro a w37 ⟨o35, ds36, hk, hs, f5, f900000, f900019, fxm, H⟩
    rw [parts_Slot_Whole_j1] at H
    refine x_seq ?_
    refine wpIn_region_lit ?_
    refine x_op hk rfl ?_
    refine op_alloc (o := o35) tab (t := 147) (cs := [.pointer none, .slice none 0 0]) rfl rfl 5 fun bx41 w38 o39 st40 f42 => ?_
    replace f5 := f5.st st40 (by decide)
    replace f900000 := f900000.st st40 (by decide)
    replace f900019 := f900019.st st40 (by decide)
    replace fxm := fxm.st st40 (by decide)
    replace hs := hs.loc0 st40 (by decide)
    have hk := hk.put 4 (.pointer (some ⟨bx41, 0, none⟩)) rfl
    replace f42 := f42.imp fun _ h_ => Bl.of h_ (.inl rfl)
    refine wpListIn_nil ?_
    refine then_n ?_
    refine x_mid (fun a_ w_ => ∃ o126 : Nat → Nat, ∃ ds127 : List Deferred, ∃ A128 : Option Addr, ∃ c129 : Nat, ∃ l130 : List Int, KnD 35 ds127 a_ [(4, .pointer (some ⟨bx41, 0, none⟩))] ∧ St [] w (fun _ => 0) w_ o126 ∧ Ft (Own (encInt .u8) 5 (.slice A128 (l130).length c129) l130) w_ o126 12 ∧ Ft (Bl bx41 147 (.slice A128 (l130).length c129)) w_ o126 13 ∧ Ft (MpF encStr false Ap0_0 p0.parts) w_ o126 0 ∧ Ft (Bx bp0 84 [.int .i64 p0.key, .int .i64 p0.count, mv Ap0_0, .int .i64 p0.bytes]) w_ o126 0 ∧ Ft (MK ds127) w_ o126 1 ∧ (l130).length ≤ c129 ∧ parts_Slot_Whole_j2 l130 = some r) ?_ ?_
    rotate_left
    · rintro a w133 ⟨o126, ds127, A128, c129, l130, hk, hs, f131, f42, f900000, f900019, fxm, hc132, H⟩
      rw [parts_Slot_Whole_j2] at H
      refine x_seq ?_
      refine wpIn_region_lit ?_
      refine x_op hk rfl ?_
      obtain ⟨t137, hc138, H⟩ := bindS H
      refine op_call hk ent_70 (vs := [.pointer (some ⟨bx41, 0, none⟩)]) rfl (strings_Builder_String_calls bx41 A128 c129 (⟨l130⟩ : T146) _ o126 13 f42 12 f131 hc132 (by decide)   _ hc138) ?_
      rintro _ w139 ⟨o140, rfl, st141⟩
      replace f900000 := f900000.st st141 (by decide)
      replace f900019 := f900019.st st141 (by decide)
      replace fxm := fxm.st st141 (by decide)
      replace hs := hs.loc0 st141 (by decide)
      have hk := hk.put 34 (.string t137) rfl
      refine x_run tab hk (k := 2) (lv := []) (ks := [2, 3]) (e' := [(2, .string t137), (3, .bool true)]) rfl trivial fun a hk => ?_
      refine wpListIn_nil ?_
      refine then_n ?_
      refine wpIn_ret ?_
      refine x_retQ hk fxm fun w142 a st143 hk => ?_
      replace f900000 := f900000.st st143 (by decide)
      replace f900019 := f900019.st st143 (by decide)
      replace hs := hs.loc0 st143 (by decide)
      obtain rfl := Option.some.inj H
      exact x_retG hk (rs := [.tmp 2, .tmp 3]) (vs := [.string t137, .bool true]) rfl ⟨rfl, rfl, trivial⟩ ⟨fun b_ => if b_ < w.heap.size then o b_ else (fun _ => 0) (o140 b_), rfl, hs.close0 o (fun _ => 0)⟩
    refine x_seq ?_
    refine wpIn_region_lit ?_
    refine x_run tab hk (k := 2) (lv := [.pointer (some ⟨bp0, 0, none⟩)]) (ks := [1, 4, 24]) (e' := [(1, .pointer (some ⟨bx4, 0, none⟩)), (4, .pointer (some ⟨bx41, 0, none⟩)), (24, .func (.func 68) #[.pointer (some ⟨bp0, 0, none⟩)] #[])]) rfl ⟨(load1 tab rfl ((Bx.cell f5.now 0).trans rfl)), trivial⟩ fun a hk => ?_
    refine wpListIn_nil ?_
    refine then_n ?_
    refine wpIn_block ?_
    obtain ⟨ys144, hy145, H⟩ := bindS H
    refine x_range 1 14 15 [5, 18] hk rfl ent_68 (parts_Slot_each_iter K bp0 Ap0_0 cp0_0 p0 _ _ 0 f900019 0 f900000 hcp0_0 (by decide) (by decide) (by decide) _ hy145) fxm (fun _ _ _ h_ => by subst h_; rfl) rfl rfl (fun rr_ w_ o175 => ∃ A176 : Option Addr, ∃ c177 : Nat, ∃ l178 : List Int, St [] w (fun _ => 0) w_ o175 ∧ Ft (Own (encInt .u8) 5 (.slice A176 (l178).length c177) l178) w_ o175 18 ∧ Ft (Bl bx41 147 (.slice A176 (l178).length c177)) w_ o175 5 ∧ Ft (Bx bx4 143 [.pointer (some ⟨bp0, 0, none⟩)]) w_ o175 4 ∧ Ft (MpF encStr false Ap0_0 p0.parts) w_ o175 0 ∧ Ft (Bx bp0 84 [.int .i64 p0.key, .int .i64 p0.count, mv Ap0_0, .int .i64 p0.bytes]) w_ o175 0 ∧ (l178).length ≤ c177 ∧ parts_Slot_Whole_r3 p0 rr_ l178 = some r) (fun c_ w_ o196 => False) ?_ ?_ ⟨none, 0, ([] : List Int), hs, (Ft.of_all (fun _ => Own.nil _ _ _) _ _ _), f42, f5, f900000, f900019, (by simp), H⟩ ?_ ?_ ?_
    · rintro rr_ w_ _ _ _ ⟨A176, c177, l178, hs, f179, f42, f5, f900000, f900019, hc180, H⟩ st_
      exact ⟨A176, c177, l178, hs.loc0 st_ (by decide), f179.st st_ (by decide), f42.st st_ (by decide), f5.st st_ (by decide), f900000.st st_ (by decide), f900019.st st_ (by decide), hc180, H⟩
    · exact fun _ _ _ _ _ h_ _ => h_.elim
    · rintro R0_ R1_ lr_ x146 vs_ rest147 w148 o149 ⟨A176, c177, l178, hsO, f179, f42, f5, f900000, f900019, hc180, H⟩ hE fxr a hk
      obtain rfl : vs_ = [.int .i64 x146.1, .bool x146.2] := hE w148
      obtain ⟨o150, hs0, hfl, hbB, hoi⟩ := St.startB w148 o149 18
      have hs := hs0 [14, 5, 18]
      replace f179 := hfl f179 rfl
      replace f42 := hfl f42 rfl
      replace f5 := hfl f5 rfl
      replace f900000 := hfl f900000 rfl
      replace f900019 := hfl f900019 rfl
      replace fxr := hfl fxr rfl
      replace hk : Kn 35 a [(1, .pointer (some ⟨bx4, 0, none⟩)), (4, .pointer (some ⟨bx41, 0, none⟩)), (25, .int .i64 x146.1), (26, .bool x146.2)] := Kn.pick (ks := [1, 4, 25, 26]) hk rfl
      rw [parts_Slot_Whole_r3] at H
      obtain ⟨lp151, hlp152⟩ : ∃ lp_, lp_ = parts_Slot_Whole_r3 p0 rest147 := ⟨_, rfl⟩
      rw [← hlp152] at H
      refine wpIn_region_lit ?_
      refine x_run tab hk (k := 1) (lv := []) (ks := [1, 4, 5]) (e' := [(1, .pointer (some ⟨bx4, 0, none⟩)), (4, .pointer (some ⟨bx41, 0, none⟩)), (5, .int .i64 x146.1)]) rfl trivial fun a hk => ?_
      refine wpListIn_nil ?_
      refine then_n ?_
      refine ⟨_, fxr, fun w199 st200 fxr => ?_⟩
      replace f179 := f179.st st200 (by decide)
      replace f42 := f42.st st200 (by decide)
      replace f5 := f5.st st200 (by decide)
      replace f900000 := f900000.st st200 (by decide)
      replace f900019 := f900019.st st200 (by decide)
      replace hs := hs.locB st200 rfl hbB
      refine wpIn_block ?_
      refine wpIn_region_lit ?_
      refine x_run tab hk (k := 6) (lv := [.pointer (some ⟨bp0, 0, none⟩), mv Ap0_0, .string (M.get (⟨#[]⟩ : ByteArray) p0.parts x146.1)]) (ks := [1, 4, 32]) (e' := [(1, .pointer (some ⟨bx4, 0, none⟩)), (4, .pointer (some ⟨bx41, 0, none⟩)), (32, .string (M.get (⟨#[]⟩ : ByteArray) p0.parts x146.1))]) rfl ⟨(load1 tab rfl ((Bx.cell f5.now 0).trans rfl)), (load1 tab rfl ((Bx.cell f900019.now 2).trans rfl)), (ask_look1 (E := encStr) (ag := false) (zx := (⟨#[]⟩ : ByteArray)) tab rfl rfl rfl rfl f900000.now rfl rfl), trivial⟩ fun a hk => ?_
      refine x_op hk rfl ?_
      obtain ⟨t204, hc205, H⟩ := bindS H
      refine op_call hk ent_69 (vs := [.pointer (some ⟨bx41, 0, none⟩), .string (M.get (⟨#[]⟩ : ByteArray) p0.parts x146.1)]) rfl (strings_Builder_WriteString_calls bx41 A176 c177 (⟨l178⟩ : T146) (M.get (⟨#[]⟩ : ByteArray) p0.parts x146.1) _ o150 5 f42 18 f179 hc180 (by decide)   _ hc205) ?_
      rintro _ w206 ⟨o207, A210, c211, rfl, st208, f209, f212, hc213⟩
      replace f5 := f5.st st208 (by decide)
      replace f900000 := f900000.st st208 (by decide)
      replace f900019 := f900019.st st208 (by decide)
      replace fxr := fxr.st st208 (by decide)
      replace hs := hs.locB st208 rfl hbB
      have hk := hk.put 33 (.tuple #[.int .i64 t204.1, .nilIface]) rfl
      refine wpListIn_nil ?_
      refine blk_n ?_
      have hq214 := hs.closeB hoi hbB rfl (fun l_ => if l_ = 4 then 4 else if l_ = 5 then 5 else if l_ = 14 then 14 else if l_ = 18 then 18 else 0)
      exact ⟨_, hq214, (show Ft R1_ _ _ 14 from (hs.closeM_ft (o := o149) (ρ := (fun l_ => if l_ = 4 then 4 else if l_ = 5 then 5 else if l_ = 14 then 14 else if l_ = 18 then 18 else 0)) fxr (lab_atB hoi rfl) rfl)), ⟨A210, c211, t204.2.buf, (hsO.loc0 hq214 (by decide)), (hs.closeM_ft (o := o149) (ρ := (fun l_ => if l_ = 4 then 4 else if l_ = 5 then 5 else if l_ = 14 then 14 else if l_ = 18 then 18 else 0)) f212 (lab_atB hoi rfl) rfl), (hs.closeM_ft (o := o149) (ρ := (fun l_ => if l_ = 4 then 4 else if l_ = 5 then 5 else if l_ = 14 then 14 else if l_ = 18 then 18 else 0)) f209 (lab_atB hoi rfl) rfl), (hs.closeM_ft (o := o149) (ρ := (fun l_ => if l_ = 4 then 4 else if l_ = 5 then 5 else if l_ = 14 then 14 else if l_ = 18 then 18 else 0)) f5 (lab_atB hoi rfl) rfl), (hs.closeM_ft (o := o149) (ρ := (fun l_ => if l_ = 4 then 4 else if l_ = 5 then 5 else if l_ = 14 then 14 else if l_ = 18 then 18 else 0)) f900000 (lab_atB hoi rfl) rfl), (hs.closeM_ft (o := o149) (ρ := (fun l_ => if l_ = 4 then 4 else if l_ = 5 then 5 else if l_ = 14 then 14 else if l_ = 18 then 18 else 0)) f900019 (lab_atB hoi rfl) rfl), hc213, (hlp152 ▸ H)⟩⟩
    · rintro ds198 w197 o175 a hk fxm ⟨A176, c177, l178, hs, f179, f42, f5, f900000, f900019, hc180, H⟩
      rw [parts_Slot_Whole_r3] at H
      refine blk_n ?_
      refine then_n ?_
      exact ⟨(fun b_ => (fun l_ => if l_ = 5 then 13 else if l_ = 18 then 12 else l_) (o175 b_)), ds198, A176, c177, l178, (by exact Kn.pick (ks := [4]) hk rfl), (hs.relab0 (fun l_ => if l_ = 5 then 13 else if l_ = 18 then 12 else l_) rfl), (f179.relab (fun l_ => if l_ = 5 then 13 else if l_ = 18 then 12 else l_) rfl), (f42.relab (fun l_ => if l_ = 5 then 13 else if l_ = 18 then 12 else l_) rfl), (f900000.relab (fun l_ => if l_ = 5 then 13 else if l_ = 18 then 12 else l_) rfl), (f900019.relab (fun l_ => if l_ = 5 then 13 else if l_ = 18 then 12 else l_) rfl), (fxm.relab (fun l_ => if l_ = 5 then 13 else if l_ = 18 then 12 else l_) rfl), hc180, H⟩
    · exact fun _ _ _ _ _ _ _ h_ => h_.elim
  refine x_mid (fun a_ w_ => ∃ o228 : Nat → Nat, ∃ ds229 : List Deferred, ∃ x230 : Bool, KnD 35 ds229 a_ [(1, .pointer (some ⟨bx4, 0, none⟩)), (22, .bool x230)] ∧ St [] w (fun _ => 0) w_ o228 ∧ Ft (Bx bx4 143 [.pointer (some ⟨bp0, 0, none⟩)]) w_ o228 20 ∧ Ft (MpF encStr false Ap0_0 p0.parts) w_ o228 0 ∧ Ft (Bx bp0 84 [.int .i64 p0.key, .int .i64 p0.count, mv Ap0_0, .int .i64 p0.bytes]) w_ o228 0 ∧ Ft (MK ds229) w_ o228 1 ∧ parts_Slot_Whole_j4 K p0 x230 = some r) ?_ ?_
  rotate_left
  · rintro a w231 ⟨o228, ds229, x230, hk, hs, f5, f900000, f900019, fxm, H⟩
    rw [parts_Slot_Whole_j4] at H
    cases b232 : x230
    · rw [b232] at hk H
      replace H := bifF H
      refine x_if hk (b := false) rfl ?_
      refine (show Code.wpIn _ _ _ _ _ _ _ from ?_)
      refine wpIn_skip ?_
      refine then_n ?_
      exact ⟨(fun b_ => (fun l_ => if l_ = 20 then 4 else l_) (o228 b_)), ds229, (by exact Kn.pick (ks := [1]) hk rfl), (hs.relab0 (fun l_ => if l_ = 20 then 4 else l_) rfl), (f5.relab (fun l_ => if l_ = 20 then 4 else l_) rfl), (f900000.relab (fun l_ => if l_ = 20 then 4 else l_) rfl), (f900019.relab (fun l_ => if l_ = 20 then 4 else l_) rfl), (fxm.relab (fun l_ => if l_ = 20 then 4 else l_) rfl), H⟩
    · rw [b232] at hk H
      replace H := bifT H
      refine x_if hk (b := true) rfl ?_
      refine (show Code.wpIn _ _ _ _ _ _ _ from ?_)
      refine x_seq ?_
      refine wpIn_region_lit ?_
      refine x_run tab hk (k := 2) (lv := []) (ks := [2, 3]) (e' := [(2, .string (⟨#[]⟩ : ByteArray)), (3, .bool false)]) rfl trivial fun a hk => ?_
      refine wpListIn_nil ?_
      refine then_n ?_
      refine wpIn_ret ?_
      refine then_r ?_
      refine x_retQ hk fxm fun w233 a st234 hk => ?_
      replace f900000 := f900000.st st234 (by decide)
      replace f900019 := f900019.st st234 (by decide)
      replace hs := hs.loc0 st234 (by decide)
      obtain rfl := Option.some.inj H
      exact x_retG hk (rs := [.tmp 2, .tmp 3]) (vs := [.string (⟨#[]⟩ : ByteArray), .bool false]) rfl ⟨rfl, rfl, trivial⟩ ⟨fun b_ => if b_ < w.heap.size then o b_ else (fun _ => 0) (o228 b_), rfl, hs.close0 o (fun _ => 0)⟩
  refine xd_begin (o := o2) (fun W_ => (Bx bx4 143 [.pointer (some ⟨bp0, 0, none⟩)]) W_ ∧ (MpF encStr false Ap0_0 p0.parts) W_ ∧ (Bx bp0 84 [.int .i64 p0.key, .int .i64 p0.count, mv Ap0_0, .int .i64 p0.bytes]) W_ ∧ True) mixed rfl rfl fun w237 st238 => ?_
  replace f5 := f5.st st238 (by decide)
  replace f900000 := f900000.st st238 (by decide)
  replace f900019 := f900019.st st238 (by decide)
  replace fxm := fxm.st st238 (by decide)
  replace hs := hs.loc0 st238 (by decide)
  refine xd_take tab hk (k := 11) (is := [0, 1, 2, 3, 4, 5]) (ls' := #[true, true, true, true, true, true, false, false, false, false, false, false, false, false, false, false, false]) (lv := [.pointer (some ⟨bp0, 0, none⟩), .int .i64 p0.key]) (ks := [1, 11]) (e' := [(1, .pointer (some ⟨bx4, 0, none⟩)), (11, .bool (p0.key == (0 : Int)))]) (by kernel_rfl) rfl rfl (by kernel_rfl) (np_then (np_then np_bodyQ)) ⟨f5.now, f900000.now, f900019.now, trivial⟩ (fun W_ hS => ⟨(load1 tab rfl ((Bx.cell hS.1 0).trans rfl)), (load1 tab rfl ((Bx.cell hS.2.2.1 0).trans rfl)), trivial⟩) fun a hk => ?_
  cases b239 : (p0.key == (0 : Int))
  · rw [b239] at hk H
    replace H := bifF H
    refine xd_take tab hk (k := 0) (is := [6, 7, 8, 9, 10, 11, 12, 13, 14, 15, 16]) (ls' := #[true, true, true, true, true, true, true, true, true, true, true, true, true, true, true, true, true]) (lv := [.pointer (some ⟨bp0, 0, none⟩), mv Ap0_0, .int .i64 ((p0.parts).length : Int), .pointer (some ⟨bp0, 0, none⟩), .int .i64 p0.count]) (ks := [1, 22]) (e' := [(1, .pointer (some ⟨bx4, 0, none⟩)), (22, .bool (decide (((p0.parts).length : Int) < p0.count)))]) (by kernel_rfl) rfl rfl (by kernel_rfl) (np_then (np_then np_bodyQ)) ⟨f5.now, f900000.now, f900019.now, trivial⟩ (fun W_ hS => ⟨(load1 tab rfl ((Bx.cell hS.1 0).trans rfl)), (load1 tab rfl ((Bx.cell hS.2.2.1 2).trans rfl)), (ask_mlen (E := encStr) (ag := false) tab rfl hS.2.1 rfl), (load1 tab rfl ((Bx.cell hS.1 0).trans rfl)), (load1 tab rfl ((Bx.cell hS.2.2.1 1).trans rfl)), trivial⟩) fun a hk => ?_
    refine xd_done (by kernel_rfl) ?_
    refine then_n ?_
    exact ⟨(fun b_ => (fun l_ => if l_ = 2 then 20 else l_) (o2 b_)), [], (decide (((p0.parts).length : Int) < p0.count)), (by exact Kn.pick (ks := [1, 22]) hk rfl), (hs.relab0 (fun l_ => if l_ = 2 then 20 else l_) rfl), (f5.relab (fun l_ => if l_ = 2 then 20 else l_) rfl), (f900000.relab (fun l_ => if l_ = 2 then 20 else l_) rfl), (f900019.relab (fun l_ => if l_ = 2 then 20 else l_) rfl), (fxm.relab (fun l_ => if l_ = 2 then 20 else l_) rfl), H⟩
  · rw [b239] at hk H
    replace H := bifT H
    refine xd_take tab hk (k := 0) (is := [6, 7, 8, 9, 10, 11, 12, 13, 14, 15, 16]) (ls' := #[true, true, true, true, true, true, true, true, true, true, true, true, true, true, true, true, true]) (lv := []) (ks := [1, 22]) (e' := [(1, .pointer (some ⟨bx4, 0, none⟩)), (22, .bool true)]) (by kernel_rfl) rfl rfl (by kernel_rfl) (np_then (np_then np_bodyQ)) ⟨f5.now, f900000.now, f900019.now, trivial⟩ (fun W_ hS => trivial) fun a hk => ?_
    refine xd_done (by kernel_rfl) ?_
    refine then_n ?_
    exact ⟨(fun b_ => (fun l_ => if l_ = 2 then 20 else l_) (o2 b_)), [], true, (by exact Kn.pick (ks := [1, 22]) hk rfl), (hs.relab0 (fun l_ => if l_ = 2 then 20 else l_) rfl), (f5.relab (fun l_ => if l_ = 2 then 20 else l_) rfl), (f900000.relab (fun l_ => if l_ = 2 then 20 else l_) rfl), (f900019.relab (fun l_ => if l_ = 2 then 20 else l_) rfl), (fxm.relab (fun l_ => if l_ = 2 then 20 else l_) rfl), H⟩

/-! (*tidewrack/parts.Slot).which -/
theorem parts_Slot_which_calls (K : Nat) (bp0 : Nat) (Ap0_0 : Option Addr) (cp0_0 : Nat) (p0 : T83) (p1 : Bool) (w : World) (o : Nat → Nat) (Lp0 : Nat) (hp0 : Ft (Bx bp0 84 [.int .i64 p0.key, .int .i64 p0.count, mv Ap0_0, .int .i64 p0.bytes]) w o Lp0) (Lp0_0 : Nat) (hp0_0 : Ft (MpF encStr false Ap0_0 p0.parts) w o Lp0_0) (hcp0_0 : (p0.parts).length ≤ cp0_0)  (R0 : Nat) (r : List Int) (H : parts_Slot_which K p0 p1 = some r) :
    Calls Tryd.prog 71 #[.pointer (some ⟨bp0, 0, none⟩), .bool p1] w (Ret fun v_ w' => ∃ o' : Nat → Nat, ∃ A0 : Option Addr, ∃ c0 : Nat, v_ = .slice A0 (r).length c0 ∧ St [] w o w' o' ∧ Ft (Own (encInt .i64) 3 (.slice A0 (r).length c0) r) w' o' R0 ∧ (r).length ≤ c0) := by
  refine x_enterQ (vs := [.pointer (some ⟨bp0, 0, none⟩), .bool p1]) Tryd.func71 rfl rfl rfl fun a hk => ?_
  obtain ⟨o0, hs, h0⟩ := St.start w o
  have f900000 := h0 _ _ hp0_0
  have f900019 := h0 _ _ hp0
  have fxm : Ft (MK []) w o0 1 := Ft.of_all (fun _ => MK.nil _) _ _ _
  clear h0
  rw [parts_Slot_which] at H
  refine x_seq ?_
  refine wpIn_region_lit ?_
  refine x_op hk rfl ?_
  refine op_box (o := o0) (t := 4) (v := .bool p1) (cs := [.bool p1]) hk rfl rfl 2 fun bx4 w1 o2 st3 f5 => ?_
  replace f900000 := f900000.st st3 (by decide)
  replace f900019 := f900019.st st3 (by decide)
  replace fxm := fxm.st st3 (by decide)
  replace hs := hs.loc0 st3 (by decide)
  have hk := hk.put 3 (.pointer (some ⟨bx4, 0, none⟩)) rfl
  refine x_run tab hk (k := 1) (lv := []) (ks := [0, 3]) (e' := [(0, .pointer (some ⟨bp0, 0, none⟩)), (3, .pointer (some ⟨bx4, 0, none⟩))]) rfl trivial fun a hk => ?_
  refine wpListIn_nil ?_
  refine then_n ?_
  refine x_seq ?_
  refine wpIn_region_lit ?_
  refine x_op hk rfl ?_
  refine op_alloc (o := o2) tab (t := 40) (cs := [.slice none 0 0]) rfl rfl 3 fun bx9 w6 o7 st8 f10 => ?_
  replace f5 := f5.st st8 (by decide)
  replace f900000 := f900000.st st8 (by decide)
  replace f900019 := f900019.st st8 (by decide)
  replace fxm := fxm.st st8 (by decide)
  replace hs := hs.loc0 st8 (by decide)
  have hk := hk.put 5 (.pointer (some ⟨bx9, 0, none⟩)) rfl
  refine wpListIn_nil ?_
  refine then_n ?_
  refine x_mid (fun a_ w_ => ∃ o110 : Nat → Nat, ∃ ds111 : List Deferred, ∃ A112 : Option Addr, ∃ c113 : Nat, ∃ l114 : List Int, KnD 20 ds111 a_ [(5, .pointer (some ⟨bx9, 0, none⟩))] ∧ St [] w (fun _ => 0) w_ o110 ∧ Ft (Bx bx9 40 [.slice A112 (l114).length c113]) w_ o110 14 ∧ Ft (Own (encInt .i64) 3 (.slice A112 (l114).length c113) l114) w_ o110 13 ∧ Ft (MpF encStr false Ap0_0 p0.parts) w_ o110 0 ∧ Ft (Bx bp0 84 [.int .i64 p0.key, .int .i64 p0.count, mv Ap0_0, .int .i64 p0.bytes]) w_ o110 0 ∧ Ft (MK ds111) w_ o110 1 ∧ (l114).length ≤ c113 ∧ parts_Slot_which_j1 l114 = some r) ?_ ?_
  rotate_left
  · rintro a w117 ⟨o110, ds111, A112, c113, l114, hk, hs, f10, f115, f900000, f900019, fxm, hc116, H⟩
    rw [parts_Slot_which_j1] at H
    refine x_seq ?_
    refine wpIn_region_lit ?_
    refine x_run tab hk (k := 2) (lv := [.slice A112 (l114).length c113]) (ks := [4]) (e' := [(4, .slice A112 (l114).length c113)]) rfl ⟨(load1 tab rfl ((Bx.cell f10.now 0).trans rfl)), trivial⟩ fun a hk => ?_
    refine wpListIn_nil ?_
    refine then_n ?_
    refine wpIn_ret ?_
    refine x_retQ hk fxm fun w118 a st119 hk => ?_
    replace f115 := f115.st st119 (by decide)
    replace f900000 := f900000.st st119 (by decide)
    replace f900019 := f900019.st st119 (by decide)
    replace hs := hs.loc0 st119 (by decide)
    obtain rfl := Option.some.inj H
    exact x_retG hk (rs := [.tmp 4]) (vs := [.slice A112 (l114).length c113]) rfl ⟨rfl, trivial⟩ ⟨fun b_ => if b_ < w.heap.size then o b_ else (fun _ => R0) (o110 b_), A112, c113, rfl, hs.close0 o (fun _ => R0), hs.close_ft (o := o) (ρ := fun _ => R0) f115 (by decide) rfl, hc116⟩
  refine x_seq ?_
  refine wpIn_region_lit ?_
  refine x_run tab hk (k := 2) (lv := []) (ks := [3, 5, 9]) (e' := [(3, .pointer (some ⟨bx4, 0, none⟩)), (5, .pointer (some ⟨bx9, 0, none⟩)), (9, .func (.func 68) #[.pointer (some ⟨bp0, 0, none⟩)] #[])]) rfl trivial fun a hk => ?_
  refine wpListIn_nil ?_
  refine then_n ?_
  refine wpIn_block ?_
  obtain ⟨ys120, hy121, H⟩ := bindS H
  refine x_range 1 15 16 [3, 20] hk rfl ent_68 (parts_Slot_each_iter K bp0 Ap0_0 cp0_0 p0 _ _ 0 f900019 0 f900000 hcp0_0 (by decide) (by decide) (by decide) _ hy121) fxm (fun _ _ _ h_ => by subst h_; rfl) rfl rfl (fun rr_ w_ o156 => ∃ A157 : Option Addr, ∃ c158 : Nat, ∃ l159 : List Int, St [] w (fun _ => 0) w_ o156 ∧ Ft (Bx bx9 40 [.slice A157 (l159).length c158]) w_ o156 3 ∧ Ft (Own (encInt .i64) 3 (.slice A157 (l159).length c158) l159) w_ o156 20 ∧ Ft (Bx bx4 4 [.bool p1]) w_ o156 2 ∧ Ft (MpF encStr false Ap0_0 p0.parts) w_ o156 0 ∧ Ft (Bx bp0 84 [.int .i64 p0.key, .int .i64 p0.count, mv Ap0_0, .int .i64 p0.bytes]) w_ o156 0 ∧ (l159).length ≤ c158 ∧ parts_Slot_which_r2 p1 rr_ l159 = some r) (fun c_ w_ o182 => False) ?_ ?_ ⟨none, 0, ([] : List Int), hs, f10, (Ft.of_all (fun _ => Own.nil _ _ _) _ _ _), f5, f900000, f900019, (by simp), H⟩ ?_ ?_ ?_
  · rintro rr_ w_ _ _ _ ⟨A157, c158, l159, hs, f10, f160, f5, f900000, f900019, hc161, H⟩ st_
    exact ⟨A157, c158, l159, hs.loc0 st_ (by decide), f10.st st_ (by decide), f160.st st_ (by decide), f5.st st_ (by decide), f900000.st st_ (by decide), f900019.st st_ (by decide), hc161, H⟩
  · exact fun _ _ _ _ _ h_ _ => h_.elim
  · rintro R0_ R1_ lr_ x122 vs_ rest123 w124 o125 ⟨A157, c158, l159, hsO, f10, f160, f5, f900000, f900019, hc161, H⟩ hE fxr a hk
    obtain rfl : vs_ = [.int .i64 x122.1, .bool x122.2] := hE w124
    obtain ⟨o126, hs0, hfl, hbB, hoi⟩ := St.startB w124 o125 20
    have hs := hs0 [15, 3, 20]
    replace f10 := hfl f10 rfl
    replace f160 := hfl f160 rfl
    replace f5 := hfl f5 rfl
    replace f900000 := hfl f900000 rfl
    replace f900019 := hfl f900019 rfl
    replace fxr := hfl fxr rfl
    replace hk : Kn 20 a [(3, .pointer (some ⟨bx4, 0, none⟩)), (5, .pointer (some ⟨bx9, 0, none⟩)), (10, .int .i64 x122.1), (11, .bool x122.2)] := Kn.pick (ks := [3, 5, 10, 11]) hk rfl
    rw [parts_Slot_which_r2] at H
    obtain ⟨lp127, hlp128⟩ : ∃ lp_, lp_ = parts_Slot_which_r2 p1 rest123 := ⟨_, rfl⟩
    rw [← hlp128] at H
    refine x_seq ?_
    refine wpIn_region_lit ?_
    refine x_run tab hk (k := 1) (lv := []) (ks := [3, 5, 6, 11]) (e' := [(3, .pointer (some ⟨bx4, 0, none⟩)), (5, .pointer (some ⟨bx9, 0, none⟩)), (6, .int .i64 x122.1), (11, .bool x122.2)]) rfl trivial fun a hk => ?_
    refine wpListIn_nil ?_
    refine then_n ?_
    refine wpIn_region_lit ?_
    refine x_run tab hk (k := 1) (lv := []) (ks := [3, 5, 6, 7]) (e' := [(3, .pointer (some ⟨bx4, 0, none⟩)), (5, .pointer (some ⟨bx9, 0, none⟩)), (6, .int .i64 x122.1), (7, .bool x122.2)]) rfl trivial fun a hk => ?_
    refine wpListIn_nil ?_
    refine then_n ?_
    refine ⟨_, fxr, fun w185 st186 fxr => ?_⟩
    replace f10 := f10.st st186 (by decide)
    replace f160 := f160.st st186 (by decide)
    replace f5 := f5.st st186 (by decide)
    replace f900000 := f900000.st st186 (by decide)
    replace f900019 := f900019.st st186 (by decide)
    replace hs := hs.locB st186 rfl hbB
    refine wpIn_block ?_
    refine x_seq ?_
    refine wpIn_region_lit ?_
    refine x_run tab hk (k := 3) (lv := [.bool p1]) (ks := [3, 5, 6, 14]) (e' := [(3, .pointer (some ⟨bx4, 0, none⟩)), (5, .pointer (some ⟨bx9, 0, none⟩)), (6, .int .i64 x122.1), (14, .bool (x122.2 == p1))]) rfl ⟨(load1 tab rfl ((Bx.cell f5.now 0).trans rfl)), trivial⟩ fun a hk => ?_
    refine wpListIn_nil ?_
    refine then_n ?_
    cases b187 : (x122.2 == p1)
    · rw [b187] at hk H
      replace H := bifF H
      refine x_if hk (b := false) rfl ?_
      refine (show Code.wpIn _ _ _ _ _ _ _ from ?_)
      refine wpIn_skip ?_
      refine blk_n ?_
      have hq188 := hs.closeB hoi hbB rfl (fun l_ => if l_ = 2 then 2 else if l_ = 3 then 3 else if l_ = 15 then 15 else if l_ = 20 then 20 else 0)
      exact ⟨_, hq188, (show Ft R1_ _ _ 15 from (hs.closeM_ft (o := o125) (ρ := (fun l_ => if l_ = 2 then 2 else if l_ = 3 then 3 else if l_ = 15 then 15 else if l_ = 20 then 20 else 0)) fxr (lab_atB hoi rfl) rfl)), ⟨A157, c158, l159, (hsO.loc0 hq188 (by decide)), (hs.closeM_ft (o := o125) (ρ := (fun l_ => if l_ = 2 then 2 else if l_ = 3 then 3 else if l_ = 15 then 15 else if l_ = 20 then 20 else 0)) f10 (lab_atB hoi rfl) rfl), (hs.closeM_ft (o := o125) (ρ := (fun l_ => if l_ = 2 then 2 else if l_ = 3 then 3 else if l_ = 15 then 15 else if l_ = 20 then 20 else 0)) f160 (lab_atB hoi rfl) rfl), (hs.closeM_ft (o := o125) (ρ := (fun l_ => if l_ = 2 then 2 else if l_ = 3 then 3 else if l_ = 15 then 15 else if l_ = 20 then 20 else 0)) f5 (lab_atB hoi rfl) rfl), (hs.closeM_ft (o := o125) (ρ := (fun l_ => if l_ = 2 then 2 else if l_ = 3 then 3 else if l_ = 15 then 15 else if l_ = 20 then 20 else 0)) f900000 (lab_atB hoi rfl) rfl), (hs.closeM_ft (o := o125) (ρ := (fun l_ => if l_ = 2 then 2 else if l_ = 3 then 3 else if l_ = 15 then 15 else if l_ = 20 then 20 else 0)) f900019 (lab_atB hoi rfl) rfl), hc161, (hlp128 ▸ H)⟩⟩
    · rw [b187] at hk H
      replace H := bifT H
      refine x_if hk (b := true) rfl ?_
      refine (show Code.wpIn _ _ _ _ _ _ _ from ?_)
      refine wpIn_region_lit ?_
      refine x_run tab hk (k := 2) (lv := [.slice A157 (l159).length c158]) (ks := [3, 5, 15, 16]) (e' := [(3, .pointer (some ⟨bx4, 0, none⟩)), (5, .pointer (some ⟨bx9, 0, none⟩)), (15, .slice A157 (l159).length c158), (16, .int .i64 x122.1)]) rfl ⟨(load1 tab rfl ((Bx.cell f10.now 0).trans rfl)), trivial⟩ fun a hk => ?_
      refine x_op hk rfl ?_
      refine op_slice (o := o126) tab hk (vs := [.int .i64 x122.1]) (cs := [.int .i64 x122.1]) rfl rfl rfl rfl rfl rfl rfl rfl rfl 23 fun bx192 w189 o190 st191 f193 => ?_
      replace f10 := f10.st st191 (by decide)
      replace f160 := f160.st st191 (by decide)
      replace f5 := f5.st st191 (by decide)
      replace f900000 := f900000.st st191 (by decide)
      replace f900019 := f900019.st st191 (by decide)
      replace fxr := fxr.st st191 (by decide)
      replace hs := hs.locB st191 rfl hbB
      have f194 : Ft (Own (encInt .i64) 3 (.slice (some ⟨bx192, 0, none⟩) (([x122.1] : List Int)).length 1) ([x122.1] : List Int)) w189 o190 23 := f193.imp fun _ h_ => Own.of_box h_ rfl (by simp)
      have hk := hk.put 17 (.slice (some ⟨bx192, 0, none⟩) (([x122.1] : List Int)).length 1) rfl
      refine x_op hk rfl ?_
      obtain ⟨q198, H⟩ := ifS H
      refine op_append (o := o190) (E := (encInt .i64)) (xs := l159) (ys := ([x122.1] : List Int)) tab hk rfl rfl rfl rfl rfl rfl rfl f160 (Own.rd f194.now) q198 fun A199 c200 w195 o196 st197 f201 hc202 => ?_
      replace f10 := f10.st st197 (by decide)
      replace f194 := f194.st st197 (by decide)
      replace f5 := f5.st st197 (by decide)
      replace f900000 := f900000.st st197 (by decide)
      replace f900019 := f900019.st st197 (by decide)
      replace fxr := fxr.st st197 (by decide)
      replace hs := hs.locB st197 rfl hbB
      have hk := hk.put 18 (.slice A199 ((l159 ++ ([x122.1] : List Int))).length c200) rfl
      refine x_op hk rfl ?_
      refine op_store tab hk (t := 40) (v := .slice A199 ((l159 ++ ([x122.1] : List Int))).length c200) (b := bx9) (k := 0) (cs' := [.slice A199 ((l159 ++ ([x122.1] : List Int))).length c200]) rfl rfl rfl rfl rfl rfl f10 rfl rfl fun w203 o204 st205 f10_ => ?_
      replace f194 := f194.st st205 (by decide)
      replace f201 := f201.st st205 (by decide)
      replace f5 := f5.st st205 (by decide)
      replace f900000 := f900000.st st205 (by decide)
      replace f900019 := f900019.st st205 (by decide)
      replace fxr := fxr.st st205 (by decide)
      replace hs := hs.locB st205 rfl hbB
      replace f10 := f10_
      refine wpListIn_nil ?_
      refine blk_n ?_
      have hq206 := hs.closeB hoi hbB rfl (fun l_ => if l_ = 2 then 2 else if l_ = 3 then 3 else if l_ = 15 then 15 else if l_ = 20 then 20 else 0)
      exact ⟨_, hq206, (show Ft R1_ _ _ 15 from (hs.closeM_ft (o := o125) (ρ := (fun l_ => if l_ = 2 then 2 else if l_ = 3 then 3 else if l_ = 15 then 15 else if l_ = 20 then 20 else 0)) fxr (lab_atB hoi rfl) rfl)), ⟨A199, c200, (l159 ++ ([x122.1] : List Int)), (hsO.loc0 hq206 (by decide)), (hs.closeM_ft (o := o125) (ρ := (fun l_ => if l_ = 2 then 2 else if l_ = 3 then 3 else if l_ = 15 then 15 else if l_ = 20 then 20 else 0)) f10 (lab_atB hoi rfl) rfl), (hs.closeM_ft (o := o125) (ρ := (fun l_ => if l_ = 2 then 2 else if l_ = 3 then 3 else if l_ = 15 then 15 else if l_ = 20 then 20 else 0)) f201 (lab_atB hoi rfl) rfl), (hs.closeM_ft (o := o125) (ρ := (fun l_ => if l_ = 2 then 2 else if l_ = 3 then 3 else if l_ = 15 then 15 else if l_ = 20 then 20 else 0)) f5 (lab_atB hoi rfl) rfl), (hs.closeM_ft (o := o125) (ρ := (fun l_ => if l_ = 2 then 2 else if l_ = 3 then 3 else if l_ = 15 then 15 else if l_ = 20 then 20 else 0)) f900000 (lab_atB hoi rfl) rfl), (hs.closeM_ft (o := o125) (ρ := (fun l_ => if l_ = 2 then 2 else if l_ = 3 then 3 else if l_ = 15 then 15 else if l_ = 20 then 20 else 0)) f900019 (lab_atB hoi rfl) rfl), hc202, (hlp128 ▸ H)⟩⟩
  · rintro ds184 w183 o156 a hk fxm ⟨A157, c158, l159, hs, f10, f160, f5, f900000, f900019, hc161, H⟩
    rw [parts_Slot_which_r2] at H
    refine blk_n ?_
    refine then_n ?_
    exact ⟨(fun b_ => (fun l_ => if l_ = 3 then 14 else if l_ = 20 then 13 else l_) (o156 b_)), ds184, A157, c158, l159, (by exact Kn.pick (ks := [5]) hk rfl), (hs.relab0 (fun l_ => if l_ = 3 then 14 else if l_ = 20 then 13 else l_) rfl), (f10.relab (fun l_ => if l_ = 3 then 14 else if l_ = 20 then 13 else l_) rfl), (f160.relab (fun l_ => if l_ = 3 then 14 else if l_ = 20 then 13 else l_) rfl), (f900000.relab (fun l_ => if l_ = 3 then 14 else if l_ = 20 then 13 else l_) rfl), (f900019.relab (fun l_ => if l_ = 3 then 14 else if l_ = 20 then 13 else l_) rfl), (fxm.relab (fun l_ => if l_ = 3 then 14 else if l_ = 20 then 13 else l_) rfl), hc161, H⟩
  · exact fun _ _ _ _ _ _ _ h_ => h_.elim

/-! (*tidewrack/parts.Slot).Lacks -/
theorem parts_Slot_Lacks_calls (K : Nat) (bp0 : Nat) (Ap0_0 : Option Addr) (cp0_0 : Nat) (p0 : T83) (w : World) (o : Nat → Nat) (Lp0 : Nat) (hp0 : Ft (Bx bp0 84 [.int .i64 p0.key, .int .i64 p0.count, mv Ap0_0, .int .i64 p0.bytes]) w o Lp0) (Lp0_0 : Nat) (hp0_0 : Ft (MpF encStr false Ap0_0 p0.parts) w o Lp0_0) (hcp0_0 : (p0.parts).length ≤ cp0_0)  (R0 : Nat) (r : List Int) (H : parts_Slot_Lacks K p0 = some r) :
    Calls Tryd.prog 34 #[.pointer (some ⟨bp0, 0, none⟩)] w (Ret fun v_ w' => ∃ o' : Nat → Nat, ∃ A0 : Option Addr, ∃ c0 : Nat, v_ = .slice A0 (r).length c0 ∧ St [] w o w' o' ∧ Ft (Own (encInt .i64) 3 (.slice A0 (r).length c0) r) w' o' R0 ∧ (r).length ≤ c0) := by
  refine x_enter (vs := [.pointer (some ⟨bp0, 0, none⟩)]) Tryd.func34 rfl rfl rfl fun a hk => ?_
  obtain ⟨o0, hs, h0⟩ := St.start w o
  have f900000 := h0 _ _ hp0_0
  have f900019 := h0 _ _ hp0
  clear h0
  rw [parts_Slot_Lacks] at H
  refine x_seq ?_
  refine wpIn_region_lit ?_
  refine x_run tab hk (k := 1) (lv := []) (ks := [0]) (e' := [(0, .pointer (some ⟨bp0, 0, none⟩))]) rfl trivial fun a hk => ?_
  refine wpListIn_nil ?_
  refine then_n ?_
  refine x_seq ?_
  refine wpIn_region_lit ?_
  refine x_run tab hk (k := 1) (lv := []) (ks := [3]) (e' := [(3, .pointer (some ⟨bp0, 0, none⟩))]) rfl trivial fun a hk => ?_
  refine x_op hk rfl ?_
  obtain ⟨t4, hc5, H⟩ := bindS H
  refine op_call hk ent_71 (vs := [.pointer (some ⟨bp0, 0, none⟩), .bool false]) rfl (parts_Slot_which_calls K bp0 Ap0_0 cp0_0 p0 false _ o0 0 f900019 _ f900000 hcp0_0 1  _ hc5) ?_
  rintro _ w6 ⟨o7, A9, c10, rfl, st8, f11, hc12⟩
  replace f900000 := f900000.st st8 (by decide)
  replace f900019 := f900019.st st8 (by decide)
  replace hs := hs.loc0 st8 (by decide)
  have hk := hk.put 4 (.slice A9 (t4).length c10) rfl
  refine x_run tab hk (k := 1) (lv := []) (ks := [2]) (e' := [(2, .slice A9 (t4).length c10)]) rfl trivial fun a hk => ?_
  refine wpListIn_nil ?_
  refine then_n ?_
  refine wpIn_ret ?_
  obtain rfl := Option.some.inj H
  exact x_retG hk (rs := [.tmp 2]) (vs := [.slice A9 (t4).length c10]) rfl ⟨rfl, trivial⟩ ⟨fun b_ => if b_ < w.heap.size then o b_ else (fun _ => R0) (o7 b_), A9, c10, rfl, hs.close0 o (fun _ => R0), hs.close_ft (o := o) (ρ := fun _ => R0) f11 (by decide) rfl, hc12⟩

/-! tidewrack/tidewracktop.bit -/
theorem tidewracktop_bit_calls (p0 : Bool) (w : World) (o : Nat → Nat)   (r : Int) (H : tidewracktop_bit p0 = some r) :
    Calls Tryd.prog 35 #[.bool p0] w (Ret fun v_ w' => ∃ o' : Nat → Nat, v_ = .int .i64 r ∧ St [] w o w' o') := by
  refine x_enter (vs := [.bool p0]) Tryd.func35 rfl rfl rfl fun a hk => ?_
  obtain ⟨o0, hs, h0⟩ := St.start w o
  clear h0
  rw [tidewracktop_bit] at H
  refine x_seq ?_
  refine wpIn_region_lit ?_
  refine x_run tab hk (k := 1) (lv := []) (ks := [0]) (e' := [(0, .bool p0)]) rfl trivial fun a hk => ?_
  refine wpListIn_nil ?_
  refine then_n ?_
  refine x_seq ?_
  refine x_seq ?_
  refine wpIn_region_lit ?_
  refine x_run tab hk (k := 1) (lv := []) (ks := [3]) (e' := [(3, .bool p0)]) rfl trivial fun a hk => ?_
  refine wpListIn_nil ?_
  refine then_n ?_
  cases b1 : p0
  · rw [b1] at hk H
    replace H := bifF H
    refine x_if hk (b := false) rfl ?_
    refine (show Code.wpIn _ _ _ _ _ _ _ from ?_)
    refine wpIn_skip ?_
    refine then_n ?_
    refine x_seq ?_
    refine wpIn_region_lit ?_
    refine x_run tab hk (k := 1) (lv := []) (ks := [2]) (e' := [(2, .int .i64 0)]) rfl trivial fun a hk => ?_
    refine wpListIn_nil ?_
    refine then_n ?_
    refine wpIn_ret ?_
    obtain rfl := Option.some.inj H
    exact x_retG hk (rs := [.tmp 2]) (vs := [.int .i64 0]) rfl ⟨rfl, trivial⟩ ⟨fun b_ => if b_ < w.heap.size then o b_ else (fun _ => 0) (o0 b_), rfl, hs.close0 o (fun _ => 0)⟩
  · rw [b1] at hk H
    replace H := bifT H
    refine x_if hk (b := true) rfl ?_
    refine (show Code.wpIn _ _ _ _ _ _ _ from ?_)
    refine x_seq ?_
    refine wpIn_region_lit ?_
    refine x_run tab hk (k := 1) (lv := []) (ks := [2]) (e' := [(2, .int .i64 1)]) rfl trivial fun a hk => ?_
    refine wpListIn_nil ?_
    refine then_n ?_
    refine wpIn_ret ?_
    refine then_r ?_
    obtain rfl := Option.some.inj H
    exact x_retG hk (rs := [.tmp 2]) (vs := [.int .i64 1]) rfl ⟨rfl, trivial⟩ ⟨fun b_ => if b_ < w.heap.size then o b_ else (fun _ => 0) (o0 b_), rfl, hs.close0 o (fun _ => 0)⟩

/-! tidewrack/tidewracktop.TidewrackParts -/
set_option maxHeartbeats 4000000 in
theorem tidewracktop_TidewrackParts_calls (K : Nat) (p0 : ByteArray) (p1 : Int) (Ap2 : Option Addr) (cp2 : Nat) (p2 : List Int) (w : World) (o : Nat → Nat) (Lg2 : Nat) (hg2 : Ft (RdC (encInt .u32) (some ⟨2, 0, none⟩) glob2) w o Lg2) (Lp2 : Nat) (hp2 : Ft (RdC (encInt .u32) Ap2 p2) w o Lp2) (hcp2 : (p2).length ≤ cp2)  (r : Bool) (H : tidewracktop_TidewrackParts K p0 p1 p2 = some r) :
    Calls Tryd.prog 7 #[.string p0, .int .i64 p1, .slice Ap2 (p2).length cp2] w (Ret fun v_ w' => ∃ o' : Nat → Nat, v_ = .bool r ∧ St [] w o w' o') := by
  refine x_enter (vs := [.string p0, .int .i64 p1, .slice Ap2 (p2).length cp2]) Tryd.func7 rfl rfl rfl fun a hk => ?_
  obtain ⟨o0, hs, h0⟩ := St.start w o
  have fg2 := h0 _ _ hg2
  have f900040 := h0 _ _ hp2
  clear h0
  rw [tidewracktop_TidewrackParts] at H
  refine x_seq ?_
  refine wpIn_region_lit ?_
  refine x_run tab hk (k := 1) (lv := []) (ks := [0, 1, 2]) (e' := [(0, .string p0), (1, .int .i64 p1), (2, .slice Ap2 (p2).length cp2)]) rfl trivial fun a hk => ?_
  refine wpListIn_nil ?_
  refine then_n ?_
  refine x_mid (fun a_ w_ => ∃ o26 : Nat → Nat, Kn 128 a_ [(0, .string p0), (1, .int .i64 p1), (2, .slice Ap2 (p2).length cp2)] ∧ St [] w (fun _ => 0) w_ o26 ∧ Ft (RdC (encInt .u32) Ap2 p2) w_ o26 0 ∧ Ft (RdC (encInt .u32) (some ⟨2, 0, none⟩) glob2) w_ o26 0 ∧ tidewracktop_TidewrackParts_j1 K p0 p1 p2 = some r) ?_ ?_
  rotate_left
  · rintro a w27 ⟨o26, hk, hs, f900040, fg2, H⟩
    rw [tidewracktop_TidewrackParts_j1] at H
    refine x_seq ?_
    refine wpIn_region_lit ?_
    refine x_run tab hk (k := 1) (lv := []) (ks := [1, 2, 34]) (e' := [(1, .int .i64 p1), (2, .slice Ap2 (p2).length cp2), (34, .string p0)]) rfl trivial fun a hk => ?_
    refine x_op hk rfl ?_
    obtain ⟨t31, hc32, H⟩ := bindS H
    refine op_call hk ent_10 (vs := [.string p0, .int .i64 200]) rfl (tidewracklaw01_Cut_calls p0 200 _ o26    _ hc32) ?_
    rintro _ w33 ⟨o34, rfl, st35⟩
    replace f900040 := f900040.st st35 (by decide)
    replace fg2 := fg2.st st35 (by decide)
    replace hs := hs.loc0 st35 (by decide)
    have hk := hk.put 35 (.string t31) rfl
    refine x_run tab hk (k := 1) (lv := []) (ks := [0, 1, 2]) (e' := [(0, .string t31), (1, .int .i64 p1), (2, .slice Ap2 (p2).length cp2)]) rfl trivial fun a hk => ?_
    refine wpListIn_nil ?_
    refine then_n ?_
    refine x_seq ?_
    refine wpIn_region_lit ?_
    refine x_run tab hk (k := 4) (lv := []) (ks := [0, 2, 36, 39]) (e' := [(0, .string t31), (2, .slice Ap2 (p2).length cp2), (36, .string t31), (39, .int .i64 (IntKind.wrap .i64 (3 + (bits .and .i64 p1 63))))]) rfl trivial fun a hk => ?_
    refine x_op hk rfl ?_
    obtain ⟨t39, hc40, H⟩ := bindS H
    refine op_call hk ent_28 (vs := [.string t31, .int .i64 (IntKind.wrap .i64 (3 + (bits .and .i64 p1 63)))]) rfl (parts_Split_calls K t31 (IntKind.wrap .i64 (3 + (bits .and .i64 p1 63))) _ o34  3  _ hc40) ?_
    rintro _ w41 ⟨o42, A44, c45, rfl, st43, f46, hc47⟩
    replace f900040 := f900040.st st43 (by decide)
    replace fg2 := fg2.st st43 (by decide)
    replace hs := hs.loc0 st43 (by decide)
    have hk := hk.put 40 (.slice A44 (t39).length c45) rfl
    refine x_run tab hk (k := 1) (lv := []) (ks := [0, 2, 9]) (e' := [(0, .string t31), (2, .slice Ap2 (p2).length cp2), (9, .slice A44 (t39).length c45)]) rfl trivial fun a hk => ?_
    refine wpListIn_nil ?_
    refine then_n ?_
    refine x_seq ?_
    refine wpIn_region_lit ?_
    refine x_op hk rfl ?_
    refine op_alloc (o := o42) tab (t := 84) (cs := [.int .i64 0, .int .i64 0, mv none, .int .i64 0]) rfl rfl 4 fun bx51 w48 o49 st50 f52 => ?_
    replace f46 := f46.st st50 (by decide)
    replace f900040 := f900040.st st50 (by decide)
    replace fg2 := fg2.st st50 (by decide)
    replace hs := hs.loc0 st50 (by decide)
    have hk := hk.put 10 (.pointer (some ⟨bx51, 0, none⟩)) rfl
    refine wpListIn_nil ?_
    refine then_n ?_
    refine x_seq ?_
    refine wpIn_region_lit ?_
    refine x_run tab hk (k := 1) (lv := []) (ks := [0, 2, 9, 10, 11]) (e' := [(0, .string t31), (2, .slice Ap2 (p2).length cp2), (9, .slice A44 (t39).length c45), (10, .pointer (some ⟨bx51, 0, none⟩)), (11, .int .i64 0)]) rfl trivial fun a hk => ?_
    refine wpListIn_nil ?_
    refine then_n ?_
    refine x_mid (fun a_ w_ => ∃ o761 : Nat → Nat, ∃ x762 : Int, ∃ x763 : Int, ∃ A764 : Option Addr, ∃ c765 : Nat, ∃ l766 : M ByteArray, ∃ x769 : Int, ∃ x770 : Int, Kn 128 a_ [(0, .string t31), (9, .slice A44 (t39).length c45), (10, .pointer (some ⟨bx51, 0, none⟩)), (11, .int .i64 x770)] ∧ St [] w (fun _ => 0) w_ o761 ∧ Ft (Own encStr 9 (.slice A44 (t39).length c45) t39) w_ o761 45 ∧ Ft (Bx bx51 84 [.int .i64 x762, .int .i64 x763, mv A764, .int .i64 x769]) w_ o761 47 ∧ Ft (MpF encStr false A764 l766) w_ o761 46 ∧ Ft (RdC (encInt .u32) (some ⟨2, 0, none⟩) glob2) w_ o761 0 ∧ (l766).length ≤ c765 ∧ tidewracktop_TidewrackParts_j2 K t31 t39 x762 x763 l766 x769 x770 = some r) ?_ ?_
    rotate_left
    · rintro a w771 ⟨o761, x762, x763, A764, c765, l766, x769, x770, hk, hs, f46, f52, f767, fg2, hc768, H⟩
      rw [tidewracktop_TidewrackParts_j2] at H
      refine x_seq ?_
      refine wpIn_region_lit ?_
      refine x_op hk rfl ?_
      obtain ⟨t775, hc776, H⟩ := bindS H
      refine op_call hk ent_33 (vs := [.pointer (some ⟨bx51, 0, none⟩)]) rfl (parts_Slot_Whole_calls K bx51 A764 c765 (⟨x762, x763, l766, x769⟩ : T83) _ o761 47 f52 _ f767 hc768   _ hc776) ?_
      rintro _ w777 ⟨o778, rfl, st779⟩
      replace f46 := f46.st st779 (by decide)
      replace f52 := f52.st st779 (by decide)
      replace f767 := f767.st st779 (by decide)
      replace fg2 := fg2.st st779 (by decide)
      replace hs := hs.loc0 st779 (by decide)
      have hk := hk.put 100 (.tuple #[.string t775.1, .bool t775.2]) rfl
      refine x_run tab hk (k := 5) (lv := []) (ks := [0, 9, 10, 11, 20, 21]) (e' := [(0, .string t31), (9, .slice A44 (t39).length c45), (10, .pointer (some ⟨bx51, 0, none⟩)), (11, .int .i64 x770), (20, .string t775.1), (21, .bool t775.2)]) rfl trivial fun a hk => ?_
      refine wpListIn_nil ?_
      refine then_n ?_
      refine x_seq ?_
      refine wpIn_region_lit ?_
      refine x_run tab hk (k := 5) (lv := []) (ks := [0, 9, 10, 11, 20, 107]) (e' := [(0, .string t31), (9, .slice A44 (t39).length c45), (10, .pointer (some ⟨bx51, 0, none⟩)), (11, .int .i64 x770), (20, .string t775.1), (107, .bool (t775.2 == (x770 == (0 : Int))))]) rfl trivial fun a hk => ?_
      cases b780 : (t775.2 == (x770 == (0 : Int)))
      · rw [b780] at hk H
        replace H := bifF H
        refine x_run tab hk (k := 19) (lv := []) (ks := [116, 126]) (e' := [(116, .bool false), (126, undef)]) rfl trivial fun a hk => ?_
        refine x_run tab hk (k := 2) (lv := []) (ks := [6]) (e' := [(6, .bool false)]) rfl trivial fun a hk => ?_
        refine wpListIn_nil ?_
        refine then_n ?_
        refine wpIn_ret ?_
        obtain rfl := Option.some.inj H
        exact x_retG hk (rs := [.tmp 6]) (vs := [.bool false]) rfl ⟨rfl, trivial⟩ ⟨fun b_ => if b_ < w.heap.size then o b_ else (fun _ => 0) (o778 b_), rfl, hs.close0 o (fun _ => 0)⟩
      · rw [b780] at hk H
        replace H := bifT H
        refine x_run tab hk (k := 3) (lv := []) (ks := [0, 9, 10, 11, 20, 107, 110]) (e' := [(0, .string t31), (9, .slice A44 (t39).length c45), (10, .pointer (some ⟨bx51, 0, none⟩)), (11, .int .i64 x770), (20, .string t775.1), (107, .bool true), (110, .bool (decide (x770 > (0 : Int))))]) rfl trivial fun a hk => ?_
        cases b781 : (decide (x770 > (0 : Int)))
        · rw [b781] at hk H
          replace H := bifF H
          refine x_run tab hk (k := 6) (lv := []) (ks := [9, 10, 11, 116]) (e' := [(9, .slice A44 (t39).length c45), (10, .pointer (some ⟨bx51, 0, none⟩)), (11, .int .i64 x770), (116, .bool (ByteArray.toList t775.1 == ByteArray.toList t31))]) rfl trivial fun a hk => ?_
          cases b782 : (ByteArray.toList t775.1 == ByteArray.toList t31)
          · rw [b782] at hk H
            replace H := bifF H
            refine x_run tab hk (k := 10) (lv := []) (ks := [116, 126]) (e' := [(116, .bool false), (126, undef)]) rfl trivial fun a hk => ?_
            refine x_run tab hk (k := 2) (lv := []) (ks := [6]) (e' := [(6, .bool false)]) rfl trivial fun a hk => ?_
            refine wpListIn_nil ?_
            refine then_n ?_
            refine wpIn_ret ?_
            obtain rfl := Option.some.inj H
            exact x_retG hk (rs := [.tmp 6]) (vs := [.bool false]) rfl ⟨rfl, trivial⟩ ⟨fun b_ => if b_ < w.heap.size then o b_ else (fun _ => 0) (o778 b_), rfl, hs.close0 o (fun _ => 0)⟩
          · rw [b782] at hk H
            replace H := bifT H
            refine x_op hk rfl ?_
            obtain ⟨t786, hc787, H⟩ := bindS H
            refine op_call hk ent_34 (vs := [.pointer (some ⟨bx51, 0, none⟩)]) rfl (parts_Slot_Lacks_calls K bx51 A764 c765 (⟨x762, x763, l766, x769⟩ : T83) _ o778 47 f52 _ f767 hc768 48  _ hc787) ?_
            rintro _ w788 ⟨o789, A791, c792, rfl, st790, f793, hc794⟩
            replace f46 := f46.st st790 (by decide)
            replace f52 := f52.st st790 (by decide)
            replace f767 := f767.st st790 (by decide)
            replace fg2 := fg2.st st790 (by decide)
            replace hs := hs.loc0 st790 (by decide)
            have hk := hk.put 117 (.slice A791 (t786).length c792) rfl
            refine x_run tab hk (k := 6) (lv := []) (ks := [116, 118, 119, 123]) (e' := [(116, .bool true), (118, .int .i64 ((t786).length : Int)), (119, .int .i64 x770), (123, .bool (decide (x770 < ((t39).length : Int))))]) rfl trivial fun a hk => ?_
            refine x_op hk rfl ?_
            obtain ⟨t798, hc799, H⟩ := bindS H
            refine op_call hk ent_35 (vs := [.bool (decide (x770 < ((t39).length : Int)))]) rfl (tidewracktop_bit_calls (decide (x770 < ((t39).length : Int))) _ o789    _ hc799) ?_
            rintro _ w800 ⟨o801, rfl, st802⟩
            replace fg2 := fg2.st st802 (by decide)
            replace hs := hs.loc0 st802 (by decide)
            have hk := hk.put 124 (.int .i64 t798) rfl
            refine x_run tab hk (k := 4) (lv := []) (ks := [6]) (e' := [(6, .bool (((t786).length : Int) == (IntKind.wrap .i64 (x770 * t798))))]) rfl trivial fun a hk => ?_
            refine wpListIn_nil ?_
            refine then_n ?_
            refine wpIn_ret ?_
            obtain rfl := Option.some.inj H
            exact x_retG hk (rs := [.tmp 6]) (vs := [.bool (((t786).length : Int) == (IntKind.wrap .i64 (x770 * t798)))]) rfl ⟨rfl, trivial⟩ ⟨fun b_ => if b_ < w.heap.size then o b_ else (fun _ => 0) (o801 b_), rfl, hs.close0 o (fun _ => 0)⟩
        · rw [b781] at hk H
          replace H := bifT H
          refine x_run tab hk (k := 6) (lv := []) (ks := [9, 10, 11, 116]) (e' := [(9, .slice A44 (t39).length c45), (10, .pointer (some ⟨bx51, 0, none⟩)), (11, .int .i64 x770), (116, .bool true)]) rfl trivial fun a hk => ?_
          refine x_op hk rfl ?_
          obtain ⟨t806, hc807, H⟩ := bindS H
          refine op_call hk ent_34 (vs := [.pointer (some ⟨bx51, 0, none⟩)]) rfl (parts_Slot_Lacks_calls K bx51 A764 c765 (⟨x762, x763, l766, x769⟩ : T83) _ o778 47 f52 _ f767 hc768 49  _ hc807) ?_
          rintro _ w808 ⟨o809, A811, c812, rfl, st810, f813, hc814⟩
          replace f46 := f46.st st810 (by decide)
          replace f52 := f52.st st810 (by decide)
          replace f767 := f767.st st810 (by decide)
          replace fg2 := fg2.st st810 (by decide)
          replace hs := hs.loc0 st810 (by decide)
          have hk := hk.put 117 (.slice A811 (t806).length c812) rfl
          refine x_run tab hk (k := 6) (lv := []) (ks := [116, 118, 119, 123]) (e' := [(116, .bool true), (118, .int .i64 ((t806).length : Int)), (119, .int .i64 x770), (123, .bool (decide (x770 < ((t39).length : Int))))]) rfl trivial fun a hk => ?_
          refine x_op hk rfl ?_
          obtain ⟨t818, hc819, H⟩ := bindS H
          refine op_call hk ent_35 (vs := [.bool (decide (x770 < ((t39).length : Int)))]) rfl (tidewracktop_bit_calls (decide (x770 < ((t39).length : Int))) _ o809    _ hc819) ?_
          rintro _ w820 ⟨o821, rfl, st822⟩
          replace fg2 := fg2.st st822 (by decide)
          replace hs := hs.loc0 st822 (by decide)
          have hk := hk.put 124 (.int .i64 t818) rfl
          refine x_run tab hk (k := 4) (lv := []) (ks := [6]) (e' := [(6, .bool (((t806).length : Int) == (IntKind.wrap .i64 (x770 * t818))))]) rfl trivial fun a hk => ?_
          refine wpListIn_nil ?_
          refine then_n ?_
          refine wpIn_ret ?_
          obtain rfl := Option.some.inj H
          exact x_retG hk (rs := [.tmp 6]) (vs := [.bool (((t806).length : Int) == (IntKind.wrap .i64 (x770 * t818)))]) rfl ⟨rfl, trivial⟩ ⟨fun b_ => if b_ < w.heap.size then o b_ else (fun _ => 0) (o821 b_), rfl, hs.close0 o (fun _ => 0)⟩
    refine x_seq ?_
    refine wpIn_region_lit ?_
    refine x_run tab hk (k := 3) (lv := []) (ks := [0, 2, 9, 10, 11, 41, 42, 43]) (e' := [(0, .string t31), (2, .slice Ap2 (p2).length cp2), (9, .slice A44 (t39).length c45), (10, .pointer (some ⟨bx51, 0, none⟩)), (11, .int .i64 0), (41, .slice A44 (t39).length c45), (42, .int .i64 ((t39).length : Int)), (43, .int .i64 0)]) rfl trivial fun a hk => ?_
    refine wpListIn_nil ?_
    refine then_n ?_
    refine wpIn_block ?_
    refine x_loop (fun j_ a_ w_ => ∃ o1052 : Nat → Nat, ∃ x1053 : Int, ∃ x1054 : Int, ∃ A1055 : Option Addr, ∃ c1056 : Nat, ∃ l1057 : M ByteArray, ∃ x1060 : Int, ∃ x1061 : Int, ∃ x1062 : Int, Kn 128 a_ [(0, .string t31), (2, .slice Ap2 (p2).length cp2), (9, .slice A44 (t39).length c45), (10, .pointer (some ⟨bx51, 0, none⟩)), (11, .int .i64 x1061), (41, .slice A44 (t39).length c45), (42, .int .i64 ((t39).length : Int)), (43, .int .i64 x1062)] ∧ St [] w (fun _ => 0) w_ o1052 ∧ Ft (MpF encStr false A1055 l1057) w_ o1052 67 ∧ Ft (Own encStr 9 (.slice A44 (t39).length c45) t39) w_ o1052 66 ∧ Ft (Bx bx51 84 [.int .i64 x1053, .int .i64 x1054, mv A1055, .int .i64 x1060]) w_ o1052 68 ∧ Ft (RdC (encInt .u32) Ap2 p2) w_ o1052 0 ∧ Ft (RdC (encInt .u32) (some ⟨2, 0, none⟩) glob2) w_ o1052 0 ∧ (l1057).length ≤ c1056 ∧ tidewracktop_TidewrackParts_l3 K p2 t31 t39 j_ x1053 x1054 l1057 x1060 x1061 x1062 = some r) (k := K) ⟨(fun b_ => (fun l_ => if l_ = 3 then 66 else if l_ = 4 then 68 else l_) (o49 b_)), 0, 0, none, 0, (M.nil : M ByteArray), 0, 0, 0, (by exact Kn.pick (ks := [0, 2, 9, 10, 11, 41, 42, 43]) hk rfl), (hs.relab0 (fun l_ => if l_ = 3 then 66 else if l_ = 4 then 68 else l_) rfl), (Ft.of_all (fun _ => MpF.nil _ _ _) _ _ _), (f46.relab (fun l_ => if l_ = 3 then 66 else if l_ = 4 then 68 else l_) rfl), (f52.relab (fun l_ => if l_ = 3 then 66 else if l_ = 4 then 68 else l_) rfl), (f900040.relab (fun l_ => if l_ = 3 then 66 else if l_ = 4 then 68 else l_) rfl), (fg2.relab (fun l_ => if l_ = 3 then 66 else if l_ = 4 then 68 else l_) rfl), (Nat.le_refl _), H⟩ (by rintro _ _ ⟨_, _, _, _, _, _, _, _, _, _, _, _, _, _, _, _, _, H_⟩; exact absurd (show (none : Option Bool) = some r from H_) (by simp)) ?_
    rintro k1289 a w1288 ⟨o1052, x1053, x1054, A1055, c1056, l1057, x1060, x1061, x1062, hk, hs, f1058, f46, f52, f900040, fg2, hc1059, H⟩
    rw [tidewracktop_TidewrackParts_l3] at H
    obtain ⟨lp1290, hlp1291⟩ : ∃ lp_, lp_ = tidewracktop_TidewrackParts_l3 K p2 t31 t39 k1289 := ⟨_, rfl⟩
    rw [← hlp1291] at H
    refine x_seq ?_
    refine wpIn_region_lit ?_
    refine x_run tab hk (k := 1) (lv := []) (ks := [0, 2, 9, 10, 11, 41, 42, 43, 44]) (e' := [(0, .string t31), (2, .slice Ap2 (p2).length cp2), (9, .slice A44 (t39).length c45), (10, .pointer (some ⟨bx51, 0, none⟩)), (11, .int .i64 x1061), (41, .slice A44 (t39).length c45), (42, .int .i64 ((t39).length : Int)), (43, .int .i64 x1062), (44, .bool (decide (x1062 < ((t39).length : Int))))]) rfl trivial fun a hk => ?_
    refine wpListIn_nil ?_
    refine then_n ?_
    refine x_seq ?_
    cases b1292 : (decide (x1062 < ((t39).length : Int)))
    · rw [b1292] at hk H
      replace H := bifF H
      refine x_if hk (b := false) rfl ?_
      refine (show Code.wpIn _ _ _ _ _ _ _ from ?_)
      refine wpIn_exit ?_
      refine then_x ?_
      refine then_x ?_
      refine blk_x ?_
      refine then_n ?_
      exact ⟨(fun b_ => (fun l_ => if l_ = 66 then 45 else if l_ = 67 then 46 else if l_ = 68 then 47 else l_) (o1052 b_)), x1053, x1054, A1055, c1056, l1057, x1060, x1061, (by exact Kn.pick (ks := [0, 9, 10, 11]) hk rfl), (hs.relab0 (fun l_ => if l_ = 66 then 45 else if l_ = 67 then 46 else if l_ = 68 then 47 else l_) rfl), (f46.relab (fun l_ => if l_ = 66 then 45 else if l_ = 67 then 46 else if l_ = 68 then 47 else l_) rfl), (f52.relab (fun l_ => if l_ = 66 then 45 else if l_ = 67 then 46 else if l_ = 68 then 47 else l_) rfl), (f1058.relab (fun l_ => if l_ = 66 then 45 else if l_ = 67 then 46 else if l_ = 68 then 47 else l_) rfl), (fg2.relab (fun l_ => if l_ = 66 then 45 else if l_ = 67 then 46 else if l_ = 68 then 47 else l_) rfl), hc1059, H⟩
    · rw [b1292] at hk H
      replace H := bifT H
      refine x_if hk (b := true) rfl ?_
      refine (show Code.wpIn _ _ _ _ _ _ _ from ?_)
      refine wpIn_skip ?_
      refine then_n ?_
      refine x_seq ?_
      refine wpIn_block ?_
      refine x_seq ?_
      refine wpIn_region_lit ?_
      obtain ⟨q1293, H⟩ := ifS H
      obtain ⟨ad1294, hAad1294⟩ := RdC.addr (Own.rd f46.now) q1293
      have hk_C := hk
      have f1058_C := f1058
      have f46_C := f46
      have f52_C := f52
      have f900040_C := f900040
      have fg2_C := fg2
      subst hAad1294
      have hk := hk_C
      clear hk_C
      have f1058 := f1058_C
      clear f1058_C
      have f46 := f46_C
      clear f46_C
      have f52 := f52_C
      clear f52_C
      have f900040 := f900040_C
      clear f900040_C
      have fg2 := fg2_C
      clear fg2_C
      refine x_run tab hk (k := 5) (lv := [.string (rdD (⟨#[]⟩ : ByteArray) t39 x1062)]) (ks := [0, 2, 9, 10, 11, 12, 13, 41, 42, 43]) (e' := [(0, .string t31), (2, .slice Ap2 (p2).length cp2), (9, .slice (some ad1294) (t39).length c45), (10, .pointer (some ⟨bx51, 0, none⟩)), (11, .int .i64 x1061), (12, .int .i64 x1062), (13, .string (rdD (⟨#[]⟩ : ByteArray) t39 x1062)), (41, .slice (some ad1294) (t39).length c45), (42, .int .i64 ((t39).length : Int)), (43, .int .i64 x1062)]) rfl ⟨q1293, (load1 tab rfl (RdC.at0 (E := encStr) (d := (⟨#[]⟩ : ByteArray)) (i := x1062) (Own.rd f46.now) q1293 rfl)), trivial⟩ fun a hk => ?_
      refine wpListIn_nil ?_
      refine then_n ?_
      refine x_seq ?_
      refine wpIn_region_lit ?_
      refine x_run tab hk (k := 3) (lv := []) (ks := [0, 2, 9, 10, 11, 12, 13, 41, 42, 43, 48, 50]) (e' := [(0, .string t31), (2, .slice Ap2 (p2).length cp2), (9, .slice (some ad1294) (t39).length c45), (10, .pointer (some ⟨bx51, 0, none⟩)), (11, .int .i64 x1061), (12, .int .i64 x1062), (13, .string (rdD (⟨#[]⟩ : ByteArray) t39 x1062)), (41, .slice (some ad1294) (t39).length c45), (42, .int .i64 ((t39).length : Int)), (43, .int .i64 x1062), (48, .int .i64 x1062), (50, .int .i64 ((t39).length : Int))]) rfl trivial fun a hk => ?_
      refine x_op hk rfl ?_
      refine op_slice (o := o1052) tab hk (vs := [.int .i64 1, .int .i64 x1062, .int .i64 ((t39).length : Int)]) (cs := [.int .i64 1, .int .i64 x1062, .int .i64 ((t39).length : Int)]) rfl rfl rfl rfl rfl rfl rfl rfl rfl 79 fun bx1298 w1295 o1296 st1297 f1299 => ?_
      replace f1058 := f1058.st st1297 (by decide)
      replace f46 := f46.st st1297 (by decide)
      replace f52 := f52.st st1297 (by decide)
      replace f900040 := f900040.st st1297 (by decide)
      replace fg2 := fg2.st st1297 (by decide)
      replace hs := hs.loc0 st1297 (by decide)
      have f1300 : Ft (Own (encInt .i64) 3 (.slice (some ⟨bx1298, 0, none⟩) (([1, x1062, ((t39).length : Int)] : List Int)).length 3) ([1, x1062, ((t39).length : Int)] : List Int)) w1295 o1296 79 := f1299.imp fun _ h_ => Own.of_box h_ rfl (by simp)
      have hk := hk.put 51 (.slice (some ⟨bx1298, 0, none⟩) (([1, x1062, ((t39).length : Int)] : List Int)).length 3) rfl
      refine x_run tab hk (k := 2) (lv := []) (ks := [0, 2, 9, 10, 11, 12, 41, 42, 43, 53]) (e' := [(0, .string t31), (2, .slice Ap2 (p2).length cp2), (9, .slice (some ad1294) (t39).length c45), (10, .pointer (some ⟨bx51, 0, none⟩)), (11, .int .i64 x1061), (12, .int .i64 x1062), (41, .slice (some ad1294) (t39).length c45), (42, .int .i64 ((t39).length : Int)), (43, .int .i64 x1062), (53, .agg #[.int .i64 1, .int .i64 1, .slice (some ⟨bx1298, 0, none⟩) (([1, x1062, ((t39).length : Int)] : List Int)).length 3, .string (rdD (⟨#[]⟩ : ByteArray) t39 x1062)])]) rfl trivial fun a hk => ?_
      refine x_op hk rfl ?_
      obtain ⟨t1304, hc1305, H⟩ := bindS H
      refine op_call hk ent_29 (vs := [.agg #[.int .i64 1, .int .i64 1, .slice (some ⟨bx1298, 0, none⟩) (([1, x1062, ((t39).length : Int)] : List Int)).length 3, .string (rdD (⟨#[]⟩ : ByteArray) t39 x1062)]]) rfl (gram_Gram_Pack_calls K (some ⟨bx1298, 0, none⟩) 3 (⟨1, 1, ([1, x1062, ((t39).length : Int)] : List Int), (rdD (⟨#[]⟩ : ByteArray) t39 x1062)⟩ : T76) _ o1296 0 fg2 _ (f1300.imp fun _ h_ => Own.rd h_) (Nat.le_refl _)   _ hc1305) ?_
      rintro _ w1306 ⟨o1307, rfl, st1308⟩
      replace f1058 := f1058.st st1308 (by decide)
      replace f1300 := f1300.st st1308 (by decide)
      replace f46 := f46.st st1308 (by decide)
      replace f52 := f52.st st1308 (by decide)
      replace f900040 := f900040.st st1308 (by decide)
      replace fg2 := fg2.st st1308 (by decide)
      replace hs := hs.loc0 st1308 (by decide)
      have hk := hk.put 54 (.string t1304) rfl
      refine x_run tab hk (k := 1) (lv := []) (ks := [0, 2, 9, 10, 11, 12, 14, 41, 42, 43]) (e' := [(0, .string t31), (2, .slice Ap2 (p2).length cp2), (9, .slice (some ad1294) (t39).length c45), (10, .pointer (some ⟨bx51, 0, none⟩)), (11, .int .i64 x1061), (12, .int .i64 x1062), (14, .string t1304), (41, .slice (some ad1294) (t39).length c45), (42, .int .i64 ((t39).length : Int)), (43, .int .i64 x1062)]) rfl trivial fun a hk => ?_
      refine wpListIn_nil ?_
      refine then_n ?_
      refine x_mid (fun a_ w_ => ∃ o1345 : Nat → Nat, Kn 128 a_ [(0, .string t31), (2, .slice Ap2 (p2).length cp2), (9, .slice (some ad1294) (t39).length c45), (10, .pointer (some ⟨bx51, 0, none⟩)), (11, .int .i64 x1061), (14, .string t1304), (41, .slice (some ad1294) (t39).length c45), (42, .int .i64 ((t39).length : Int)), (43, .int .i64 x1062)] ∧ St [] w (fun _ => 0) w_ o1345 ∧ Ft (MpF encStr false A1055 l1057) w_ o1345 83 ∧ Ft (Own encStr 9 (.slice (some ad1294) (t39).length c45) t39) w_ o1345 82 ∧ Ft (Bx bx51 84 [.int .i64 x1053, .int .i64 x1054, mv A1055, .int .i64 x1060]) w_ o1345 84 ∧ Ft (RdC (encInt .u32) Ap2 p2) w_ o1345 0 ∧ Ft (RdC (encInt .u32) (some ⟨2, 0, none⟩) glob2) w_ o1345 0 ∧ tidewracktop_TidewrackParts_j4 K x1053 x1054 l1057 x1060 x1061 x1062 lp1290 t1304 = some r) ?_ ?_
      rotate_left
      · rintro a w1346 ⟨o1345, hk, hs, f1058, f46, f52, f900040, fg2, H⟩
        rw [tidewracktop_TidewrackParts_j4] at H
        refine x_seq ?_
        refine wpIn_region_lit ?_
        refine x_run tab hk (k := 1) (lv := []) (ks := [0, 2, 9, 10, 11, 41, 42, 43, 80]) (e' := [(0, .string t31), (2, .slice Ap2 (p2).length cp2), (9, .slice (some ad1294) (t39).length c45), (10, .pointer (some ⟨bx51, 0, none⟩)), (11, .int .i64 x1061), (41, .slice (some ad1294) (t39).length c45), (42, .int .i64 ((t39).length : Int)), (43, .int .i64 x1062), (80, .string t1304)]) rfl trivial fun a hk => ?_
        refine x_op hk rfl ?_
        obtain ⟨t1350, hc1351, H⟩ := bindS H
        refine op_call hk ent_27 (vs := [.string t1304]) rfl (gram_Parse_calls K t1304 _ o1345 0 fg2 85  _ hc1351) ?_
        rintro _ w1352 ⟨o1353, A1355, c1356, rfl, st1354, f1357, hc1358⟩
        replace f1058 := f1058.st st1354 (by decide)
        replace f46 := f46.st st1354 (by decide)
        replace f52 := f52.st st1354 (by decide)
        replace f900040 := f900040.st st1354 (by decide)
        replace fg2 := fg2.st st1354 (by decide)
        replace hs := hs.loc0 st1354 (by decide)
        have hk := hk.put 81 (.tuple #[.agg #[.int .i64 t1350.1.Epoch, .int .i64 t1350.1.Kind, .slice A1355 (t1350.1.Nums).length c1356, .string t1350.1.Data], .int .i64 t1350.2]) rfl
        refine x_run tab hk (k := 3) (lv := []) (ks := [0, 2, 9, 10, 11, 41, 42, 43, 82, 83]) (e' := [(0, .string t31), (2, .slice Ap2 (p2).length cp2), (9, .slice (some ad1294) (t39).length c45), (10, .pointer (some ⟨bx51, 0, none⟩)), (11, .int .i64 x1061), (41, .slice (some ad1294) (t39).length c45), (42, .int .i64 ((t39).length : Int)), (43, .int .i64 x1062), (82, .agg #[.int .i64 t1350.1.Epoch, .int .i64 t1350.1.Kind, .slice A1355 (t1350.1.Nums).length c1356, .string t1350.1.Data]), (83, .int .i64 t1350.2)]) rfl trivial fun a hk => ?_
        refine x_op hk rfl ?_
        refine op_alloc (o := o1353) tab (t := 77) (cs := [.int .i64 0, .int .i64 0, .slice none 0 0, .string (⟨#[]⟩ : ByteArray)]) rfl rfl 86 fun bx1362 w1359 o1360 st1361 f1363 => ?_
        replace f1058 := f1058.st st1361 (by decide)
        replace f1357 := f1357.st st1361 (by decide)
        replace f46 := f46.st st1361 (by decide)
        replace f52 := f52.st st1361 (by decide)
        replace f900040 := f900040.st st1361 (by decide)
        replace fg2 := fg2.st st1361 (by decide)
        replace hs := hs.loc0 st1361 (by decide)
        have hk := hk.put 18 (.pointer (some ⟨bx1362, 0, none⟩)) rfl
        refine x_op hk rfl ?_
        refine op_store tab hk (t := 77) (v := .agg #[.int .i64 t1350.1.Epoch, .int .i64 t1350.1.Kind, .slice A1355 (t1350.1.Nums).length c1356, .string t1350.1.Data]) (b := bx1362) (k := 0) (cs' := [.int .i64 t1350.1.Epoch, .int .i64 t1350.1.Kind, .slice A1355 (t1350.1.Nums).length c1356, .string t1350.1.Data]) rfl rfl rfl rfl rfl rfl f1363 rfl rfl fun w1364 o1365 st1366 f1363_ => ?_
        replace f1058 := f1058.st st1366 (by decide)
        replace f1357 := f1357.st st1366 (by decide)
        replace f46 := f46.st st1366 (by decide)
        replace f52 := f52.st st1366 (by decide)
        replace f900040 := f900040.st st1366 (by decide)
        replace fg2 := fg2.st st1366 (by decide)
        replace hs := hs.loc0 st1366 (by decide)
        replace f1363 := f1363_
        refine x_run tab hk (k := 1) (lv := []) (ks := [0, 2, 9, 10, 11, 18, 19, 41, 42, 43]) (e' := [(0, .string t31), (2, .slice Ap2 (p2).length cp2), (9, .slice (some ad1294) (t39).length c45), (10, .pointer (some ⟨bx51, 0, none⟩)), (11, .int .i64 x1061), (18, .pointer (some ⟨bx1362, 0, none⟩)), (19, .int .i64 t1350.2), (41, .slice (some ad1294) (t39).length c45), (42, .int .i64 ((t39).length : Int)), (43, .int .i64 x1062)]) rfl trivial fun a hk => ?_
        refine wpListIn_nil ?_
        refine then_n ?_
        refine x_seq ?_
        refine xd_begin (o := o1365) (fun W_ => (Bx bx1362 77 [.int .i64 t1350.1.Epoch, .int .i64 t1350.1.Kind, .slice A1355 (t1350.1.Nums).length c1356, .string t1350.1.Data]) W_ ∧ True) mixed rfl rfl fun w1443 st1444 => ?_
        replace f1058 := f1058.st st1444 (by decide)
        replace f1357 := f1357.st st1444 (by decide)
        replace f1363 := f1363.st st1444 (by decide)
        replace f46 := f46.st st1444 (by decide)
        replace f52 := f52.st st1444 (by decide)
        replace f900040 := f900040.st st1444 (by decide)
        replace fg2 := fg2.st st1444 (by decide)
        replace hs := hs.loc0 st1444 (by decide)
        refine xd_take tab hk (k := 11) (is := [0, 1, 2]) (ls' := #[true, true, true, false, false, false, false, false, false, false, false, false, false, false]) (lv := []) (ks := [0, 2, 9, 10, 11, 18, 41, 42, 43, 86]) (e' := [(0, .string t31), (2, .slice Ap2 (p2).length cp2), (9, .slice (some ad1294) (t39).length c45), (10, .pointer (some ⟨bx51, 0, none⟩)), (11, .int .i64 x1061), (18, .pointer (some ⟨bx1362, 0, none⟩)), (41, .slice (some ad1294) (t39).length c45), (42, .int .i64 ((t39).length : Int)), (43, .int .i64 x1062), (86, .bool (t1350.2 != (0 : Int)))]) (by kernel_rfl) rfl rfl (by kernel_rfl) (np_then (np_blk (np_then (np_then (np_blk (np_then np_body)))))) ⟨f1363.now, trivial⟩ (fun W_ hS => trivial) fun a hk => ?_
        cases b1445 : (t1350.2 != (0 : Int))
        · rw [b1445] at hk H
          replace H := bifF H
          refine xd_take tab hk (k := 6) (is := [3, 5, 7, 9, 10]) (ls' := #[true, true, true, true, false, true, false, true, false, true, true, false, false, false]) (lv := [.agg #[.int .i64 t1350.1.Epoch, .int .i64 t1350.1.Kind, .slice A1355 (t1350.1.Nums).length c1356, .string t1350.1.Data], .agg #[.int .i64 t1350.1.Epoch, .int .i64 t1350.1.Kind, .slice A1355 (t1350.1.Nums).length c1356, .string t1350.1.Data], .agg #[.int .i64 t1350.1.Epoch, .int .i64 t1350.1.Kind, .slice A1355 (t1350.1.Nums).length c1356, .string t1350.1.Data], .string t1350.1.Data]) (ks := [0, 2, 9, 10, 11, 41, 42, 43, 86, 87, 89, 91, 94]) (e' := [(0, .string t31), (2, .slice Ap2 (p2).length cp2), (9, .slice (some ad1294) (t39).length c45), (10, .pointer (some ⟨bx51, 0, none⟩)), (11, .int .i64 x1061), (41, .slice (some ad1294) (t39).length c45), (42, .int .i64 ((t39).length : Int)), (43, .int .i64 x1062), (86, .bool false), (87, .agg #[.int .i64 t1350.1.Epoch, .int .i64 t1350.1.Kind, .slice A1355 (t1350.1.Nums).length c1356, .string t1350.1.Data]), (89, .agg #[.int .i64 t1350.1.Epoch, .int .i64 t1350.1.Kind, .slice A1355 (t1350.1.Nums).length c1356, .string t1350.1.Data]), (91, .agg #[.int .i64 t1350.1.Epoch, .int .i64 t1350.1.Kind, .slice A1355 (t1350.1.Nums).length c1356, .string t1350.1.Data]), (94, .string t1350.1.Data)]) (by kernel_rfl) rfl rfl (by kernel_rfl) (np_then (np_blk (np_then (np_then (np_blk (np_then np_body)))))) ⟨f1363.now, trivial⟩ (fun W_ hS => ⟨(load_box tab rfl rfl hS.1 (k := 0) rfl rfl), (load_box tab rfl rfl hS.1 (k := 0) rfl rfl), (load_box tab rfl rfl hS.1 (k := 0) rfl rfl), (load1 tab rfl ((Bx.cell hS.1 3).trans rfl)), trivial⟩) fun a hk => ?_
          refine xd_op hk (i := 4) (by kernel_rfl) rfl rfl ?_
          obtain ⟨t1449, hc1450, H⟩ := bindS H
          refine op_call hk ent_32 (vs := [.agg #[.int .i64 t1350.1.Epoch, .int .i64 t1350.1.Kind, .slice A1355 (t1350.1.Nums).length c1356, .string t1350.1.Data], .int .i64 0]) rfl (gram_Gram_Num_calls A1355 c1356 t1350.1 0 _ o1365 _ (f1357.imp fun _ h_ => Own.rd h_) hc1358   _ hc1450) ?_
          rintro _ w1451 ⟨o1452, rfl, st1453⟩
          replace f1058 := f1058.st st1453 (by decide)
          replace f1357 := f1357.st st1453 (by decide)
          replace f1363 := f1363.st st1453 (by decide)
          replace f46 := f46.st st1453 (by decide)
          replace f52 := f52.st st1453 (by decide)
          replace f900040 := f900040.st st1453 (by decide)
          replace fg2 := fg2.st st1453 (by decide)
          replace hs := hs.loc0 st1453 (by decide)
          have hk := hk.put 88 (.int .i64 t1449) rfl
          refine ⟨.inr ⟨f1363.now, trivial⟩, ?_⟩
          refine xd_op hk (i := 6) (by kernel_rfl) rfl rfl ?_
          obtain ⟨t1457, hc1458, H⟩ := bindS H
          refine op_call hk ent_32 (vs := [.agg #[.int .i64 t1350.1.Epoch, .int .i64 t1350.1.Kind, .slice A1355 (t1350.1.Nums).length c1356, .string t1350.1.Data], .int .i64 1]) rfl (gram_Gram_Num_calls A1355 c1356 t1350.1 1 _ o1452 _ (f1357.imp fun _ h_ => Own.rd h_) hc1358   _ hc1458) ?_
          rintro _ w1459 ⟨o1460, rfl, st1461⟩
          replace f1058 := f1058.st st1461 (by decide)
          replace f1357 := f1357.st st1461 (by decide)
          replace f1363 := f1363.st st1461 (by decide)
          replace f46 := f46.st st1461 (by decide)
          replace f52 := f52.st st1461 (by decide)
          replace f900040 := f900040.st st1461 (by decide)
          replace fg2 := fg2.st st1461 (by decide)
          replace hs := hs.loc0 st1461 (by decide)
          have hk := hk.put 90 (.int .i64 t1457) rfl
          refine ⟨.inr ⟨f1363.now, trivial⟩, ?_⟩
          refine xd_op hk (i := 8) (by kernel_rfl) rfl rfl ?_
          obtain ⟨t1465, hc1466, H⟩ := bindS H
          refine op_call hk ent_32 (vs := [.agg #[.int .i64 t1350.1.Epoch, .int .i64 t1350.1.Kind, .slice A1355 (t1350.1.Nums).length c1356, .string t1350.1.Data], .int .i64 2]) rfl (gram_Gram_Num_calls A1355 c1356 t1350.1 2 _ o1460 _ (f1357.imp fun _ h_ => Own.rd h_) hc1358   _ hc1466) ?_
          rintro _ w1467 ⟨o1468, rfl, st1469⟩
          replace f1058 := f1058.st st1469 (by decide)
          replace f1357 := f1357.st st1469 (by decide)
          replace f1363 := f1363.st st1469 (by decide)
          replace f46 := f46.st st1469 (by decide)
          replace f52 := f52.st st1469 (by decide)
          replace f900040 := f900040.st st1469 (by decide)
          replace fg2 := fg2.st st1469 (by decide)
          replace hs := hs.loc0 st1469 (by decide)
          have hk := hk.put 92 (.int .i64 t1465) rfl
          refine ⟨.inr ⟨f1363.now, trivial⟩, ?_⟩
          refine xd_op hk (i := 11) (by kernel_rfl) rfl rfl ?_
          obtain ⟨t1473, hc1474, H⟩ := bindS H
          refine op_call hk ent_31 (vs := [.pointer (some ⟨bx51, 0, none⟩), .int .i64 t1449, .int .i64 t1457, .int .i64 t1465, .string t1350.1.Data]) rfl (parts_Slot_Put_calls bx51 A1055 c1056 (⟨x1053, x1054, l1057, x1060⟩ : T83) t1449 t1457 t1465 t1350.1.Data _ o1468 84 f52 83 f1058 hc1059 (by decide)   _ hc1474) ?_
          rintro _ w1475 ⟨o1476, A1479, c1480, rfl, st1477, f1478, f1481, hc1482⟩
          replace f1357 := f1357.st st1477 (by decide)
          replace f1363 := f1363.st st1477 (by decide)
          replace f46 := f46.st st1477 (by decide)
          replace f900040 := f900040.st st1477 (by decide)
          replace fg2 := fg2.st st1477 (by decide)
          replace hs := hs.loc0 st1477 (by decide)
          have hk := hk.put 95 (.int .i64 t1473.1) rfl
          refine ⟨.inr ⟨f1363.now, trivial⟩, ?_⟩
          refine xd_take tab hk (k := 0) (is := [12, 13]) (ls' := #[true, true, true, true, true, true, true, true, true, true, true, true, true, true]) (lv := []) (ks := [0, 2, 9, 10, 11, 41, 42, 43, 97]) (e' := [(0, .string t31), (2, .slice Ap2 (p2).length cp2), (9, .slice (some ad1294) (t39).length c45), (10, .pointer (some ⟨bx51, 0, none⟩)), (11, .int .i64 x1061), (41, .slice (some ad1294) (t39).length c45), (42, .int .i64 ((t39).length : Int)), (43, .int .i64 x1062), (97, .bool (t1473.1 != (0 : Int)))]) (by kernel_rfl) rfl rfl (by kernel_rfl) (np_then (np_blk (np_then (np_then (np_blk (np_then np_body)))))) ⟨f1363.now, trivial⟩ (fun W_ hS => trivial) fun a hk => ?_
          refine xd_done (by kernel_rfl) ?_
          refine then_n ?_
          cases b1483 : (t1473.1 != (0 : Int))
          · rw [b1483] at hk H
            replace H := bifF H
            refine x_if hk (b := false) rfl ?_
            refine (show Code.wpIn _ _ _ _ _ _ _ from ?_)
            refine wpIn_skip ?_
            refine blk_n ?_
            refine then_n ?_
            refine wpIn_region_lit ?_
            refine x_run tab hk (k := 2) (lv := []) (ks := [0, 2, 9, 10, 11, 41, 42, 43]) (e' := [(0, .string t31), (2, .slice Ap2 (p2).length cp2), (9, .slice (some ad1294) (t39).length c45), (10, .pointer (some ⟨bx51, 0, none⟩)), (11, .int .i64 x1061), (41, .slice (some ad1294) (t39).length c45), (42, .int .i64 ((t39).length : Int)), (43, .int .i64 (IntKind.wrap .i64 (x1062 + 1)))]) rfl trivial fun a hk => ?_
            refine wpListIn_nil ?_
            refine then_n ?_
            exact ⟨k1289, Nat.le_refl _, (fun b_ => (fun l_ => if l_ = 82 then 66 else if l_ = 83 then 67 else if l_ = 84 then 68 else l_) (o1476 b_)), t1473.2.key, t1473.2.count, A1479, c1480, t1473.2.parts, t1473.2.bytes, x1061, (IntKind.wrap .i64 (x1062 + 1)), (by exact Kn.pick (ks := [0, 2, 9, 10, 11, 41, 42, 43]) hk rfl), (hs.relab0 (fun l_ => if l_ = 82 then 66 else if l_ = 83 then 67 else if l_ = 84 then 68 else l_) rfl), (f1481.relab (fun l_ => if l_ = 82 then 66 else if l_ = 83 then 67 else if l_ = 84 then 68 else l_) rfl), (f46.relab (fun l_ => if l_ = 82 then 66 else if l_ = 83 then 67 else if l_ = 84 then 68 else l_) rfl), (f1478.relab (fun l_ => if l_ = 82 then 66 else if l_ = 83 then 67 else if l_ = 84 then 68 else l_) rfl), (f900040.relab (fun l_ => if l_ = 82 then 66 else if l_ = 83 then 67 else if l_ = 84 then 68 else l_) rfl), (fg2.relab (fun l_ => if l_ = 82 then 66 else if l_ = 83 then 67 else if l_ = 84 then 68 else l_) rfl), hc1482, (hlp1291 ▸ H)⟩
          · rw [b1483] at hk H
            replace H := bifT H
            refine x_if hk (b := true) rfl ?_
            refine (show Code.wpIn _ _ _ _ _ _ _ from ?_)
            refine x_seq ?_
            refine wpIn_region_lit ?_
            refine x_run tab hk (k := 1) (lv := []) (ks := [6]) (e' := [(6, .bool false)]) rfl trivial fun a hk => ?_
            refine wpListIn_nil ?_
            refine then_n ?_
            refine wpIn_ret ?_
            refine blk_r ?_
            refine then_r ?_
            refine then_r ?_
            refine blk_r ?_
            refine then_r ?_
            obtain rfl := Option.some.inj H
            exact x_retG hk (rs := [.tmp 6]) (vs := [.bool false]) rfl ⟨rfl, trivial⟩ ⟨fun b_ => if b_ < w.heap.size then o b_ else (fun _ => 0) (o1476 b_), rfl, hs.close0 o (fun _ => 0)⟩
        · rw [b1445] at hk H
          replace H := bifT H
          refine xd_take tab hk (k := 0) (is := [3, 4, 5, 6, 7, 8, 9, 10, 11, 12, 13]) (ls' := #[true, true, true, true, true, true, true, true, true, true, true, true, true, true]) (lv := []) (ks := [0, 2, 9, 10, 11, 41, 42, 43, 97]) (e' := [(0, .string t31), (2, .slice Ap2 (p2).length cp2), (9, .slice (some ad1294) (t39).length c45), (10, .pointer (some ⟨bx51, 0, none⟩)), (11, .int .i64 x1061), (41, .slice (some ad1294) (t39).length c45), (42, .int .i64 ((t39).length : Int)), (43, .int .i64 x1062), (97, .bool true)]) (by kernel_rfl) rfl rfl (by kernel_rfl) (np_then (np_blk (np_then (np_then (np_blk (np_then np_body)))))) ⟨f1363.now, trivial⟩ (fun W_ hS => trivial) fun a hk => ?_
          refine xd_done (by kernel_rfl) ?_
          refine then_n ?_
          refine x_if hk (b := true) rfl ?_
          refine (show Code.wpIn _ _ _ _ _ _ _ from ?_)
          refine x_seq ?_
          refine wpIn_region_lit ?_
          refine x_run tab hk (k := 1) (lv := []) (ks := [6]) (e' := [(6, .bool false)]) rfl trivial fun a hk => ?_
          refine wpListIn_nil ?_
          refine then_n ?_
          refine wpIn_ret ?_
          refine blk_r ?_
          refine then_r ?_
          refine then_r ?_
          refine blk_r ?_
          refine then_r ?_
          obtain rfl := Option.some.inj H
          exact x_retG hk (rs := [.tmp 6]) (vs := [.bool false]) rfl ⟨rfl, trivial⟩ ⟨fun b_ => if b_ < w.heap.size then o b_ else (fun _ => 0) (o1365 b_), rfl, hs.close0 o (fun _ => 0)⟩
      refine x_seq ?_
      refine wpIn_region_lit ?_
      refine x_run tab hk (k := 4) (lv := []) (ks := [0, 2, 9, 10, 11, 12, 14, 41, 42, 43, 58]) (e' := [(0, .string t31), (2, .slice Ap2 (p2).length cp2), (9, .slice (some ad1294) (t39).length c45), (10, .pointer (some ⟨bx51, 0, none⟩)), (11, .int .i64 x1061), (12, .int .i64 x1062), (14, .string t1304), (41, .slice (some ad1294) (t39).length c45), (42, .int .i64 ((t39).length : Int)), (43, .int .i64 x1062), (58, .bool (decide (x1062 < ((p2).length : Int))))]) rfl trivial fun a hk => ?_
      refine wpListIn_nil ?_
      refine then_n ?_
      cases b1484 : (decide (x1062 < ((p2).length : Int)))
      · rw [b1484] at hk H
        replace H := bifF H
        refine x_if hk (b := false) rfl ?_
        refine (show Code.wpIn _ _ _ _ _ _ _ from ?_)
        refine wpIn_skip ?_
        refine then_n ?_
        exact ⟨(fun b_ => (fun l_ => if l_ = 66 then 82 else if l_ = 67 then 83 else if l_ = 68 then 84 else l_) (o1307 b_)), (by exact Kn.pick (ks := [0, 2, 9, 10, 11, 14, 41, 42, 43]) hk rfl), (hs.relab0 (fun l_ => if l_ = 66 then 82 else if l_ = 67 then 83 else if l_ = 68 then 84 else l_) rfl), (f1058.relab (fun l_ => if l_ = 66 then 82 else if l_ = 67 then 83 else if l_ = 68 then 84 else l_) rfl), (f46.relab (fun l_ => if l_ = 66 then 82 else if l_ = 67 then 83 else if l_ = 68 then 84 else l_) rfl), (f52.relab (fun l_ => if l_ = 66 then 82 else if l_ = 67 then 83 else if l_ = 68 then 84 else l_) rfl), (f900040.relab (fun l_ => if l_ = 66 then 82 else if l_ = 67 then 83 else if l_ = 68 then 84 else l_) rfl), (fg2.relab (fun l_ => if l_ = 66 then 82 else if l_ = 67 then 83 else if l_ = 68 then 84 else l_) rfl), H⟩
      · rw [b1484] at hk H
        replace H := bifT H
        refine x_if hk (b := true) rfl ?_
        refine (show Code.wpIn _ _ _ _ _ _ _ from ?_)
        refine x_seq ?_
        refine wpIn_region_lit ?_
        obtain ⟨q1485, H⟩ := ifS H
        obtain ⟨ad1486, hAad1486⟩ := RdC.addr f900040.now q1485
        have hk_C := hk
        have f1058_C := f1058
        have f46_C := f46
        have f52_C := f52
        have f900040_C := f900040
        have fg2_C := fg2
        subst hAad1486
        have hk := hk_C
        clear hk_C
        have f1058 := f1058_C
        clear f1058_C
        have f46 := f46_C
        clear f46_C
        have f52 := f52_C
        clear f52_C
        have f900040 := f900040_C
        clear f900040_C
        have fg2 := fg2_C
        clear fg2_C
        refine x_run tab hk (k := 7) (lv := [.int .u32 (rdD 0 p2 x1062)]) (ks := [0, 2, 9, 10, 11, 14, 41, 42, 43, 59, 61, 65]) (e' := [(0, .string t31), (2, .slice (some ad1486) (p2).length cp2), (9, .slice (some ad1294) (t39).length c45), (10, .pointer (some ⟨bx51, 0, none⟩)), (11, .int .i64 x1061), (14, .string t1304), (41, .slice (some ad1294) (t39).length c45), (42, .int .i64 ((t39).length : Int)), (43, .int .i64 x1062), (59, .string t1304), (61, .int .i64 (IntKind.wrap .i64 (7 * x1062))), (65, .int .u32 (rdD 0 p2 x1062))]) rfl ⟨q1485, (load1 tab rfl (RdC.at0 (E := (encInt .u32)) (d := 0) (i := x1062) f900040.now q1485 rfl)), trivial⟩ fun a hk => ?_
        refine x_op hk rfl ?_
        obtain ⟨t1490, hc1491, H⟩ := bindS H
        refine op_call hk ent_30 (vs := [.string t1304, .int .i64 (IntKind.wrap .i64 (7 * x1062)), .int .u32 (rdD 0 p2 x1062)]) rfl (sum_Turn_calls K t1304 (IntKind.wrap .i64 (7 * x1062)) (rdD 0 p2 x1062) _ o1307    _ hc1491) ?_
        rintro _ w1492 ⟨o1493, rfl, st1494⟩
        replace f1058 := f1058.st st1494 (by decide)
        replace f46 := f46.st st1494 (by decide)
        replace f52 := f52.st st1494 (by decide)
        replace f900040 := f900040.st st1494 (by decide)
        replace fg2 := fg2.st st1494 (by decide)
        replace hs := hs.loc0 st1494 (by decide)
        have hk := hk.put 66 (.string t1490) rfl
        refine x_run tab hk (k := 1) (lv := []) (ks := [0, 2, 9, 10, 11, 14, 15, 41, 42, 43]) (e' := [(0, .string t31), (2, .slice (some ad1486) (p2).length cp2), (9, .slice (some ad1294) (t39).length c45), (10, .pointer (some ⟨bx51, 0, none⟩)), (11, .int .i64 x1061), (14, .string t1304), (15, .string t1490), (41, .slice (some ad1294) (t39).length c45), (42, .int .i64 ((t39).length : Int)), (43, .int .i64 x1062)]) rfl trivial fun a hk => ?_
        refine wpListIn_nil ?_
        refine then_n ?_
        refine x_seq ?_
        refine wpIn_region_lit ?_
        refine x_run tab hk (k := 3) (lv := []) (ks := [0, 2, 9, 10, 11, 14, 15, 41, 42, 43, 69]) (e' := [(0, .string t31), (2, .slice (some ad1486) (p2).length cp2), (9, .slice (some ad1294) (t39).length c45), (10, .pointer (some ⟨bx51, 0, none⟩)), (11, .int .i64 x1061), (14, .string t1304), (15, .string t1490), (41, .slice (some ad1294) (t39).length c45), (42, .int .i64 ((t39).length : Int)), (43, .int .i64 x1062), (69, .bool (!(ByteArray.toList t1490 == ByteArray.toList t1304)))]) rfl trivial fun a hk => ?_
        refine wpListIn_nil ?_
        refine then_n ?_
        cases b1495 : (!(ByteArray.toList t1490 == ByteArray.toList t1304))
        · rw [b1495] at hk H
          replace H := bifF H
          refine x_if hk (b := false) rfl ?_
          refine (show Code.wpIn _ _ _ _ _ _ _ from ?_)
          refine wpIn_skip ?_
          refine then_n ?_
          exact ⟨(fun b_ => (fun l_ => if l_ = 66 then 82 else if l_ = 67 then 83 else if l_ = 68 then 84 else l_) (o1493 b_)), (by exact Kn.pick (ks := [0, 2, 9, 10, 11, 14, 41, 42, 43]) hk rfl), (hs.relab0 (fun l_ => if l_ = 66 then 82 else if l_ = 67 then 83 else if l_ = 68 then 84 else l_) rfl), (f1058.relab (fun l_ => if l_ = 66 then 82 else if l_ = 67 then 83 else if l_ = 68 then 84 else l_) rfl), (f46.relab (fun l_ => if l_ = 66 then 82 else if l_ = 67 then 83 else if l_ = 68 then 84 else l_) rfl), (f52.relab (fun l_ => if l_ = 66 then 82 else if l_ = 67 then 83 else if l_ = 68 then 84 else l_) rfl), (f900040.relab (fun l_ => if l_ = 66 then 82 else if l_ = 67 then 83 else if l_ = 68 then 84 else l_) rfl), (fg2.relab (fun l_ => if l_ = 66 then 82 else if l_ = 67 then 83 else if l_ = 68 then 84 else l_) rfl), H⟩
        · rw [b1495] at hk H
          replace H := bifT H
          refine x_if hk (b := true) rfl ?_
          refine (show Code.wpIn _ _ _ _ _ _ _ from ?_)
          refine x_seq ?_
          refine x_seq ?_
          refine wpIn_region_lit ?_
          refine x_run tab hk (k := 1) (lv := []) (ks := [0, 2, 9, 10, 11, 41, 42, 43, 71]) (e' := [(0, .string t31), (2, .slice (some ad1486) (p2).length cp2), (9, .slice (some ad1294) (t39).length c45), (10, .pointer (some ⟨bx51, 0, none⟩)), (11, .int .i64 x1061), (41, .slice (some ad1294) (t39).length c45), (42, .int .i64 ((t39).length : Int)), (43, .int .i64 x1062), (71, .string t1490)]) rfl trivial fun a hk => ?_
          refine x_op hk rfl ?_
          obtain ⟨t1499, hc1500, H⟩ := bindS H
          refine op_call hk ent_27 (vs := [.string t1490]) rfl (gram_Parse_calls K t1490 _ o1493 0 fg2 87  _ hc1500) ?_
          rintro _ w1501 ⟨o1502, A1504, c1505, rfl, st1503, f1506, hc1507⟩
          replace f1058 := f1058.st st1503 (by decide)
          replace f46 := f46.st st1503 (by decide)
          replace f52 := f52.st st1503 (by decide)
          replace f900040 := f900040.st st1503 (by decide)
          replace fg2 := fg2.st st1503 (by decide)
          replace hs := hs.loc0 st1503 (by decide)
          have hk := hk.put 72 (.tuple #[.agg #[.int .i64 t1499.1.Epoch, .int .i64 t1499.1.Kind, .slice A1504 (t1499.1.Nums).length c1505, .string t1499.1.Data], .int .i64 t1499.2]) rfl
          refine x_run tab hk (k := 3) (lv := []) (ks := [0, 2, 9, 10, 11, 41, 42, 43, 73, 74]) (e' := [(0, .string t31), (2, .slice (some ad1486) (p2).length cp2), (9, .slice (some ad1294) (t39).length c45), (10, .pointer (some ⟨bx51, 0, none⟩)), (11, .int .i64 x1061), (41, .slice (some ad1294) (t39).length c45), (42, .int .i64 ((t39).length : Int)), (43, .int .i64 x1062), (73, .agg #[.int .i64 t1499.1.Epoch, .int .i64 t1499.1.Kind, .slice A1504 (t1499.1.Nums).length c1505, .string t1499.1.Data]), (74, .int .i64 t1499.2)]) rfl trivial fun a hk => ?_
          refine x_op hk rfl ?_
          refine op_alloc (o := o1502) tab (t := 77) (cs := [.int .i64 0, .int .i64 0, .slice none 0 0, .string (⟨#[]⟩ : ByteArray)]) rfl rfl 88 fun bx1511 w1508 o1509 st1510 f1512 => ?_
          replace f1058 := f1058.st st1510 (by decide)
          replace f1506 := f1506.st st1510 (by decide)
          replace f46 := f46.st st1510 (by decide)
          replace f52 := f52.st st1510 (by decide)
          replace f900040 := f900040.st st1510 (by decide)
          replace fg2 := fg2.st st1510 (by decide)
          replace hs := hs.loc0 st1510 (by decide)
          have hk := hk.put 16 (.pointer (some ⟨bx1511, 0, none⟩)) rfl
          refine x_op hk rfl ?_
          refine op_store tab hk (t := 77) (v := .agg #[.int .i64 t1499.1.Epoch, .int .i64 t1499.1.Kind, .slice A1504 (t1499.1.Nums).length c1505, .string t1499.1.Data]) (b := bx1511) (k := 0) (cs' := [.int .i64 t1499.1.Epoch, .int .i64 t1499.1.Kind, .slice A1504 (t1499.1.Nums).length c1505, .string t1499.1.Data]) rfl rfl rfl rfl rfl rfl f1512 rfl rfl fun w1513 o1514 st1515 f1512_ => ?_
          replace f1058 := f1058.st st1515 (by decide)
          replace f1506 := f1506.st st1515 (by decide)
          replace f46 := f46.st st1515 (by decide)
          replace f52 := f52.st st1515 (by decide)
          replace f900040 := f900040.st st1515 (by decide)
          replace fg2 := fg2.st st1515 (by decide)
          replace hs := hs.loc0 st1515 (by decide)
          replace f1512 := f1512_
          refine x_run tab hk (k := 1) (lv := []) (ks := [0, 2, 9, 10, 11, 17, 41, 42, 43]) (e' := [(0, .string t31), (2, .slice (some ad1486) (p2).length cp2), (9, .slice (some ad1294) (t39).length c45), (10, .pointer (some ⟨bx51, 0, none⟩)), (11, .int .i64 x1061), (17, .int .i64 t1499.2), (41, .slice (some ad1294) (t39).length c45), (42, .int .i64 ((t39).length : Int)), (43, .int .i64 x1062)]) rfl trivial fun a hk => ?_
          refine wpListIn_nil ?_
          refine then_n ?_
          refine x_seq ?_
          refine wpIn_region_lit ?_
          refine x_run tab hk (k := 2) (lv := []) (ks := [0, 2, 9, 10, 11, 41, 42, 43, 76]) (e' := [(0, .string t31), (2, .slice (some ad1486) (p2).length cp2), (9, .slice (some ad1294) (t39).length c45), (10, .pointer (some ⟨bx51, 0, none⟩)), (11, .int .i64 x1061), (41, .slice (some ad1294) (t39).length c45), (42, .int .i64 ((t39).length : Int)), (43, .int .i64 x1062), (76, .bool (t1499.2 == (0 : Int)))]) rfl trivial fun a hk => ?_
          refine wpListIn_nil ?_
          refine then_n ?_
          cases b1516 : (t1499.2 == (0 : Int))
          · rw [b1516] at hk H
            replace H := bifF H
            refine x_if hk (b := false) rfl ?_
            refine (show Code.wpIn _ _ _ _ _ _ _ from ?_)
            refine wpIn_skip ?_
            refine then_n ?_
            refine x_seq ?_
            refine wpIn_region_lit ?_
            refine x_run tab hk (k := 3) (lv := []) (ks := [0, 2, 9, 10, 11, 41, 42, 43]) (e' := [(0, .string t31), (2, .slice (some ad1486) (p2).length cp2), (9, .slice (some ad1294) (t39).length c45), (10, .pointer (some ⟨bx51, 0, none⟩)), (11, .int .i64 (IntKind.wrap .i64 (x1061 + 1))), (41, .slice (some ad1294) (t39).length c45), (42, .int .i64 ((t39).length : Int)), (43, .int .i64 x1062)]) rfl trivial fun a hk => ?_
            refine wpListIn_nil ?_
            refine then_n ?_
            refine wpIn_exit ?_
            refine then_x ?_
            refine blk_x ?_
            refine then_n ?_
            refine wpIn_region_lit ?_
            refine x_run tab hk (k := 2) (lv := []) (ks := [0, 2, 9, 10, 11, 41, 42, 43]) (e' := [(0, .string t31), (2, .slice (some ad1486) (p2).length cp2), (9, .slice (some ad1294) (t39).length c45), (10, .pointer (some ⟨bx51, 0, none⟩)), (11, .int .i64 (IntKind.wrap .i64 (x1061 + 1))), (41, .slice (some ad1294) (t39).length c45), (42, .int .i64 ((t39).length : Int)), (43, .int .i64 (IntKind.wrap .i64 (x1062 + 1)))]) rfl trivial fun a hk => ?_
            refine wpListIn_nil ?_
            refine then_n ?_
            exact ⟨k1289, Nat.le_refl _, o1514, x1053, x1054, A1055, c1056, l1057, x1060, (IntKind.wrap .i64 (x1061 + 1)), (IntKind.wrap .i64 (x1062 + 1)), (by exact Kn.pick (ks := [0, 2, 9, 10, 11, 41, 42, 43]) hk rfl), hs, f1058, f46, f52, f900040, fg2, hc1059, (hlp1291 ▸ H)⟩
          · rw [b1516] at hk H
            replace H := bifT H
            refine x_if hk (b := true) rfl ?_
            refine (show Code.wpIn _ _ _ _ _ _ _ from ?_)
            refine x_seq ?_
            refine wpIn_region_lit ?_
            refine x_run tab hk (k := 1) (lv := []) (ks := [6]) (e' := [(6, .bool false)]) rfl trivial fun a hk => ?_
            refine wpListIn_nil ?_
            refine then_n ?_
            refine wpIn_ret ?_
            refine then_r ?_
            refine then_r ?_
            refine blk_r ?_
            refine then_r ?_
            refine then_r ?_
            refine blk_r ?_
            refine then_r ?_
            obtain rfl := Option.some.inj H
            exact x_retG hk (rs := [.tmp 6]) (vs := [.bool false]) rfl ⟨rfl, trivial⟩ ⟨fun b_ => if b_ < w.heap.size then o b_ else (fun _ => 0) (o1514 b_), rfl, hs.close0 o (fun _ => 0)⟩
  refine x_seq ?_
  refine wpIn_region_lit ?_
  refine x_op hk rfl ?_
  obtain ⟨t1520, hc1521, H⟩ := bindS H
  refine op_call hk ent_27 (vs := [.string (⟨#[]⟩ : ByteArray)]) rfl (gram_Parse_calls K (⟨#[]⟩ : ByteArray) _ o0 0 fg2 89  _ hc1521) ?_
  rintro _ w1522 ⟨o1523, A1525, c1526, rfl, st1524, f1527, hc1528⟩
  replace f900040 := f900040.st st1524 (by decide)
  replace fg2 := fg2.st st1524 (by decide)
  replace hs := hs.loc0 st1524 (by decide)
  have hk := hk.put 23 (.tuple #[.agg #[.int .i64 t1520.1.Epoch, .int .i64 t1520.1.Kind, .slice A1525 (t1520.1.Nums).length c1526, .string t1520.1.Data], .int .i64 t1520.2]) rfl
  refine x_run tab hk (k := 3) (lv := []) (ks := [0, 1, 2, 24, 25]) (e' := [(0, .string p0), (1, .int .i64 p1), (2, .slice Ap2 (p2).length cp2), (24, .agg #[.int .i64 t1520.1.Epoch, .int .i64 t1520.1.Kind, .slice A1525 (t1520.1.Nums).length c1526, .string t1520.1.Data]), (25, .int .i64 t1520.2)]) rfl trivial fun a hk => ?_
  refine x_op hk rfl ?_
  refine op_alloc (o := o1523) tab (t := 77) (cs := [.int .i64 0, .int .i64 0, .slice none 0 0, .string (⟨#[]⟩ : ByteArray)]) rfl rfl 90 fun bx1532 w1529 o1530 st1531 f1533 => ?_
  replace f1527 := f1527.st st1531 (by decide)
  replace f900040 := f900040.st st1531 (by decide)
  replace fg2 := fg2.st st1531 (by decide)
  replace hs := hs.loc0 st1531 (by decide)
  have hk := hk.put 7 (.pointer (some ⟨bx1532, 0, none⟩)) rfl
  refine x_op hk rfl ?_
  refine op_store tab hk (t := 77) (v := .agg #[.int .i64 t1520.1.Epoch, .int .i64 t1520.1.Kind, .slice A1525 (t1520.1.Nums).length c1526, .string t1520.1.Data]) (b := bx1532) (k := 0) (cs' := [.int .i64 t1520.1.Epoch, .int .i64 t1520.1.Kind, .slice A1525 (t1520.1.Nums).length c1526, .string t1520.1.Data]) rfl rfl rfl rfl rfl rfl f1533 rfl rfl fun w1534 o1535 st1536 f1533_ => ?_
  replace f1527 := f1527.st st1536 (by decide)
  replace f900040 := f900040.st st1536 (by decide)
  replace fg2 := fg2.st st1536 (by decide)
  replace hs := hs.loc0 st1536 (by decide)
  replace f1533 := f1533_
  refine x_run tab hk (k := 1) (lv := []) (ks := [0, 1, 2, 7, 8]) (e' := [(0, .string p0), (1, .int .i64 p1), (2, .slice Ap2 (p2).length cp2), (7, .pointer (some ⟨bx1532, 0, none⟩)), (8, .int .i64 t1520.2)]) rfl trivial fun a hk => ?_
  refine wpListIn_nil ?_
  refine then_n ?_
  refine x_seq ?_
  refine wpIn_region_lit ?_
  refine x_run tab hk (k := 3) (lv := []) (ks := [0, 1, 2, 7, 28]) (e' := [(0, .string p0), (1, .int .i64 p1), (2, .slice Ap2 (p2).length cp2), (7, .pointer (some ⟨bx1532, 0, none⟩)), (28, .bool (t1520.2 == (0 : Int)))]) rfl trivial fun a hk => ?_
  cases b1537 : (t1520.2 == (0 : Int))
  · rw [b1537] at hk H
    replace H := bifF H
    refine x_run tab hk (k := 5) (lv := [.slice A1525 (t1520.1.Nums).length c1526]) (ks := [0, 1, 2, 33]) (e' := [(0, .string p0), (1, .int .i64 p1), (2, .slice Ap2 (p2).length cp2), (33, .bool (((t1520.1.Nums).length : Int) != (0 : Int)))]) rfl ⟨(load1 tab rfl ((Bx.cell f1533.now 2).trans rfl)), trivial⟩ fun a hk => ?_
    refine wpListIn_nil ?_
    refine then_n ?_
    cases b1538 : (((t1520.1.Nums).length : Int) != (0 : Int))
    · rw [b1538] at hk H
      replace H := bifF H
      refine x_if hk (b := false) rfl ?_
      refine (show Code.wpIn _ _ _ _ _ _ _ from ?_)
      refine wpIn_skip ?_
      refine then_n ?_
      exact ⟨o1535, (by exact Kn.pick (ks := [0, 1, 2]) hk rfl), hs, f900040, fg2, H⟩
    · rw [b1538] at hk H
      replace H := bifT H
      refine x_if hk (b := true) rfl ?_
      refine (show Code.wpIn _ _ _ _ _ _ _ from ?_)
      refine x_seq ?_
      refine wpIn_region_lit ?_
      refine x_run tab hk (k := 1) (lv := []) (ks := [6]) (e' := [(6, .bool false)]) rfl trivial fun a hk => ?_
      refine wpListIn_nil ?_
      refine then_n ?_
      refine wpIn_ret ?_
      refine then_r ?_
      obtain rfl := Option.some.inj H
      exact x_retG hk (rs := [.tmp 6]) (vs := [.bool false]) rfl ⟨rfl, trivial⟩ ⟨fun b_ => if b_ < w.heap.size then o b_ else (fun _ => 0) (o1535 b_), rfl, hs.close0 o (fun _ => 0)⟩
  · rw [b1537] at hk H
    replace H := bifT H
    refine x_run tab hk (k := 5) (lv := []) (ks := [0, 1, 2, 33]) (e' := [(0, .string p0), (1, .int .i64 p1), (2, .slice Ap2 (p2).length cp2), (33, .bool true)]) rfl trivial fun a hk => ?_
    refine wpListIn_nil ?_
    refine then_n ?_
    refine x_if hk (b := true) rfl ?_
    refine (show Code.wpIn _ _ _ _ _ _ _ from ?_)
    refine x_seq ?_
    refine wpIn_region_lit ?_
    refine x_run tab hk (k := 1) (lv := []) (ks := [6]) (e' := [(6, .bool false)]) rfl trivial fun a hk => ?_
    refine wpListIn_nil ?_
    refine then_n ?_
    refine wpIn_ret ?_
    refine then_r ?_
    obtain rfl := Option.some.inj H
    exact x_retG hk (rs := [.tmp 6]) (vs := [.bool false]) rfl ⟨rfl, trivial⟩ ⟨fun b_ => if b_ < w.heap.size then o b_ else (fun _ => 0) (o1535 b_), rfl, hs.close0 o (fun _ => 0)⟩

end Go.Proofs.YtpciioffkjpieaaDoor
