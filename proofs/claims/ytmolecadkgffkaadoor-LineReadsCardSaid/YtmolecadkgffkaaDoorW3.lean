/- Walks, printed by an own program: the machine's calls compute the plain functions. -/
import Derived.Test.YtmolecadkgffkaaDoorW2
set_option linter.unusedVariables false
set_option linter.unusedSimpArgs false
namespace Go.Proofs.YtmolecadkgffkaaDoor
open Go Go.Proofs.XC
/-! tidewrack/tidewracklaw27.Is -/
theorem tidewracklaw27_Is_calls (K : Nat) (Ap0_0 : Option Addr) (cp0_0 : Nat) (p0 : T25) (Ap1_0 : Option Addr) (cp1_0 : Nat) (p1 : T25) (w : World) (o : Nat → Nat) (Lp0_0 : Nat) (hp0_0 : Ft (RdC (encInt .i64) Ap0_0 p0.Nums) w o Lp0_0) (hcp0_0 : (p0.Nums).length ≤ cp0_0) (Lp1_0 : Nat) (hp1_0 : Ft (RdC (encInt .i64) Ap1_0 p1.Nums) w o Lp1_0) (hcp1_0 : (p1.Nums).length ≤ cp1_0)  (r : Bool) (H : tidewracklaw27_Is K p0 p1 = some r) :
    Calls Tryd.prog 11 #[.agg #[.string p0.Word, .slice Ap0_0 (p0.Nums).length cp0_0, .string p0.Text], .agg #[.string p1.Word, .slice Ap1_0 (p1.Nums).length cp1_0, .string p1.Text]] w (Ret fun v_ w' => ∃ o' : Nat → Nat, v_ = .bool r ∧ St [] w o w' o') := by
  refine x_enter (vs := [.agg #[.string p0.Word, .slice Ap0_0 (p0.Nums).length cp0_0, .string p0.Text], .agg #[.string p1.Word, .slice Ap1_0 (p1.Nums).length cp1_0, .string p1.Text]]) Tryd.func11 rfl rfl rfl fun a hk => ?_
  obtain ⟨o0, hs, h0⟩ := St.start w o
  have f900000 := h0 _ _ hp0_0
  have f900020 := h0 _ _ hp1_0
  clear h0
  rw [tidewracklaw27_Is] at H
  refine x_seq ?_
  refine wpIn_region_lit ?_
  refine x_op hk rfl ?_
  refine op_box (o := o0) (t := 26) (v := .agg #[.string p0.Word, .slice Ap0_0 (p0.Nums).length cp0_0, .string p0.Text]) (cs := [.string p0.Word, .slice Ap0_0 (p0.Nums).length cp0_0, .string p0.Text]) hk rfl rfl 1 fun bx4 w1 o2 st3 f5 => ?_
  replace f900000 := f900000.st st3 (by decide)
  replace f900020 := f900020.st st3 (by decide)
  replace hs := hs.loc0 st3 (by decide)
  have hk := hk.put 2 (.pointer (some ⟨bx4, 0, none⟩)) rfl
  refine x_op hk rfl ?_
  refine op_box (o := o2) (t := 30) (v := .agg #[.string p1.Word, .slice Ap1_0 (p1.Nums).length cp1_0, .string p1.Text]) (cs := [.string p1.Word, .slice Ap1_0 (p1.Nums).length cp1_0, .string p1.Text]) hk rfl rfl 2 fun bx9 w6 o7 st8 f10 => ?_
  replace f5 := f5.st st8 (by decide)
  replace f900000 := f900000.st st8 (by decide)
  replace f900020 := f900020.st st8 (by decide)
  replace hs := hs.loc0 st8 (by decide)
  have hk := hk.put 3 (.pointer (some ⟨bx9, 0, none⟩)) rfl
  refine x_run tab hk (k := 1) (lv := []) (ks := [2, 3]) (e' := [(2, .pointer (some ⟨bx4, 0, none⟩)), (3, .pointer (some ⟨bx9, 0, none⟩))]) rfl trivial fun a hk => ?_
  refine wpListIn_nil ?_
  refine then_n ?_
  refine x_seq ?_
  refine wpIn_region_lit ?_
  refine x_run tab hk (k := 6) (lv := [.string p0.Word, .string p1.Word]) (ks := [2, 3, 10]) (e' := [(2, .pointer (some ⟨bx4, 0, none⟩)), (3, .pointer (some ⟨bx9, 0, none⟩)), (10, .bool (ByteArray.toList p0.Word == ByteArray.toList p1.Word))]) rfl ⟨(load1 tab rfl ((Bx.cell f5.now 0).trans rfl)), (load1 tab rfl ((Bx.cell f10.now 0).trans rfl)), trivial⟩ fun a hk => ?_
  cases b11 : (ByteArray.toList p0.Word == ByteArray.toList p1.Word)
  · rw [b11] at hk H
    replace H := bifF H
    refine x_run tab hk (k := 12) (lv := []) (ks := [17, 22]) (e' := [(17, .bool false), (22, undef)]) rfl trivial fun a hk => ?_
    refine x_run tab hk (k := 2) (lv := []) (ks := [4]) (e' := [(4, .bool false)]) rfl trivial fun a hk => ?_
    refine wpListIn_nil ?_
    refine then_n ?_
    refine wpIn_ret ?_
    obtain rfl := Option.some.inj H
    exact x_retG hk (rs := [.tmp 4]) (vs := [.bool false]) rfl ⟨rfl, trivial⟩ ⟨fun b_ => if b_ < w.heap.size then o b_ else (fun _ => 0) (o7 b_), rfl, hs.close0 o (fun _ => 0)⟩
  · rw [b11] at hk H
    replace H := bifT H
    refine x_run tab hk (k := 4) (lv := [.slice Ap0_0 (p0.Nums).length cp0_0, .slice Ap1_0 (p1.Nums).length cp1_0]) (ks := [2, 3, 10, 12, 14]) (e' := [(2, .pointer (some ⟨bx4, 0, none⟩)), (3, .pointer (some ⟨bx9, 0, none⟩)), (10, .bool true), (12, .slice Ap0_0 (p0.Nums).length cp0_0), (14, .slice Ap1_0 (p1.Nums).length cp1_0)]) rfl ⟨(load1 tab rfl ((Bx.cell f5.now 1).trans rfl)), (load1 tab rfl ((Bx.cell f10.now 1).trans rfl)), trivial⟩ fun a hk => ?_
    refine x_op hk rfl ?_
    obtain ⟨t15, hc16, H⟩ := bindS H
    refine op_call hk ent_21 (vs := [.slice Ap0_0 (p0.Nums).length cp0_0, .slice Ap1_0 (p1.Nums).length cp1_0]) rfl (tidewracklaw01_Same_calls K Ap0_0 cp0_0 p0.Nums Ap1_0 cp1_0 p1.Nums _ o7 _ f900000 hcp0_0 _ f900020 hcp1_0   _ hc16) ?_
    rintro _ w17 ⟨o18, rfl, st19⟩
    replace f10 := f10.st st19 (by decide)
    replace f5 := f5.st st19 (by decide)
    replace f900000 := f900000.st st19 (by decide)
    replace f900020 := f900020.st st19 (by decide)
    replace hs := hs.loc0 st19 (by decide)
    have hk := hk.put 15 (.bool t15) rfl
    refine x_run tab hk (k := 2) (lv := []) (ks := [2, 3, 17]) (e' := [(2, .pointer (some ⟨bx4, 0, none⟩)), (3, .pointer (some ⟨bx9, 0, none⟩)), (17, .bool t15)]) rfl trivial fun a hk => ?_
    cases b20 : t15
    · rw [b20] at hk H
      replace H := bifF H
      refine x_run tab hk (k := 7) (lv := []) (ks := [4]) (e' := [(4, .bool false)]) rfl trivial fun a hk => ?_
      refine wpListIn_nil ?_
      refine then_n ?_
      refine wpIn_ret ?_
      obtain rfl := Option.some.inj H
      exact x_retG hk (rs := [.tmp 4]) (vs := [.bool false]) rfl ⟨rfl, trivial⟩ ⟨fun b_ => if b_ < w.heap.size then o b_ else (fun _ => 0) (o18 b_), rfl, hs.close0 o (fun _ => 0)⟩
    · rw [b20] at hk H
      replace H := bifT H
      refine x_run tab hk (k := 7) (lv := [.string p0.Text, .string p1.Text]) (ks := [4]) (e' := [(4, .bool (ByteArray.toList p0.Text == ByteArray.toList p1.Text))]) rfl ⟨(load1 tab rfl ((Bx.cell f5.now 2).trans rfl)), (load1 tab rfl ((Bx.cell f10.now 2).trans rfl)), trivial⟩ fun a hk => ?_
      refine wpListIn_nil ?_
      refine then_n ?_
      refine wpIn_ret ?_
      obtain rfl := Option.some.inj H
      exact x_retG hk (rs := [.tmp 4]) (vs := [.bool (ByteArray.toList p0.Text == ByteArray.toList p1.Text)]) rfl ⟨rfl, trivial⟩ ⟨fun b_ => if b_ < w.heap.size then o b_ else (fun _ => 0) (o18 b_), rfl, hs.close0 o (fun _ => 0)⟩

/-! tidewrack/tidewracklaw27.LineReads -/
set_option maxHeartbeats 4000000 in
set_option maxRecDepth 20000 in
theorem tidewracklaw27_LineReads_calls (K : Nat) (p0 : ByteArray) (w : World) (o : Nat → Nat) (Lg0 : Nat) (hg0 : Ft (RdC ET47 (some ⟨0, 0, none⟩) glob0) w o Lg0) (Lg1 : Nat) (hg1 : Ft (GInt 1) w o Lg1) (Lg2 : Nat) (hg2 : Ft (GIface 2) w o Lg2) (Lg3 : Nat) (hg3 : Ft (GIface 3) w o Lg3) (Lg4 : Nat) (hg4 : Ft (GTab Tryd.prog "internal/strconv.uint64pow10" .u64 Lib.pow10Tab) w o Lg4)   (r : Bool) (H : tidewracklaw27_LineReads K p0 = some r) :
    Calls Tryd.prog 3 #[.string p0] w (Ret fun v_ w' => ∃ o' : Nat → Nat, v_ = .bool r ∧ St [] w o w' o') := by
  refine x_enter (vs := [.string p0]) Tryd.func3 rfl rfl rfl fun a hk => ?_
  obtain ⟨o0, hs, h0⟩ := St.start w o
  have fg0 := h0 _ _ hg0
  have fg1 := h0 _ _ hg1
  have fg2 := h0 _ _ hg2
  have fg3 := h0 _ _ hg3
  have fg4 := h0 _ _ hg4
  clear h0
  rw [tidewracklaw27_LineReads] at H
  refine x_seq ?_
  refine wpIn_region_lit ?_
  refine x_run tab hk (k := 1) (lv := []) (ks := [0]) (e' := [(0, .string p0)]) rfl trivial fun a hk => ?_
  refine wpListIn_nil ?_
  refine then_n ?_
  refine x_seq ?_
  refine x_seq ?_
  refine wpIn_region_lit ?_
  refine x_op hk rfl ?_
  obtain ⟨t4, hc5, H⟩ := bindS H
  refine op_call hk ent_7 (vs := []) rfl (tidewracklaw27_awake_calls K  _ o0 0 fg0 0 fg1 0 fg2 0 fg3 0 fg4   _ hc5) ?_
  rintro _ w6 ⟨o7, rfl, st8⟩
  replace fg0 := fg0.st st8 (by decide)
  replace fg1 := fg1.st st8 (by decide)
  replace fg2 := fg2.st st8 (by decide)
  replace fg3 := fg3.st st8 (by decide)
  replace fg4 := fg4.st st8 (by decide)
  replace hs := hs.loc0 st8 (by decide)
  have hk := hk.put 7 (.bool t4) rfl
  refine x_run tab hk (k := 1) (lv := []) (ks := [0, 8]) (e' := [(0, .string p0), (8, .bool (!t4))]) rfl trivial fun a hk => ?_
  refine wpListIn_nil ?_
  refine then_n ?_
  cases b9 : (!t4)
  · rw [b9] at hk H
    replace H := bifF H
    refine x_if hk (b := false) rfl ?_
    refine (show Code.wpIn _ _ _ _ _ _ _ from ?_)
    refine wpIn_skip ?_
    refine then_n ?_
    refine x_seq ?_
    refine wpIn_region_lit ?_
    refine x_run tab hk (k := 1) (lv := []) (ks := [9]) (e' := [(9, .string p0)]) rfl trivial fun a hk => ?_
    refine x_op hk rfl ?_
    obtain ⟨t13, hc14, H⟩ := bindS H
    refine op_call hk ent_8 (vs := [.string p0, .int .i64 4010]) rfl (tidewracklaw01_Cut_calls p0 4010 _ o7    _ hc14) ?_
    rintro _ w15 ⟨o16, rfl, st17⟩
    replace fg0 := fg0.st st17 (by decide)
    replace fg1 := fg1.st st17 (by decide)
    replace fg2 := fg2.st st17 (by decide)
    replace fg3 := fg3.st st17 (by decide)
    replace fg4 := fg4.st st17 (by decide)
    replace hs := hs.loc0 st17 (by decide)
    have hk := hk.put 10 (.string t13) rfl
    refine x_run tab hk (k := 1) (lv := []) (ks := [0]) (e' := [(0, .string t13)]) rfl trivial fun a hk => ?_
    refine wpListIn_nil ?_
    refine then_n ?_
    refine x_seq ?_
    refine wpIn_region_lit ?_
    refine x_run tab hk (k := 1) (lv := []) (ks := [0, 12]) (e' := [(0, .string t13), (12, .string t13)]) rfl trivial fun a hk => ?_
    refine x_op hk rfl ?_
    obtain ⟨t21, hc22, H⟩ := bindS H
    refine op_call hk ent_9 (vs := [.string t13]) rfl (line_Parse_calls K t13 _ o16 0 fg0 0 fg1 0 fg2 0 fg3 0 fg4 1  _ hc22) ?_
    rintro _ w23 ⟨o24, A26, c27, rfl, st25, f28, hc29⟩
    replace fg0 := fg0.st st25 (by decide)
    replace fg1 := fg1.st st25 (by decide)
    replace fg2 := fg2.st st25 (by decide)
    replace fg3 := fg3.st st25 (by decide)
    replace fg4 := fg4.st st25 (by decide)
    replace hs := hs.loc0 st25 (by decide)
    have hk := hk.put 13 (.tuple #[.agg #[.string t21.1.Word, .slice A26 (t21.1.Nums).length c27, .string t21.1.Text], .int .i64 t21.2]) rfl
    refine x_run tab hk (k := 3) (lv := []) (ks := [0, 14, 15]) (e' := [(0, .string t13), (14, .agg #[.string t21.1.Word, .slice A26 (t21.1.Nums).length c27, .string t21.1.Text]), (15, .int .i64 t21.2)]) rfl trivial fun a hk => ?_
    refine x_op hk rfl ?_
    refine op_alloc (o := o24) tab (t := 26) (cs := [.string (⟨#[]⟩ : ByteArray), .slice none 0 0, .string (⟨#[]⟩ : ByteArray)]) rfl rfl 2 fun bx33 w30 o31 st32 f34 => ?_
    replace f28 := f28.st st32 (by decide)
    replace fg0 := fg0.st st32 (by decide)
    replace fg1 := fg1.st st32 (by decide)
    replace fg2 := fg2.st st32 (by decide)
    replace fg3 := fg3.st st32 (by decide)
    replace fg4 := fg4.st st32 (by decide)
    replace hs := hs.loc0 st32 (by decide)
    have hk := hk.put 3 (.pointer (some ⟨bx33, 0, none⟩)) rfl
    refine x_op hk rfl ?_
    refine op_store tab hk (t := 26) (v := .agg #[.string t21.1.Word, .slice A26 (t21.1.Nums).length c27, .string t21.1.Text]) (b := bx33) (k := 0) (cs' := [.string t21.1.Word, .slice A26 (t21.1.Nums).length c27, .string t21.1.Text]) rfl rfl rfl rfl rfl rfl f34 rfl rfl fun w35 o36 st37 f34_ => ?_
    replace f28 := f28.st st37 (by decide)
    replace fg0 := fg0.st st37 (by decide)
    replace fg1 := fg1.st st37 (by decide)
    replace fg2 := fg2.st st37 (by decide)
    replace fg3 := fg3.st st37 (by decide)
    replace fg4 := fg4.st st37 (by decide)
    replace hs := hs.loc0 st37 (by decide)
    replace f34 := f34_
    refine x_run tab hk (k := 1) (lv := []) (ks := [0, 3, 4]) (e' := [(0, .string t13), (3, .pointer (some ⟨bx33, 0, none⟩)), (4, .int .i64 t21.2)]) rfl trivial fun a hk => ?_
    refine wpListIn_nil ?_
    refine then_n ?_
    refine x_seq ?_
    refine wpIn_region_lit ?_
    refine x_run tab hk (k := 1) (lv := []) (ks := [0, 3, 4, 17]) (e' := [(0, .string t13), (3, .pointer (some ⟨bx33, 0, none⟩)), (4, .int .i64 t21.2), (17, .string t13)]) rfl trivial fun a hk => ?_
    refine x_op hk rfl ?_
    obtain ⟨t41, hc42, H⟩ := bindS H
    refine op_call hk ent_10 (vs := [.string t13]) rfl (tidewrackref27_Parse_calls K t13 _ o36 0 fg4 3  _ hc42) ?_
    rintro _ w43 ⟨o44, A46, c47, rfl, st45, f48, hc49⟩
    replace f28 := f28.st st45 (by decide)
    replace f34 := f34.st st45 (by decide)
    replace fg0 := fg0.st st45 (by decide)
    replace fg1 := fg1.st st45 (by decide)
    replace fg2 := fg2.st st45 (by decide)
    replace fg3 := fg3.st st45 (by decide)
    replace fg4 := fg4.st st45 (by decide)
    replace hs := hs.loc0 st45 (by decide)
    have hk := hk.put 18 (.tuple #[.agg #[.string t41.1.Word, .slice A46 (t41.1.Nums).length c47, .string t41.1.Text], .int .i64 t41.2]) rfl
    refine x_run tab hk (k := 3) (lv := []) (ks := [0, 3, 4, 19, 20]) (e' := [(0, .string t13), (3, .pointer (some ⟨bx33, 0, none⟩)), (4, .int .i64 t21.2), (19, .agg #[.string t41.1.Word, .slice A46 (t41.1.Nums).length c47, .string t41.1.Text]), (20, .int .i64 t41.2)]) rfl trivial fun a hk => ?_
    refine x_op hk rfl ?_
    refine op_alloc (o := o44) tab (t := 30) (cs := [.string (⟨#[]⟩ : ByteArray), .slice none 0 0, .string (⟨#[]⟩ : ByteArray)]) rfl rfl 4 fun bx53 w50 o51 st52 f54 => ?_
    replace f28 := f28.st st52 (by decide)
    replace f34 := f34.st st52 (by decide)
    replace f48 := f48.st st52 (by decide)
    replace fg0 := fg0.st st52 (by decide)
    replace fg1 := fg1.st st52 (by decide)
    replace fg2 := fg2.st st52 (by decide)
    replace fg3 := fg3.st st52 (by decide)
    replace fg4 := fg4.st st52 (by decide)
    replace hs := hs.loc0 st52 (by decide)
    have hk := hk.put 5 (.pointer (some ⟨bx53, 0, none⟩)) rfl
    refine x_op hk rfl ?_
    refine op_store tab hk (t := 30) (v := .agg #[.string t41.1.Word, .slice A46 (t41.1.Nums).length c47, .string t41.1.Text]) (b := bx53) (k := 0) (cs' := [.string t41.1.Word, .slice A46 (t41.1.Nums).length c47, .string t41.1.Text]) rfl rfl rfl rfl rfl rfl f54 rfl rfl fun w55 o56 st57 f54_ => ?_
    replace f28 := f28.st st57 (by decide)
    replace f34 := f34.st st57 (by decide)
    replace f48 := f48.st st57 (by decide)
    replace fg0 := fg0.st st57 (by decide)
    replace fg1 := fg1.st st57 (by decide)
    replace fg2 := fg2.st st57 (by decide)
    replace fg3 := fg3.st st57 (by decide)
    replace fg4 := fg4.st st57 (by decide)
    replace hs := hs.loc0 st57 (by decide)
    replace f54 := f54_
    refine x_run tab hk (k := 1) (lv := []) (ks := [0, 3, 4, 5, 6]) (e' := [(0, .string t13), (3, .pointer (some ⟨bx33, 0, none⟩)), (4, .int .i64 t21.2), (5, .pointer (some ⟨bx53, 0, none⟩)), (6, .int .i64 t41.2)]) rfl trivial fun a hk => ?_
    refine wpListIn_nil ?_
    refine then_n ?_
    refine x_seq ?_
    refine wpIn_region_lit ?_
    refine x_run tab hk (k := 4) (lv := []) (ks := [0, 3, 4, 5, 24]) (e' := [(0, .string t13), (3, .pointer (some ⟨bx33, 0, none⟩)), (4, .int .i64 t21.2), (5, .pointer (some ⟨bx53, 0, none⟩)), (24, .bool (t21.2 == t41.2))]) rfl trivial fun a hk => ?_
    cases b58 : (t21.2 == t41.2)
    · rw [b58] at hk H
      replace H := bifF H
      refine x_run tab hk (k := 13) (lv := []) (ks := [29, 37]) (e' := [(29, .bool false), (37, undef)]) rfl trivial fun a hk => ?_
      refine x_run tab hk (k := 2) (lv := []) (ks := [2]) (e' := [(2, .bool false)]) rfl trivial fun a hk => ?_
      refine wpListIn_nil ?_
      refine then_n ?_
      refine wpIn_ret ?_
      obtain rfl := Option.some.inj H
      exact x_retG hk (rs := [.tmp 2]) (vs := [.bool false]) rfl ⟨rfl, trivial⟩ ⟨fun b_ => if b_ < w.heap.size then o b_ else (fun _ => 0) (o56 b_), rfl, hs.close0 o (fun _ => 0)⟩
    · rw [b58] at hk H
      replace H := bifT H
      refine x_run tab hk (k := 2) (lv := [.agg #[.string t21.1.Word, .slice A26 (t21.1.Nums).length c27, .string t21.1.Text], .agg #[.string t41.1.Word, .slice A46 (t41.1.Nums).length c47, .string t41.1.Text]]) (ks := [0, 3, 4, 24, 25, 26]) (e' := [(0, .string t13), (3, .pointer (some ⟨bx33, 0, none⟩)), (4, .int .i64 t21.2), (24, .bool true), (25, .agg #[.string t21.1.Word, .slice A26 (t21.1.Nums).length c27, .string t21.1.Text]), (26, .agg #[.string t41.1.Word, .slice A46 (t41.1.Nums).length c47, .string t41.1.Text])]) rfl ⟨(load_box tab rfl rfl f34.now (k := 0) rfl rfl), (load_box tab rfl rfl f54.now (k := 0) rfl rfl), trivial⟩ fun a hk => ?_
      refine x_op hk rfl ?_
      obtain ⟨t62, hc63, H⟩ := bindS H
      refine op_call hk ent_11 (vs := [.agg #[.string t21.1.Word, .slice A26 (t21.1.Nums).length c27, .string t21.1.Text], .agg #[.string t41.1.Word, .slice A46 (t41.1.Nums).length c47, .string t41.1.Text]]) rfl (tidewracklaw27_Is_calls K A26 c27 t21.1 A46 c47 t41.1 _ o56 _ (f28.imp fun _ h_ => Own.rd h_) hc29 _ (f48.imp fun _ h_ => Own.rd h_) hc49   _ hc63) ?_
      rintro _ w64 ⟨o65, rfl, st66⟩
      replace f28 := f28.st st66 (by decide)
      replace f34 := f34.st st66 (by decide)
      replace f48 := f48.st st66 (by decide)
      replace fg0 := fg0.st st66 (by decide)
      replace fg1 := fg1.st st66 (by decide)
      replace fg2 := fg2.st st66 (by decide)
      replace fg3 := fg3.st st66 (by decide)
      replace fg4 := fg4.st st66 (by decide)
      replace hs := hs.loc0 st66 (by decide)
      have hk := hk.put 27 (.bool t62) rfl
      refine x_run tab hk (k := 2) (lv := []) (ks := [0, 3, 4, 29]) (e' := [(0, .string t13), (3, .pointer (some ⟨bx33, 0, none⟩)), (4, .int .i64 t21.2), (29, .bool t62)]) rfl trivial fun a hk => ?_
      cases b67 : t62
      · rw [b67] at hk H
        replace H := bifF H
        refine x_run tab hk (k := 10) (lv := []) (ks := [2]) (e' := [(2, .bool false)]) rfl trivial fun a hk => ?_
        refine wpListIn_nil ?_
        refine then_n ?_
        refine wpIn_ret ?_
        obtain rfl := Option.some.inj H
        exact x_retG hk (rs := [.tmp 2]) (vs := [.bool false]) rfl ⟨rfl, trivial⟩ ⟨fun b_ => if b_ < w.heap.size then o b_ else (fun _ => 0) (o65 b_), rfl, hs.close0 o (fun _ => 0)⟩
      · rw [b67] at hk H
        replace H := bifT H
        refine x_run tab hk (k := 3) (lv := []) (ks := [0, 3, 29, 32]) (e' := [(0, .string t13), (3, .pointer (some ⟨bx33, 0, none⟩)), (29, .bool true), (32, .bool (t21.2 != (0 : Int)))]) rfl trivial fun a hk => ?_
        cases b68 : (t21.2 != (0 : Int))
        · rw [b68] at hk H
          replace H := bifF H
          refine x_run tab hk (k := 1) (lv := [.agg #[.string t21.1.Word, .slice A26 (t21.1.Nums).length c27, .string t21.1.Text]]) (ks := [0, 29, 32, 33]) (e' := [(0, .string t13), (29, .bool true), (32, .bool false), (33, .agg #[.string t21.1.Word, .slice A26 (t21.1.Nums).length c27, .string t21.1.Text])]) rfl ⟨(load_box tab rfl rfl f34.now (k := 0) rfl rfl), trivial⟩ fun a hk => ?_
          refine x_op hk rfl ?_
          obtain ⟨t72, hc73, H⟩ := bindS H
          refine op_call hk ent_12 (vs := [.agg #[.string t21.1.Word, .slice A26 (t21.1.Nums).length c27, .string t21.1.Text]]) rfl (line_Step_Line_calls K A26 c27 t21.1 _ o65 0 fg0 0 fg4 _ (f28.imp fun _ h_ => Own.rd h_) hc29   _ hc73) ?_
          rintro _ w74 ⟨o75, rfl, st76⟩
          replace f28 := f28.st st76 (by decide)
          replace fg0 := fg0.st st76 (by decide)
          replace fg1 := fg1.st st76 (by decide)
          replace fg2 := fg2.st st76 (by decide)
          replace fg3 := fg3.st st76 (by decide)
          replace fg4 := fg4.st st76 (by decide)
          replace hs := hs.loc0 st76 (by decide)
          have hk := hk.put 34 (.string t72) rfl
          refine x_run tab hk (k := 5) (lv := []) (ks := [2]) (e' := [(2, .bool (ByteArray.toList t72 == ByteArray.toList t13))]) rfl trivial fun a hk => ?_
          refine wpListIn_nil ?_
          refine then_n ?_
          refine wpIn_ret ?_
          obtain rfl := Option.some.inj H
          exact x_retG hk (rs := [.tmp 2]) (vs := [.bool (ByteArray.toList t72 == ByteArray.toList t13)]) rfl ⟨rfl, trivial⟩ ⟨fun b_ => if b_ < w.heap.size then o b_ else (fun _ => 0) (o75 b_), rfl, hs.close0 o (fun _ => 0)⟩
        · rw [b68] at hk H
          replace H := bifT H
          refine x_run tab hk (k := 7) (lv := []) (ks := [2]) (e' := [(2, .bool true)]) rfl trivial fun a hk => ?_
          refine wpListIn_nil ?_
          refine then_n ?_
          refine wpIn_ret ?_
          obtain rfl := Option.some.inj H
          exact x_retG hk (rs := [.tmp 2]) (vs := [.bool true]) rfl ⟨rfl, trivial⟩ ⟨fun b_ => if b_ < w.heap.size then o b_ else (fun _ => 0) (o65 b_), rfl, hs.close0 o (fun _ => 0)⟩
  · rw [b9] at hk H
    replace H := bifT H
    refine x_if hk (b := true) rfl ?_
    refine (show Code.wpIn _ _ _ _ _ _ _ from ?_)
    refine x_seq ?_
    refine wpIn_region_lit ?_
    refine x_run tab hk (k := 1) (lv := []) (ks := [2]) (e' := [(2, .bool false)]) rfl trivial fun a hk => ?_
    refine wpListIn_nil ?_
    refine then_n ?_
    refine wpIn_ret ?_
    refine then_r ?_
    obtain rfl := Option.some.inj H
    exact x_retG hk (rs := [.tmp 2]) (vs := [.bool false]) rfl ⟨rfl, trivial⟩ ⟨fun b_ => if b_ < w.heap.size then o b_ else (fun _ => 0) (o7 b_), rfl, hs.close0 o (fun _ => 0)⟩

end Go.Proofs.YtmolecadkgffkaaDoor
