/- Walks, printed by an own program: the machine's calls compute the plain functions. -/
import Derived.Test.YtbdocgjhidalfaaW1
set_option linter.unusedVariables false
set_option linter.unusedSimpArgs false
namespace Go.Proofs.Ytbdocgjhidalfaa
open Go Go.Proofs.XC
/-! tidewrack/style.Of -/
theorem style_Of_calls (p0 : Int) (w : World) (o : Nat → Nat)  (r : T22 × Int) (H : style_Of p0 = some r) :
    Calls Try.prog 11 #[.int .i64 p0] w (Ret fun v_ w' => ∃ o' : Nat → Nat, v_ = .tuple #[.agg #[.int .i64 r.1.Fore, .int .i64 r.1.Back, .bool r.1.Bold, .bool r.1.Under, .bool r.1.Inverse], .int .i64 r.2] ∧ St [] w o w' o') := by
  refine x_enter (vs := [.int .i64 p0]) Try.func11 rfl rfl rfl fun a hk => ?_
  obtain ⟨o0, hs, h0⟩ := St.start w o
  clear h0
  rw [style_Of] at H
  refine x_seq ?_
  refine wp_region_lit ?_
  refine x_op hk rfl ?_
  refine op_alloc (o := o0) tab (t := 26) (cs := [.int .i64 0, .int .i64 0, .bool false, .bool false, .bool false]) rfl rfl 1 fun bx4 w1 o2 st3 f5 => ?_
  replace hs := hs.loc0 st3 (by decide)
  have hk := hk.put 2 (.pointer (some ⟨bx4, 0, none⟩)) rfl
  refine x_run tab hk (k := 1) (lv := []) (ks := [0, 2]) (e' := [(0, .int .i64 p0), (2, .pointer (some ⟨bx4, 0, none⟩))]) rfl trivial fun a hk => ?_
  refine wpList_nil ?_
  refine then_n ?_
  refine x_mid (fun a_ w_ => ∃ o24 : Nat → Nat, Kn 29 a_ [(0, .int .i64 p0), (2, .pointer (some ⟨bx4, 0, none⟩))] ∧ St [] w (fun _ => 0) w_ o24 ∧ Ft (Bx bx4 26 [.int .i64 0, .int .i64 0, .bool false, .bool false, .bool false]) w_ o24 3 ∧ style_Of_j1 p0 = some r) ?_ ?_
  rotate_left
  · rintro a w25 ⟨o24, hk, hs, f5, H⟩
    rw [style_Of_j1] at H
    refine x_seq ?_
    refine wp_region_lit ?_
    refine x_run tab hk (k := 10) (lv := []) (ks := [0, 2, 12, 15, 19, 20]) (e' := [(0, .int .i64 p0), (2, .pointer (some ⟨bx4, 0, none⟩)), (12, .int .i64 (Int.tmod p0 9)), (15, .int .i64 (Int.tmod (IntKind.wrap .i64 (Int.tdiv p0 9)) 9)), (19, .bool ((Int.tmod (IntKind.wrap .i64 (Int.tdiv p0 81)) 2) == (1 : Int))), (20, .int .i64 p0)]) rfl ⟨(show (9 : Int) ≠ 0 from by decide), (show (9 : Int) ≠ 0 from by decide), (show (9 : Int) ≠ 0 from by decide), (show (81 : Int) ≠ 0 from by decide), (show (2 : Int) ≠ 0 from by decide), trivial⟩ fun a hk => ?_
    refine x_run tab hk (k := 8) (lv := []) (ks := [2, 28]) (e' := [(2, .pointer (some ⟨bx4, 0, none⟩)), (28, .agg #[.int .i64 (Int.tmod p0 9), .int .i64 (Int.tmod (IntKind.wrap .i64 (Int.tdiv p0 9)) 9), .bool ((Int.tmod (IntKind.wrap .i64 (Int.tdiv p0 81)) 2) == (1 : Int)), .bool ((Int.tmod (IntKind.wrap .i64 (Int.tdiv p0 162)) 2) == (1 : Int)), .bool ((Int.tmod (IntKind.wrap .i64 (Int.tdiv p0 324)) 2) == (1 : Int))])]) rfl ⟨(show (162 : Int) ≠ 0 from by decide), (show (2 : Int) ≠ 0 from by decide), (show (324 : Int) ≠ 0 from by decide), (show (2 : Int) ≠ 0 from by decide), trivial⟩ fun a hk => ?_
    refine x_op hk rfl ?_
    refine op_store tab hk (t := 26) (v := .agg #[.int .i64 (Int.tmod p0 9), .int .i64 (Int.tmod (IntKind.wrap .i64 (Int.tdiv p0 9)) 9), .bool ((Int.tmod (IntKind.wrap .i64 (Int.tdiv p0 81)) 2) == (1 : Int)), .bool ((Int.tmod (IntKind.wrap .i64 (Int.tdiv p0 162)) 2) == (1 : Int)), .bool ((Int.tmod (IntKind.wrap .i64 (Int.tdiv p0 324)) 2) == (1 : Int))]) (b := bx4) (k := 0) (cs' := [.int .i64 (Int.tmod p0 9), .int .i64 (Int.tmod (IntKind.wrap .i64 (Int.tdiv p0 9)) 9), .bool ((Int.tmod (IntKind.wrap .i64 (Int.tdiv p0 81)) 2) == (1 : Int)), .bool ((Int.tmod (IntKind.wrap .i64 (Int.tdiv p0 162)) 2) == (1 : Int)), .bool ((Int.tmod (IntKind.wrap .i64 (Int.tdiv p0 324)) 2) == (1 : Int))]) rfl rfl rfl rfl rfl rfl f5 rfl rfl fun w26 o27 st28 f5_ => ?_
    replace hs := hs.loc0 st28 (by decide)
    replace f5 := f5_
    refine x_run tab hk (k := 1) (lv := []) (ks := [2, 3]) (e' := [(2, .pointer (some ⟨bx4, 0, none⟩)), (3, .int .i64 0)]) rfl trivial fun a hk => ?_
    refine wpList_nil ?_
    refine then_n ?_
    refine wp_ret ?_
    obtain rfl := Option.some.inj H
    exact x_retG hk (rs := [.cell 2 26, .tmp 3]) (vs := [.agg #[.int .i64 (Int.tmod p0 9), .int .i64 (Int.tmod (IntKind.wrap .i64 (Int.tdiv p0 9)) 9), .bool ((Int.tmod (IntKind.wrap .i64 (Int.tdiv p0 81)) 2) == (1 : Int)), .bool ((Int.tmod (IntKind.wrap .i64 (Int.tdiv p0 162)) 2) == (1 : Int)), .bool ((Int.tmod (IntKind.wrap .i64 (Int.tdiv p0 324)) 2) == (1 : Int))], .int .i64 0]) rfl ⟨⟨_, rfl, load_box tab rfl rfl f5.now (k := 0) rfl rfl⟩, rfl, trivial⟩ ⟨fun b_ => if b_ < w.heap.size then o b_ else (fun _ => 0) (o27 b_), rfl, hs.close0 o (fun _ => 0)⟩
  refine x_mid (fun a_ w_ => ∃ o36 : Nat → Nat, ∃ x37 : Bool, Kn 29 a_ [(0, .int .i64 p0), (2, .pointer (some ⟨bx4, 0, none⟩)), (9, .bool x37)] ∧ St [] w (fun _ => 0) w_ o36 ∧ Ft (Bx bx4 26 [.int .i64 0, .int .i64 0, .bool false, .bool false, .bool false]) w_ o36 4 ∧ style_Of_j2 p0 x37 = some r) ?_ ?_
  rotate_left
  · rintro a w38 ⟨o36, x37, hk, hs, f5, H⟩
    rw [style_Of_j2] at H
    cases b39 : x37
    · rw [b39] at hk H
      replace H := bifF H
      refine x_if hk (b := false) rfl ?_
      refine (show Code.wp _ _ _ _ _ from ?_)
      refine wp_skip ?_
      refine then_n ?_
      exact ⟨(fun b_ => (fun l_ => if l_ = 4 then 3 else l_) (o36 b_)), (by exact Kn.pick (ks := [0, 2]) hk rfl), (hs.relab0 (fun l_ => if l_ = 4 then 3 else l_) rfl), (f5.relab (fun l_ => if l_ = 4 then 3 else l_) rfl), H⟩
    · rw [b39] at hk H
      replace H := bifT H
      refine x_if hk (b := true) rfl ?_
      refine (show Code.wp _ _ _ _ _ from ?_)
      refine x_seq ?_
      refine wp_region_lit ?_
      refine x_run tab hk (k := 1) (lv := []) (ks := [2, 10]) (e' := [(2, .pointer (some ⟨bx4, 0, none⟩)), (10, .agg #[.int .i64 0, .int .i64 0, .bool false, .bool false, .bool false])]) rfl trivial fun a hk => ?_
      refine x_op hk rfl ?_
      refine op_store tab hk (t := 26) (v := .agg #[.int .i64 0, .int .i64 0, .bool false, .bool false, .bool false]) (b := bx4) (k := 0) (cs' := [.int .i64 0, .int .i64 0, .bool false, .bool false, .bool false]) rfl rfl rfl rfl rfl rfl f5 rfl rfl fun w40 o41 st42 f5_ => ?_
      replace hs := hs.loc0 st42 (by decide)
      replace f5 := f5_
      refine x_run tab hk (k := 1) (lv := []) (ks := [2, 3]) (e' := [(2, .pointer (some ⟨bx4, 0, none⟩)), (3, .int .i64 1)]) rfl trivial fun a hk => ?_
      refine wpList_nil ?_
      refine then_n ?_
      refine wp_ret ?_
      refine then_r ?_
      obtain rfl := Option.some.inj H
      exact x_retG hk (rs := [.cell 2 26, .tmp 3]) (vs := [.agg #[.int .i64 0, .int .i64 0, .bool false, .bool false, .bool false], .int .i64 1]) rfl ⟨⟨_, rfl, load_box tab rfl rfl f5.now (k := 0) rfl rfl⟩, rfl, trivial⟩ ⟨fun b_ => if b_ < w.heap.size then o b_ else (fun _ => 0) (o41 b_), rfl, hs.close0 o (fun _ => 0)⟩
  refine wp_region_lit ?_
  refine x_run tab hk (k := 3) (lv := []) (ks := [0, 2, 6]) (e' := [(0, .int .i64 p0), (2, .pointer (some ⟨bx4, 0, none⟩)), (6, .bool (decide (p0 < (0 : Int))))]) rfl trivial fun a hk => ?_
  cases b43 : (decide (p0 < (0 : Int)))
  · rw [b43] at hk H
    replace H := bifF H
    refine x_run tab hk (k := 3) (lv := []) (ks := [0, 2, 9]) (e' := [(0, .int .i64 p0), (2, .pointer (some ⟨bx4, 0, none⟩)), (9, .bool (decide (p0 > (647 : Int))))]) rfl trivial fun a hk => ?_
    refine wpList_nil ?_
    refine then_n ?_
    exact ⟨(fun b_ => (fun l_ => if l_ = 1 then 4 else l_) (o2 b_)), (decide (p0 > (647 : Int))), (by exact Kn.pick (ks := [0, 2, 9]) hk rfl), (hs.relab0 (fun l_ => if l_ = 1 then 4 else l_) rfl), (f5.relab (fun l_ => if l_ = 1 then 4 else l_) rfl), H⟩
  · rw [b43] at hk H
    replace H := bifT H
    refine x_run tab hk (k := 3) (lv := []) (ks := [0, 2, 9]) (e' := [(0, .int .i64 p0), (2, .pointer (some ⟨bx4, 0, none⟩)), (9, .bool true)]) rfl trivial fun a hk => ?_
    refine wpList_nil ?_
    refine then_n ?_
    exact ⟨(fun b_ => (fun l_ => if l_ = 1 then 4 else l_) (o2 b_)), true, (by exact Kn.pick (ks := [0, 2, 9]) hk rfl), (hs.relab0 (fun l_ => if l_ = 1 then 4 else l_) rfl), (f5.relab (fun l_ => if l_ = 1 then 4 else l_) rfl), H⟩

/-! tidewrack/tidewrackref08.May -/
theorem tidewrackref08_May_calls (p0 : T22) (w : World) (o : Nat → Nat)  (r : Bool) (H : tidewrackref08_May p0 = some r) :
    Calls Try.prog 14 #[.agg #[.int .i64 p0.Fore, .int .i64 p0.Back, .bool p0.Bold, .bool p0.Under, .bool p0.Inverse]] w (Ret fun v_ w' => ∃ o' : Nat → Nat, v_ = .bool r ∧ St [] w o w' o') := by
  refine x_enter (vs := [.agg #[.int .i64 p0.Fore, .int .i64 p0.Back, .bool p0.Bold, .bool p0.Under, .bool p0.Inverse]]) Try.func14 rfl rfl rfl fun a hk => ?_
  obtain ⟨o0, hs, h0⟩ := St.start w o
  clear h0
  rw [tidewrackref08_May] at H
  refine x_seq ?_
  refine wp_region_lit ?_
  refine x_op hk rfl ?_
  refine op_box (o := o0) (t := 23) (v := .agg #[.int .i64 p0.Fore, .int .i64 p0.Back, .bool p0.Bold, .bool p0.Under, .bool p0.Inverse]) (cs := [.int .i64 p0.Fore, .int .i64 p0.Back, .bool p0.Bold, .bool p0.Under, .bool p0.Inverse]) hk rfl rfl 1 fun bx4 w1 o2 st3 f5 => ?_
  replace hs := hs.loc0 st3 (by decide)
  have hk := hk.put 1 (.pointer (some ⟨bx4, 0, none⟩)) rfl
  refine x_run tab hk (k := 1) (lv := []) (ks := [1]) (e' := [(1, .pointer (some ⟨bx4, 0, none⟩))]) rfl trivial fun a hk => ?_
  refine wpList_nil ?_
  refine then_n ?_
  refine x_seq ?_
  refine wp_region_lit ?_
  refine x_run tab hk (k := 4) (lv := [.int .i64 p0.Fore]) (ks := [1, 6]) (e' := [(1, .pointer (some ⟨bx4, 0, none⟩)), (6, .bool (decide (p0.Fore ≥ (0 : Int))))]) rfl ⟨(load1 tab rfl ((Bx.cell f5.now 0).trans rfl)), trivial⟩ fun a hk => ?_
  cases b6 : (decide (p0.Fore ≥ (0 : Int)))
  · rw [b6] at hk H
    replace H := bifF H
    refine x_run tab hk (k := 13) (lv := []) (ks := [16, 19]) (e' := [(16, .bool false), (19, undef)]) rfl trivial fun a hk => ?_
    refine x_run tab hk (k := 2) (lv := []) (ks := [2]) (e' := [(2, .bool false)]) rfl trivial fun a hk => ?_
    refine wpList_nil ?_
    refine then_n ?_
    refine wp_ret ?_
    obtain rfl := Option.some.inj H
    exact x_retG hk (rs := [.tmp 2]) (vs := [.bool false]) rfl ⟨rfl, trivial⟩ ⟨fun b_ => if b_ < w.heap.size then o b_ else (fun _ => 0) (o2 b_), rfl, hs.close0 o (fun _ => 0)⟩
  · rw [b6] at hk H
    replace H := bifT H
    refine x_run tab hk (k := 5) (lv := [.int .i64 p0.Fore]) (ks := [1, 11]) (e' := [(1, .pointer (some ⟨bx4, 0, none⟩)), (11, .bool (decide (p0.Fore ≤ (8 : Int))))]) rfl ⟨(load1 tab rfl ((Bx.cell f5.now 0).trans rfl)), trivial⟩ fun a hk => ?_
    cases b7 : (decide (p0.Fore ≤ (8 : Int)))
    · rw [b7] at hk H
      replace H := bifF H
      refine x_run tab hk (k := 10) (lv := []) (ks := [2]) (e' := [(2, .bool false)]) rfl trivial fun a hk => ?_
      refine wpList_nil ?_
      refine then_n ?_
      refine wp_ret ?_
      obtain rfl := Option.some.inj H
      exact x_retG hk (rs := [.tmp 2]) (vs := [.bool false]) rfl ⟨rfl, trivial⟩ ⟨fun b_ => if b_ < w.heap.size then o b_ else (fun _ => 0) (o2 b_), rfl, hs.close0 o (fun _ => 0)⟩
    · rw [b7] at hk H
      replace H := bifT H
      refine x_run tab hk (k := 5) (lv := [.int .i64 p0.Back]) (ks := [1, 16]) (e' := [(1, .pointer (some ⟨bx4, 0, none⟩)), (16, .bool (decide (p0.Back ≥ (0 : Int))))]) rfl ⟨(load1 tab rfl ((Bx.cell f5.now 1).trans rfl)), trivial⟩ fun a hk => ?_
      cases b8 : (decide (p0.Back ≥ (0 : Int)))
      · rw [b8] at hk H
        replace H := bifF H
        refine x_run tab hk (k := 5) (lv := []) (ks := [2]) (e' := [(2, .bool false)]) rfl trivial fun a hk => ?_
        refine wpList_nil ?_
        refine then_n ?_
        refine wp_ret ?_
        obtain rfl := Option.some.inj H
        exact x_retG hk (rs := [.tmp 2]) (vs := [.bool false]) rfl ⟨rfl, trivial⟩ ⟨fun b_ => if b_ < w.heap.size then o b_ else (fun _ => 0) (o2 b_), rfl, hs.close0 o (fun _ => 0)⟩
      · rw [b8] at hk H
        replace H := bifT H
        refine x_run tab hk (k := 5) (lv := [.int .i64 p0.Back]) (ks := [2]) (e' := [(2, .bool (decide (p0.Back ≤ (8 : Int))))]) rfl ⟨(load1 tab rfl ((Bx.cell f5.now 1).trans rfl)), trivial⟩ fun a hk => ?_
        refine wpList_nil ?_
        refine then_n ?_
        refine wp_ret ?_
        obtain rfl := Option.some.inj H
        exact x_retG hk (rs := [.tmp 2]) (vs := [.bool (decide (p0.Back ≤ (8 : Int)))]) rfl ⟨rfl, trivial⟩ ⟨fun b_ => if b_ < w.heap.size then o b_ else (fun _ => 0) (o2 b_), rfl, hs.close0 o (fun _ => 0)⟩

/-! tidewrack/tidewrackref08.Num -/
theorem tidewrackref08_Num_calls (p0 : T22) (w : World) (o : Nat → Nat)  (r : Int) (H : tidewrackref08_Num p0 = some r) :
    Calls Try.prog 13 #[.agg #[.int .i64 p0.Fore, .int .i64 p0.Back, .bool p0.Bold, .bool p0.Under, .bool p0.Inverse]] w (Ret fun v_ w' => ∃ o' : Nat → Nat, v_ = .int .i64 r ∧ St [] w o w' o') := by
  refine x_enter (vs := [.agg #[.int .i64 p0.Fore, .int .i64 p0.Back, .bool p0.Bold, .bool p0.Under, .bool p0.Inverse]]) Try.func13 rfl rfl rfl fun a hk => ?_
  obtain ⟨o0, hs, h0⟩ := St.start w o
  clear h0
  rw [tidewrackref08_Num] at H
  refine x_seq ?_
  refine wp_region_lit ?_
  refine x_op hk rfl ?_
  refine op_box (o := o0) (t := 23) (v := .agg #[.int .i64 p0.Fore, .int .i64 p0.Back, .bool p0.Bold, .bool p0.Under, .bool p0.Inverse]) (cs := [.int .i64 p0.Fore, .int .i64 p0.Back, .bool p0.Bold, .bool p0.Under, .bool p0.Inverse]) hk rfl rfl 1 fun bx4 w1 o2 st3 f5 => ?_
  replace hs := hs.loc0 st3 (by decide)
  have hk := hk.put 1 (.pointer (some ⟨bx4, 0, none⟩)) rfl
  refine x_run tab hk (k := 1) (lv := []) (ks := [1]) (e' := [(1, .pointer (some ⟨bx4, 0, none⟩))]) rfl trivial fun a hk => ?_
  refine wpList_nil ?_
  refine then_n ?_
  refine x_seq ?_
  refine x_seq ?_
  refine wp_region_lit ?_
  refine x_run tab hk (k := 1) (lv := [.agg #[.int .i64 p0.Fore, .int .i64 p0.Back, .bool p0.Bold, .bool p0.Under, .bool p0.Inverse]]) (ks := [1, 4]) (e' := [(1, .pointer (some ⟨bx4, 0, none⟩)), (4, .agg #[.int .i64 p0.Fore, .int .i64 p0.Back, .bool p0.Bold, .bool p0.Under, .bool p0.Inverse])]) rfl ⟨(load_box tab rfl rfl f5.now (k := 0) rfl rfl), trivial⟩ fun a hk => ?_
  refine x_op hk rfl ?_
  obtain ⟨t9, hc10, H⟩ := bindS H
  refine op_call hk ent_14 (vs := [.agg #[.int .i64 p0.Fore, .int .i64 p0.Back, .bool p0.Bold, .bool p0.Under, .bool p0.Inverse]]) rfl (tidewrackref08_May_calls p0 _ o2    _ hc10) ?_
  rintro _ w11 ⟨o12, rfl, st13⟩
  replace f5 := f5.st st13 (by decide)
  replace hs := hs.loc0 st13 (by decide)
  have hk := hk.put 5 (.bool t9) rfl
  refine x_run tab hk (k := 1) (lv := []) (ks := [1, 6]) (e' := [(1, .pointer (some ⟨bx4, 0, none⟩)), (6, .bool (!t9))]) rfl trivial fun a hk => ?_
  refine wpList_nil ?_
  refine then_n ?_
  cases b14 : (!t9)
  · rw [b14] at hk H
    replace H := bifF H
    refine x_if hk (b := false) rfl ?_
    refine (show Code.wp _ _ _ _ _ from ?_)
    refine wp_skip ?_
    refine then_n ?_
    refine x_seq ?_
    refine wp_region_lit ?_
    refine x_run tab hk (k := 7) (lv := [.int .i64 p0.Fore, .int .i64 p0.Back]) (ks := [1, 3]) (e' := [(1, .pointer (some ⟨bx4, 0, none⟩)), (3, .int .i64 (IntKind.wrap .i64 (p0.Fore + (IntKind.wrap .i64 (9 * p0.Back)))))]) rfl ⟨(load1 tab rfl ((Bx.cell f5.now 0).trans rfl)), (load1 tab rfl ((Bx.cell f5.now 1).trans rfl)), trivial⟩ fun a hk => ?_
    refine wpList_nil ?_
    refine then_n ?_
    refine x_mid (fun a_ w_ => ∃ o23 : Nat → Nat, ∃ x24 : T22, ∃ x25 : Int, Kn 26 a_ [(1, .pointer (some ⟨bx4, 0, none⟩)), (3, .int .i64 x25)] ∧ St [] w (fun _ => 0) w_ o23 ∧ Ft (Bx bx4 23 [.int .i64 x24.Fore, .int .i64 x24.Back, .bool x24.Bold, .bool x24.Under, .bool x24.Inverse]) w_ o23 2 ∧ tidewrackref08_Num_j1 x24 x25 = some r) ?_ ?_
    rotate_left
    · rintro a w26 ⟨o23, x24, x25, hk, hs, f5, H⟩
      rw [tidewrackref08_Num_j1] at H
      refine x_mid (fun a_ w_ => ∃ o35 : Nat → Nat, ∃ x36 : T22, ∃ x37 : Int, Kn 26 a_ [(1, .pointer (some ⟨bx4, 0, none⟩)), (3, .int .i64 x37)] ∧ St [] w (fun _ => 0) w_ o35 ∧ Ft (Bx bx4 23 [.int .i64 x36.Fore, .int .i64 x36.Back, .bool x36.Bold, .bool x36.Under, .bool x36.Inverse]) w_ o35 3 ∧ tidewrackref08_Num_j2 x36 x37 = some r) ?_ ?_
      rotate_left
      · rintro a w38 ⟨o35, x36, x37, hk, hs, f5, H⟩
        rw [tidewrackref08_Num_j2] at H
        refine x_seq ?_
        refine x_seq ?_
        refine wp_region_lit ?_
        refine x_run tab hk (k := 2) (lv := [.bool x36.Inverse]) (ks := [3, 22]) (e' := [(3, .int .i64 x37), (22, .bool x36.Inverse)]) rfl ⟨(load1 tab rfl ((Bx.cell f5.now 4).trans rfl)), trivial⟩ fun a hk => ?_
        refine wpList_nil ?_
        refine then_n ?_
        cases b39 : x36.Inverse
        · rw [b39] at hk H
          replace H := bifF H
          refine x_if hk (b := false) rfl ?_
          refine (show Code.wp _ _ _ _ _ from ?_)
          refine wp_skip ?_
          refine then_n ?_
          refine x_seq ?_
          refine wp_region_lit ?_
          refine x_run tab hk (k := 2) (lv := []) (ks := [2]) (e' := [(2, .int .i64 x37)]) rfl trivial fun a hk => ?_
          refine wpList_nil ?_
          refine then_n ?_
          refine wp_ret ?_
          obtain rfl := Option.some.inj H
          exact x_retG hk (rs := [.tmp 2]) (vs := [.int .i64 x37]) rfl ⟨rfl, trivial⟩ ⟨fun b_ => if b_ < w.heap.size then o b_ else (fun _ => 0) (o35 b_), rfl, hs.close0 o (fun _ => 0)⟩
        · rw [b39] at hk H
          replace H := bifT H
          refine x_if hk (b := true) rfl ?_
          refine (show Code.wp _ _ _ _ _ from ?_)
          refine wp_region_lit ?_
          refine x_run tab hk (k := 3) (lv := []) (ks := [3]) (e' := [(3, .int .i64 (IntKind.wrap .i64 (x37 + 324)))]) rfl trivial fun a hk => ?_
          refine wpList_nil ?_
          refine then_n ?_
          refine x_seq ?_
          refine wp_region_lit ?_
          refine x_run tab hk (k := 2) (lv := []) (ks := [2]) (e' := [(2, .int .i64 (IntKind.wrap .i64 (x37 + 324)))]) rfl trivial fun a hk => ?_
          refine wpList_nil ?_
          refine then_n ?_
          refine wp_ret ?_
          obtain rfl := Option.some.inj H
          exact x_retG hk (rs := [.tmp 2]) (vs := [.int .i64 (IntKind.wrap .i64 (x37 + 324))]) rfl ⟨rfl, trivial⟩ ⟨fun b_ => if b_ < w.heap.size then o b_ else (fun _ => 0) (o35 b_), rfl, hs.close0 o (fun _ => 0)⟩
      refine x_seq ?_
      refine wp_region_lit ?_
      refine x_run tab hk (k := 2) (lv := [.bool x24.Under]) (ks := [1, 3, 18]) (e' := [(1, .pointer (some ⟨bx4, 0, none⟩)), (3, .int .i64 x25), (18, .bool x24.Under)]) rfl ⟨(load1 tab rfl ((Bx.cell f5.now 3).trans rfl)), trivial⟩ fun a hk => ?_
      refine wpList_nil ?_
      refine then_n ?_
      cases b40 : x24.Under
      · rw [b40] at hk H
        replace H := bifF H
        rw [b40] at f5
        refine x_if hk (b := false) rfl ?_
        refine (show Code.wp _ _ _ _ _ from ?_)
        refine wp_skip ?_
        refine then_n ?_
        exact ⟨(fun b_ => (fun l_ => if l_ = 2 then 3 else l_) (o23 b_)), (⟨x24.Fore, x24.Back, x24.Bold, false, x24.Inverse⟩ : T22), x25, (by exact Kn.pick (ks := [1, 3]) hk rfl), (hs.relab0 (fun l_ => if l_ = 2 then 3 else l_) rfl), (f5.relab (fun l_ => if l_ = 2 then 3 else l_) rfl), H⟩
      · rw [b40] at hk H
        replace H := bifT H
        rw [b40] at f5
        refine x_if hk (b := true) rfl ?_
        refine (show Code.wp _ _ _ _ _ from ?_)
        refine wp_region_lit ?_
        refine x_run tab hk (k := 3) (lv := []) (ks := [1, 3]) (e' := [(1, .pointer (some ⟨bx4, 0, none⟩)), (3, .int .i64 (IntKind.wrap .i64 (x25 + 162)))]) rfl trivial fun a hk => ?_
        refine wpList_nil ?_
        refine then_n ?_
        exact ⟨(fun b_ => (fun l_ => if l_ = 2 then 3 else l_) (o23 b_)), (⟨x24.Fore, x24.Back, x24.Bold, true, x24.Inverse⟩ : T22), (IntKind.wrap .i64 (x25 + 162)), (by exact Kn.pick (ks := [1, 3]) hk rfl), (hs.relab0 (fun l_ => if l_ = 2 then 3 else l_) rfl), (f5.relab (fun l_ => if l_ = 2 then 3 else l_) rfl), H⟩
    refine x_seq ?_
    refine wp_region_lit ?_
    refine x_run tab hk (k := 2) (lv := [.bool p0.Bold]) (ks := [1, 3, 14]) (e' := [(1, .pointer (some ⟨bx4, 0, none⟩)), (3, .int .i64 (IntKind.wrap .i64 (p0.Fore + (IntKind.wrap .i64 (9 * p0.Back))))), (14, .bool p0.Bold)]) rfl ⟨(load1 tab rfl ((Bx.cell f5.now 2).trans rfl)), trivial⟩ fun a hk => ?_
    refine wpList_nil ?_
    refine then_n ?_
    cases b41 : p0.Bold
    · rw [b41] at hk H
      replace H := bifF H
      rw [b41] at f5
      refine x_if hk (b := false) rfl ?_
      refine (show Code.wp _ _ _ _ _ from ?_)
      refine wp_skip ?_
      refine then_n ?_
      exact ⟨(fun b_ => (fun l_ => if l_ = 1 then 2 else l_) (o12 b_)), (⟨p0.Fore, p0.Back, false, p0.Under, p0.Inverse⟩ : T22), (IntKind.wrap .i64 (p0.Fore + (IntKind.wrap .i64 (9 * p0.Back)))), (by exact Kn.pick (ks := [1, 3]) hk rfl), (hs.relab0 (fun l_ => if l_ = 1 then 2 else l_) rfl), (f5.relab (fun l_ => if l_ = 1 then 2 else l_) rfl), H⟩
    · rw [b41] at hk H
      replace H := bifT H
      rw [b41] at f5
      refine x_if hk (b := true) rfl ?_
      refine (show Code.wp _ _ _ _ _ from ?_)
      refine wp_region_lit ?_
      refine x_run tab hk (k := 3) (lv := []) (ks := [1, 3]) (e' := [(1, .pointer (some ⟨bx4, 0, none⟩)), (3, .int .i64 (IntKind.wrap .i64 ((IntKind.wrap .i64 (p0.Fore + (IntKind.wrap .i64 (9 * p0.Back)))) + 81)))]) rfl trivial fun a hk => ?_
      refine wpList_nil ?_
      refine then_n ?_
      exact ⟨(fun b_ => (fun l_ => if l_ = 1 then 2 else l_) (o12 b_)), (⟨p0.Fore, p0.Back, true, p0.Under, p0.Inverse⟩ : T22), (IntKind.wrap .i64 ((IntKind.wrap .i64 (p0.Fore + (IntKind.wrap .i64 (9 * p0.Back)))) + 81)), (by exact Kn.pick (ks := [1, 3]) hk rfl), (hs.relab0 (fun l_ => if l_ = 1 then 2 else l_) rfl), (f5.relab (fun l_ => if l_ = 1 then 2 else l_) rfl), H⟩
  · rw [b14] at hk H
    replace H := bifT H
    refine x_if hk (b := true) rfl ?_
    refine (show Code.wp _ _ _ _ _ from ?_)
    refine x_seq ?_
    refine wp_region_lit ?_
    refine x_run tab hk (k := 1) (lv := []) (ks := [2]) (e' := [(2, .int .i64 0)]) rfl trivial fun a hk => ?_
    refine wpList_nil ?_
    refine then_n ?_
    refine wp_ret ?_
    refine then_r ?_
    obtain rfl := Option.some.inj H
    exact x_retG hk (rs := [.tmp 2]) (vs := [.int .i64 0]) rfl ⟨rfl, trivial⟩ ⟨fun b_ => if b_ < w.heap.size then o b_ else (fun _ => 0) (o12 b_), rfl, hs.close0 o (fun _ => 0)⟩

/-! tidewrack/tidewracklaw08.StyleNums -/
theorem tidewracklaw08_StyleNums_calls (K : Nat) (p0 : T22) (p1 : Int) (w : World) (o : Nat → Nat)  (r : Bool) (H : tidewracklaw08_StyleNums K p0 p1 = some r) :
    Calls Try.prog 5 #[.agg #[.int .i64 p0.Fore, .int .i64 p0.Back, .bool p0.Bold, .bool p0.Under, .bool p0.Inverse], .int .i64 p1] w (Ret fun v_ w' => ∃ o' : Nat → Nat, v_ = .bool r ∧ St [] w o w' o') := by
  refine x_enter (vs := [.agg #[.int .i64 p0.Fore, .int .i64 p0.Back, .bool p0.Bold, .bool p0.Under, .bool p0.Inverse], .int .i64 p1]) Try.func5 rfl rfl rfl fun a hk => ?_
  obtain ⟨o0, hs, h0⟩ := St.start w o
  clear h0
  rw [tidewracklaw08_StyleNums] at H
  refine x_seq ?_
  refine wp_region_lit ?_
  refine x_op hk rfl ?_
  refine op_box (o := o0) (t := 23) (v := .agg #[.int .i64 p0.Fore, .int .i64 p0.Back, .bool p0.Bold, .bool p0.Under, .bool p0.Inverse]) (cs := [.int .i64 p0.Fore, .int .i64 p0.Back, .bool p0.Bold, .bool p0.Under, .bool p0.Inverse]) hk rfl rfl 1 fun bx4 w1 o2 st3 f5 => ?_
  replace hs := hs.loc0 st3 (by decide)
  have hk := hk.put 2 (.pointer (some ⟨bx4, 0, none⟩)) rfl
  refine x_run tab hk (k := 1) (lv := []) (ks := [1, 2]) (e' := [(1, .int .i64 p1), (2, .pointer (some ⟨bx4, 0, none⟩))]) rfl trivial fun a hk => ?_
  refine wpList_nil ?_
  refine then_n ?_
  refine x_seq ?_
  refine x_seq ?_
  refine wp_region_lit ?_
  refine x_op hk rfl ?_
  obtain ⟨t9, hc10, H⟩ := bindS H
  refine op_call hk ent_8 (vs := []) rfl (tidewracklaw08_awake_calls K  _ o2    _ hc10) ?_
  rintro _ w11 ⟨o12, rfl, st13⟩
  replace f5 := f5.st st13 (by decide)
  replace hs := hs.loc0 st13 (by decide)
  have hk := hk.put 10 (.bool t9) rfl
  refine x_run tab hk (k := 1) (lv := []) (ks := [1, 2, 11]) (e' := [(1, .int .i64 p1), (2, .pointer (some ⟨bx4, 0, none⟩)), (11, .bool (!t9))]) rfl trivial fun a hk => ?_
  refine wpList_nil ?_
  refine then_n ?_
  cases b14 : (!t9)
  · rw [b14] at hk H
    replace H := bifF H
    refine x_if hk (b := false) rfl ?_
    refine (show Code.wp _ _ _ _ _ from ?_)
    refine wp_skip ?_
    refine then_n ?_
    refine x_seq ?_
    refine wp_region_lit ?_
    refine x_run tab hk (k := 1) (lv := []) (ks := [1, 2, 13]) (e' := [(1, .int .i64 p1), (2, .pointer (some ⟨bx4, 0, none⟩)), (13, .int .i64 p1)]) rfl trivial fun a hk => ?_
    refine x_op hk rfl ?_
    obtain ⟨t18, hc19, H⟩ := bindS H
    refine op_call hk ent_11 (vs := [.int .i64 p1]) rfl (style_Of_calls p1 _ o12    _ hc19) ?_
    rintro _ w20 ⟨o21, rfl, st22⟩
    replace f5 := f5.st st22 (by decide)
    replace hs := hs.loc0 st22 (by decide)
    have hk := hk.put 14 (.tuple #[.agg #[.int .i64 t18.1.Fore, .int .i64 t18.1.Back, .bool t18.1.Bold, .bool t18.1.Under, .bool t18.1.Inverse], .int .i64 t18.2]) rfl
    refine x_run tab hk (k := 3) (lv := []) (ks := [1, 2, 15, 16]) (e' := [(1, .int .i64 p1), (2, .pointer (some ⟨bx4, 0, none⟩)), (15, .agg #[.int .i64 t18.1.Fore, .int .i64 t18.1.Back, .bool t18.1.Bold, .bool t18.1.Under, .bool t18.1.Inverse]), (16, .int .i64 t18.2)]) rfl trivial fun a hk => ?_
    refine x_op hk rfl ?_
    refine op_alloc (o := o21) tab (t := 26) (cs := [.int .i64 0, .int .i64 0, .bool false, .bool false, .bool false]) rfl rfl 2 fun bx26 w23 o24 st25 f27 => ?_
    replace f5 := f5.st st25 (by decide)
    replace hs := hs.loc0 st25 (by decide)
    have hk := hk.put 5 (.pointer (some ⟨bx26, 0, none⟩)) rfl
    refine x_op hk rfl ?_
    refine op_store tab hk (t := 26) (v := .agg #[.int .i64 t18.1.Fore, .int .i64 t18.1.Back, .bool t18.1.Bold, .bool t18.1.Under, .bool t18.1.Inverse]) (b := bx26) (k := 0) (cs' := [.int .i64 t18.1.Fore, .int .i64 t18.1.Back, .bool t18.1.Bold, .bool t18.1.Under, .bool t18.1.Inverse]) rfl rfl rfl rfl rfl rfl f27 rfl rfl fun w28 o29 st30 f27_ => ?_
    replace f5 := f5.st st30 (by decide)
    replace hs := hs.loc0 st30 (by decide)
    replace f27 := f27_
    refine x_run tab hk (k := 1) (lv := []) (ks := [1, 2, 5, 6]) (e' := [(1, .int .i64 p1), (2, .pointer (some ⟨bx4, 0, none⟩)), (5, .pointer (some ⟨bx26, 0, none⟩)), (6, .int .i64 t18.2)]) rfl trivial fun a hk => ?_
    refine wpList_nil ?_
    refine then_n ?_
    refine x_mid (fun a_ w_ => ∃ o83 : Nat → Nat, Kn 74 a_ [(2, .pointer (some ⟨bx4, 0, none⟩))] ∧ St [] w (fun _ => 0) w_ o83 ∧ Ft (Bx bx4 23 [.int .i64 p0.Fore, .int .i64 p0.Back, .bool p0.Bold, .bool p0.Under, .bool p0.Inverse]) w_ o83 3 ∧ tidewracklaw08_StyleNums_j1 p0 = some r) ?_ ?_
    rotate_left
    · rintro a w84 ⟨o83, hk, hs, f5, H⟩
      rw [tidewracklaw08_StyleNums_j1] at H
      refine x_seq ?_
      refine wp_region_lit ?_
      refine x_run tab hk (k := 1) (lv := [.agg #[.int .i64 p0.Fore, .int .i64 p0.Back, .bool p0.Bold, .bool p0.Under, .bool p0.Inverse]]) (ks := [2, 49]) (e' := [(2, .pointer (some ⟨bx4, 0, none⟩)), (49, .agg #[.int .i64 p0.Fore, .int .i64 p0.Back, .bool p0.Bold, .bool p0.Under, .bool p0.Inverse])]) rfl ⟨(load_box tab rfl rfl f5.now (k := 0) rfl rfl), trivial⟩ fun a hk => ?_
      refine x_op hk rfl ?_
      obtain ⟨t88, hc89, H⟩ := bindS H
      refine op_call hk ent_12 (vs := [.agg #[.int .i64 p0.Fore, .int .i64 p0.Back, .bool p0.Bold, .bool p0.Under, .bool p0.Inverse]]) rfl (style_Style_Num_calls p0 _ o83    _ hc89) ?_
      rintro _ w90 ⟨o91, rfl, st92⟩
      replace f5 := f5.st st92 (by decide)
      replace hs := hs.loc0 st92 (by decide)
      have hk := hk.put 50 (.int .i64 t88) rfl
      refine x_run tab hk (k := 1) (lv := []) (ks := [2, 7]) (e' := [(2, .pointer (some ⟨bx4, 0, none⟩)), (7, .int .i64 t88)]) rfl trivial fun a hk => ?_
      refine wpList_nil ?_
      refine then_n ?_
      refine x_seq ?_
      refine wp_region_lit ?_
      refine x_run tab hk (k := 1) (lv := []) (ks := [2, 7, 52]) (e' := [(2, .pointer (some ⟨bx4, 0, none⟩)), (7, .int .i64 t88), (52, .int .i64 t88)]) rfl trivial fun a hk => ?_
      refine x_op hk rfl ?_
      obtain ⟨t96, hc97, H⟩ := bindS H
      refine op_call hk ent_11 (vs := [.int .i64 t88]) rfl (style_Of_calls t88 _ o91    _ hc97) ?_
      rintro _ w98 ⟨o99, rfl, st100⟩
      replace f5 := f5.st st100 (by decide)
      replace hs := hs.loc0 st100 (by decide)
      have hk := hk.put 53 (.tuple #[.agg #[.int .i64 t96.1.Fore, .int .i64 t96.1.Back, .bool t96.1.Bold, .bool t96.1.Under, .bool t96.1.Inverse], .int .i64 t96.2]) rfl
      refine x_run tab hk (k := 3) (lv := []) (ks := [2, 7, 54, 55]) (e' := [(2, .pointer (some ⟨bx4, 0, none⟩)), (7, .int .i64 t88), (54, .agg #[.int .i64 t96.1.Fore, .int .i64 t96.1.Back, .bool t96.1.Bold, .bool t96.1.Under, .bool t96.1.Inverse]), (55, .int .i64 t96.2)]) rfl trivial fun a hk => ?_
      refine x_op hk rfl ?_
      refine op_alloc (o := o99) tab (t := 26) (cs := [.int .i64 0, .int .i64 0, .bool false, .bool false, .bool false]) rfl rfl 4 fun bx104 w101 o102 st103 f105 => ?_
      replace f5 := f5.st st103 (by decide)
      replace hs := hs.loc0 st103 (by decide)
      have hk := hk.put 8 (.pointer (some ⟨bx104, 0, none⟩)) rfl
      refine x_op hk rfl ?_
      refine op_store tab hk (t := 26) (v := .agg #[.int .i64 t96.1.Fore, .int .i64 t96.1.Back, .bool t96.1.Bold, .bool t96.1.Under, .bool t96.1.Inverse]) (b := bx104) (k := 0) (cs' := [.int .i64 t96.1.Fore, .int .i64 t96.1.Back, .bool t96.1.Bold, .bool t96.1.Under, .bool t96.1.Inverse]) rfl rfl rfl rfl rfl rfl f105 rfl rfl fun w106 o107 st108 f105_ => ?_
      replace f5 := f5.st st108 (by decide)
      replace hs := hs.loc0 st108 (by decide)
      replace f105 := f105_
      refine x_run tab hk (k := 1) (lv := []) (ks := [2, 7, 8, 9]) (e' := [(2, .pointer (some ⟨bx4, 0, none⟩)), (7, .int .i64 t88), (8, .pointer (some ⟨bx104, 0, none⟩)), (9, .int .i64 t96.2)]) rfl trivial fun a hk => ?_
      refine wpList_nil ?_
      refine then_n ?_
      refine x_seq ?_
      refine wp_region_lit ?_
      refine x_run tab hk (k := 2) (lv := [.agg #[.int .i64 p0.Fore, .int .i64 p0.Back, .bool p0.Bold, .bool p0.Under, .bool p0.Inverse]]) (ks := [2, 8, 9, 56, 57]) (e' := [(2, .pointer (some ⟨bx4, 0, none⟩)), (8, .pointer (some ⟨bx104, 0, none⟩)), (9, .int .i64 t96.2), (56, .int .i64 t88), (57, .agg #[.int .i64 p0.Fore, .int .i64 p0.Back, .bool p0.Bold, .bool p0.Under, .bool p0.Inverse])]) rfl ⟨(load_box tab rfl rfl f5.now (k := 0) rfl rfl), trivial⟩ fun a hk => ?_
      refine x_op hk rfl ?_
      obtain ⟨t112, hc113, H⟩ := bindS H
      refine op_call hk ent_13 (vs := [.agg #[.int .i64 p0.Fore, .int .i64 p0.Back, .bool p0.Bold, .bool p0.Under, .bool p0.Inverse]]) rfl (tidewrackref08_Num_calls p0 _ o107    _ hc113) ?_
      rintro _ w114 ⟨o115, rfl, st116⟩
      replace f105 := f105.st st116 (by decide)
      replace f5 := f5.st st116 (by decide)
      replace hs := hs.loc0 st116 (by decide)
      have hk := hk.put 58 (.int .i64 t112) rfl
      refine x_run tab hk (k := 2) (lv := []) (ks := [2, 8, 9, 60]) (e' := [(2, .pointer (some ⟨bx4, 0, none⟩)), (8, .pointer (some ⟨bx104, 0, none⟩)), (9, .int .i64 t96.2), (60, .bool (t88 == t112))]) rfl trivial fun a hk => ?_
      cases b117 : (t88 == t112)
      · rw [b117] at hk H
        replace H := bifF H
        refine x_run tab hk (k := 12) (lv := []) (ks := [64, 72]) (e' := [(64, .bool false), (72, undef)]) rfl trivial fun a hk => ?_
        refine x_run tab hk (k := 2) (lv := []) (ks := [4]) (e' := [(4, .bool false)]) rfl trivial fun a hk => ?_
        refine wpList_nil ?_
        refine then_n ?_
        refine wp_ret ?_
        obtain rfl := Option.some.inj H
        exact x_retG hk (rs := [.tmp 4]) (vs := [.bool false]) rfl ⟨rfl, trivial⟩ ⟨fun b_ => if b_ < w.heap.size then o b_ else (fun _ => 0) (o115 b_), rfl, hs.close0 o (fun _ => 0)⟩
      · rw [b117] at hk H
        replace H := bifT H
        refine x_run tab hk (k := 4) (lv := []) (ks := [2, 8, 64]) (e' := [(2, .pointer (some ⟨bx4, 0, none⟩)), (8, .pointer (some ⟨bx104, 0, none⟩)), (64, .bool (t96.2 == (0 : Int)))]) rfl trivial fun a hk => ?_
        cases b118 : (t96.2 == (0 : Int))
        · rw [b118] at hk H
          replace H := bifF H
          refine x_run tab hk (k := 10) (lv := []) (ks := [4]) (e' := [(4, .bool false)]) rfl trivial fun a hk => ?_
          refine wpList_nil ?_
          refine then_n ?_
          refine wp_ret ?_
          obtain rfl := Option.some.inj H
          exact x_retG hk (rs := [.tmp 4]) (vs := [.bool false]) rfl ⟨rfl, trivial⟩ ⟨fun b_ => if b_ < w.heap.size then o b_ else (fun _ => 0) (o115 b_), rfl, hs.close0 o (fun _ => 0)⟩
        · rw [b118] at hk H
          replace H := bifT H
          refine x_run tab hk (k := 1) (lv := [.agg #[.int .i64 p0.Fore, .int .i64 p0.Back, .bool p0.Bold, .bool p0.Under, .bool p0.Inverse]]) (ks := [2, 8, 64, 65]) (e' := [(2, .pointer (some ⟨bx4, 0, none⟩)), (8, .pointer (some ⟨bx104, 0, none⟩)), (64, .bool true), (65, .agg #[.int .i64 p0.Fore, .int .i64 p0.Back, .bool p0.Bold, .bool p0.Under, .bool p0.Inverse])]) rfl ⟨(load_box tab rfl rfl f5.now (k := 0) rfl rfl), trivial⟩ fun a hk => ?_
          refine x_op hk rfl ?_
          obtain ⟨t122, hc123, H⟩ := bindS H
          refine op_call hk ent_14 (vs := [.agg #[.int .i64 p0.Fore, .int .i64 p0.Back, .bool p0.Bold, .bool p0.Under, .bool p0.Inverse]]) rfl (tidewrackref08_May_calls p0 _ o115    _ hc123) ?_
          rintro _ w124 ⟨o125, rfl, st126⟩
          replace f105 := f105.st st126 (by decide)
          replace f5 := f5.st st126 (by decide)
          replace hs := hs.loc0 st126 (by decide)
          have hk := hk.put 66 (.bool t122) rfl
          refine x_run tab hk (k := 2) (lv := []) (ks := [2, 8, 64, 68]) (e' := [(2, .pointer (some ⟨bx4, 0, none⟩)), (8, .pointer (some ⟨bx104, 0, none⟩)), (64, .bool true), (68, .bool (!t122))]) rfl trivial fun a hk => ?_
          cases b127 : (!t122)
          · rw [b127] at hk H
            replace H := bifF H
            refine x_run tab hk (k := 6) (lv := [.agg #[.int .i64 t96.1.Fore, .int .i64 t96.1.Back, .bool t96.1.Bold, .bool t96.1.Under, .bool t96.1.Inverse], .agg #[.int .i64 p0.Fore, .int .i64 p0.Back, .bool p0.Bold, .bool p0.Under, .bool p0.Inverse], .bool (eqT22 t96.1 p0)]) (ks := [4]) (e' := [(4, .bool (eqT22 t96.1 p0))]) rfl ⟨(load_box tab rfl rfl f105.now (k := 0) rfl rfl), (load_box tab rfl rfl f5.now (k := 0) rfl rfl), (ask_eq tab stood rfl rfl rfl rfl), trivial⟩ fun a hk => ?_
            refine wpList_nil ?_
            refine then_n ?_
            refine wp_ret ?_
            obtain rfl := Option.some.inj H
            exact x_retG hk (rs := [.tmp 4]) (vs := [.bool (eqT22 t96.1 p0)]) rfl ⟨rfl, trivial⟩ ⟨fun b_ => if b_ < w.heap.size then o b_ else (fun _ => 0) (o125 b_), rfl, hs.close0 o (fun _ => 0)⟩
          · rw [b127] at hk H
            replace H := bifT H
            refine x_run tab hk (k := 6) (lv := []) (ks := [4]) (e' := [(4, .bool true)]) rfl trivial fun a hk => ?_
            refine wpList_nil ?_
            refine then_n ?_
            refine wp_ret ?_
            obtain rfl := Option.some.inj H
            exact x_retG hk (rs := [.tmp 4]) (vs := [.bool true]) rfl ⟨rfl, trivial⟩ ⟨fun b_ => if b_ < w.heap.size then o b_ else (fun _ => 0) (o125 b_), rfl, hs.close0 o (fun _ => 0)⟩
    refine x_seq ?_
    refine wp_region_lit ?_
    refine x_run tab hk (k := 5) (lv := []) (ks := [1, 2, 5, 6, 18, 21]) (e' := [(1, .int .i64 p1), (2, .pointer (some ⟨bx4, 0, none⟩)), (5, .pointer (some ⟨bx26, 0, none⟩)), (6, .int .i64 t18.2), (18, .bool (t18.2 == (0 : Int))), (21, .bool (decide (p1 ≥ (0 : Int))))]) rfl trivial fun a hk => ?_
    cases b128 : (decide (p1 ≥ (0 : Int)))
    · rw [b128] at hk H
      replace H := bifF H
      refine x_run tab hk (k := 5) (lv := []) (ks := [1, 2, 5, 6, 26]) (e' := [(1, .int .i64 p1), (2, .pointer (some ⟨bx4, 0, none⟩)), (5, .pointer (some ⟨bx26, 0, none⟩)), (6, .int .i64 t18.2), (26, .bool (!((t18.2 == (0 : Int)) == false)))]) rfl trivial fun a hk => ?_
      cases b129 : (!((t18.2 == (0 : Int)) == false))
      · rw [b129] at hk H
        replace H := bifF H
        refine x_run tab hk (k := 3) (lv := []) (ks := [1, 2, 5, 6, 26, 29]) (e' := [(1, .int .i64 p1), (2, .pointer (some ⟨bx4, 0, none⟩)), (5, .pointer (some ⟨bx26, 0, none⟩)), (6, .int .i64 t18.2), (26, .bool false), (29, .bool (t18.2 != (0 : Int)))]) rfl trivial fun a hk => ?_
        cases b130 : (t18.2 != (0 : Int))
        · rw [b130] at hk H
          replace H := bifF H
          refine x_run tab hk (k := 10) (lv := []) (ks := [1, 2, 5, 6, 39]) (e' := [(1, .int .i64 p1), (2, .pointer (some ⟨bx4, 0, none⟩)), (5, .pointer (some ⟨bx26, 0, none⟩)), (6, .int .i64 t18.2), (39, .bool false)]) rfl trivial fun a hk => ?_
          refine x_run tab hk (k := 3) (lv := []) (ks := [1, 2, 5, 39, 42]) (e' := [(1, .int .i64 p1), (2, .pointer (some ⟨bx4, 0, none⟩)), (5, .pointer (some ⟨bx26, 0, none⟩)), (39, .bool false), (42, .bool (t18.2 == (0 : Int)))]) rfl trivial fun a hk => ?_
          cases b131 : (t18.2 == (0 : Int))
          · rw [b131] at hk H
            replace H := bifF H
            refine x_run tab hk (k := 6) (lv := []) (ks := [2, 48]) (e' := [(2, .pointer (some ⟨bx4, 0, none⟩)), (48, .bool false)]) rfl trivial fun a hk => ?_
            refine wpList_nil ?_
            refine then_n ?_
            refine x_if hk (b := false) rfl ?_
            refine (show Code.wp _ _ _ _ _ from ?_)
            refine wp_skip ?_
            refine then_n ?_
            exact ⟨(fun b_ => (fun l_ => if l_ = 1 then 3 else l_) (o29 b_)), (by exact Kn.pick (ks := [2]) hk rfl), (hs.relab0 (fun l_ => if l_ = 1 then 3 else l_) rfl), (f5.relab (fun l_ => if l_ = 1 then 3 else l_) rfl), H⟩
          · rw [b131] at hk H
            replace H := bifT H
            refine x_run tab hk (k := 1) (lv := [.agg #[.int .i64 t18.1.Fore, .int .i64 t18.1.Back, .bool t18.1.Bold, .bool t18.1.Under, .bool t18.1.Inverse]]) (ks := [1, 2, 39, 42, 43]) (e' := [(1, .int .i64 p1), (2, .pointer (some ⟨bx4, 0, none⟩)), (39, .bool false), (42, .bool true), (43, .agg #[.int .i64 t18.1.Fore, .int .i64 t18.1.Back, .bool t18.1.Bold, .bool t18.1.Under, .bool t18.1.Inverse])]) rfl ⟨(load_box tab rfl rfl f27.now (k := 0) rfl rfl), trivial⟩ fun a hk => ?_
            refine x_op hk rfl ?_
            obtain ⟨t135, hc136, H⟩ := bindS H
            refine op_call hk ent_12 (vs := [.agg #[.int .i64 t18.1.Fore, .int .i64 t18.1.Back, .bool t18.1.Bold, .bool t18.1.Under, .bool t18.1.Inverse]]) rfl (style_Style_Num_calls t18.1 _ o29    _ hc136) ?_
            rintro _ w137 ⟨o138, rfl, st139⟩
            replace f5 := f5.st st139 (by decide)
            replace hs := hs.loc0 st139 (by decide)
            have hk := hk.put 44 (.int .i64 t135) rfl
            refine x_run tab hk (k := 4) (lv := []) (ks := [2, 48]) (e' := [(2, .pointer (some ⟨bx4, 0, none⟩)), (48, .bool (t135 != p1))]) rfl trivial fun a hk => ?_
            refine wpList_nil ?_
            refine then_n ?_
            cases b140 : (t135 != p1)
            · rw [b140] at hk H
              replace H := bifF H
              refine x_if hk (b := false) rfl ?_
              refine (show Code.wp _ _ _ _ _ from ?_)
              refine wp_skip ?_
              refine then_n ?_
              exact ⟨(fun b_ => (fun l_ => if l_ = 1 then 3 else l_) (o138 b_)), (by exact Kn.pick (ks := [2]) hk rfl), (hs.relab0 (fun l_ => if l_ = 1 then 3 else l_) rfl), (f5.relab (fun l_ => if l_ = 1 then 3 else l_) rfl), H⟩
            · rw [b140] at hk H
              replace H := bifT H
              refine x_if hk (b := true) rfl ?_
              refine (show Code.wp _ _ _ _ _ from ?_)
              refine x_seq ?_
              refine wp_region_lit ?_
              refine x_run tab hk (k := 1) (lv := []) (ks := [4]) (e' := [(4, .bool false)]) rfl trivial fun a hk => ?_
              refine wpList_nil ?_
              refine then_n ?_
              refine wp_ret ?_
              refine then_r ?_
              obtain rfl := Option.some.inj H
              exact x_retG hk (rs := [.tmp 4]) (vs := [.bool false]) rfl ⟨rfl, trivial⟩ ⟨fun b_ => if b_ < w.heap.size then o b_ else (fun _ => 0) (o138 b_), rfl, hs.close0 o (fun _ => 0)⟩
        · rw [b130] at hk H
          replace H := bifT H
          refine x_run tab hk (k := 3) (lv := []) (ks := [1, 2, 5, 6, 26, 29, 32]) (e' := [(1, .int .i64 p1), (2, .pointer (some ⟨bx4, 0, none⟩)), (5, .pointer (some ⟨bx26, 0, none⟩)), (6, .int .i64 t18.2), (26, .bool false), (29, .bool true), (32, .bool (t18.2 != (1 : Int)))]) rfl trivial fun a hk => ?_
          cases b141 : (t18.2 != (1 : Int))
          · rw [b141] at hk H
            replace H := bifF H
            refine x_run tab hk (k := 7) (lv := [.agg #[.int .i64 t18.1.Fore, .int .i64 t18.1.Back, .bool t18.1.Bold, .bool t18.1.Under, .bool t18.1.Inverse], .bool (!(eqT22 t18.1 (⟨0, 0, false, false, false⟩ : T22)))]) (ks := [1, 2, 5, 6, 39]) (e' := [(1, .int .i64 p1), (2, .pointer (some ⟨bx4, 0, none⟩)), (5, .pointer (some ⟨bx26, 0, none⟩)), (6, .int .i64 t18.2), (39, .bool (!(eqT22 t18.1 (⟨0, 0, false, false, false⟩ : T22))))]) rfl ⟨(load_box tab rfl rfl f27.now (k := 0) rfl rfl), (ask_neq tab stood rfl rfl rfl rfl), trivial⟩ fun a hk => ?_
            cases b142 : (!(eqT22 t18.1 (⟨0, 0, false, false, false⟩ : T22)))
            · rw [b142] at hk H
              replace H := bifF H
              refine x_run tab hk (k := 3) (lv := []) (ks := [1, 2, 5, 39, 42]) (e' := [(1, .int .i64 p1), (2, .pointer (some ⟨bx4, 0, none⟩)), (5, .pointer (some ⟨bx26, 0, none⟩)), (39, .bool false), (42, .bool (t18.2 == (0 : Int)))]) rfl trivial fun a hk => ?_
              cases b143 : (t18.2 == (0 : Int))
              · rw [b143] at hk H
                replace H := bifF H
                refine x_run tab hk (k := 6) (lv := []) (ks := [2, 48]) (e' := [(2, .pointer (some ⟨bx4, 0, none⟩)), (48, .bool false)]) rfl trivial fun a hk => ?_
                refine wpList_nil ?_
                refine then_n ?_
                refine x_if hk (b := false) rfl ?_
                refine (show Code.wp _ _ _ _ _ from ?_)
                refine wp_skip ?_
                refine then_n ?_
                exact ⟨(fun b_ => (fun l_ => if l_ = 1 then 3 else l_) (o29 b_)), (by exact Kn.pick (ks := [2]) hk rfl), (hs.relab0 (fun l_ => if l_ = 1 then 3 else l_) rfl), (f5.relab (fun l_ => if l_ = 1 then 3 else l_) rfl), H⟩
              · rw [b143] at hk H
                replace H := bifT H
                refine x_run tab hk (k := 1) (lv := [.agg #[.int .i64 t18.1.Fore, .int .i64 t18.1.Back, .bool t18.1.Bold, .bool t18.1.Under, .bool t18.1.Inverse]]) (ks := [1, 2, 39, 42, 43]) (e' := [(1, .int .i64 p1), (2, .pointer (some ⟨bx4, 0, none⟩)), (39, .bool false), (42, .bool true), (43, .agg #[.int .i64 t18.1.Fore, .int .i64 t18.1.Back, .bool t18.1.Bold, .bool t18.1.Under, .bool t18.1.Inverse])]) rfl ⟨(load_box tab rfl rfl f27.now (k := 0) rfl rfl), trivial⟩ fun a hk => ?_
                refine x_op hk rfl ?_
                obtain ⟨t147, hc148, H⟩ := bindS H
                refine op_call hk ent_12 (vs := [.agg #[.int .i64 t18.1.Fore, .int .i64 t18.1.Back, .bool t18.1.Bold, .bool t18.1.Under, .bool t18.1.Inverse]]) rfl (style_Style_Num_calls t18.1 _ o29    _ hc148) ?_
                rintro _ w149 ⟨o150, rfl, st151⟩
                replace f5 := f5.st st151 (by decide)
                replace hs := hs.loc0 st151 (by decide)
                have hk := hk.put 44 (.int .i64 t147) rfl
                refine x_run tab hk (k := 4) (lv := []) (ks := [2, 48]) (e' := [(2, .pointer (some ⟨bx4, 0, none⟩)), (48, .bool (t147 != p1))]) rfl trivial fun a hk => ?_
                refine wpList_nil ?_
                refine then_n ?_
                cases b152 : (t147 != p1)
                · rw [b152] at hk H
                  replace H := bifF H
                  refine x_if hk (b := false) rfl ?_
                  refine (show Code.wp _ _ _ _ _ from ?_)
                  refine wp_skip ?_
                  refine then_n ?_
                  exact ⟨(fun b_ => (fun l_ => if l_ = 1 then 3 else l_) (o150 b_)), (by exact Kn.pick (ks := [2]) hk rfl), (hs.relab0 (fun l_ => if l_ = 1 then 3 else l_) rfl), (f5.relab (fun l_ => if l_ = 1 then 3 else l_) rfl), H⟩
                · rw [b152] at hk H
                  replace H := bifT H
                  refine x_if hk (b := true) rfl ?_
                  refine (show Code.wp _ _ _ _ _ from ?_)
                  refine x_seq ?_
                  refine wp_region_lit ?_
                  refine x_run tab hk (k := 1) (lv := []) (ks := [4]) (e' := [(4, .bool false)]) rfl trivial fun a hk => ?_
                  refine wpList_nil ?_
                  refine then_n ?_
                  refine wp_ret ?_
                  refine then_r ?_
                  obtain rfl := Option.some.inj H
                  exact x_retG hk (rs := [.tmp 4]) (vs := [.bool false]) rfl ⟨rfl, trivial⟩ ⟨fun b_ => if b_ < w.heap.size then o b_ else (fun _ => 0) (o150 b_), rfl, hs.close0 o (fun _ => 0)⟩
            · rw [b142] at hk H
              replace H := bifT H
              refine x_run tab hk (k := 9) (lv := []) (ks := [2, 48]) (e' := [(2, .pointer (some ⟨bx4, 0, none⟩)), (48, .bool true)]) rfl trivial fun a hk => ?_
              refine wpList_nil ?_
              refine then_n ?_
              refine x_if hk (b := true) rfl ?_
              refine (show Code.wp _ _ _ _ _ from ?_)
              refine x_seq ?_
              refine wp_region_lit ?_
              refine x_run tab hk (k := 1) (lv := []) (ks := [4]) (e' := [(4, .bool false)]) rfl trivial fun a hk => ?_
              refine wpList_nil ?_
              refine then_n ?_
              refine wp_ret ?_
              refine then_r ?_
              obtain rfl := Option.some.inj H
              exact x_retG hk (rs := [.tmp 4]) (vs := [.bool false]) rfl ⟨rfl, trivial⟩ ⟨fun b_ => if b_ < w.heap.size then o b_ else (fun _ => 0) (o29 b_), rfl, hs.close0 o (fun _ => 0)⟩
          · rw [b141] at hk H
            replace H := bifT H
            refine x_run tab hk (k := 15) (lv := []) (ks := [2, 39, 47]) (e' := [(2, .pointer (some ⟨bx4, 0, none⟩)), (39, .bool true), (47, undef)]) rfl trivial fun a hk => ?_
            refine x_run tab hk (k := 1) (lv := []) (ks := [2, 48]) (e' := [(2, .pointer (some ⟨bx4, 0, none⟩)), (48, .bool true)]) rfl trivial fun a hk => ?_
            refine wpList_nil ?_
            refine then_n ?_
            refine x_if hk (b := true) rfl ?_
            refine (show Code.wp _ _ _ _ _ from ?_)
            refine x_seq ?_
            refine wp_region_lit ?_
            refine x_run tab hk (k := 1) (lv := []) (ks := [4]) (e' := [(4, .bool false)]) rfl trivial fun a hk => ?_
            refine wpList_nil ?_
            refine then_n ?_
            refine wp_ret ?_
            refine then_r ?_
            obtain rfl := Option.some.inj H
            exact x_retG hk (rs := [.tmp 4]) (vs := [.bool false]) rfl ⟨rfl, trivial⟩ ⟨fun b_ => if b_ < w.heap.size then o b_ else (fun _ => 0) (o29 b_), rfl, hs.close0 o (fun _ => 0)⟩
      · rw [b129] at hk H
        replace H := bifT H
        refine x_run tab hk (k := 11) (lv := []) (ks := [1, 2, 5, 6, 26, 37]) (e' := [(1, .int .i64 p1), (2, .pointer (some ⟨bx4, 0, none⟩)), (5, .pointer (some ⟨bx26, 0, none⟩)), (6, .int .i64 t18.2), (26, .bool true), (37, undef)]) rfl trivial fun a hk => ?_
        refine x_run tab hk (k := 10) (lv := []) (ks := [2, 39, 47]) (e' := [(2, .pointer (some ⟨bx4, 0, none⟩)), (39, .bool true), (47, undef)]) rfl trivial fun a hk => ?_
        refine x_run tab hk (k := 1) (lv := []) (ks := [2, 48]) (e' := [(2, .pointer (some ⟨bx4, 0, none⟩)), (48, .bool true)]) rfl trivial fun a hk => ?_
        refine wpList_nil ?_
        refine then_n ?_
        refine x_if hk (b := true) rfl ?_
        refine (show Code.wp _ _ _ _ _ from ?_)
        refine x_seq ?_
        refine wp_region_lit ?_
        refine x_run tab hk (k := 1) (lv := []) (ks := [4]) (e' := [(4, .bool false)]) rfl trivial fun a hk => ?_
        refine wpList_nil ?_
        refine then_n ?_
        refine wp_ret ?_
        refine then_r ?_
        obtain rfl := Option.some.inj H
        exact x_retG hk (rs := [.tmp 4]) (vs := [.bool false]) rfl ⟨rfl, trivial⟩ ⟨fun b_ => if b_ < w.heap.size then o b_ else (fun _ => 0) (o29 b_), rfl, hs.close0 o (fun _ => 0)⟩
    · rw [b128] at hk H
      replace H := bifT H
      refine x_run tab hk (k := 5) (lv := []) (ks := [1, 2, 5, 6, 26]) (e' := [(1, .int .i64 p1), (2, .pointer (some ⟨bx4, 0, none⟩)), (5, .pointer (some ⟨bx26, 0, none⟩)), (6, .int .i64 t18.2), (26, .bool (!((t18.2 == (0 : Int)) == (decide (p1 ≤ (647 : Int))))))]) rfl trivial fun a hk => ?_
      cases b153 : (!((t18.2 == (0 : Int)) == (decide (p1 ≤ (647 : Int)))))
      · rw [b153] at hk H
        replace H := bifF H
        refine x_run tab hk (k := 3) (lv := []) (ks := [1, 2, 5, 6, 26, 29]) (e' := [(1, .int .i64 p1), (2, .pointer (some ⟨bx4, 0, none⟩)), (5, .pointer (some ⟨bx26, 0, none⟩)), (6, .int .i64 t18.2), (26, .bool false), (29, .bool (t18.2 != (0 : Int)))]) rfl trivial fun a hk => ?_
        cases b154 : (t18.2 != (0 : Int))
        · rw [b154] at hk H
          replace H := bifF H
          refine x_run tab hk (k := 10) (lv := []) (ks := [1, 2, 5, 6, 39]) (e' := [(1, .int .i64 p1), (2, .pointer (some ⟨bx4, 0, none⟩)), (5, .pointer (some ⟨bx26, 0, none⟩)), (6, .int .i64 t18.2), (39, .bool false)]) rfl trivial fun a hk => ?_
          refine x_run tab hk (k := 3) (lv := []) (ks := [1, 2, 5, 39, 42]) (e' := [(1, .int .i64 p1), (2, .pointer (some ⟨bx4, 0, none⟩)), (5, .pointer (some ⟨bx26, 0, none⟩)), (39, .bool false), (42, .bool (t18.2 == (0 : Int)))]) rfl trivial fun a hk => ?_
          cases b155 : (t18.2 == (0 : Int))
          · rw [b155] at hk H
            replace H := bifF H
            refine x_run tab hk (k := 6) (lv := []) (ks := [2, 48]) (e' := [(2, .pointer (some ⟨bx4, 0, none⟩)), (48, .bool false)]) rfl trivial fun a hk => ?_
            refine wpList_nil ?_
            refine then_n ?_
            refine x_if hk (b := false) rfl ?_
            refine (show Code.wp _ _ _ _ _ from ?_)
            refine wp_skip ?_
            refine then_n ?_
            exact ⟨(fun b_ => (fun l_ => if l_ = 1 then 3 else l_) (o29 b_)), (by exact Kn.pick (ks := [2]) hk rfl), (hs.relab0 (fun l_ => if l_ = 1 then 3 else l_) rfl), (f5.relab (fun l_ => if l_ = 1 then 3 else l_) rfl), H⟩
          · rw [b155] at hk H
            replace H := bifT H
            refine x_run tab hk (k := 1) (lv := [.agg #[.int .i64 t18.1.Fore, .int .i64 t18.1.Back, .bool t18.1.Bold, .bool t18.1.Under, .bool t18.1.Inverse]]) (ks := [1, 2, 39, 42, 43]) (e' := [(1, .int .i64 p1), (2, .pointer (some ⟨bx4, 0, none⟩)), (39, .bool false), (42, .bool true), (43, .agg #[.int .i64 t18.1.Fore, .int .i64 t18.1.Back, .bool t18.1.Bold, .bool t18.1.Under, .bool t18.1.Inverse])]) rfl ⟨(load_box tab rfl rfl f27.now (k := 0) rfl rfl), trivial⟩ fun a hk => ?_
            refine x_op hk rfl ?_
            obtain ⟨t159, hc160, H⟩ := bindS H
            refine op_call hk ent_12 (vs := [.agg #[.int .i64 t18.1.Fore, .int .i64 t18.1.Back, .bool t18.1.Bold, .bool t18.1.Under, .bool t18.1.Inverse]]) rfl (style_Style_Num_calls t18.1 _ o29    _ hc160) ?_
            rintro _ w161 ⟨o162, rfl, st163⟩
            replace f5 := f5.st st163 (by decide)
            replace hs := hs.loc0 st163 (by decide)
            have hk := hk.put 44 (.int .i64 t159) rfl
            refine x_run tab hk (k := 4) (lv := []) (ks := [2, 48]) (e' := [(2, .pointer (some ⟨bx4, 0, none⟩)), (48, .bool (t159 != p1))]) rfl trivial fun a hk => ?_
            refine wpList_nil ?_
            refine then_n ?_
            cases b164 : (t159 != p1)
            · rw [b164] at hk H
              replace H := bifF H
              refine x_if hk (b := false) rfl ?_
              refine (show Code.wp _ _ _ _ _ from ?_)
              refine wp_skip ?_
              refine then_n ?_
              exact ⟨(fun b_ => (fun l_ => if l_ = 1 then 3 else l_) (o162 b_)), (by exact Kn.pick (ks := [2]) hk rfl), (hs.relab0 (fun l_ => if l_ = 1 then 3 else l_) rfl), (f5.relab (fun l_ => if l_ = 1 then 3 else l_) rfl), H⟩
            · rw [b164] at hk H
              replace H := bifT H
              refine x_if hk (b := true) rfl ?_
              refine (show Code.wp _ _ _ _ _ from ?_)
              refine x_seq ?_
              refine wp_region_lit ?_
              refine x_run tab hk (k := 1) (lv := []) (ks := [4]) (e' := [(4, .bool false)]) rfl trivial fun a hk => ?_
              refine wpList_nil ?_
              refine then_n ?_
              refine wp_ret ?_
              refine then_r ?_
              obtain rfl := Option.some.inj H
              exact x_retG hk (rs := [.tmp 4]) (vs := [.bool false]) rfl ⟨rfl, trivial⟩ ⟨fun b_ => if b_ < w.heap.size then o b_ else (fun _ => 0) (o162 b_), rfl, hs.close0 o (fun _ => 0)⟩
        · rw [b154] at hk H
          replace H := bifT H
          refine x_run tab hk (k := 3) (lv := []) (ks := [1, 2, 5, 6, 26, 29, 32]) (e' := [(1, .int .i64 p1), (2, .pointer (some ⟨bx4, 0, none⟩)), (5, .pointer (some ⟨bx26, 0, none⟩)), (6, .int .i64 t18.2), (26, .bool false), (29, .bool true), (32, .bool (t18.2 != (1 : Int)))]) rfl trivial fun a hk => ?_
          cases b165 : (t18.2 != (1 : Int))
          · rw [b165] at hk H
            replace H := bifF H
            refine x_run tab hk (k := 7) (lv := [.agg #[.int .i64 t18.1.Fore, .int .i64 t18.1.Back, .bool t18.1.Bold, .bool t18.1.Under, .bool t18.1.Inverse], .bool (!(eqT22 t18.1 (⟨0, 0, false, false, false⟩ : T22)))]) (ks := [1, 2, 5, 6, 39]) (e' := [(1, .int .i64 p1), (2, .pointer (some ⟨bx4, 0, none⟩)), (5, .pointer (some ⟨bx26, 0, none⟩)), (6, .int .i64 t18.2), (39, .bool (!(eqT22 t18.1 (⟨0, 0, false, false, false⟩ : T22))))]) rfl ⟨(load_box tab rfl rfl f27.now (k := 0) rfl rfl), (ask_neq tab stood rfl rfl rfl rfl), trivial⟩ fun a hk => ?_
            cases b166 : (!(eqT22 t18.1 (⟨0, 0, false, false, false⟩ : T22)))
            · rw [b166] at hk H
              replace H := bifF H
              refine x_run tab hk (k := 3) (lv := []) (ks := [1, 2, 5, 39, 42]) (e' := [(1, .int .i64 p1), (2, .pointer (some ⟨bx4, 0, none⟩)), (5, .pointer (some ⟨bx26, 0, none⟩)), (39, .bool false), (42, .bool (t18.2 == (0 : Int)))]) rfl trivial fun a hk => ?_
              cases b167 : (t18.2 == (0 : Int))
              · rw [b167] at hk H
                replace H := bifF H
                refine x_run tab hk (k := 6) (lv := []) (ks := [2, 48]) (e' := [(2, .pointer (some ⟨bx4, 0, none⟩)), (48, .bool false)]) rfl trivial fun a hk => ?_
                refine wpList_nil ?_
                refine then_n ?_
                refine x_if hk (b := false) rfl ?_
                refine (show Code.wp _ _ _ _ _ from ?_)
                refine wp_skip ?_
                refine then_n ?_
                exact ⟨(fun b_ => (fun l_ => if l_ = 1 then 3 else l_) (o29 b_)), (by exact Kn.pick (ks := [2]) hk rfl), (hs.relab0 (fun l_ => if l_ = 1 then 3 else l_) rfl), (f5.relab (fun l_ => if l_ = 1 then 3 else l_) rfl), H⟩
              · rw [b167] at hk H
                replace H := bifT H
                refine x_run tab hk (k := 1) (lv := [.agg #[.int .i64 t18.1.Fore, .int .i64 t18.1.Back, .bool t18.1.Bold, .bool t18.1.Under, .bool t18.1.Inverse]]) (ks := [1, 2, 39, 42, 43]) (e' := [(1, .int .i64 p1), (2, .pointer (some ⟨bx4, 0, none⟩)), (39, .bool false), (42, .bool true), (43, .agg #[.int .i64 t18.1.Fore, .int .i64 t18.1.Back, .bool t18.1.Bold, .bool t18.1.Under, .bool t18.1.Inverse])]) rfl ⟨(load_box tab rfl rfl f27.now (k := 0) rfl rfl), trivial⟩ fun a hk => ?_
                refine x_op hk rfl ?_
                obtain ⟨t171, hc172, H⟩ := bindS H
                refine op_call hk ent_12 (vs := [.agg #[.int .i64 t18.1.Fore, .int .i64 t18.1.Back, .bool t18.1.Bold, .bool t18.1.Under, .bool t18.1.Inverse]]) rfl (style_Style_Num_calls t18.1 _ o29    _ hc172) ?_
                rintro _ w173 ⟨o174, rfl, st175⟩
                replace f5 := f5.st st175 (by decide)
                replace hs := hs.loc0 st175 (by decide)
                have hk := hk.put 44 (.int .i64 t171) rfl
                refine x_run tab hk (k := 4) (lv := []) (ks := [2, 48]) (e' := [(2, .pointer (some ⟨bx4, 0, none⟩)), (48, .bool (t171 != p1))]) rfl trivial fun a hk => ?_
                refine wpList_nil ?_
                refine then_n ?_
                cases b176 : (t171 != p1)
                · rw [b176] at hk H
                  replace H := bifF H
                  refine x_if hk (b := false) rfl ?_
                  refine (show Code.wp _ _ _ _ _ from ?_)
                  refine wp_skip ?_
                  refine then_n ?_
                  exact ⟨(fun b_ => (fun l_ => if l_ = 1 then 3 else l_) (o174 b_)), (by exact Kn.pick (ks := [2]) hk rfl), (hs.relab0 (fun l_ => if l_ = 1 then 3 else l_) rfl), (f5.relab (fun l_ => if l_ = 1 then 3 else l_) rfl), H⟩
                · rw [b176] at hk H
                  replace H := bifT H
                  refine x_if hk (b := true) rfl ?_
                  refine (show Code.wp _ _ _ _ _ from ?_)
                  refine x_seq ?_
                  refine wp_region_lit ?_
                  refine x_run tab hk (k := 1) (lv := []) (ks := [4]) (e' := [(4, .bool false)]) rfl trivial fun a hk => ?_
                  refine wpList_nil ?_
                  refine then_n ?_
                  refine wp_ret ?_
                  refine then_r ?_
                  obtain rfl := Option.some.inj H
                  exact x_retG hk (rs := [.tmp 4]) (vs := [.bool false]) rfl ⟨rfl, trivial⟩ ⟨fun b_ => if b_ < w.heap.size then o b_ else (fun _ => 0) (o174 b_), rfl, hs.close0 o (fun _ => 0)⟩
            · rw [b166] at hk H
              replace H := bifT H
              refine x_run tab hk (k := 9) (lv := []) (ks := [2, 48]) (e' := [(2, .pointer (some ⟨bx4, 0, none⟩)), (48, .bool true)]) rfl trivial fun a hk => ?_
              refine wpList_nil ?_
              refine then_n ?_
              refine x_if hk (b := true) rfl ?_
              refine (show Code.wp _ _ _ _ _ from ?_)
              refine x_seq ?_
              refine wp_region_lit ?_
              refine x_run tab hk (k := 1) (lv := []) (ks := [4]) (e' := [(4, .bool false)]) rfl trivial fun a hk => ?_
              refine wpList_nil ?_
              refine then_n ?_
              refine wp_ret ?_
              refine then_r ?_
              obtain rfl := Option.some.inj H
              exact x_retG hk (rs := [.tmp 4]) (vs := [.bool false]) rfl ⟨rfl, trivial⟩ ⟨fun b_ => if b_ < w.heap.size then o b_ else (fun _ => 0) (o29 b_), rfl, hs.close0 o (fun _ => 0)⟩
          · rw [b165] at hk H
            replace H := bifT H
            refine x_run tab hk (k := 15) (lv := []) (ks := [2, 39, 47]) (e' := [(2, .pointer (some ⟨bx4, 0, none⟩)), (39, .bool true), (47, undef)]) rfl trivial fun a hk => ?_
            refine x_run tab hk (k := 1) (lv := []) (ks := [2, 48]) (e' := [(2, .pointer (some ⟨bx4, 0, none⟩)), (48, .bool true)]) rfl trivial fun a hk => ?_
            refine wpList_nil ?_
            refine then_n ?_
            refine x_if hk (b := true) rfl ?_
            refine (show Code.wp _ _ _ _ _ from ?_)
            refine x_seq ?_
            refine wp_region_lit ?_
            refine x_run tab hk (k := 1) (lv := []) (ks := [4]) (e' := [(4, .bool false)]) rfl trivial fun a hk => ?_
            refine wpList_nil ?_
            refine then_n ?_
            refine wp_ret ?_
            refine then_r ?_
            obtain rfl := Option.some.inj H
            exact x_retG hk (rs := [.tmp 4]) (vs := [.bool false]) rfl ⟨rfl, trivial⟩ ⟨fun b_ => if b_ < w.heap.size then o b_ else (fun _ => 0) (o29 b_), rfl, hs.close0 o (fun _ => 0)⟩
      · rw [b153] at hk H
        replace H := bifT H
        refine x_run tab hk (k := 11) (lv := []) (ks := [1, 2, 5, 6, 26, 37]) (e' := [(1, .int .i64 p1), (2, .pointer (some ⟨bx4, 0, none⟩)), (5, .pointer (some ⟨bx26, 0, none⟩)), (6, .int .i64 t18.2), (26, .bool true), (37, undef)]) rfl trivial fun a hk => ?_
        refine x_run tab hk (k := 10) (lv := []) (ks := [2, 39, 47]) (e' := [(2, .pointer (some ⟨bx4, 0, none⟩)), (39, .bool true), (47, undef)]) rfl trivial fun a hk => ?_
        refine x_run tab hk (k := 1) (lv := []) (ks := [2, 48]) (e' := [(2, .pointer (some ⟨bx4, 0, none⟩)), (48, .bool true)]) rfl trivial fun a hk => ?_
        refine wpList_nil ?_
        refine then_n ?_
        refine x_if hk (b := true) rfl ?_
        refine (show Code.wp _ _ _ _ _ from ?_)
        refine x_seq ?_
        refine wp_region_lit ?_
        refine x_run tab hk (k := 1) (lv := []) (ks := [4]) (e' := [(4, .bool false)]) rfl trivial fun a hk => ?_
        refine wpList_nil ?_
        refine then_n ?_
        refine wp_ret ?_
        refine then_r ?_
        obtain rfl := Option.some.inj H
        exact x_retG hk (rs := [.tmp 4]) (vs := [.bool false]) rfl ⟨rfl, trivial⟩ ⟨fun b_ => if b_ < w.heap.size then o b_ else (fun _ => 0) (o29 b_), rfl, hs.close0 o (fun _ => 0)⟩
  · rw [b14] at hk H
    replace H := bifT H
    refine x_if hk (b := true) rfl ?_
    refine (show Code.wp _ _ _ _ _ from ?_)
    refine x_seq ?_
    refine wp_region_lit ?_
    refine x_run tab hk (k := 1) (lv := []) (ks := [4]) (e' := [(4, .bool false)]) rfl trivial fun a hk => ?_
    refine wpList_nil ?_
    refine then_n ?_
    refine wp_ret ?_
    refine then_r ?_
    obtain rfl := Option.some.inj H
    exact x_retG hk (rs := [.tmp 4]) (vs := [.bool false]) rfl ⟨rfl, trivial⟩ ⟨fun b_ => if b_ < w.heap.size then o b_ else (fun _ => 0) (o12 b_), rfl, hs.close0 o (fun _ => 0)⟩

/-! tidewrack/tidewracklaw08.StyleMay -/
theorem tidewracklaw08_StyleMay_calls (K : Nat) (p0 : T22) (Ap1 : Option Addr) (cp1 : Nat) (p1 : List Int) (w : World) (o : Nat → Nat) (Lp1 : Nat) (hp1 : Ft (RdC (encInt .i64) Ap1 p1) w o Lp1) (hcp1 : p1.length ≤ cp1) (r : Bool) (H : tidewracklaw08_StyleMay K p0 p1 = some r) :
    Calls Try.prog 6 #[.agg #[.int .i64 p0.Fore, .int .i64 p0.Back, .bool p0.Bold, .bool p0.Under, .bool p0.Inverse], .slice Ap1 (p1).length cp1] w (Ret fun v_ w' => ∃ o' : Nat → Nat, v_ = .bool r ∧ St [] w o w' o') := by
  refine x_enter (vs := [.agg #[.int .i64 p0.Fore, .int .i64 p0.Back, .bool p0.Bold, .bool p0.Under, .bool p0.Inverse], .slice Ap1 (p1).length cp1]) Try.func6 rfl rfl rfl fun a hk => ?_
  obtain ⟨o0, hs, h0⟩ := St.start w o
  have f901 := h0 _ _ hp1
  clear h0
  rw [tidewracklaw08_StyleMay] at H
  refine x_seq ?_
  refine wp_region_lit ?_
  refine x_op hk rfl ?_
  refine op_box (o := o0) (t := 23) (v := .agg #[.int .i64 p0.Fore, .int .i64 p0.Back, .bool p0.Bold, .bool p0.Under, .bool p0.Inverse]) (cs := [.int .i64 p0.Fore, .int .i64 p0.Back, .bool p0.Bold, .bool p0.Under, .bool p0.Inverse]) hk rfl rfl 1 fun bx4 w1 o2 st3 f5 => ?_
  replace f901 := f901.st st3 (by decide)
  replace hs := hs.loc0 st3 (by decide)
  have hk := hk.put 2 (.pointer (some ⟨bx4, 0, none⟩)) rfl
  refine x_run tab hk (k := 1) (lv := []) (ks := [1, 2]) (e' := [(1, .slice Ap1 (p1).length cp1), (2, .pointer (some ⟨bx4, 0, none⟩))]) rfl trivial fun a hk => ?_
  refine wpList_nil ?_
  refine then_n ?_
  refine x_seq ?_
  refine x_seq ?_
  refine wp_region_lit ?_
  refine x_op hk rfl ?_
  obtain ⟨t9, hc10, H⟩ := bindS H
  refine op_call hk ent_8 (vs := []) rfl (tidewracklaw08_awake_calls K  _ o2    _ hc10) ?_
  rintro _ w11 ⟨o12, rfl, st13⟩
  replace f5 := f5.st st13 (by decide)
  replace f901 := f901.st st13 (by decide)
  replace hs := hs.loc0 st13 (by decide)
  have hk := hk.put 8 (.bool t9) rfl
  refine x_run tab hk (k := 1) (lv := []) (ks := [1, 2, 9]) (e' := [(1, .slice Ap1 (p1).length cp1), (2, .pointer (some ⟨bx4, 0, none⟩)), (9, .bool (!t9))]) rfl trivial fun a hk => ?_
  refine wpList_nil ?_
  refine then_n ?_
  cases b14 : (!t9)
  · rw [b14] at hk H
    replace H := bifF H
    refine x_if hk (b := false) rfl ?_
    refine (show Code.wp _ _ _ _ _ from ?_)
    refine wp_skip ?_
    refine then_n ?_
    refine x_mid (fun a_ w_ => ∃ o33 : Nat → Nat, ∃ x34 : T22, Kn 44 a_ [(1, .slice Ap1 (p1).length cp1), (2, .pointer (some ⟨bx4, 0, none⟩))] ∧ St [] w (fun _ => 0) w_ o33 ∧ Ft (Bx bx4 23 [.int .i64 x34.Fore, .int .i64 x34.Back, .bool x34.Bold, .bool x34.Under, .bool x34.Inverse]) w_ o33 2 ∧ Ft (RdC (encInt .i64) Ap1 p1) w_ o33 0 ∧ tidewracklaw08_StyleMay_j1 K p1 x34 = some r) ?_ ?_
    rotate_left
    · rintro a w35 ⟨o33, x34, hk, hs, f5, f901, H⟩
      rw [tidewracklaw08_StyleMay_j1] at H
      refine x_seq ?_
      refine x_cut (fun a_ w_ => ∃ o135 : Nat → Nat, ∃ bx136 : Nat, ∃ x138 : T22, Kn 44 a_ [(5, .pointer (some ⟨bx136, 0, none⟩))] ∧ St [] w (fun _ => 0) w_ o135 ∧ Ft (Bx bx136 26 [.int .i64 x138.Fore, .int .i64 x138.Back, .bool x138.Bold, .bool x138.Under, .bool x138.Inverse]) w_ o135 8 ∧ tidewracklaw08_StyleMay_j2 x138 = some r) ?_ ?_
      rotate_left
      · rintro a w139 ⟨o135, bx136, x138, hk, hs, f137, H⟩
        rw [tidewracklaw08_StyleMay_j2] at H
        refine then_n ?_
        refine x_seq ?_
        refine wp_region_lit ?_
        refine x_run tab hk (k := 1) (lv := [.agg #[.int .i64 x138.Fore, .int .i64 x138.Back, .bool x138.Bold, .bool x138.Under, .bool x138.Inverse]]) (ks := [5, 28]) (e' := [(5, .pointer (some ⟨bx136, 0, none⟩)), (28, .agg #[.int .i64 x138.Fore, .int .i64 x138.Back, .bool x138.Bold, .bool x138.Under, .bool x138.Inverse])]) rfl ⟨(load_box tab rfl rfl f137.now (k := 0) rfl rfl), trivial⟩ fun a hk => ?_
        refine x_op hk rfl ?_
        obtain ⟨t143, hc144, H⟩ := bindS H
        refine op_call hk ent_12 (vs := [.agg #[.int .i64 x138.Fore, .int .i64 x138.Back, .bool x138.Bold, .bool x138.Under, .bool x138.Inverse]]) rfl (style_Style_Num_calls x138 _ o135    _ hc144) ?_
        rintro _ w145 ⟨o146, rfl, st147⟩
        replace f137 := f137.st st147 (by decide)
        replace hs := hs.loc0 st147 (by decide)
        have hk := hk.put 29 (.int .i64 t143) rfl
        refine x_op hk rfl ?_
        obtain ⟨t151, hc152, H⟩ := bindS H
        refine op_call hk ent_11 (vs := [.int .i64 t143]) rfl (style_Of_calls t143 _ o146    _ hc152) ?_
        rintro _ w153 ⟨o154, rfl, st155⟩
        replace f137 := f137.st st155 (by decide)
        replace hs := hs.loc0 st155 (by decide)
        have hk := hk.put 30 (.tuple #[.agg #[.int .i64 t151.1.Fore, .int .i64 t151.1.Back, .bool t151.1.Bold, .bool t151.1.Under, .bool t151.1.Inverse], .int .i64 t151.2]) rfl
        refine x_run tab hk (k := 3) (lv := []) (ks := [5, 31, 32]) (e' := [(5, .pointer (some ⟨bx136, 0, none⟩)), (31, .agg #[.int .i64 t151.1.Fore, .int .i64 t151.1.Back, .bool t151.1.Bold, .bool t151.1.Under, .bool t151.1.Inverse]), (32, .int .i64 t151.2)]) rfl trivial fun a hk => ?_
        refine x_op hk rfl ?_
        refine op_alloc (o := o154) tab (t := 26) (cs := [.int .i64 0, .int .i64 0, .bool false, .bool false, .bool false]) rfl rfl 9 fun bx159 w156 o157 st158 f160 => ?_
        replace f137 := f137.st st158 (by decide)
        replace hs := hs.loc0 st158 (by decide)
        have hk := hk.put 6 (.pointer (some ⟨bx159, 0, none⟩)) rfl
        refine x_op hk rfl ?_
        refine op_store tab hk (t := 26) (v := .agg #[.int .i64 t151.1.Fore, .int .i64 t151.1.Back, .bool t151.1.Bold, .bool t151.1.Under, .bool t151.1.Inverse]) (b := bx159) (k := 0) (cs' := [.int .i64 t151.1.Fore, .int .i64 t151.1.Back, .bool t151.1.Bold, .bool t151.1.Under, .bool t151.1.Inverse]) rfl rfl rfl rfl rfl rfl f160 rfl rfl fun w161 o162 st163 f160_ => ?_
        replace f137 := f137.st st163 (by decide)
        replace hs := hs.loc0 st163 (by decide)
        replace f160 := f160_
        refine x_run tab hk (k := 1) (lv := []) (ks := [5, 6, 7]) (e' := [(5, .pointer (some ⟨bx136, 0, none⟩)), (6, .pointer (some ⟨bx159, 0, none⟩)), (7, .int .i64 t151.2)]) rfl trivial fun a hk => ?_
        refine wpList_nil ?_
        refine then_n ?_
        refine x_seq ?_
        refine wp_region_lit ?_
        refine x_run tab hk (k := 1) (lv := [.agg #[.int .i64 x138.Fore, .int .i64 x138.Back, .bool x138.Bold, .bool x138.Under, .bool x138.Inverse]]) (ks := [5, 6, 7, 33]) (e' := [(5, .pointer (some ⟨bx136, 0, none⟩)), (6, .pointer (some ⟨bx159, 0, none⟩)), (7, .int .i64 t151.2), (33, .agg #[.int .i64 x138.Fore, .int .i64 x138.Back, .bool x138.Bold, .bool x138.Under, .bool x138.Inverse])]) rfl ⟨(load_box tab rfl rfl f137.now (k := 0) rfl rfl), trivial⟩ fun a hk => ?_
        refine x_op hk rfl ?_
        obtain ⟨t167, hc168, H⟩ := bindS H
        refine op_call hk ent_14 (vs := [.agg #[.int .i64 x138.Fore, .int .i64 x138.Back, .bool x138.Bold, .bool x138.Under, .bool x138.Inverse]]) rfl (tidewrackref08_May_calls x138 _ o162    _ hc168) ?_
        rintro _ w169 ⟨o170, rfl, st171⟩
        replace f137 := f137.st st171 (by decide)
        replace f160 := f160.st st171 (by decide)
        replace hs := hs.loc0 st171 (by decide)
        have hk := hk.put 34 (.bool t167) rfl
        refine x_run tab hk (k := 1) (lv := []) (ks := [5, 6, 7, 35]) (e' := [(5, .pointer (some ⟨bx136, 0, none⟩)), (6, .pointer (some ⟨bx159, 0, none⟩)), (7, .int .i64 t151.2), (35, .bool t167)]) rfl trivial fun a hk => ?_
        cases b172 : t167
        · rw [b172] at hk H
          replace H := bifF H
          refine x_run tab hk (k := 9) (lv := []) (ks := [4]) (e' := [(4, .bool false)]) rfl trivial fun a hk => ?_
          refine wpList_nil ?_
          refine then_n ?_
          refine wp_ret ?_
          obtain rfl := Option.some.inj H
          exact x_retG hk (rs := [.tmp 4]) (vs := [.bool false]) rfl ⟨rfl, trivial⟩ ⟨fun b_ => if b_ < w.heap.size then o b_ else (fun _ => 0) (o170 b_), rfl, hs.close0 o (fun _ => 0)⟩
        · rw [b172] at hk H
          replace H := bifT H
          refine x_run tab hk (k := 4) (lv := []) (ks := [5, 6, 39]) (e' := [(5, .pointer (some ⟨bx136, 0, none⟩)), (6, .pointer (some ⟨bx159, 0, none⟩)), (39, .bool (t151.2 == (0 : Int)))]) rfl trivial fun a hk => ?_
          cases b173 : (t151.2 == (0 : Int))
          · rw [b173] at hk H
            replace H := bifF H
            refine x_run tab hk (k := 5) (lv := []) (ks := [4]) (e' := [(4, .bool false)]) rfl trivial fun a hk => ?_
            refine wpList_nil ?_
            refine then_n ?_
            refine wp_ret ?_
            obtain rfl := Option.some.inj H
            exact x_retG hk (rs := [.tmp 4]) (vs := [.bool false]) rfl ⟨rfl, trivial⟩ ⟨fun b_ => if b_ < w.heap.size then o b_ else (fun _ => 0) (o170 b_), rfl, hs.close0 o (fun _ => 0)⟩
          · rw [b173] at hk H
            replace H := bifT H
            refine x_run tab hk (k := 5) (lv := [.agg #[.int .i64 t151.1.Fore, .int .i64 t151.1.Back, .bool t151.1.Bold, .bool t151.1.Under, .bool t151.1.Inverse], .agg #[.int .i64 x138.Fore, .int .i64 x138.Back, .bool x138.Bold, .bool x138.Under, .bool x138.Inverse], .bool (eqT22 t151.1 x138)]) (ks := [4]) (e' := [(4, .bool (eqT22 t151.1 x138))]) rfl ⟨(load_box tab rfl rfl f160.now (k := 0) rfl rfl), (load_box tab rfl rfl f137.now (k := 0) rfl rfl), (ask_eq tab stood rfl rfl rfl rfl), trivial⟩ fun a hk => ?_
            refine wpList_nil ?_
            refine then_n ?_
            refine wp_ret ?_
            obtain rfl := Option.some.inj H
            exact x_retG hk (rs := [.tmp 4]) (vs := [.bool (eqT22 t151.1 x138)]) rfl ⟨rfl, trivial⟩ ⟨fun b_ => if b_ < w.heap.size then o b_ else (fun _ => 0) (o170 b_), rfl, hs.close0 o (fun _ => 0)⟩
      obtain ⟨q174, H⟩ := ifS H
      obtain ⟨q175, H⟩ := ifS H
      obtain ⟨t184, hc185, H⟩ := bindS H
      refine xd_begin (o := o33) (fun W_ => (Bx bx4 23 [.int .i64 x34.Fore, .int .i64 x34.Back, .bool x34.Bold, .bool x34.Under, .bool x34.Inverse]) W_ ∧ True) mixed rfl rfl fun w230 st231 => ?_
      replace f5 := f5.st st231 (by decide)
      replace f901 := f901.st st231 (by decide)
      replace hs := hs.loc0 st231 (by decide)
      obtain ⟨A232, c233, ak235, f234, hc236⟩ := ask_cut (P := Try.prog) tab (t := 24) rfl rfl f901 hcp1 none (some (.int .i64 (if 40 < ((p1).length : Int) then 40 else ((p1).length : Int)))) rfl ⟨q174, (by have := q175; have := hcp1; omega), trivial⟩ (by have := q174; have := q175; omega) (by have := q174; have := q175; omega)
      refine xd_take tab hk (k := 3) (is := [0, 1, 2, 3, 4, 5]) (ls' := #[true, true, true, true, true, true, false, false, false]) (lv := [.agg #[.int .i64 x34.Fore, .int .i64 x34.Back, .bool x34.Bold, .bool x34.Under, .bool x34.Inverse], .slice A232 ((List.drop 0 (List.take (Int.toNat (if 40 < ((p1).length : Int) then 40 else ((p1).length : Int))) p1))).length c233]) (ks := [20, 25]) (e' := [(20, .agg #[.int .i64 x34.Fore, .int .i64 x34.Back, .bool x34.Bold, .bool x34.Under, .bool x34.Inverse]), (25, .slice A232 ((List.drop 0 (List.take (Int.toNat (if 40 < ((p1).length : Int) then 40 else ((p1).length : Int))) p1))).length c233)]) (by kernel_rfl) rfl rfl (by kernel_rfl) (np_then (np_then np_body)) ⟨f5.now, trivial⟩ (fun W_ hS => ⟨(load_box tab rfl rfl hS.1 (k := 0) rfl rfl), (ak235 rfl rfl rfl _), trivial⟩) fun a hk => ?_
      refine xd_each [6, 7] (by kernel_rfl) rfl ⟨?_, ?_, trivial⟩
      · refine xd_one hk rfl rfl ?_
        refine op_call hk ent_9 (vs := [.agg #[.int .i64 x34.Fore, .int .i64 x34.Back, .bool x34.Bold, .bool x34.Under, .bool x34.Inverse], .slice A232 ((List.drop 0 (List.take (Int.toNat (if 40 < ((p1).length : Int) then 40 else ((p1).length : Int))) p1))).length c233]) rfl (style_Style_Set_calls K x34 A232 c233 (List.drop 0 (List.take (Int.toNat (if 40 < ((p1).length : Int) then 40 else ((p1).length : Int))) p1)) _ o33 _ f234 hc236   _ hc185) ?_
        rintro _ w240 ⟨o241, rfl, st242⟩
        replace f234 := f234.st st242 (by decide)
        replace f5 := f5.st st242 (by decide)
        replace f901 := f901.st st242 (by decide)
        replace hs := hs.loc0 st242 (by decide)
        have hk := hk.put 26 (.agg #[.int .i64 t184.Fore, .int .i64 t184.Back, .bool t184.Bold, .bool t184.Under, .bool t184.Inverse]) rfl
        refine ⟨.inr ⟨f5.now, trivial⟩, ?_⟩
        refine xd_op hk (i := 7) (by kernel_rfl) rfl rfl ?_
        refine op_alloc (o := o241) tab (t := 26) (cs := [.int .i64 0, .int .i64 0, .bool false, .bool false, .bool false]) rfl rfl 13 fun bx246 w243 o244 st245 f247 => ?_
        replace f234 := f234.st st245 (by decide)
        replace f5 := f5.st st245 (by decide)
        replace f901 := f901.st st245 (by decide)
        replace hs := hs.loc0 st245 (by decide)
        have hk := hk.put 5 (.pointer (some ⟨bx246, 0, none⟩)) rfl
        refine ⟨.inr ⟨f5.now, trivial⟩, ?_⟩
        refine xd_op hk (i := 8) (by kernel_rfl) rfl rfl ?_
        refine op_store tab hk (t := 26) (v := .agg #[.int .i64 t184.Fore, .int .i64 t184.Back, .bool t184.Bold, .bool t184.Under, .bool t184.Inverse]) (b := bx246) (k := 0) (cs' := [.int .i64 t184.Fore, .int .i64 t184.Back, .bool t184.Bold, .bool t184.Under, .bool t184.Inverse]) rfl rfl rfl rfl rfl rfl f247 rfl rfl fun w248 o249 st250 f247_ => ?_
        replace f234 := f234.st st250 (by decide)
        replace f5 := f5.st st250 (by decide)
        replace f901 := f901.st st250 (by decide)
        replace hs := hs.loc0 st250 (by decide)
        replace f247 := f247_
        refine ⟨.inl (by kernel_rfl), ?_⟩
        refine xd_done (by kernel_rfl) ?_
        refine then_n ?_
        exact ⟨(fun b_ => (fun l_ => if l_ = 13 then 8 else l_) (o249 b_)), bx246, t184, (by exact Kn.pick (ks := [5]) hk rfl), (hs.relab0 (fun l_ => if l_ = 13 then 8 else l_) rfl), (f247.relab (fun l_ => if l_ = 13 then 8 else l_) rfl), H⟩
      · refine xd_one hk rfl rfl ?_
        refine op_alloc (o := o33) tab (t := 26) (cs := [.int .i64 0, .int .i64 0, .bool false, .bool false, .bool false]) rfl rfl 14 fun bx254 w251 o252 st253 f255 => ?_
        replace f234 := f234.st st253 (by decide)
        replace f5 := f5.st st253 (by decide)
        replace f901 := f901.st st253 (by decide)
        replace hs := hs.loc0 st253 (by decide)
        have hk := hk.put 5 (.pointer (some ⟨bx254, 0, none⟩)) rfl
        refine ⟨.inr ⟨f5.now, trivial⟩, ?_⟩
        refine xd_op hk (i := 6) (by kernel_rfl) rfl rfl ?_
        refine op_call hk ent_9 (vs := [.agg #[.int .i64 x34.Fore, .int .i64 x34.Back, .bool x34.Bold, .bool x34.Under, .bool x34.Inverse], .slice A232 ((List.drop 0 (List.take (Int.toNat (if 40 < ((p1).length : Int) then 40 else ((p1).length : Int))) p1))).length c233]) rfl (style_Style_Set_calls K x34 A232 c233 (List.drop 0 (List.take (Int.toNat (if 40 < ((p1).length : Int) then 40 else ((p1).length : Int))) p1)) _ o252 _ f234 hc236   _ hc185) ?_
        rintro _ w259 ⟨o260, rfl, st261⟩
        replace f234 := f234.st st261 (by decide)
        replace f255 := f255.st st261 (by decide)
        replace f5 := f5.st st261 (by decide)
        replace f901 := f901.st st261 (by decide)
        replace hs := hs.loc0 st261 (by decide)
        have hk := hk.put 26 (.agg #[.int .i64 t184.Fore, .int .i64 t184.Back, .bool t184.Bold, .bool t184.Under, .bool t184.Inverse]) rfl
        refine ⟨.inr ⟨f5.now, trivial⟩, ?_⟩
        refine xd_op hk (i := 8) (by kernel_rfl) rfl rfl ?_
        refine op_store tab hk (t := 26) (v := .agg #[.int .i64 t184.Fore, .int .i64 t184.Back, .bool t184.Bold, .bool t184.Under, .bool t184.Inverse]) (b := bx254) (k := 0) (cs' := [.int .i64 t184.Fore, .int .i64 t184.Back, .bool t184.Bold, .bool t184.Under, .bool t184.Inverse]) rfl rfl rfl rfl rfl rfl f255 rfl rfl fun w262 o263 st264 f255_ => ?_
        replace f234 := f234.st st264 (by decide)
        replace f5 := f5.st st264 (by decide)
        replace f901 := f901.st st264 (by decide)
        replace hs := hs.loc0 st264 (by decide)
        replace f255 := f255_
        refine ⟨.inl (by kernel_rfl), ?_⟩
        refine xd_done (by kernel_rfl) ?_
        refine then_n ?_
        exact ⟨(fun b_ => (fun l_ => if l_ = 14 then 8 else l_) (o263 b_)), bx254, t184, (by exact Kn.pick (ks := [5]) hk rfl), (hs.relab0 (fun l_ => if l_ = 14 then 8 else l_) rfl), (f255.relab (fun l_ => if l_ = 14 then 8 else l_) rfl), H⟩
    refine x_seq ?_
    refine wp_region_lit ?_
    refine x_run tab hk (k := 1) (lv := [.agg #[.int .i64 p0.Fore, .int .i64 p0.Back, .bool p0.Bold, .bool p0.Under, .bool p0.Inverse]]) (ks := [1, 2, 10]) (e' := [(1, .slice Ap1 (p1).length cp1), (2, .pointer (some ⟨bx4, 0, none⟩)), (10, .agg #[.int .i64 p0.Fore, .int .i64 p0.Back, .bool p0.Bold, .bool p0.Under, .bool p0.Inverse])]) rfl ⟨(load_box tab rfl rfl f5.now (k := 0) rfl rfl), trivial⟩ fun a hk => ?_
    refine x_op hk rfl ?_
    obtain ⟨t268, hc269, H⟩ := bindS H
    refine op_call hk ent_14 (vs := [.agg #[.int .i64 p0.Fore, .int .i64 p0.Back, .bool p0.Bold, .bool p0.Under, .bool p0.Inverse]]) rfl (tidewrackref08_May_calls p0 _ o12    _ hc269) ?_
    rintro _ w270 ⟨o271, rfl, st272⟩
    replace f5 := f5.st st272 (by decide)
    replace f901 := f901.st st272 (by decide)
    replace hs := hs.loc0 st272 (by decide)
    have hk := hk.put 11 (.bool t268) rfl
    refine x_run tab hk (k := 1) (lv := []) (ks := [1, 2, 12]) (e' := [(1, .slice Ap1 (p1).length cp1), (2, .pointer (some ⟨bx4, 0, none⟩)), (12, .bool (!t268))]) rfl trivial fun a hk => ?_
    refine wpList_nil ?_
    refine then_n ?_
    cases b273 : (!t268)
    · rw [b273] at hk H
      replace H := bifF H
      refine x_if hk (b := false) rfl ?_
      refine (show Code.wp _ _ _ _ _ from ?_)
      refine wp_skip ?_
      refine then_n ?_
      exact ⟨(fun b_ => (fun l_ => if l_ = 1 then 2 else l_) (o271 b_)), p0, (by exact Kn.pick (ks := [1, 2]) hk rfl), (hs.relab0 (fun l_ => if l_ = 1 then 2 else l_) rfl), (f5.relab (fun l_ => if l_ = 1 then 2 else l_) rfl), (f901.relab (fun l_ => if l_ = 1 then 2 else l_) rfl), H⟩
    · rw [b273] at hk H
      replace H := bifT H
      refine x_if hk (b := true) rfl ?_
      refine (show Code.wp _ _ _ _ _ from ?_)
      refine wp_region_lit ?_
      refine x_run tab hk (k := 7) (lv := [.bool p0.Bold, .bool p0.Under, .bool p0.Inverse]) (ks := [1, 2, 19]) (e' := [(1, .slice Ap1 (p1).length cp1), (2, .pointer (some ⟨bx4, 0, none⟩)), (19, .agg #[.int .i64 0, .int .i64 0, .bool p0.Bold, .bool p0.Under, .bool p0.Inverse])]) rfl ⟨(load1 tab rfl ((Bx.cell f5.now 2).trans rfl)), (load1 tab rfl ((Bx.cell f5.now 3).trans rfl)), (load1 tab rfl ((Bx.cell f5.now 4).trans rfl)), trivial⟩ fun a hk => ?_
      refine x_op hk rfl ?_
      refine op_store tab hk (t := 23) (v := .agg #[.int .i64 0, .int .i64 0, .bool p0.Bold, .bool p0.Under, .bool p0.Inverse]) (b := bx4) (k := 0) (cs' := [.int .i64 0, .int .i64 0, .bool p0.Bold, .bool p0.Under, .bool p0.Inverse]) rfl rfl rfl rfl rfl rfl f5 rfl rfl fun w274 o275 st276 f5_ => ?_
      replace f901 := f901.st st276 (by decide)
      replace hs := hs.loc0 st276 (by decide)
      replace f5 := f5_
      refine wpList_nil ?_
      refine then_n ?_
      exact ⟨(fun b_ => (fun l_ => if l_ = 1 then 2 else l_) (o275 b_)), (⟨0, 0, p0.Bold, p0.Under, p0.Inverse⟩ : T22), (by exact Kn.pick (ks := [1, 2]) hk rfl), (hs.relab0 (fun l_ => if l_ = 1 then 2 else l_) rfl), (f5.relab (fun l_ => if l_ = 1 then 2 else l_) rfl), (f901.relab (fun l_ => if l_ = 1 then 2 else l_) rfl), H⟩
  · rw [b14] at hk H
    replace H := bifT H
    refine x_if hk (b := true) rfl ?_
    refine (show Code.wp _ _ _ _ _ from ?_)
    refine x_seq ?_
    refine wp_region_lit ?_
    refine x_run tab hk (k := 1) (lv := []) (ks := [4]) (e' := [(4, .bool false)]) rfl trivial fun a hk => ?_
    refine wpList_nil ?_
    refine then_n ?_
    refine wp_ret ?_
    refine then_r ?_
    obtain rfl := Option.some.inj H
    exact x_retG hk (rs := [.tmp 4]) (vs := [.bool false]) rfl ⟨rfl, trivial⟩ ⟨fun b_ => if b_ < w.heap.size then o b_ else (fun _ => 0) (o12 b_), rfl, hs.close0 o (fun _ => 0)⟩

/-! (tidewrack/style.Style).Order -/
theorem style_Style_Order_calls (K : Nat) (p0 : T22) (p1 : T22) (w : World) (o : Nat → Nat)  (R0 : Nat) (r : List Int) (H : style_Style_Order K p0 p1 = some r) :
    Calls Try.prog 15 #[.agg #[.int .i64 p0.Fore, .int .i64 p0.Back, .bool p0.Bold, .bool p0.Under, .bool p0.Inverse], .agg #[.int .i64 p1.Fore, .int .i64 p1.Back, .bool p1.Bold, .bool p1.Under, .bool p1.Inverse]] w (Ret fun v_ w' => ∃ o' : Nat → Nat, ∃ A0 : Option Addr, ∃ c0 : Nat, v_ = .slice A0 (r).length c0 ∧ St [] w o w' o' ∧ Ft (Own (encInt .i64) 3 (.slice A0 (r).length c0) (r)) w' o' R0 ∧ (r).length ≤ c0) := by
  refine x_enter (vs := [.agg #[.int .i64 p0.Fore, .int .i64 p0.Back, .bool p0.Bold, .bool p0.Under, .bool p0.Inverse], .agg #[.int .i64 p1.Fore, .int .i64 p1.Back, .bool p1.Bold, .bool p1.Under, .bool p1.Inverse]]) Try.func15 rfl rfl rfl fun a hk => ?_
  obtain ⟨o0, hs, h0⟩ := St.start w o
  clear h0
  rw [style_Style_Order] at H
  refine x_seq ?_
  refine wp_region_lit ?_
  refine x_op hk rfl ?_
  refine op_box (o := o0) (t := 26) (v := .agg #[.int .i64 p0.Fore, .int .i64 p0.Back, .bool p0.Bold, .bool p0.Under, .bool p0.Inverse]) (cs := [.int .i64 p0.Fore, .int .i64 p0.Back, .bool p0.Bold, .bool p0.Under, .bool p0.Inverse]) hk rfl rfl 1 fun bx4 w1 o2 st3 f5 => ?_
  replace hs := hs.loc0 st3 (by decide)
  have hk := hk.put 2 (.pointer (some ⟨bx4, 0, none⟩)) rfl
  refine x_op hk rfl ?_
  refine op_box (o := o2) (t := 26) (v := .agg #[.int .i64 p1.Fore, .int .i64 p1.Back, .bool p1.Bold, .bool p1.Under, .bool p1.Inverse]) (cs := [.int .i64 p1.Fore, .int .i64 p1.Back, .bool p1.Bold, .bool p1.Under, .bool p1.Inverse]) hk rfl rfl 2 fun bx9 w6 o7 st8 f10 => ?_
  replace f5 := f5.st st8 (by decide)
  replace hs := hs.loc0 st8 (by decide)
  have hk := hk.put 3 (.pointer (some ⟨bx9, 0, none⟩)) rfl
  refine x_run tab hk (k := 1) (lv := []) (ks := [2, 3]) (e' := [(2, .pointer (some ⟨bx4, 0, none⟩)), (3, .pointer (some ⟨bx9, 0, none⟩))]) rfl trivial fun a hk => ?_
  refine wpList_nil ?_
  refine then_n ?_
  refine x_mid (fun a_ w_ => ∃ o24 : Nat → Nat, Kn 57 a_ [(2, .pointer (some ⟨bx4, 0, none⟩))] ∧ St [] w (fun _ => 0) w_ o24 ∧ Ft (Bx bx4 26 [.int .i64 p0.Fore, .int .i64 p0.Back, .bool p0.Bold, .bool p0.Under, .bool p0.Inverse]) w_ o24 3 ∧ style_Style_Order_j1 K p0 = some r) ?_ ?_
  rotate_left
  · rintro a w25 ⟨o24, hk, hs, f5, H⟩
    rw [style_Style_Order_j1] at H
    refine x_seq ?_
    refine wp_region_lit ?_
    refine x_op hk rfl ?_
    refine op_slice (o := o24) tab hk (vs := [.int .i64 0]) (cs := [.int .i64 0]) rfl rfl rfl rfl rfl rfl rfl rfl rfl 4 fun bx29 w26 o27 st28 f30 => ?_
    replace f5 := f5.st st28 (by decide)
    replace hs := hs.loc0 st28 (by decide)
    have f31 : Ft (Own (encInt .i64) 3 (.slice (some ⟨bx29, 0, none⟩) (([0] : List Int)).length 1) ([0] : List Int)) w26 o27 4 := f30.imp fun _ h_ => Own.of_box h_ rfl (by simp)
    have hk := hk.put 16 (.slice (some ⟨bx29, 0, none⟩) (([0] : List Int)).length 1) rfl
    refine x_run tab hk (k := 1) (lv := []) (ks := [2, 5]) (e' := [(2, .pointer (some ⟨bx4, 0, none⟩)), (5, .slice (some ⟨bx29, 0, none⟩) (([0] : List Int)).length 1)]) rfl trivial fun a hk => ?_
    refine wpList_nil ?_
    refine then_n ?_
    refine x_mid (fun a_ w_ => ∃ o137 : Nat → Nat, ∃ A138 : Option Addr, ∃ c139 : Nat, ∃ l140 : List Int, Kn 57 a_ [(5, .slice A138 (l140).length c139)] ∧ St [] w (fun _ => 0) w_ o137 ∧ Ft (Own (encInt .i64) 3 (.slice A138 (l140).length c139) l140) w_ o137 16 ∧ (l140).length ≤ c139 ∧ style_Style_Order_j2 l140 = some r) ?_ ?_
    rotate_left
    · rintro a w143 ⟨o137, A138, c139, l140, hk, hs, f141, hc142, H⟩
      rw [style_Style_Order_j2] at H
      refine x_seq ?_
      refine wp_region_lit ?_
      refine x_run tab hk (k := 2) (lv := []) (ks := [4]) (e' := [(4, .slice A138 (l140).length c139)]) rfl trivial fun a hk => ?_
      refine wpList_nil ?_
      refine then_n ?_
      refine wp_ret ?_
      obtain rfl := Option.some.inj H
      exact x_retG hk (rs := [.tmp 4]) (vs := [.slice A138 (l140).length c139]) rfl ⟨rfl, trivial⟩ ⟨fun b_ => if b_ < w.heap.size then o b_ else (fun _ => R0) (o137 b_), A138, c139, rfl, hs.close0 o (fun _ => R0), hs.close_ft (o := o) (ρ := fun _ => R0) f141 (by decide) rfl, hc142⟩
    refine x_seq ?_
    refine wp_region_lit ?_
    refine x_run tab hk (k := 10) (lv := [.bool p0.Bold, .bool p0.Under, .bool p0.Inverse]) (ks := [2, 5, 19, 22, 25, 26]) (e' := [(2, .pointer (some ⟨bx4, 0, none⟩)), (5, .slice (some ⟨bx29, 0, none⟩) (([0] : List Int)).length 1), (19, .agg #[.bool p0.Bold, .int .i64 1]), (22, .agg #[.bool p0.Under, .int .i64 4]), (25, .agg #[.bool p0.Inverse, .int .i64 7]), (26, .pointer (some ⟨bx4, 0, none⟩))]) rfl ⟨(load1 tab rfl ((Bx.cell f5.now 2).trans rfl)), (load1 tab rfl ((Bx.cell f5.now 3).trans rfl)), (load1 tab rfl ((Bx.cell f5.now 4).trans rfl)), trivial⟩ fun a hk => ?_
    refine x_run tab hk (k := 10) (lv := [.int .i64 p0.Fore, .int .i64 p0.Fore, .int .i64 p0.Back]) (ks := [2, 5, 19, 22, 25, 33, 36]) (e' := [(2, .pointer (some ⟨bx4, 0, none⟩)), (5, .slice (some ⟨bx29, 0, none⟩) (([0] : List Int)).length 1), (19, .agg #[.bool p0.Bold, .int .i64 1]), (22, .agg #[.bool p0.Under, .int .i64 4]), (25, .agg #[.bool p0.Inverse, .int .i64 7]), (33, .agg #[.bool (decide (p0.Fore > (0 : Int))), .int .i64 (IntKind.wrap .i64 ((IntKind.wrap .i64 (30 + p0.Fore)) - 1))]), (36, .bool (decide (p0.Back > (0 : Int))))]) rfl ⟨(load1 tab rfl ((Bx.cell f5.now 0).trans rfl)), (load1 tab rfl ((Bx.cell f5.now 0).trans rfl)), (load1 tab rfl ((Bx.cell f5.now 1).trans rfl)), trivial⟩ fun a hk => ?_
    refine x_run tab hk (k := 5) (lv := [.int .i64 p0.Back]) (ks := [5, 19, 22, 25, 33, 41]) (e' := [(5, .slice (some ⟨bx29, 0, none⟩) (([0] : List Int)).length 1), (19, .agg #[.bool p0.Bold, .int .i64 1]), (22, .agg #[.bool p0.Under, .int .i64 4]), (25, .agg #[.bool p0.Inverse, .int .i64 7]), (33, .agg #[.bool (decide (p0.Fore > (0 : Int))), .int .i64 (IntKind.wrap .i64 ((IntKind.wrap .i64 (30 + p0.Fore)) - 1))]), (41, .agg #[.bool (decide (p0.Back > (0 : Int))), .int .i64 (IntKind.wrap .i64 ((IntKind.wrap .i64 (40 + p0.Back)) - 1))])]) rfl ⟨(load1 tab rfl ((Bx.cell f5.now 1).trans rfl)), trivial⟩ fun a hk => ?_
    refine x_op hk rfl ?_
    refine op_slice (o := o27) tab hk (vs := [.agg #[.bool p0.Bold, .int .i64 1], .agg #[.bool p0.Under, .int .i64 4], .agg #[.bool p0.Inverse, .int .i64 7], .agg #[.bool (decide (p0.Fore > (0 : Int))), .int .i64 (IntKind.wrap .i64 ((IntKind.wrap .i64 (30 + p0.Fore)) - 1))], .agg #[.bool (decide (p0.Back > (0 : Int))), .int .i64 (IntKind.wrap .i64 ((IntKind.wrap .i64 (40 + p0.Back)) - 1))]]) (cs := [.bool p0.Bold, .int .i64 1, .bool p0.Under, .int .i64 4, .bool p0.Inverse, .int .i64 7, .bool (decide (p0.Fore > (0 : Int))), .int .i64 (IntKind.wrap .i64 ((IntKind.wrap .i64 (30 + p0.Fore)) - 1)), .bool (decide (p0.Back > (0 : Int))), .int .i64 (IntKind.wrap .i64 ((IntKind.wrap .i64 (40 + p0.Back)) - 1))]) rfl rfl rfl rfl rfl rfl rfl rfl rfl 17 fun bx147 w144 o145 st146 f148 => ?_
    replace f31 := f31.st st146 (by decide)
    replace hs := hs.loc0 st146 (by decide)
    have f149 : Ft (Own ET43 43 (.slice (some ⟨bx147, 0, none⟩) (([(⟨p0.Bold, 1⟩ : T43), (⟨p0.Under, 4⟩ : T43), (⟨p0.Inverse, 7⟩ : T43), (⟨(decide (p0.Fore > (0 : Int))), (IntKind.wrap .i64 ((IntKind.wrap .i64 (30 + p0.Fore)) - 1))⟩ : T43), (⟨(decide (p0.Back > (0 : Int))), (IntKind.wrap .i64 ((IntKind.wrap .i64 (40 + p0.Back)) - 1))⟩ : T43)] : List T43)).length 5) ([(⟨p0.Bold, 1⟩ : T43), (⟨p0.Under, 4⟩ : T43), (⟨p0.Inverse, 7⟩ : T43), (⟨(decide (p0.Fore > (0 : Int))), (IntKind.wrap .i64 ((IntKind.wrap .i64 (30 + p0.Fore)) - 1))⟩ : T43), (⟨(decide (p0.Back > (0 : Int))), (IntKind.wrap .i64 ((IntKind.wrap .i64 (40 + p0.Back)) - 1))⟩ : T43)] : List T43)) w144 o145 17 := f148.imp fun _ h_ => Own.of_box h_ rfl (by simp)
    have hk := hk.put 42 (.slice (some ⟨bx147, 0, none⟩) (([(⟨p0.Bold, 1⟩ : T43), (⟨p0.Under, 4⟩ : T43), (⟨p0.Inverse, 7⟩ : T43), (⟨(decide (p0.Fore > (0 : Int))), (IntKind.wrap .i64 ((IntKind.wrap .i64 (30 + p0.Fore)) - 1))⟩ : T43), (⟨(decide (p0.Back > (0 : Int))), (IntKind.wrap .i64 ((IntKind.wrap .i64 (40 + p0.Back)) - 1))⟩ : T43)] : List T43)).length 5) rfl
    refine x_run tab hk (k := 2) (lv := []) (ks := [5, 42, 43, 44]) (e' := [(5, .slice (some ⟨bx29, 0, none⟩) (([0] : List Int)).length 1), (42, .slice (some ⟨bx147, 0, none⟩) (([(⟨p0.Bold, 1⟩ : T43), (⟨p0.Under, 4⟩ : T43), (⟨p0.Inverse, 7⟩ : T43), (⟨(decide (p0.Fore > (0 : Int))), (IntKind.wrap .i64 ((IntKind.wrap .i64 (30 + p0.Fore)) - 1))⟩ : T43), (⟨(decide (p0.Back > (0 : Int))), (IntKind.wrap .i64 ((IntKind.wrap .i64 (40 + p0.Back)) - 1))⟩ : T43)] : List T43)).length 5), (43, .int .i64 ((([(⟨p0.Bold, 1⟩ : T43), (⟨p0.Under, 4⟩ : T43), (⟨p0.Inverse, 7⟩ : T43), (⟨(decide (p0.Fore > (0 : Int))), (IntKind.wrap .i64 ((IntKind.wrap .i64 (30 + p0.Fore)) - 1))⟩ : T43), (⟨(decide (p0.Back > (0 : Int))), (IntKind.wrap .i64 ((IntKind.wrap .i64 (40 + p0.Back)) - 1))⟩ : T43)] : List T43)).length : Int)), (44, .int .i64 0)]) rfl trivial fun a hk => ?_
    refine wpList_nil ?_
    refine then_n ?_
    refine wp_block ?_
    refine x_loop (fun j_ a_ w_ => ∃ o178 : Nat → Nat, ∃ A179 : Option Addr, ∃ c180 : Nat, ∃ l181 : List Int, ∃ x184 : Int, Kn 57 a_ [(5, .slice A179 (l181).length c180), (42, .slice (some ⟨bx147, 0, none⟩) (([(⟨p0.Bold, 1⟩ : T43), (⟨p0.Under, 4⟩ : T43), (⟨p0.Inverse, 7⟩ : T43), (⟨(decide (p0.Fore > (0 : Int))), (IntKind.wrap .i64 ((IntKind.wrap .i64 (30 + p0.Fore)) - 1))⟩ : T43), (⟨(decide (p0.Back > (0 : Int))), (IntKind.wrap .i64 ((IntKind.wrap .i64 (40 + p0.Back)) - 1))⟩ : T43)] : List T43)).length 5), (43, .int .i64 ((([(⟨p0.Bold, 1⟩ : T43), (⟨p0.Under, 4⟩ : T43), (⟨p0.Inverse, 7⟩ : T43), (⟨(decide (p0.Fore > (0 : Int))), (IntKind.wrap .i64 ((IntKind.wrap .i64 (30 + p0.Fore)) - 1))⟩ : T43), (⟨(decide (p0.Back > (0 : Int))), (IntKind.wrap .i64 ((IntKind.wrap .i64 (40 + p0.Back)) - 1))⟩ : T43)] : List T43)).length : Int)), (44, .int .i64 x184)] ∧ St [] w (fun _ => 0) w_ o178 ∧ Ft (Own ET43 43 (.slice (some ⟨bx147, 0, none⟩) (([(⟨p0.Bold, 1⟩ : T43), (⟨p0.Under, 4⟩ : T43), (⟨p0.Inverse, 7⟩ : T43), (⟨(decide (p0.Fore > (0 : Int))), (IntKind.wrap .i64 ((IntKind.wrap .i64 (30 + p0.Fore)) - 1))⟩ : T43), (⟨(decide (p0.Back > (0 : Int))), (IntKind.wrap .i64 ((IntKind.wrap .i64 (40 + p0.Back)) - 1))⟩ : T43)] : List T43)).length 5) ([(⟨p0.Bold, 1⟩ : T43), (⟨p0.Under, 4⟩ : T43), (⟨p0.Inverse, 7⟩ : T43), (⟨(decide (p0.Fore > (0 : Int))), (IntKind.wrap .i64 ((IntKind.wrap .i64 (30 + p0.Fore)) - 1))⟩ : T43), (⟨(decide (p0.Back > (0 : Int))), (IntKind.wrap .i64 ((IntKind.wrap .i64 (40 + p0.Back)) - 1))⟩ : T43)] : List T43)) w_ o178 23 ∧ Ft (Own (encInt .i64) 3 (.slice A179 (l181).length c180) l181) w_ o178 22 ∧ (l181).length ≤ c180 ∧ style_Style_Order_l3 p0 j_ l181 x184 = some r) (k := K) ⟨(fun b_ => (fun l_ => if l_ = 4 then 22 else if l_ = 17 then 23 else l_) (o145 b_)), (some ⟨bx29, 0, none⟩), 1, ([0] : List Int), 0, (by exact Kn.pick (ks := [5, 42, 43, 44]) hk rfl), (hs.relab0 (fun l_ => if l_ = 4 then 22 else if l_ = 17 then 23 else l_) rfl), (f149.relab (fun l_ => if l_ = 4 then 22 else if l_ = 17 then 23 else l_) rfl), (f31.relab (fun l_ => if l_ = 4 then 22 else if l_ = 17 then 23 else l_) rfl), (Nat.le_refl _), H⟩ (by rintro _ _ ⟨_, _, _, _, _, _, _, _, _, _, H_⟩; exact absurd (show (none : Option (List Int)) = some r from H_) (by simp)) ?_
    rintro k211 a w210 ⟨o178, A179, c180, l181, x184, hk, hs, f149, f182, hc183, H⟩
    rw [style_Style_Order_l3] at H
    obtain ⟨lp212, hlp213⟩ : ∃ lp_, lp_ = style_Style_Order_l3 p0 k211 := ⟨_, rfl⟩
    rw [← hlp213] at H
    refine x_seq ?_
    refine wp_region_lit ?_
    refine x_run tab hk (k := 1) (lv := []) (ks := [5, 42, 43, 44, 45]) (e' := [(5, .slice A179 (l181).length c180), (42, .slice (some ⟨bx147, 0, none⟩) (([(⟨p0.Bold, 1⟩ : T43), (⟨p0.Under, 4⟩ : T43), (⟨p0.Inverse, 7⟩ : T43), (⟨(decide (p0.Fore > (0 : Int))), (IntKind.wrap .i64 ((IntKind.wrap .i64 (30 + p0.Fore)) - 1))⟩ : T43), (⟨(decide (p0.Back > (0 : Int))), (IntKind.wrap .i64 ((IntKind.wrap .i64 (40 + p0.Back)) - 1))⟩ : T43)] : List T43)).length 5), (43, .int .i64 ((([(⟨p0.Bold, 1⟩ : T43), (⟨p0.Under, 4⟩ : T43), (⟨p0.Inverse, 7⟩ : T43), (⟨(decide (p0.Fore > (0 : Int))), (IntKind.wrap .i64 ((IntKind.wrap .i64 (30 + p0.Fore)) - 1))⟩ : T43), (⟨(decide (p0.Back > (0 : Int))), (IntKind.wrap .i64 ((IntKind.wrap .i64 (40 + p0.Back)) - 1))⟩ : T43)] : List T43)).length : Int)), (44, .int .i64 x184), (45, .bool (decide (x184 < ((([(⟨p0.Bold, 1⟩ : T43), (⟨p0.Under, 4⟩ : T43), (⟨p0.Inverse, 7⟩ : T43), (⟨(decide (p0.Fore > (0 : Int))), (IntKind.wrap .i64 ((IntKind.wrap .i64 (30 + p0.Fore)) - 1))⟩ : T43), (⟨(decide (p0.Back > (0 : Int))), (IntKind.wrap .i64 ((IntKind.wrap .i64 (40 + p0.Back)) - 1))⟩ : T43)] : List T43)).length : Int))))]) rfl trivial fun a hk => ?_
    refine wpList_nil ?_
    refine then_n ?_
    refine x_seq ?_
    cases b214 : (decide (x184 < ((([(⟨p0.Bold, 1⟩ : T43), (⟨p0.Under, 4⟩ : T43), (⟨p0.Inverse, 7⟩ : T43), (⟨(decide (p0.Fore > (0 : Int))), (IntKind.wrap .i64 ((IntKind.wrap .i64 (30 + p0.Fore)) - 1))⟩ : T43), (⟨(decide (p0.Back > (0 : Int))), (IntKind.wrap .i64 ((IntKind.wrap .i64 (40 + p0.Back)) - 1))⟩ : T43)] : List T43)).length : Int)))
    · rw [b214] at hk H
      replace H := bifF H
      refine x_if hk (b := false) rfl ?_
      refine (show Code.wp _ _ _ _ _ from ?_)
      refine wp_exit ?_
      refine then_x ?_
      refine then_x ?_
      refine blk_x ?_
      refine then_n ?_
      exact ⟨(fun b_ => (fun l_ => if l_ = 22 then 16 else l_) (o178 b_)), A179, c180, l181, (by exact Kn.pick (ks := [5]) hk rfl), (hs.relab0 (fun l_ => if l_ = 22 then 16 else l_) rfl), (f182.relab (fun l_ => if l_ = 22 then 16 else l_) rfl), hc183, H⟩
    · rw [b214] at hk H
      replace H := bifT H
      refine x_if hk (b := true) rfl ?_
      refine (show Code.wp _ _ _ _ _ from ?_)
      refine wp_skip ?_
      refine then_n ?_
      refine x_seq ?_
      refine wp_block ?_
      refine x_seq ?_
      refine wp_region_lit ?_
      obtain ⟨q215, H⟩ := ifS H
      refine x_run tab hk (k := 2) (lv := [.agg #[.bool ((rdD zT43 ([(⟨p0.Bold, 1⟩ : T43), (⟨p0.Under, 4⟩ : T43), (⟨p0.Inverse, 7⟩ : T43), (⟨(decide (p0.Fore > (0 : Int))), (IntKind.wrap .i64 ((IntKind.wrap .i64 (30 + p0.Fore)) - 1))⟩ : T43), (⟨(decide (p0.Back > (0 : Int))), (IntKind.wrap .i64 ((IntKind.wrap .i64 (40 + p0.Back)) - 1))⟩ : T43)] : List T43) x184).is), .int .i64 ((rdD zT43 ([(⟨p0.Bold, 1⟩ : T43), (⟨p0.Under, 4⟩ : T43), (⟨p0.Inverse, 7⟩ : T43), (⟨(decide (p0.Fore > (0 : Int))), (IntKind.wrap .i64 ((IntKind.wrap .i64 (30 + p0.Fore)) - 1))⟩ : T43), (⟨(decide (p0.Back > (0 : Int))), (IntKind.wrap .i64 ((IntKind.wrap .i64 (40 + p0.Back)) - 1))⟩ : T43)] : List T43) x184).n)]]) (ks := [5, 42, 43, 44, 47]) (e' := [(5, .slice A179 (l181).length c180), (42, .slice (some ⟨bx147, 0, none⟩) (([(⟨p0.Bold, 1⟩ : T43), (⟨p0.Under, 4⟩ : T43), (⟨p0.Inverse, 7⟩ : T43), (⟨(decide (p0.Fore > (0 : Int))), (IntKind.wrap .i64 ((IntKind.wrap .i64 (30 + p0.Fore)) - 1))⟩ : T43), (⟨(decide (p0.Back > (0 : Int))), (IntKind.wrap .i64 ((IntKind.wrap .i64 (40 + p0.Back)) - 1))⟩ : T43)] : List T43)).length 5), (43, .int .i64 ((([(⟨p0.Bold, 1⟩ : T43), (⟨p0.Under, 4⟩ : T43), (⟨p0.Inverse, 7⟩ : T43), (⟨(decide (p0.Fore > (0 : Int))), (IntKind.wrap .i64 ((IntKind.wrap .i64 (30 + p0.Fore)) - 1))⟩ : T43), (⟨(decide (p0.Back > (0 : Int))), (IntKind.wrap .i64 ((IntKind.wrap .i64 (40 + p0.Back)) - 1))⟩ : T43)] : List T43)).length : Int)), (44, .int .i64 x184), (47, .agg #[.bool ((rdD zT43 ([(⟨p0.Bold, 1⟩ : T43), (⟨p0.Under, 4⟩ : T43), (⟨p0.Inverse, 7⟩ : T43), (⟨(decide (p0.Fore > (0 : Int))), (IntKind.wrap .i64 ((IntKind.wrap .i64 (30 + p0.Fore)) - 1))⟩ : T43), (⟨(decide (p0.Back > (0 : Int))), (IntKind.wrap .i64 ((IntKind.wrap .i64 (40 + p0.Back)) - 1))⟩ : T43)] : List T43) x184).is), .int .i64 ((rdD zT43 ([(⟨p0.Bold, 1⟩ : T43), (⟨p0.Under, 4⟩ : T43), (⟨p0.Inverse, 7⟩ : T43), (⟨(decide (p0.Fore > (0 : Int))), (IntKind.wrap .i64 ((IntKind.wrap .i64 (30 + p0.Fore)) - 1))⟩ : T43), (⟨(decide (p0.Back > (0 : Int))), (IntKind.wrap .i64 ((IntKind.wrap .i64 (40 + p0.Back)) - 1))⟩ : T43)] : List T43) x184).n)])]) rfl ⟨q215, (load_elem (E := ET43) (i := x184) (dx := zT43) tab rfl rfl (Own.rd f149.now) q215), trivial⟩ fun a hk => ?_
      refine x_op hk rfl ?_
      refine op_alloc (o := o178) tab (t := 43) (cs := [.bool false, .int .i64 0]) rfl rfl 26 fun bx219 w216 o217 st218 f220 => ?_
      replace f149 := f149.st st218 (by decide)
      replace f182 := f182.st st218 (by decide)
      replace hs := hs.loc0 st218 (by decide)
      have hk := hk.put 7 (.pointer (some ⟨bx219, 0, none⟩)) rfl
      refine x_op hk rfl ?_
      refine op_store tab hk (t := 43) (v := .agg #[.bool ((rdD zT43 ([(⟨p0.Bold, 1⟩ : T43), (⟨p0.Under, 4⟩ : T43), (⟨p0.Inverse, 7⟩ : T43), (⟨(decide (p0.Fore > (0 : Int))), (IntKind.wrap .i64 ((IntKind.wrap .i64 (30 + p0.Fore)) - 1))⟩ : T43), (⟨(decide (p0.Back > (0 : Int))), (IntKind.wrap .i64 ((IntKind.wrap .i64 (40 + p0.Back)) - 1))⟩ : T43)] : List T43) x184).is), .int .i64 ((rdD zT43 ([(⟨p0.Bold, 1⟩ : T43), (⟨p0.Under, 4⟩ : T43), (⟨p0.Inverse, 7⟩ : T43), (⟨(decide (p0.Fore > (0 : Int))), (IntKind.wrap .i64 ((IntKind.wrap .i64 (30 + p0.Fore)) - 1))⟩ : T43), (⟨(decide (p0.Back > (0 : Int))), (IntKind.wrap .i64 ((IntKind.wrap .i64 (40 + p0.Back)) - 1))⟩ : T43)] : List T43) x184).n)]) (b := bx219) (k := 0) (cs' := [.bool ((rdD zT43 ([(⟨p0.Bold, 1⟩ : T43), (⟨p0.Under, 4⟩ : T43), (⟨p0.Inverse, 7⟩ : T43), (⟨(decide (p0.Fore > (0 : Int))), (IntKind.wrap .i64 ((IntKind.wrap .i64 (30 + p0.Fore)) - 1))⟩ : T43), (⟨(decide (p0.Back > (0 : Int))), (IntKind.wrap .i64 ((IntKind.wrap .i64 (40 + p0.Back)) - 1))⟩ : T43)] : List T43) x184).is), .int .i64 ((rdD zT43 ([(⟨p0.Bold, 1⟩ : T43), (⟨p0.Under, 4⟩ : T43), (⟨p0.Inverse, 7⟩ : T43), (⟨(decide (p0.Fore > (0 : Int))), (IntKind.wrap .i64 ((IntKind.wrap .i64 (30 + p0.Fore)) - 1))⟩ : T43), (⟨(decide (p0.Back > (0 : Int))), (IntKind.wrap .i64 ((IntKind.wrap .i64 (40 + p0.Back)) - 1))⟩ : T43)] : List T43) x184).n)]) rfl rfl rfl rfl rfl rfl f220 rfl rfl fun w221 o222 st223 f220_ => ?_
      replace f149 := f149.st st223 (by decide)
      replace f182 := f182.st st223 (by decide)
      replace hs := hs.loc0 st223 (by decide)
      replace f220 := f220_
      refine wpList_nil ?_
      refine then_n ?_
      refine x_seq ?_
      refine wp_region_lit ?_
      refine x_run tab hk (k := 2) (lv := [.bool ((rdD zT43 ([(⟨p0.Bold, 1⟩ : T43), (⟨p0.Under, 4⟩ : T43), (⟨p0.Inverse, 7⟩ : T43), (⟨(decide (p0.Fore > (0 : Int))), (IntKind.wrap .i64 ((IntKind.wrap .i64 (30 + p0.Fore)) - 1))⟩ : T43), (⟨(decide (p0.Back > (0 : Int))), (IntKind.wrap .i64 ((IntKind.wrap .i64 (40 + p0.Back)) - 1))⟩ : T43)] : List T43) x184).is)]) (ks := [5, 7, 42, 43, 44, 49]) (e' := [(5, .slice A179 (l181).length c180), (7, .pointer (some ⟨bx219, 0, none⟩)), (42, .slice (some ⟨bx147, 0, none⟩) (([(⟨p0.Bold, 1⟩ : T43), (⟨p0.Under, 4⟩ : T43), (⟨p0.Inverse, 7⟩ : T43), (⟨(decide (p0.Fore > (0 : Int))), (IntKind.wrap .i64 ((IntKind.wrap .i64 (30 + p0.Fore)) - 1))⟩ : T43), (⟨(decide (p0.Back > (0 : Int))), (IntKind.wrap .i64 ((IntKind.wrap .i64 (40 + p0.Back)) - 1))⟩ : T43)] : List T43)).length 5), (43, .int .i64 ((([(⟨p0.Bold, 1⟩ : T43), (⟨p0.Under, 4⟩ : T43), (⟨p0.Inverse, 7⟩ : T43), (⟨(decide (p0.Fore > (0 : Int))), (IntKind.wrap .i64 ((IntKind.wrap .i64 (30 + p0.Fore)) - 1))⟩ : T43), (⟨(decide (p0.Back > (0 : Int))), (IntKind.wrap .i64 ((IntKind.wrap .i64 (40 + p0.Back)) - 1))⟩ : T43)] : List T43)).length : Int)), (44, .int .i64 x184), (49, .bool ((rdD zT43 ([(⟨p0.Bold, 1⟩ : T43), (⟨p0.Under, 4⟩ : T43), (⟨p0.Inverse, 7⟩ : T43), (⟨(decide (p0.Fore > (0 : Int))), (IntKind.wrap .i64 ((IntKind.wrap .i64 (30 + p0.Fore)) - 1))⟩ : T43), (⟨(decide (p0.Back > (0 : Int))), (IntKind.wrap .i64 ((IntKind.wrap .i64 (40 + p0.Back)) - 1))⟩ : T43)] : List T43) x184).is))]) rfl ⟨(load1 tab rfl ((Bx.cell f220.now 0).trans rfl)), trivial⟩ fun a hk => ?_
      refine wpList_nil ?_
      refine then_n ?_
      cases b224 : (rdD zT43 ([(⟨p0.Bold, 1⟩ : T43), (⟨p0.Under, 4⟩ : T43), (⟨p0.Inverse, 7⟩ : T43), (⟨(decide (p0.Fore > (0 : Int))), (IntKind.wrap .i64 ((IntKind.wrap .i64 (30 + p0.Fore)) - 1))⟩ : T43), (⟨(decide (p0.Back > (0 : Int))), (IntKind.wrap .i64 ((IntKind.wrap .i64 (40 + p0.Back)) - 1))⟩ : T43)] : List T43) x184).is
      · rw [b224] at hk H
        replace H := bifF H
        rw [b224] at f220
        refine x_if hk (b := false) rfl ?_
        refine (show Code.wp _ _ _ _ _ from ?_)
        refine wp_skip ?_
        refine blk_n ?_
        refine then_n ?_
        refine wp_region_lit ?_
        refine x_run tab hk (k := 2) (lv := []) (ks := [5, 42, 43, 44]) (e' := [(5, .slice A179 (l181).length c180), (42, .slice (some ⟨bx147, 0, none⟩) (([(⟨p0.Bold, 1⟩ : T43), (⟨p0.Under, 4⟩ : T43), (⟨p0.Inverse, 7⟩ : T43), (⟨(decide (p0.Fore > (0 : Int))), (IntKind.wrap .i64 ((IntKind.wrap .i64 (30 + p0.Fore)) - 1))⟩ : T43), (⟨(decide (p0.Back > (0 : Int))), (IntKind.wrap .i64 ((IntKind.wrap .i64 (40 + p0.Back)) - 1))⟩ : T43)] : List T43)).length 5), (43, .int .i64 ((([(⟨p0.Bold, 1⟩ : T43), (⟨p0.Under, 4⟩ : T43), (⟨p0.Inverse, 7⟩ : T43), (⟨(decide (p0.Fore > (0 : Int))), (IntKind.wrap .i64 ((IntKind.wrap .i64 (30 + p0.Fore)) - 1))⟩ : T43), (⟨(decide (p0.Back > (0 : Int))), (IntKind.wrap .i64 ((IntKind.wrap .i64 (40 + p0.Back)) - 1))⟩ : T43)] : List T43)).length : Int)), (44, .int .i64 (IntKind.wrap .i64 (x184 + 1)))]) rfl trivial fun a hk => ?_
        refine wpList_nil ?_
        refine then_n ?_
        exact ⟨k211, Nat.le_refl _, o222, A179, c180, l181, (IntKind.wrap .i64 (x184 + 1)), (by exact Kn.pick (ks := [5, 42, 43, 44]) hk rfl), hs, f149, f182, hc183, (hlp213 ▸ H)⟩
      · rw [b224] at hk H
        replace H := bifT H
        rw [b224] at f220
        refine x_if hk (b := true) rfl ?_
        refine (show Code.wp _ _ _ _ _ from ?_)
        refine wp_region_lit ?_
        refine x_run tab hk (k := 3) (lv := [.int .i64 ((rdD zT43 ([(⟨p0.Bold, 1⟩ : T43), (⟨p0.Under, 4⟩ : T43), (⟨p0.Inverse, 7⟩ : T43), (⟨(decide (p0.Fore > (0 : Int))), (IntKind.wrap .i64 ((IntKind.wrap .i64 (30 + p0.Fore)) - 1))⟩ : T43), (⟨(decide (p0.Back > (0 : Int))), (IntKind.wrap .i64 ((IntKind.wrap .i64 (40 + p0.Back)) - 1))⟩ : T43)] : List T43) x184).n)]) (ks := [42, 43, 44, 50, 52]) (e' := [(42, .slice (some ⟨bx147, 0, none⟩) (([(⟨p0.Bold, 1⟩ : T43), (⟨p0.Under, 4⟩ : T43), (⟨p0.Inverse, 7⟩ : T43), (⟨(decide (p0.Fore > (0 : Int))), (IntKind.wrap .i64 ((IntKind.wrap .i64 (30 + p0.Fore)) - 1))⟩ : T43), (⟨(decide (p0.Back > (0 : Int))), (IntKind.wrap .i64 ((IntKind.wrap .i64 (40 + p0.Back)) - 1))⟩ : T43)] : List T43)).length 5), (43, .int .i64 ((([(⟨p0.Bold, 1⟩ : T43), (⟨p0.Under, 4⟩ : T43), (⟨p0.Inverse, 7⟩ : T43), (⟨(decide (p0.Fore > (0 : Int))), (IntKind.wrap .i64 ((IntKind.wrap .i64 (30 + p0.Fore)) - 1))⟩ : T43), (⟨(decide (p0.Back > (0 : Int))), (IntKind.wrap .i64 ((IntKind.wrap .i64 (40 + p0.Back)) - 1))⟩ : T43)] : List T43)).length : Int)), (44, .int .i64 x184), (50, .slice A179 (l181).length c180), (52, .int .i64 ((rdD zT43 ([(⟨p0.Bold, 1⟩ : T43), (⟨p0.Under, 4⟩ : T43), (⟨p0.Inverse, 7⟩ : T43), (⟨(decide (p0.Fore > (0 : Int))), (IntKind.wrap .i64 ((IntKind.wrap .i64 (30 + p0.Fore)) - 1))⟩ : T43), (⟨(decide (p0.Back > (0 : Int))), (IntKind.wrap .i64 ((IntKind.wrap .i64 (40 + p0.Back)) - 1))⟩ : T43)] : List T43) x184).n))]) rfl ⟨(load1 tab rfl ((Bx.cell f220.now 1).trans rfl)), trivial⟩ fun a hk => ?_
        refine x_op hk rfl ?_
        refine op_slice (o := o222) tab hk (vs := [.int .i64 ((rdD zT43 ([(⟨p0.Bold, 1⟩ : T43), (⟨p0.Under, 4⟩ : T43), (⟨p0.Inverse, 7⟩ : T43), (⟨(decide (p0.Fore > (0 : Int))), (IntKind.wrap .i64 ((IntKind.wrap .i64 (30 + p0.Fore)) - 1))⟩ : T43), (⟨(decide (p0.Back > (0 : Int))), (IntKind.wrap .i64 ((IntKind.wrap .i64 (40 + p0.Back)) - 1))⟩ : T43)] : List T43) x184).n)]) (cs := [.int .i64 ((rdD zT43 ([(⟨p0.Bold, 1⟩ : T43), (⟨p0.Under, 4⟩ : T43), (⟨p0.Inverse, 7⟩ : T43), (⟨(decide (p0.Fore > (0 : Int))), (IntKind.wrap .i64 ((IntKind.wrap .i64 (30 + p0.Fore)) - 1))⟩ : T43), (⟨(decide (p0.Back > (0 : Int))), (IntKind.wrap .i64 ((IntKind.wrap .i64 (40 + p0.Back)) - 1))⟩ : T43)] : List T43) x184).n)]) rfl rfl rfl rfl rfl rfl rfl rfl rfl 27 fun bx228 w225 o226 st227 f229 => ?_
        replace f149 := f149.st st227 (by decide)
        replace f182 := f182.st st227 (by decide)
        replace hs := hs.loc0 st227 (by decide)
        have f230 : Ft (Own (encInt .i64) 3 (.slice (some ⟨bx228, 0, none⟩) (([(rdD zT43 ([(⟨p0.Bold, 1⟩ : T43), (⟨p0.Under, 4⟩ : T43), (⟨p0.Inverse, 7⟩ : T43), (⟨(decide (p0.Fore > (0 : Int))), (IntKind.wrap .i64 ((IntKind.wrap .i64 (30 + p0.Fore)) - 1))⟩ : T43), (⟨(decide (p0.Back > (0 : Int))), (IntKind.wrap .i64 ((IntKind.wrap .i64 (40 + p0.Back)) - 1))⟩ : T43)] : List T43) x184).n] : List Int)).length 1) ([(rdD zT43 ([(⟨p0.Bold, 1⟩ : T43), (⟨p0.Under, 4⟩ : T43), (⟨p0.Inverse, 7⟩ : T43), (⟨(decide (p0.Fore > (0 : Int))), (IntKind.wrap .i64 ((IntKind.wrap .i64 (30 + p0.Fore)) - 1))⟩ : T43), (⟨(decide (p0.Back > (0 : Int))), (IntKind.wrap .i64 ((IntKind.wrap .i64 (40 + p0.Back)) - 1))⟩ : T43)] : List T43) x184).n] : List Int)) w225 o226 27 := f229.imp fun _ h_ => Own.of_box h_ rfl (by simp)
        have hk := hk.put 53 (.slice (some ⟨bx228, 0, none⟩) (([(rdD zT43 ([(⟨p0.Bold, 1⟩ : T43), (⟨p0.Under, 4⟩ : T43), (⟨p0.Inverse, 7⟩ : T43), (⟨(decide (p0.Fore > (0 : Int))), (IntKind.wrap .i64 ((IntKind.wrap .i64 (30 + p0.Fore)) - 1))⟩ : T43), (⟨(decide (p0.Back > (0 : Int))), (IntKind.wrap .i64 ((IntKind.wrap .i64 (40 + p0.Back)) - 1))⟩ : T43)] : List T43) x184).n] : List Int)).length 1) rfl
        refine x_op hk rfl ?_
        obtain ⟨q234, H⟩ := ifS H
        refine op_append (o := o226) (E := (encInt .i64)) (xs := l181) (ys := ([(rdD zT43 ([(⟨p0.Bold, 1⟩ : T43), (⟨p0.Under, 4⟩ : T43), (⟨p0.Inverse, 7⟩ : T43), (⟨(decide (p0.Fore > (0 : Int))), (IntKind.wrap .i64 ((IntKind.wrap .i64 (30 + p0.Fore)) - 1))⟩ : T43), (⟨(decide (p0.Back > (0 : Int))), (IntKind.wrap .i64 ((IntKind.wrap .i64 (40 + p0.Back)) - 1))⟩ : T43)] : List T43) x184).n] : List Int)) tab hk rfl rfl rfl rfl rfl rfl rfl f182 (Own.rd f230.now) q234 fun A235 c236 w231 o232 st233 f237 hc238 => ?_
        replace f149 := f149.st st233 (by decide)
        replace f230 := f230.st st233 (by decide)
        replace hs := hs.loc0 st233 (by decide)
        have hk := hk.put 54 (.slice A235 ((l181 ++ ([(rdD zT43 ([(⟨p0.Bold, 1⟩ : T43), (⟨p0.Under, 4⟩ : T43), (⟨p0.Inverse, 7⟩ : T43), (⟨(decide (p0.Fore > (0 : Int))), (IntKind.wrap .i64 ((IntKind.wrap .i64 (30 + p0.Fore)) - 1))⟩ : T43), (⟨(decide (p0.Back > (0 : Int))), (IntKind.wrap .i64 ((IntKind.wrap .i64 (40 + p0.Back)) - 1))⟩ : T43)] : List T43) x184).n] : List Int))).length c236) rfl
        refine x_run tab hk (k := 1) (lv := []) (ks := [5, 42, 43, 44]) (e' := [(5, .slice A235 ((l181 ++ ([(rdD zT43 ([(⟨p0.Bold, 1⟩ : T43), (⟨p0.Under, 4⟩ : T43), (⟨p0.Inverse, 7⟩ : T43), (⟨(decide (p0.Fore > (0 : Int))), (IntKind.wrap .i64 ((IntKind.wrap .i64 (30 + p0.Fore)) - 1))⟩ : T43), (⟨(decide (p0.Back > (0 : Int))), (IntKind.wrap .i64 ((IntKind.wrap .i64 (40 + p0.Back)) - 1))⟩ : T43)] : List T43) x184).n] : List Int))).length c236), (42, .slice (some ⟨bx147, 0, none⟩) (([(⟨p0.Bold, 1⟩ : T43), (⟨p0.Under, 4⟩ : T43), (⟨p0.Inverse, 7⟩ : T43), (⟨(decide (p0.Fore > (0 : Int))), (IntKind.wrap .i64 ((IntKind.wrap .i64 (30 + p0.Fore)) - 1))⟩ : T43), (⟨(decide (p0.Back > (0 : Int))), (IntKind.wrap .i64 ((IntKind.wrap .i64 (40 + p0.Back)) - 1))⟩ : T43)] : List T43)).length 5), (43, .int .i64 ((([(⟨p0.Bold, 1⟩ : T43), (⟨p0.Under, 4⟩ : T43), (⟨p0.Inverse, 7⟩ : T43), (⟨(decide (p0.Fore > (0 : Int))), (IntKind.wrap .i64 ((IntKind.wrap .i64 (30 + p0.Fore)) - 1))⟩ : T43), (⟨(decide (p0.Back > (0 : Int))), (IntKind.wrap .i64 ((IntKind.wrap .i64 (40 + p0.Back)) - 1))⟩ : T43)] : List T43)).length : Int)), (44, .int .i64 x184)]) rfl trivial fun a hk => ?_
        refine wpList_nil ?_
        refine blk_n ?_
        refine then_n ?_
        refine wp_region_lit ?_
        refine x_run tab hk (k := 2) (lv := []) (ks := [5, 42, 43, 44]) (e' := [(5, .slice A235 ((l181 ++ ([(rdD zT43 ([(⟨p0.Bold, 1⟩ : T43), (⟨p0.Under, 4⟩ : T43), (⟨p0.Inverse, 7⟩ : T43), (⟨(decide (p0.Fore > (0 : Int))), (IntKind.wrap .i64 ((IntKind.wrap .i64 (30 + p0.Fore)) - 1))⟩ : T43), (⟨(decide (p0.Back > (0 : Int))), (IntKind.wrap .i64 ((IntKind.wrap .i64 (40 + p0.Back)) - 1))⟩ : T43)] : List T43) x184).n] : List Int))).length c236), (42, .slice (some ⟨bx147, 0, none⟩) (([(⟨p0.Bold, 1⟩ : T43), (⟨p0.Under, 4⟩ : T43), (⟨p0.Inverse, 7⟩ : T43), (⟨(decide (p0.Fore > (0 : Int))), (IntKind.wrap .i64 ((IntKind.wrap .i64 (30 + p0.Fore)) - 1))⟩ : T43), (⟨(decide (p0.Back > (0 : Int))), (IntKind.wrap .i64 ((IntKind.wrap .i64 (40 + p0.Back)) - 1))⟩ : T43)] : List T43)).length 5), (43, .int .i64 ((([(⟨p0.Bold, 1⟩ : T43), (⟨p0.Under, 4⟩ : T43), (⟨p0.Inverse, 7⟩ : T43), (⟨(decide (p0.Fore > (0 : Int))), (IntKind.wrap .i64 ((IntKind.wrap .i64 (30 + p0.Fore)) - 1))⟩ : T43), (⟨(decide (p0.Back > (0 : Int))), (IntKind.wrap .i64 ((IntKind.wrap .i64 (40 + p0.Back)) - 1))⟩ : T43)] : List T43)).length : Int)), (44, .int .i64 (IntKind.wrap .i64 (x184 + 1)))]) rfl trivial fun a hk => ?_
        refine wpList_nil ?_
        refine then_n ?_
        exact ⟨k211, Nat.le_refl _, o232, A235, c236, (l181 ++ ([(rdD zT43 ([(⟨p0.Bold, 1⟩ : T43), (⟨p0.Under, 4⟩ : T43), (⟨p0.Inverse, 7⟩ : T43), (⟨(decide (p0.Fore > (0 : Int))), (IntKind.wrap .i64 ((IntKind.wrap .i64 (30 + p0.Fore)) - 1))⟩ : T43), (⟨(decide (p0.Back > (0 : Int))), (IntKind.wrap .i64 ((IntKind.wrap .i64 (40 + p0.Back)) - 1))⟩ : T43)] : List T43) x184).n] : List Int)), (IntKind.wrap .i64 (x184 + 1)), (by exact Kn.pick (ks := [5, 42, 43, 44]) hk rfl), hs, f149, f237, hc238, (hlp213 ▸ H)⟩
  refine x_seq ?_
  refine wp_region_lit ?_
  refine x_run tab hk (k := 1) (lv := [.agg #[.int .i64 p0.Fore, .int .i64 p0.Back, .bool p0.Bold, .bool p0.Under, .bool p0.Inverse]]) (ks := [2, 3, 8]) (e' := [(2, .pointer (some ⟨bx4, 0, none⟩)), (3, .pointer (some ⟨bx9, 0, none⟩)), (8, .agg #[.int .i64 p0.Fore, .int .i64 p0.Back, .bool p0.Bold, .bool p0.Under, .bool p0.Inverse])]) rfl ⟨(load_box tab rfl rfl f5.now (k := 0) rfl rfl), trivial⟩ fun a hk => ?_
  refine x_op hk rfl ?_
  obtain ⟨t242, hc243, H⟩ := bindS H
  refine op_call hk ent_18 (vs := [.agg #[.int .i64 p0.Fore, .int .i64 p0.Back, .bool p0.Bold, .bool p0.Under, .bool p0.Inverse]]) rfl (style_Style_may_calls p0 _ o7    _ hc243) ?_
  rintro _ w244 ⟨o245, rfl, st246⟩
  replace f10 := f10.st st246 (by decide)
  replace f5 := f5.st st246 (by decide)
  replace hs := hs.loc0 st246 (by decide)
  have hk := hk.put 9 (.bool t242) rfl
  refine x_run tab hk (k := 2) (lv := []) (ks := [2, 3, 11]) (e' := [(2, .pointer (some ⟨bx4, 0, none⟩)), (3, .pointer (some ⟨bx9, 0, none⟩)), (11, .bool (!t242))]) rfl trivial fun a hk => ?_
  cases b247 : (!t242)
  · rw [b247] at hk H
    replace H := bifF H
    refine x_run tab hk (k := 4) (lv := [.agg #[.int .i64 p0.Fore, .int .i64 p0.Back, .bool p0.Bold, .bool p0.Under, .bool p0.Inverse], .agg #[.int .i64 p1.Fore, .int .i64 p1.Back, .bool p1.Bold, .bool p1.Under, .bool p1.Inverse], .bool (eqT22 p0 p1)]) (ks := [2, 15]) (e' := [(2, .pointer (some ⟨bx4, 0, none⟩)), (15, .bool (eqT22 p0 p1))]) rfl ⟨(load_box tab rfl rfl f5.now (k := 0) rfl rfl), (load_box tab rfl rfl f10.now (k := 0) rfl rfl), (ask_eq tab stood rfl rfl rfl rfl), trivial⟩ fun a hk => ?_
    refine wpList_nil ?_
    refine then_n ?_
    cases b248 : (eqT22 p0 p1)
    · rw [b248] at hk H
      replace H := bifF H
      refine x_if hk (b := false) rfl ?_
      refine (show Code.wp _ _ _ _ _ from ?_)
      refine wp_skip ?_
      refine then_n ?_
      exact ⟨(fun b_ => (fun l_ => if l_ = 1 then 3 else l_) (o245 b_)), (by exact Kn.pick (ks := [2]) hk rfl), (hs.relab0 (fun l_ => if l_ = 1 then 3 else l_) rfl), (f5.relab (fun l_ => if l_ = 1 then 3 else l_) rfl), H⟩
    · rw [b248] at hk H
      replace H := bifT H
      refine x_if hk (b := true) rfl ?_
      refine (show Code.wp _ _ _ _ _ from ?_)
      refine x_seq ?_
      refine wp_region_lit ?_
      refine x_run tab hk (k := 1) (lv := []) (ks := [4]) (e' := [(4, .slice none 0 0)]) rfl trivial fun a hk => ?_
      refine wpList_nil ?_
      refine then_n ?_
      refine wp_ret ?_
      refine then_r ?_
      obtain rfl := Option.some.inj H
      exact x_retG hk (rs := [.tmp 4]) (vs := [.slice none 0 0]) rfl ⟨rfl, trivial⟩ ⟨fun b_ => if b_ < w.heap.size then o b_ else (fun _ => R0) (o245 b_), none, 0, rfl, hs.close0 o (fun _ => R0), (Ft.of_all (fun _ => Own.nil _ _ _) _ _ _), (by simp)⟩
  · rw [b247] at hk H
    replace H := bifT H
    refine x_run tab hk (k := 4) (lv := []) (ks := [2, 15]) (e' := [(2, .pointer (some ⟨bx4, 0, none⟩)), (15, .bool true)]) rfl trivial fun a hk => ?_
    refine wpList_nil ?_
    refine then_n ?_
    refine x_if hk (b := true) rfl ?_
    refine (show Code.wp _ _ _ _ _ from ?_)
    refine x_seq ?_
    refine wp_region_lit ?_
    refine x_run tab hk (k := 1) (lv := []) (ks := [4]) (e' := [(4, .slice none 0 0)]) rfl trivial fun a hk => ?_
    refine wpList_nil ?_
    refine then_n ?_
    refine wp_ret ?_
    refine then_r ?_
    obtain rfl := Option.some.inj H
    exact x_retG hk (rs := [.tmp 4]) (vs := [.slice none 0 0]) rfl ⟨rfl, trivial⟩ ⟨fun b_ => if b_ < w.heap.size then o b_ else (fun _ => R0) (o245 b_), none, 0, rfl, hs.close0 o (fun _ => R0), (Ft.of_all (fun _ => Own.nil _ _ _) _ _ _), (by simp)⟩

/-! tidewrack/tidewracklaw08.StyleOrders -/
theorem tidewracklaw08_StyleOrders_calls (K : Nat) (p0 : T22) (p1 : T22) (w : World) (o : Nat → Nat)  (r : Bool) (H : tidewracklaw08_StyleOrders K p0 p1 = some r) :
    Calls Try.prog 7 #[.agg #[.int .i64 p0.Fore, .int .i64 p0.Back, .bool p0.Bold, .bool p0.Under, .bool p0.Inverse], .agg #[.int .i64 p1.Fore, .int .i64 p1.Back, .bool p1.Bold, .bool p1.Under, .bool p1.Inverse]] w (Ret fun v_ w' => ∃ o' : Nat → Nat, v_ = .bool r ∧ St [] w o w' o') := by
  refine x_enter (vs := [.agg #[.int .i64 p0.Fore, .int .i64 p0.Back, .bool p0.Bold, .bool p0.Under, .bool p0.Inverse], .agg #[.int .i64 p1.Fore, .int .i64 p1.Back, .bool p1.Bold, .bool p1.Under, .bool p1.Inverse]]) Try.func7 rfl rfl rfl fun a hk => ?_
  obtain ⟨o0, hs, h0⟩ := St.start w o
  clear h0
  rw [tidewracklaw08_StyleOrders] at H
  refine x_seq ?_
  refine wp_region_lit ?_
  refine x_op hk rfl ?_
  refine op_box (o := o0) (t := 23) (v := .agg #[.int .i64 p0.Fore, .int .i64 p0.Back, .bool p0.Bold, .bool p0.Under, .bool p0.Inverse]) (cs := [.int .i64 p0.Fore, .int .i64 p0.Back, .bool p0.Bold, .bool p0.Under, .bool p0.Inverse]) hk rfl rfl 1 fun bx4 w1 o2 st3 f5 => ?_
  replace hs := hs.loc0 st3 (by decide)
  have hk := hk.put 2 (.pointer (some ⟨bx4, 0, none⟩)) rfl
  refine x_op hk rfl ?_
  refine op_box (o := o2) (t := 23) (v := .agg #[.int .i64 p1.Fore, .int .i64 p1.Back, .bool p1.Bold, .bool p1.Under, .bool p1.Inverse]) (cs := [.int .i64 p1.Fore, .int .i64 p1.Back, .bool p1.Bold, .bool p1.Under, .bool p1.Inverse]) hk rfl rfl 2 fun bx9 w6 o7 st8 f10 => ?_
  replace f5 := f5.st st8 (by decide)
  replace hs := hs.loc0 st8 (by decide)
  have hk := hk.put 3 (.pointer (some ⟨bx9, 0, none⟩)) rfl
  refine x_run tab hk (k := 1) (lv := []) (ks := [2, 3]) (e' := [(2, .pointer (some ⟨bx4, 0, none⟩)), (3, .pointer (some ⟨bx9, 0, none⟩))]) rfl trivial fun a hk => ?_
  refine wpList_nil ?_
  refine then_n ?_
  refine x_seq ?_
  refine x_seq ?_
  refine wp_region_lit ?_
  refine x_op hk rfl ?_
  obtain ⟨t14, hc15, H⟩ := bindS H
  refine op_call hk ent_8 (vs := []) rfl (tidewracklaw08_awake_calls K  _ o7    _ hc15) ?_
  rintro _ w16 ⟨o17, rfl, st18⟩
  replace f10 := f10.st st18 (by decide)
  replace f5 := f5.st st18 (by decide)
  replace hs := hs.loc0 st18 (by decide)
  have hk := hk.put 7 (.bool t14) rfl
  refine x_run tab hk (k := 1) (lv := []) (ks := [2, 3, 8]) (e' := [(2, .pointer (some ⟨bx4, 0, none⟩)), (3, .pointer (some ⟨bx9, 0, none⟩)), (8, .bool (!t14))]) rfl trivial fun a hk => ?_
  refine wpList_nil ?_
  refine then_n ?_
  cases b19 : (!t14)
  · rw [b19] at hk H
    replace H := bifF H
    refine x_if hk (b := false) rfl ?_
    refine (show Code.wp _ _ _ _ _ from ?_)
    refine wp_skip ?_
    refine then_n ?_
    refine x_seq ?_
    refine wp_region_lit ?_
    refine x_run tab hk (k := 2) (lv := [.agg #[.int .i64 p0.Fore, .int .i64 p0.Back, .bool p0.Bold, .bool p0.Under, .bool p0.Inverse], .agg #[.int .i64 p1.Fore, .int .i64 p1.Back, .bool p1.Bold, .bool p1.Under, .bool p1.Inverse]]) (ks := [2, 3, 9, 10]) (e' := [(2, .pointer (some ⟨bx4, 0, none⟩)), (3, .pointer (some ⟨bx9, 0, none⟩)), (9, .agg #[.int .i64 p0.Fore, .int .i64 p0.Back, .bool p0.Bold, .bool p0.Under, .bool p0.Inverse]), (10, .agg #[.int .i64 p1.Fore, .int .i64 p1.Back, .bool p1.Bold, .bool p1.Under, .bool p1.Inverse])]) rfl ⟨(load_box tab rfl rfl f5.now (k := 0) rfl rfl), (load_box tab rfl rfl f10.now (k := 0) rfl rfl), trivial⟩ fun a hk => ?_
    refine x_op hk rfl ?_
    obtain ⟨t23, hc24, H⟩ := bindS H
    refine op_call hk ent_15 (vs := [.agg #[.int .i64 p0.Fore, .int .i64 p0.Back, .bool p0.Bold, .bool p0.Under, .bool p0.Inverse], .agg #[.int .i64 p1.Fore, .int .i64 p1.Back, .bool p1.Bold, .bool p1.Under, .bool p1.Inverse]]) rfl (style_Style_Order_calls K p0 p1 _ o17  3  _ hc24) ?_
    rintro _ w25 ⟨o26, A28, c29, rfl, st27, f30, hc31⟩
    replace f10 := f10.st st27 (by decide)
    replace f5 := f5.st st27 (by decide)
    replace hs := hs.loc0 st27 (by decide)
    have hk := hk.put 11 (.slice A28 (t23).length c29) rfl
    refine x_run tab hk (k := 1) (lv := []) (ks := [2, 3, 5]) (e' := [(2, .pointer (some ⟨bx4, 0, none⟩)), (3, .pointer (some ⟨bx9, 0, none⟩)), (5, .slice A28 (t23).length c29)]) rfl trivial fun a hk => ?_
    refine wpList_nil ?_
    refine then_n ?_
    refine x_seq ?_
    refine x_seq ?_
    refine wp_region_lit ?_
    refine x_run tab hk (k := 1) (lv := [.agg #[.int .i64 p0.Fore, .int .i64 p0.Back, .bool p0.Bold, .bool p0.Under, .bool p0.Inverse]]) (ks := [2, 3, 5, 12]) (e' := [(2, .pointer (some ⟨bx4, 0, none⟩)), (3, .pointer (some ⟨bx9, 0, none⟩)), (5, .slice A28 (t23).length c29), (12, .agg #[.int .i64 p0.Fore, .int .i64 p0.Back, .bool p0.Bold, .bool p0.Under, .bool p0.Inverse])]) rfl ⟨(load_box tab rfl rfl f5.now (k := 0) rfl rfl), trivial⟩ fun a hk => ?_
    refine x_op hk rfl ?_
    obtain ⟨t35, hc36, H⟩ := bindS H
    refine op_call hk ent_14 (vs := [.agg #[.int .i64 p0.Fore, .int .i64 p0.Back, .bool p0.Bold, .bool p0.Under, .bool p0.Inverse]]) rfl (tidewrackref08_May_calls p0 _ o26    _ hc36) ?_
    rintro _ w37 ⟨o38, rfl, st39⟩
    replace f10 := f10.st st39 (by decide)
    replace f30 := f30.st st39 (by decide)
    replace f5 := f5.st st39 (by decide)
    replace hs := hs.loc0 st39 (by decide)
    have hk := hk.put 13 (.bool t35) rfl
    refine x_run tab hk (k := 1) (lv := []) (ks := [2, 3, 5, 14]) (e' := [(2, .pointer (some ⟨bx4, 0, none⟩)), (3, .pointer (some ⟨bx9, 0, none⟩)), (5, .slice A28 (t23).length c29), (14, .bool (!t35))]) rfl trivial fun a hk => ?_
    refine wpList_nil ?_
    refine then_n ?_
    cases b40 : (!t35)
    · rw [b40] at hk H
      replace H := bifF H
      refine x_if hk (b := false) rfl ?_
      refine (show Code.wp _ _ _ _ _ from ?_)
      refine wp_skip ?_
      refine then_n ?_
      refine x_seq ?_
      refine x_seq ?_
      refine wp_region_lit ?_
      refine x_run tab hk (k := 3) (lv := [.agg #[.int .i64 p0.Fore, .int .i64 p0.Back, .bool p0.Bold, .bool p0.Under, .bool p0.Inverse], .agg #[.int .i64 p1.Fore, .int .i64 p1.Back, .bool p1.Bold, .bool p1.Under, .bool p1.Inverse], .bool (eqT22 p0 p1)]) (ks := [2, 3, 5, 20]) (e' := [(2, .pointer (some ⟨bx4, 0, none⟩)), (3, .pointer (some ⟨bx9, 0, none⟩)), (5, .slice A28 (t23).length c29), (20, .bool (eqT22 p0 p1))]) rfl ⟨(load_box tab rfl rfl f5.now (k := 0) rfl rfl), (load_box tab rfl rfl f10.now (k := 0) rfl rfl), (ask_eq tab stood rfl rfl rfl rfl), trivial⟩ fun a hk => ?_
      refine wpList_nil ?_
      refine then_n ?_
      cases b41 : (eqT22 p0 p1)
      · rw [b41] at hk H
        replace H := bifF H
        refine x_if hk (b := false) rfl ?_
        refine (show Code.wp _ _ _ _ _ from ?_)
        refine wp_skip ?_
        refine then_n ?_
        refine x_mid (fun a_ w_ => ∃ o81 : Nat → Nat, ∃ A82 : Option Addr, ∃ c83 : Nat, ∃ l84 : List Int, Kn 61 a_ [(5, .slice A82 (l84).length c83)] ∧ St [] w (fun _ => 0) w_ o81 ∧ Ft (Own (encInt .i64) 3 (.slice A82 (l84).length c83) l84) w_ o81 4 ∧ (l84).length ≤ c83 ∧ tidewracklaw08_StyleOrders_j1 K l84 = some r) ?_ ?_
        rotate_left
        · rintro a w87 ⟨o81, A82, c83, l84, hk, hs, f85, hc86, H⟩
          rw [tidewracklaw08_StyleOrders_j1] at H
          refine x_mid (fun a_ w_ => ∃ o130 : Nat → Nat, Kn 61 a_ [] ∧ St [] w (fun _ => 0) w_ o130 ∧ tidewracklaw08_StyleOrders_j2 = some r) ?_ ?_
          rotate_left
          · rintro a w131 ⟨o130, hk, hs, H⟩
            rw [tidewracklaw08_StyleOrders_j2] at H
            refine x_seq ?_
            refine wp_region_lit ?_
            refine x_run tab hk (k := 1) (lv := []) (ks := [4]) (e' := [(4, .bool true)]) rfl trivial fun a hk => ?_
            refine wpList_nil ?_
            refine then_n ?_
            refine wp_ret ?_
            obtain rfl := Option.some.inj H
            exact x_retG hk (rs := [.tmp 4]) (vs := [.bool true]) rfl ⟨rfl, trivial⟩ ⟨fun b_ => if b_ < w.heap.size then o b_ else (fun _ => 0) (o130 b_), rfl, hs.close0 o (fun _ => 0)⟩
          refine x_seq ?_
          refine wp_region_lit ?_
          refine x_run tab hk (k := 1) (lv := []) (ks := [5, 6]) (e' := [(5, .slice A82 (l84).length c83), (6, .int .i64 2)]) rfl trivial fun a hk => ?_
          refine wpList_nil ?_
          refine then_n ?_
          refine wp_block ?_
          refine x_loop (fun j_ a_ w_ => ∃ o145 : Nat → Nat, ∃ x146 : Int, Kn 61 a_ [(5, .slice A82 (l84).length c83), (6, .int .i64 x146)] ∧ St [] w (fun _ => 0) w_ o145 ∧ Ft (Own (encInt .i64) 3 (.slice A82 (l84).length c83) l84) w_ o145 8 ∧ tidewracklaw08_StyleOrders_l3 l84 j_ x146 = some r) (k := K) ⟨(fun b_ => (fun l_ => if l_ = 4 then 8 else l_) (o81 b_)), 2, (by exact Kn.pick (ks := [5, 6]) hk rfl), (hs.relab0 (fun l_ => if l_ = 4 then 8 else l_) rfl), (f85.relab (fun l_ => if l_ = 4 then 8 else l_) rfl), H⟩ (by rintro _ _ ⟨_, _, _, _, _, H_⟩; exact absurd (show (none : Option Bool) = some r from H_) (by simp)) ?_
          rintro k158 a w157 ⟨o145, x146, hk, hs, f85, H⟩
          rw [tidewracklaw08_StyleOrders_l3] at H
          obtain ⟨lp159, hlp160⟩ : ∃ lp_, lp_ = tidewracklaw08_StyleOrders_l3 l84 k158 := ⟨_, rfl⟩
          rw [← hlp160] at H
          refine x_seq ?_
          refine x_seq ?_
          refine wp_region_lit ?_
          refine x_run tab hk (k := 4) (lv := []) (ks := [5, 6, 48]) (e' := [(5, .slice A82 (l84).length c83), (6, .int .i64 x146), (48, .bool (decide (x146 < ((l84).length : Int))))]) rfl trivial fun a hk => ?_
          refine wpList_nil ?_
          refine then_n ?_
          cases b161 : (decide (x146 < ((l84).length : Int)))
          · rw [b161] at hk H
            replace H := bifF H
            refine x_if hk (b := false) rfl ?_
            refine (show Code.wp _ _ _ _ _ from ?_)
            refine wp_exit ?_
            refine then_x ?_
            refine then_x ?_
            refine blk_x ?_
            refine then_n ?_
            exact ⟨o145, (by exact Kn.pick (ks := []) hk rfl), hs, H⟩
          · rw [b161] at hk H
            replace H := bifT H
            refine x_if hk (b := true) rfl ?_
            refine (show Code.wp _ _ _ _ _ from ?_)
            refine wp_skip ?_
            refine then_n ?_
            refine x_seq ?_
            refine wp_block ?_
            refine x_seq ?_
            refine xd_begin (o := o145) (fun W_ => (Own (encInt .i64) 3 (.slice A82 (l84).length c83) l84) W_ ∧ True) mixed rfl rfl fun w165 st166 => ?_
            replace f85 := f85.st st166 (by decide)
            replace hs := hs.loc0 st166 (by decide)
            obtain ⟨q167, H⟩ := ifS H
            obtain ⟨ad168, hAad168⟩ := RdC.addr (Own.rd f85.now) q167
            subst hAad168
            obtain ⟨q169, H⟩ := ifS H
            refine xd_take tab hk (k := 0) (is := [0, 1, 2, 3, 4, 5, 6, 7, 8, 9]) (ls' := #[true, true, true, true, true, true, true, true, true, true]) (lv := [.int .i64 (rdD 0 l84 x146), .int .i64 (rdD 0 l84 (IntKind.wrap .i64 (x146 - 1)))]) (ks := [5, 6, 60]) (e' := [(5, .slice (some ad168) (l84).length c83), (6, .int .i64 x146), (60, .bool (decide ((rdD 0 l84 x146) ≤ (rdD 0 l84 (IntKind.wrap .i64 (x146 - 1))))))]) (by kernel_rfl) rfl rfl (by kernel_rfl) (np_then (np_blk (np_then (np_then (np_blk (np_then np_body)))))) ⟨f85.now, trivial⟩ (fun W_ hS => ⟨q167, (load1 tab rfl (RdC.at0 (E := (encInt .i64)) (d := 0) (i := x146) (Own.rd hS.1) q167 rfl)), q169, (load1 tab rfl (RdC.at0 (E := (encInt .i64)) (d := 0) (i := (IntKind.wrap .i64 (x146 - 1))) (Own.rd hS.1) q169 rfl)), trivial⟩) fun a hk => ?_
            refine xd_done (by kernel_rfl) ?_
            refine then_n ?_
            cases b170 : (decide ((rdD 0 l84 x146) ≤ (rdD 0 l84 (IntKind.wrap .i64 (x146 - 1)))))
            · rw [b170] at hk H
              replace H := bifF H
              refine x_if hk (b := false) rfl ?_
              refine (show Code.wp _ _ _ _ _ from ?_)
              refine wp_skip ?_
              refine blk_n ?_
              refine then_n ?_
              refine wp_region_lit ?_
              refine x_run tab hk (k := 3) (lv := []) (ks := [5, 6]) (e' := [(5, .slice (some ad168) (l84).length c83), (6, .int .i64 (IntKind.wrap .i64 (x146 + 1)))]) rfl trivial fun a hk => ?_
              refine wpList_nil ?_
              refine then_n ?_
              exact ⟨k158, Nat.le_refl _, o145, (IntKind.wrap .i64 (x146 + 1)), (by exact Kn.pick (ks := [5, 6]) hk rfl), hs, f85, (hlp160 ▸ H)⟩
            · rw [b170] at hk H
              replace H := bifT H
              refine x_if hk (b := true) rfl ?_
              refine (show Code.wp _ _ _ _ _ from ?_)
              refine x_seq ?_
              refine wp_region_lit ?_
              refine x_run tab hk (k := 1) (lv := []) (ks := [4]) (e' := [(4, .bool false)]) rfl trivial fun a hk => ?_
              refine wpList_nil ?_
              refine then_n ?_
              refine wp_ret ?_
              refine blk_r ?_
              refine then_r ?_
              refine then_r ?_
              refine blk_r ?_
              refine then_r ?_
              obtain rfl := Option.some.inj H
              exact x_retG hk (rs := [.tmp 4]) (vs := [.bool false]) rfl ⟨rfl, trivial⟩ ⟨fun b_ => if b_ < w.heap.size then o b_ else (fun _ => 0) (o145 b_), rfl, hs.close0 o (fun _ => 0)⟩
        refine x_seq ?_
        refine xd_begin (o := o38) (fun W_ => (Bx bx9 23 [.int .i64 p1.Fore, .int .i64 p1.Back, .bool p1.Bold, .bool p1.Under, .bool p1.Inverse]) W_ ∧ (Own (encInt .i64) 3 (.slice A28 (t23).length c29) t23) W_ ∧ (Bx bx4 23 [.int .i64 p0.Fore, .int .i64 p0.Back, .bool p0.Bold, .bool p0.Under, .bool p0.Inverse]) W_ ∧ True) mixed rfl rfl fun w184 st185 => ?_
        replace f10 := f10.st st185 (by decide)
        replace f30 := f30.st st185 (by decide)
        replace f5 := f5.st st185 (by decide)
        replace hs := hs.loc0 st185 (by decide)
        refine xd_take tab hk (k := 17) (is := [0, 1, 2, 3]) (ls' := #[true, true, true, true, false, false, false, false, false, false, false, false, false, false, false, false, false, false, false, false, false]) (lv := []) (ks := [2, 3, 5, 27]) (e' := [(2, .pointer (some ⟨bx4, 0, none⟩)), (3, .pointer (some ⟨bx9, 0, none⟩)), (5, .slice A28 (t23).length c29), (27, .bool (decide (((t23).length : Int) < (1 : Int))))]) (by kernel_rfl) rfl rfl (by kernel_rfl) (np_then (np_then np_body)) ⟨f10.now, f30.now, f5.now, trivial⟩ (fun W_ hS => trivial) fun a hk => ?_
        cases b186 : (decide (((t23).length : Int) < (1 : Int)))
        · rw [b186] at hk H
          replace H := bifF H
          refine xd_take tab hk (k := 12) (is := [4, 5, 6, 7, 8]) (ls' := #[true, true, true, true, true, true, true, true, true, false, false, false, false, false, false, false, false, false, false, false, false]) (lv := []) (ks := [2, 3, 5, 32]) (e' := [(2, .pointer (some ⟨bx4, 0, none⟩)), (3, .pointer (some ⟨bx9, 0, none⟩)), (5, .slice A28 (t23).length c29), (32, .bool (decide (((t23).length : Int) > (6 : Int))))]) (by kernel_rfl) rfl rfl (by kernel_rfl) (np_then (np_then np_body)) ⟨f10.now, f30.now, f5.now, trivial⟩ (fun W_ hS => trivial) fun a hk => ?_
          cases b187 : (decide (((t23).length : Int) > (6 : Int)))
          · rw [b187] at hk H
            replace H := bifF H
            obtain ⟨q188, H⟩ := ifS H
            obtain ⟨ad189, hAad189⟩ := RdC.addr (Own.rd f30.now) q188
            subst hAad189
            refine xd_take tab hk (k := 6) (is := [9, 10, 11, 12, 13, 14]) (ls' := #[true, true, true, true, true, true, true, true, true, true, true, true, true, true, true, false, false, false, false, false, false]) (lv := [.int .i64 (rdD 0 t23 0)]) (ks := [2, 3, 5, 38]) (e' := [(2, .pointer (some ⟨bx4, 0, none⟩)), (3, .pointer (some ⟨bx9, 0, none⟩)), (5, .slice (some ad189) (t23).length c29), (38, .bool ((rdD 0 t23 0) != (0 : Int)))]) (by kernel_rfl) rfl rfl (by kernel_rfl) (np_then (np_then np_body)) ⟨f10.now, f30.now, f5.now, trivial⟩ (fun W_ hS => ⟨q188, (load1 tab rfl (RdC.at0 (E := (encInt .i64)) (d := 0) (i := (0 : Int)) (Own.rd hS.2.1) q188 rfl)), trivial⟩) fun a hk => ?_
            cases b190 : ((rdD 0 t23 0) != (0 : Int))
            · rw [b190] at hk H
              replace H := bifF H
              refine xd_take tab hk (k := 3) (is := [15, 16, 18]) (ls' := #[true, true, true, true, true, true, true, true, true, true, true, true, true, true, true, true, true, false, true, false, false]) (lv := [.agg #[.int .i64 p1.Fore, .int .i64 p1.Back, .bool p1.Bold, .bool p1.Under, .bool p1.Inverse], .agg #[.int .i64 p0.Fore, .int .i64 p0.Back, .bool p0.Bold, .bool p0.Under, .bool p0.Inverse]]) (ks := [5, 38, 39, 40, 42]) (e' := [(5, .slice (some ad189) (t23).length c29), (38, .bool false), (39, .agg #[.int .i64 p1.Fore, .int .i64 p1.Back, .bool p1.Bold, .bool p1.Under, .bool p1.Inverse]), (40, .slice (some ad189) (t23).length c29), (42, .agg #[.int .i64 p0.Fore, .int .i64 p0.Back, .bool p0.Bold, .bool p0.Under, .bool p0.Inverse])]) (by kernel_rfl) rfl rfl (by kernel_rfl) (np_then (np_then np_body)) ⟨f10.now, f30.now, f5.now, trivial⟩ (fun W_ hS => ⟨(load_box tab rfl rfl hS.1 (k := 0) rfl rfl), (load_box tab rfl rfl hS.2.2.1 (k := 0) rfl rfl), trivial⟩) fun a hk => ?_
              refine xd_op hk (i := 17) (by kernel_rfl) rfl rfl ?_
              obtain ⟨t194, hc195, H⟩ := bindS H
              refine op_call hk ent_10 (vs := [.agg #[.int .i64 p1.Fore, .int .i64 p1.Back, .bool p1.Bold, .bool p1.Under, .bool p1.Inverse], .slice (some ad189) (t23).length c29]) rfl (tidewrackref08_Set_calls K p1 (some ad189) c29 t23 _ o38 _ (f30.imp fun _ h_ => Own.rd h_) hc31   _ hc195) ?_
              rintro _ w196 ⟨o197, rfl, st198⟩
              replace f10 := f10.st st198 (by decide)
              replace f30 := f30.st st198 (by decide)
              replace f5 := f5.st st198 (by decide)
              replace hs := hs.loc0 st198 (by decide)
              have hk := hk.put 41 (.agg #[.int .i64 t194.Fore, .int .i64 t194.Back, .bool t194.Bold, .bool t194.Under, .bool t194.Inverse]) rfl
              refine ⟨.inr ⟨f10.now, f30.now, f5.now, trivial⟩, ?_⟩
              refine xd_take tab hk (k := 0) (is := [19, 20]) (ls' := #[true, true, true, true, true, true, true, true, true, true, true, true, true, true, true, true, true, true, true, true, true]) (lv := [.bool (!(eqT22 t194 p0))]) (ks := [5, 44]) (e' := [(5, .slice (some ad189) (t23).length c29), (44, .bool (!(eqT22 t194 p0)))]) (by kernel_rfl) rfl rfl (by kernel_rfl) (np_then (np_then np_body)) ⟨f10.now, f30.now, f5.now, trivial⟩ (fun W_ hS => ⟨(ask_neq tab stood rfl rfl rfl rfl), trivial⟩) fun a hk => ?_
              refine xd_done (by kernel_rfl) ?_
              refine then_n ?_
              cases b199 : (!(eqT22 t194 p0))
              · rw [b199] at hk H
                replace H := bifF H
                refine x_if hk (b := false) rfl ?_
                refine (show Code.wp _ _ _ _ _ from ?_)
                refine wp_skip ?_
                refine then_n ?_
                exact ⟨(fun b_ => (fun l_ => if l_ = 3 then 4 else l_) (o197 b_)), (some ad189), c29, t23, (by exact Kn.pick (ks := [5]) hk rfl), (hs.relab0 (fun l_ => if l_ = 3 then 4 else l_) rfl), (f30.relab (fun l_ => if l_ = 3 then 4 else l_) rfl), hc31, H⟩
              · rw [b199] at hk H
                replace H := bifT H
                refine x_if hk (b := true) rfl ?_
                refine (show Code.wp _ _ _ _ _ from ?_)
                refine x_seq ?_
                refine wp_region_lit ?_
                refine x_run tab hk (k := 1) (lv := []) (ks := [4]) (e' := [(4, .bool false)]) rfl trivial fun a hk => ?_
                refine wpList_nil ?_
                refine then_n ?_
                refine wp_ret ?_
                refine then_r ?_
                obtain rfl := Option.some.inj H
                exact x_retG hk (rs := [.tmp 4]) (vs := [.bool false]) rfl ⟨rfl, trivial⟩ ⟨fun b_ => if b_ < w.heap.size then o b_ else (fun _ => 0) (o197 b_), rfl, hs.close0 o (fun _ => 0)⟩
            · rw [b190] at hk H
              replace H := bifT H
              refine xd_take tab hk (k := 0) (is := [15, 16, 17, 18, 19, 20]) (ls' := #[true, true, true, true, true, true, true, true, true, true, true, true, true, true, true, true, true, true, true, true, true]) (lv := []) (ks := [5, 44]) (e' := [(5, .slice (some ad189) (t23).length c29), (44, .bool true)]) (by kernel_rfl) rfl rfl (by kernel_rfl) (np_then (np_then np_body)) ⟨f10.now, f30.now, f5.now, trivial⟩ (fun W_ hS => trivial) fun a hk => ?_
              refine xd_done (by kernel_rfl) ?_
              refine then_n ?_
              refine x_if hk (b := true) rfl ?_
              refine (show Code.wp _ _ _ _ _ from ?_)
              refine x_seq ?_
              refine wp_region_lit ?_
              refine x_run tab hk (k := 1) (lv := []) (ks := [4]) (e' := [(4, .bool false)]) rfl trivial fun a hk => ?_
              refine wpList_nil ?_
              refine then_n ?_
              refine wp_ret ?_
              refine then_r ?_
              obtain rfl := Option.some.inj H
              exact x_retG hk (rs := [.tmp 4]) (vs := [.bool false]) rfl ⟨rfl, trivial⟩ ⟨fun b_ => if b_ < w.heap.size then o b_ else (fun _ => 0) (o38 b_), rfl, hs.close0 o (fun _ => 0)⟩
          · rw [b187] at hk H
            replace H := bifT H
            refine xd_take tab hk (k := 0) (is := [9, 10, 11, 12, 13, 14, 15, 16, 17, 18, 19, 20]) (ls' := #[true, true, true, true, true, true, true, true, true, true, true, true, true, true, true, true, true, true, true, true, true]) (lv := []) (ks := [5, 44]) (e' := [(5, .slice A28 (t23).length c29), (44, .bool true)]) (by kernel_rfl) rfl rfl (by kernel_rfl) (np_then (np_then np_body)) ⟨f10.now, f30.now, f5.now, trivial⟩ (fun W_ hS => trivial) fun a hk => ?_
            refine xd_done (by kernel_rfl) ?_
            refine then_n ?_
            refine x_if hk (b := true) rfl ?_
            refine (show Code.wp _ _ _ _ _ from ?_)
            refine x_seq ?_
            refine wp_region_lit ?_
            refine x_run tab hk (k := 1) (lv := []) (ks := [4]) (e' := [(4, .bool false)]) rfl trivial fun a hk => ?_
            refine wpList_nil ?_
            refine then_n ?_
            refine wp_ret ?_
            refine then_r ?_
            obtain rfl := Option.some.inj H
            exact x_retG hk (rs := [.tmp 4]) (vs := [.bool false]) rfl ⟨rfl, trivial⟩ ⟨fun b_ => if b_ < w.heap.size then o b_ else (fun _ => 0) (o38 b_), rfl, hs.close0 o (fun _ => 0)⟩
        · rw [b186] at hk H
          replace H := bifT H
          refine xd_take tab hk (k := 0) (is := [4, 5, 6, 7, 8, 9, 10, 11, 12, 13, 14, 15, 16, 17, 18, 19, 20]) (ls' := #[true, true, true, true, true, true, true, true, true, true, true, true, true, true, true, true, true, true, true, true, true]) (lv := []) (ks := [5, 44]) (e' := [(5, .slice A28 (t23).length c29), (44, .bool true)]) (by kernel_rfl) rfl rfl (by kernel_rfl) (np_then (np_then np_body)) ⟨f10.now, f30.now, f5.now, trivial⟩ (fun W_ hS => trivial) fun a hk => ?_
          refine xd_done (by kernel_rfl) ?_
          refine then_n ?_
          refine x_if hk (b := true) rfl ?_
          refine (show Code.wp _ _ _ _ _ from ?_)
          refine x_seq ?_
          refine wp_region_lit ?_
          refine x_run tab hk (k := 1) (lv := []) (ks := [4]) (e' := [(4, .bool false)]) rfl trivial fun a hk => ?_
          refine wpList_nil ?_
          refine then_n ?_
          refine wp_ret ?_
          refine then_r ?_
          obtain rfl := Option.some.inj H
          exact x_retG hk (rs := [.tmp 4]) (vs := [.bool false]) rfl ⟨rfl, trivial⟩ ⟨fun b_ => if b_ < w.heap.size then o b_ else (fun _ => 0) (o38 b_), rfl, hs.close0 o (fun _ => 0)⟩
      · rw [b41] at hk H
        replace H := bifT H
        refine x_if hk (b := true) rfl ?_
        refine (show Code.wp _ _ _ _ _ from ?_)
        refine x_seq ?_
        refine wp_region_lit ?_
        refine x_run tab hk (k := 4) (lv := []) (ks := [4]) (e' := [(4, .bool (((t23).length : Int) == (0 : Int)))]) rfl trivial fun a hk => ?_
        refine wpList_nil ?_
        refine then_n ?_
        refine wp_ret ?_
        refine then_r ?_
        obtain rfl := Option.some.inj H
        exact x_retG hk (rs := [.tmp 4]) (vs := [.bool (((t23).length : Int) == (0 : Int))]) rfl ⟨rfl, trivial⟩ ⟨fun b_ => if b_ < w.heap.size then o b_ else (fun _ => 0) (o38 b_), rfl, hs.close0 o (fun _ => 0)⟩
    · rw [b40] at hk H
      replace H := bifT H
      refine x_if hk (b := true) rfl ?_
      refine (show Code.wp _ _ _ _ _ from ?_)
      refine x_seq ?_
      refine wp_region_lit ?_
      refine x_run tab hk (k := 4) (lv := []) (ks := [4]) (e' := [(4, .bool (((t23).length : Int) == (0 : Int)))]) rfl trivial fun a hk => ?_
      refine wpList_nil ?_
      refine then_n ?_
      refine wp_ret ?_
      refine then_r ?_
      obtain rfl := Option.some.inj H
      exact x_retG hk (rs := [.tmp 4]) (vs := [.bool (((t23).length : Int) == (0 : Int))]) rfl ⟨rfl, trivial⟩ ⟨fun b_ => if b_ < w.heap.size then o b_ else (fun _ => 0) (o38 b_), rfl, hs.close0 o (fun _ => 0)⟩
  · rw [b19] at hk H
    replace H := bifT H
    refine x_if hk (b := true) rfl ?_
    refine (show Code.wp _ _ _ _ _ from ?_)
    refine x_seq ?_
    refine wp_region_lit ?_
    refine x_run tab hk (k := 1) (lv := []) (ks := [4]) (e' := [(4, .bool false)]) rfl trivial fun a hk => ?_
    refine wpList_nil ?_
    refine then_n ?_
    refine wp_ret ?_
    refine then_r ?_
    obtain rfl := Option.some.inj H
    exact x_retG hk (rs := [.tmp 4]) (vs := [.bool false]) rfl ⟨rfl, trivial⟩ ⟨fun b_ => if b_ < w.heap.size then o b_ else (fun _ => 0) (o17 b_), rfl, hs.close0 o (fun _ => 0)⟩

end Go.Proofs.Ytbdocgjhidalfaa
