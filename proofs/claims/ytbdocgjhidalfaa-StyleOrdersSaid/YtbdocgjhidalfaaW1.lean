/- Walks, printed by an own program: the machine's calls compute the plain functions. -/
import Derived.Test.YtbdocgjhidalfaaW0
set_option linter.unusedVariables false
set_option linter.unusedSimpArgs false
namespace Go.Proofs.Ytbdocgjhidalfaa
open Go Go.Proofs.XC
/-! tidewrack/style.skip -/
theorem style_skip_calls (Ap0 : Option Addr) (cp0 : Nat) (p0 : List Int) (w : World) (o : Nat → Nat) (Lp0 : Nat) (hp0 : Ft (RdC (encInt .i64) Ap0 p0) w o Lp0) (hcp0 : p0.length ≤ cp0) (r : Int) (H : style_skip p0 = some r) :
    Calls Try.prog 16 #[.slice Ap0 (p0).length cp0] w (Ret fun v_ w' => ∃ o' : Nat → Nat, v_ = .int .i64 r ∧ St [] w o w' o') := by
  refine x_enter (vs := [.slice Ap0 (p0).length cp0]) Try.func16 rfl rfl rfl fun a hk => ?_
  obtain ⟨o0, hs, h0⟩ := St.start w o
  have f900 := h0 _ _ hp0
  clear h0
  rw [style_skip] at H
  refine x_seq ?_
  refine wp_region_lit ?_
  refine x_run tab hk (k := 1) (lv := []) (ks := [0]) (e' := [(0, .slice Ap0 (p0).length cp0)]) rfl trivial fun a hk => ?_
  refine wpList_nil ?_
  refine then_n ?_
  refine x_seq ?_
  refine wp_block ?_
  refine x_mid (fun a_ w_ => ∃ o10 : Nat → Nat, ∃ x11 : Bool, Kn 29 a_ [(0, .slice Ap0 (p0).length cp0), (3, .bool x11)] ∧ St [] w (fun _ => 0) w_ o10 ∧ Ft (RdC (encInt .i64) Ap0 p0) w_ o10 0 ∧ style_skip_j1 p0 x11 = some r) ?_ ?_
  rotate_left
  · rintro a w12 ⟨o10, x11, hk, hs, f900, H⟩
    rw [style_skip_j1] at H
    cases b13 : x11
    · rw [b13] at hk H
      replace H := bifF H
      refine x_if hk (b := false) rfl ?_
      refine (show Code.wp _ _ _ _ _ from ?_)
      refine x_mid (fun a_ w_ => ∃ o23 : Nat → Nat, ∃ x24 : Bool, Kn 29 a_ [(0, .slice Ap0 (p0).length cp0), (16, .bool x24)] ∧ St [] w (fun _ => 0) w_ o23 ∧ Ft (RdC (encInt .i64) Ap0 p0) w_ o23 0 ∧ style_skip_j2 p0 x24 = some r) ?_ ?_
      rotate_left
      · rintro a w25 ⟨o23, x24, hk, hs, f900, H⟩
        rw [style_skip_j2] at H
        cases b26 : x24
        · rw [b26] at hk H
          replace H := bifF H
          refine x_if hk (b := false) rfl ?_
          refine (show Code.wp _ _ _ _ _ from ?_)
          refine wp_skip ?_
          refine blk_n ?_
          refine then_n ?_
          refine x_seq ?_
          refine wp_region_lit ?_
          refine x_run tab hk (k := 1) (lv := []) (ks := [2]) (e' := [(2, .int .i64 0)]) rfl trivial fun a hk => ?_
          refine wpList_nil ?_
          refine then_n ?_
          refine wp_ret ?_
          obtain rfl := Option.some.inj H
          exact x_retG hk (rs := [.tmp 2]) (vs := [.int .i64 0]) rfl ⟨rfl, trivial⟩ ⟨fun b_ => if b_ < w.heap.size then o b_ else (fun _ => 0) (o23 b_), rfl, hs.close0 o (fun _ => 0)⟩
        · rw [b26] at hk H
          replace H := bifT H
          refine x_if hk (b := true) rfl ?_
          refine (show Code.wp _ _ _ _ _ from ?_)
          refine x_seq ?_
          refine wp_region_lit ?_
          refine x_run tab hk (k := 4) (lv := []) (ks := [2]) (e' := [(2, .int .i64 (if ((p0).length : Int) < 4 then ((p0).length : Int) else 4))]) rfl trivial fun a hk => ?_
          refine wpList_nil ?_
          refine then_n ?_
          refine wp_ret ?_
          refine blk_r ?_
          refine then_r ?_
          obtain rfl := Option.some.inj H
          exact x_retG hk (rs := [.tmp 2]) (vs := [.int .i64 (if ((p0).length : Int) < 4 then ((p0).length : Int) else 4)]) rfl ⟨rfl, trivial⟩ ⟨fun b_ => if b_ < w.heap.size then o b_ else (fun _ => 0) (o23 b_), rfl, hs.close0 o (fun _ => 0)⟩
      refine wp_region_lit ?_
      refine x_run tab hk (k := 4) (lv := []) (ks := [0, 20]) (e' := [(0, .slice Ap0 (p0).length cp0), (20, .bool (decide (((p0).length : Int) > (0 : Int))))]) rfl trivial fun a hk => ?_
      cases b27 : (decide (((p0).length : Int) > (0 : Int)))
      · rw [b27] at hk H
        replace H := bifF H
        refine x_run tab hk (k := 6) (lv := []) (ks := [0, 16]) (e' := [(0, .slice Ap0 (p0).length cp0), (16, .bool false)]) rfl trivial fun a hk => ?_
        refine wpList_nil ?_
        refine then_n ?_
        exact ⟨o10, false, (by exact Kn.pick (ks := [0, 16]) hk rfl), hs, f900, H⟩
      · rw [b27] at hk H
        replace H := bifT H
        obtain ⟨q28, H⟩ := ifS H
        obtain ⟨ad29, hAad29⟩ := RdC.addr f900.now q28
        subst hAad29
        refine x_run tab hk (k := 6) (lv := [.int .i64 (rdD 0 p0 0)]) (ks := [0, 16]) (e' := [(0, .slice (some ad29) (p0).length cp0), (16, .bool ((rdD 0 p0 0) == (2 : Int)))]) rfl ⟨q28, (load1 tab rfl (RdC.at0 (E := (encInt .i64)) (d := 0) (i := (0 : Int)) f900.now q28 rfl)), trivial⟩ fun a hk => ?_
        refine wpList_nil ?_
        refine then_n ?_
        exact ⟨o10, ((rdD 0 p0 0) == (2 : Int)), (by exact Kn.pick (ks := [0, 16]) hk rfl), hs, f900, H⟩
    · rw [b13] at hk H
      replace H := bifT H
      refine x_if hk (b := true) rfl ?_
      refine (show Code.wp _ _ _ _ _ from ?_)
      refine x_seq ?_
      refine wp_region_lit ?_
      refine x_run tab hk (k := 4) (lv := []) (ks := [2]) (e' := [(2, .int .i64 (if ((p0).length : Int) < 2 then ((p0).length : Int) else 2))]) rfl trivial fun a hk => ?_
      refine wpList_nil ?_
      refine then_n ?_
      refine wp_ret ?_
      refine blk_r ?_
      refine then_r ?_
      obtain rfl := Option.some.inj H
      exact x_retG hk (rs := [.tmp 2]) (vs := [.int .i64 (if ((p0).length : Int) < 2 then ((p0).length : Int) else 2)]) rfl ⟨rfl, trivial⟩ ⟨fun b_ => if b_ < w.heap.size then o b_ else (fun _ => 0) (o10 b_), rfl, hs.close0 o (fun _ => 0)⟩
  refine wp_region_lit ?_
  refine x_run tab hk (k := 4) (lv := []) (ks := [0, 7]) (e' := [(0, .slice Ap0 (p0).length cp0), (7, .bool (decide (((p0).length : Int) > (0 : Int))))]) rfl trivial fun a hk => ?_
  cases b30 : (decide (((p0).length : Int) > (0 : Int)))
  · rw [b30] at hk H
    replace H := bifF H
    refine x_run tab hk (k := 6) (lv := []) (ks := [0, 3]) (e' := [(0, .slice Ap0 (p0).length cp0), (3, .bool false)]) rfl trivial fun a hk => ?_
    refine wpList_nil ?_
    refine then_n ?_
    exact ⟨o0, false, (by exact Kn.pick (ks := [0, 3]) hk rfl), hs, f900, H⟩
  · rw [b30] at hk H
    replace H := bifT H
    obtain ⟨q31, H⟩ := ifS H
    obtain ⟨ad32, hAad32⟩ := RdC.addr f900.now q31
    subst hAad32
    refine x_run tab hk (k := 6) (lv := [.int .i64 (rdD 0 p0 0)]) (ks := [0, 3]) (e' := [(0, .slice (some ad32) (p0).length cp0), (3, .bool ((rdD 0 p0 0) == (5 : Int)))]) rfl ⟨q31, (load1 tab rfl (RdC.at0 (E := (encInt .i64)) (d := 0) (i := (0 : Int)) f900.now q31 rfl)), trivial⟩ fun a hk => ?_
    refine wpList_nil ?_
    refine then_n ?_
    exact ⟨o0, ((rdD 0 p0 0) == (5 : Int)), (by exact Kn.pick (ks := [0, 3]) hk rfl), hs, f900, H⟩

/-! (tidewrack/style.Style).one -/
theorem style_Style_one_calls (p0 : T22) (p1 : Int) (w : World) (o : Nat → Nat)  (r : T22) (H : style_Style_one p0 p1 = some r) :
    Calls Try.prog 17 #[.agg #[.int .i64 p0.Fore, .int .i64 p0.Back, .bool p0.Bold, .bool p0.Under, .bool p0.Inverse], .int .i64 p1] w (Ret fun v_ w' => ∃ o' : Nat → Nat, v_ = .agg #[.int .i64 r.Fore, .int .i64 r.Back, .bool r.Bold, .bool r.Under, .bool r.Inverse] ∧ St [] w o w' o') := by
  refine x_enter (vs := [.agg #[.int .i64 p0.Fore, .int .i64 p0.Back, .bool p0.Bold, .bool p0.Under, .bool p0.Inverse], .int .i64 p1]) Try.func17 rfl rfl rfl fun a hk => ?_
  obtain ⟨o0, hs, h0⟩ := St.start w o
  clear h0
  rw [style_Style_one] at H
  refine x_seq ?_
  refine wp_region_lit ?_
  refine x_op hk rfl ?_
  refine op_box (o := o0) (t := 26) (v := .agg #[.int .i64 p0.Fore, .int .i64 p0.Back, .bool p0.Bold, .bool p0.Under, .bool p0.Inverse]) (cs := [.int .i64 p0.Fore, .int .i64 p0.Back, .bool p0.Bold, .bool p0.Under, .bool p0.Inverse]) hk rfl rfl 1 fun bx4 w1 o2 st3 f5 => ?_
  replace hs := hs.loc0 st3 (by decide)
  have hk := hk.put 2 (.pointer (some ⟨bx4, 0, none⟩)) rfl
  refine x_op hk rfl ?_
  refine op_alloc (o := o2) tab (t := 26) (cs := [.int .i64 0, .int .i64 0, .bool false, .bool false, .bool false]) rfl rfl 2 fun bx9 w6 o7 st8 f10 => ?_
  replace f5 := f5.st st8 (by decide)
  replace hs := hs.loc0 st8 (by decide)
  have hk := hk.put 4 (.pointer (some ⟨bx9, 0, none⟩)) rfl
  refine wpList_nil ?_
  refine then_n ?_
  refine x_seq ?_
  refine wp_block ?_
  refine x_seq ?_
  refine wp_region_lit ?_
  refine x_run tab hk (k := 3) (lv := []) (ks := [1, 2, 4, 5]) (e' := [(1, .int .i64 p1), (2, .pointer (some ⟨bx4, 0, none⟩)), (4, .pointer (some ⟨bx9, 0, none⟩)), (5, .bool (p1 == (0 : Int)))]) rfl trivial fun a hk => ?_
  refine wpList_nil ?_
  refine then_n ?_
  cases b11 : (p1 == (0 : Int))
  · rw [b11] at hk H
    replace H := bifF H
    refine x_if hk (b := false) rfl ?_
    refine (show Code.wp _ _ _ _ _ from ?_)
    refine x_mid (fun a_ w_ => ∃ o19 : Nat → Nat, ∃ x20 : Bool, Kn 70 a_ [(1, .int .i64 p1), (2, .pointer (some ⟨bx4, 0, none⟩)), (4, .pointer (some ⟨bx9, 0, none⟩)), (9, .bool x20)] ∧ St [] w (fun _ => 0) w_ o19 ∧ Ft (Bx bx9 26 [.int .i64 0, .int .i64 0, .bool false, .bool false, .bool false]) w_ o19 4 ∧ Ft (Bx bx4 26 [.int .i64 p0.Fore, .int .i64 p0.Back, .bool p0.Bold, .bool p0.Under, .bool p0.Inverse]) w_ o19 3 ∧ style_Style_one_j1 p0 p1 x20 = some r) ?_ ?_
    rotate_left
    · rintro a w21 ⟨o19, x20, hk, hs, f10, f5, H⟩
      rw [style_Style_one_j1] at H
      cases b22 : x20
      · rw [b22] at hk H
        replace H := bifF H
        refine x_if hk (b := false) rfl ?_
        refine (show Code.wp _ _ _ _ _ from ?_)
        refine x_mid (fun a_ w_ => ∃ o30 : Nat → Nat, ∃ x31 : Bool, Kn 70 a_ [(1, .int .i64 p1), (2, .pointer (some ⟨bx4, 0, none⟩)), (4, .pointer (some ⟨bx9, 0, none⟩)), (19, .bool x31)] ∧ St [] w (fun _ => 0) w_ o30 ∧ Ft (Bx bx9 26 [.int .i64 0, .int .i64 0, .bool false, .bool false, .bool false]) w_ o30 6 ∧ Ft (Bx bx4 26 [.int .i64 p0.Fore, .int .i64 p0.Back, .bool p0.Bold, .bool p0.Under, .bool p0.Inverse]) w_ o30 5 ∧ style_Style_one_j2 p0 p1 x31 = some r) ?_ ?_
        rotate_left
        · rintro a w32 ⟨o30, x31, hk, hs, f10, f5, H⟩
          rw [style_Style_one_j2] at H
          cases b33 : x31
          · rw [b33] at hk H
            replace H := bifF H
            refine x_if hk (b := false) rfl ?_
            refine (show Code.wp _ _ _ _ _ from ?_)
            refine x_mid (fun a_ w_ => ∃ o41 : Nat → Nat, ∃ x42 : Bool, Kn 70 a_ [(1, .int .i64 p1), (2, .pointer (some ⟨bx4, 0, none⟩)), (4, .pointer (some ⟨bx9, 0, none⟩)), (29, .bool x42)] ∧ St [] w (fun _ => 0) w_ o41 ∧ Ft (Bx bx9 26 [.int .i64 0, .int .i64 0, .bool false, .bool false, .bool false]) w_ o41 8 ∧ Ft (Bx bx4 26 [.int .i64 p0.Fore, .int .i64 p0.Back, .bool p0.Bold, .bool p0.Under, .bool p0.Inverse]) w_ o41 7 ∧ style_Style_one_j3 p0 p1 x42 = some r) ?_ ?_
            rotate_left
            · rintro a w43 ⟨o41, x42, hk, hs, f10, f5, H⟩
              rw [style_Style_one_j3] at H
              cases b44 : x42
              · rw [b44] at hk H
                replace H := bifF H
                refine x_if hk (b := false) rfl ?_
                refine (show Code.wp _ _ _ _ _ from ?_)
                refine x_mid (fun a_ w_ => ∃ o52 : Nat → Nat, ∃ x53 : Bool, Kn 70 a_ [(1, .int .i64 p1), (2, .pointer (some ⟨bx4, 0, none⟩)), (4, .pointer (some ⟨bx9, 0, none⟩)), (39, .bool x53)] ∧ St [] w (fun _ => 0) w_ o52 ∧ Ft (Bx bx9 26 [.int .i64 0, .int .i64 0, .bool false, .bool false, .bool false]) w_ o52 10 ∧ Ft (Bx bx4 26 [.int .i64 p0.Fore, .int .i64 p0.Back, .bool p0.Bold, .bool p0.Under, .bool p0.Inverse]) w_ o52 9 ∧ style_Style_one_j4 p0 p1 x53 = some r) ?_ ?_
                rotate_left
                · rintro a w54 ⟨o52, x53, hk, hs, f10, f5, H⟩
                  rw [style_Style_one_j4] at H
                  cases b55 : x53
                  · rw [b55] at hk H
                    replace H := bifF H
                    refine x_if hk (b := false) rfl ?_
                    refine (show Code.wp _ _ _ _ _ from ?_)
                    refine x_seq ?_
                    refine wp_region_lit ?_
                    refine x_run tab hk (k := 3) (lv := []) (ks := [1, 2, 4, 50]) (e' := [(1, .int .i64 p1), (2, .pointer (some ⟨bx4, 0, none⟩)), (4, .pointer (some ⟨bx9, 0, none⟩)), (50, .bool (p1 == (39 : Int)))]) rfl trivial fun a hk => ?_
                    refine wpList_nil ?_
                    refine then_n ?_
                    cases b56 : (p1 == (39 : Int))
                    · rw [b56] at hk H
                      replace H := bifF H
                      refine x_if hk (b := false) rfl ?_
                      refine (show Code.wp _ _ _ _ _ from ?_)
                      refine x_mid (fun a_ w_ => ∃ o64 : Nat → Nat, ∃ x65 : Bool, Kn 70 a_ [(1, .int .i64 p1), (2, .pointer (some ⟨bx4, 0, none⟩)), (4, .pointer (some ⟨bx9, 0, none⟩)), (54, .bool x65)] ∧ St [] w (fun _ => 0) w_ o64 ∧ Ft (Bx bx9 26 [.int .i64 0, .int .i64 0, .bool false, .bool false, .bool false]) w_ o64 12 ∧ Ft (Bx bx4 26 [.int .i64 p0.Fore, .int .i64 p0.Back, .bool p0.Bold, .bool p0.Under, .bool p0.Inverse]) w_ o64 11 ∧ style_Style_one_j5 p0 p1 x65 = some r) ?_ ?_
                      rotate_left
                      · rintro a w66 ⟨o64, x65, hk, hs, f10, f5, H⟩
                        rw [style_Style_one_j5] at H
                        cases b67 : x65
                        · rw [b67] at hk H
                          replace H := bifF H
                          refine x_if hk (b := false) rfl ?_
                          refine (show Code.wp _ _ _ _ _ from ?_)
                          refine x_seq ?_
                          refine wp_region_lit ?_
                          refine x_run tab hk (k := 3) (lv := []) (ks := [2, 4, 65]) (e' := [(2, .pointer (some ⟨bx4, 0, none⟩)), (4, .pointer (some ⟨bx9, 0, none⟩)), (65, .bool (p1 == (49 : Int)))]) rfl trivial fun a hk => ?_
                          refine wpList_nil ?_
                          refine then_n ?_
                          cases b68 : (p1 == (49 : Int))
                          · rw [b68] at hk H
                            replace H := bifF H
                            refine x_if hk (b := false) rfl ?_
                            refine (show Code.wp _ _ _ _ _ from ?_)
                            refine wp_skip ?_
                            refine blk_n ?_
                            refine then_n ?_
                            refine x_seq ?_
                            refine wp_region_lit ?_
                            refine x_run tab hk (k := 1) (lv := [.agg #[.int .i64 p0.Fore, .int .i64 p0.Back, .bool p0.Bold, .bool p0.Under, .bool p0.Inverse]]) (ks := [4, 69]) (e' := [(4, .pointer (some ⟨bx9, 0, none⟩)), (69, .agg #[.int .i64 p0.Fore, .int .i64 p0.Back, .bool p0.Bold, .bool p0.Under, .bool p0.Inverse])]) rfl ⟨(load_box tab rfl rfl f5.now (k := 0) rfl rfl), trivial⟩ fun a hk => ?_
                            refine x_op hk rfl ?_
                            refine op_store tab hk (t := 26) (v := .agg #[.int .i64 p0.Fore, .int .i64 p0.Back, .bool p0.Bold, .bool p0.Under, .bool p0.Inverse]) (b := bx9) (k := 0) (cs' := [.int .i64 p0.Fore, .int .i64 p0.Back, .bool p0.Bold, .bool p0.Under, .bool p0.Inverse]) rfl rfl rfl rfl rfl rfl f10 rfl rfl fun w69 o70 st71 f10_ => ?_
                            replace hs := hs.loc0 st71 (by decide)
                            replace f10 := f10_
                            refine wpList_nil ?_
                            refine then_n ?_
                            refine wp_ret ?_
                            obtain rfl := Option.some.inj H
                            exact x_retG hk (rs := [.cell 4 26]) (vs := [.agg #[.int .i64 p0.Fore, .int .i64 p0.Back, .bool p0.Bold, .bool p0.Under, .bool p0.Inverse]]) rfl ⟨⟨_, rfl, load_box tab rfl rfl f10.now (k := 0) rfl rfl⟩, trivial⟩ ⟨fun b_ => if b_ < w.heap.size then o b_ else (fun _ => 0) (o70 b_), rfl, hs.close0 o (fun _ => 0)⟩
                          · rw [b68] at hk H
                            replace H := bifT H
                            refine x_if hk (b := true) rfl ?_
                            refine (show Code.wp _ _ _ _ _ from ?_)
                            refine wp_region_lit ?_
                            refine x_run tab hk (k := 1) (lv := []) (ks := [2, 4, 68]) (e' := [(2, .pointer (some ⟨bx4, 0, none⟩)), (4, .pointer (some ⟨bx9, 0, none⟩)), (68, .pointer (some ((⟨bx4, 0, none⟩ : Addr).add 1)))]) rfl trivial fun a hk => ?_
                            refine x_op hk rfl ?_
                            refine op_store tab hk (t := 3) (v := .int .i64 0) (b := bx4) (k := 1) (cs' := [.int .i64 p0.Fore, .int .i64 0, .bool p0.Bold, .bool p0.Under, .bool p0.Inverse]) rfl rfl rfl rfl rfl rfl f5 rfl rfl fun w72 o73 st74 f5_ => ?_
                            replace f10 := f10.st st74 (by decide)
                            replace hs := hs.loc0 st74 (by decide)
                            replace f5 := f5_
                            refine wpList_nil ?_
                            refine blk_n ?_
                            refine then_n ?_
                            refine x_seq ?_
                            refine wp_region_lit ?_
                            refine x_run tab hk (k := 1) (lv := [.agg #[.int .i64 p0.Fore, .int .i64 0, .bool p0.Bold, .bool p0.Under, .bool p0.Inverse]]) (ks := [4, 69]) (e' := [(4, .pointer (some ⟨bx9, 0, none⟩)), (69, .agg #[.int .i64 p0.Fore, .int .i64 0, .bool p0.Bold, .bool p0.Under, .bool p0.Inverse])]) rfl ⟨(load_box tab rfl rfl f5.now (k := 0) rfl rfl), trivial⟩ fun a hk => ?_
                            refine x_op hk rfl ?_
                            refine op_store tab hk (t := 26) (v := .agg #[.int .i64 p0.Fore, .int .i64 0, .bool p0.Bold, .bool p0.Under, .bool p0.Inverse]) (b := bx9) (k := 0) (cs' := [.int .i64 p0.Fore, .int .i64 0, .bool p0.Bold, .bool p0.Under, .bool p0.Inverse]) rfl rfl rfl rfl rfl rfl f10 rfl rfl fun w75 o76 st77 f10_ => ?_
                            replace hs := hs.loc0 st77 (by decide)
                            replace f10 := f10_
                            refine wpList_nil ?_
                            refine then_n ?_
                            refine wp_ret ?_
                            obtain rfl := Option.some.inj H
                            exact x_retG hk (rs := [.cell 4 26]) (vs := [.agg #[.int .i64 p0.Fore, .int .i64 0, .bool p0.Bold, .bool p0.Under, .bool p0.Inverse]]) rfl ⟨⟨_, rfl, load_box tab rfl rfl f10.now (k := 0) rfl rfl⟩, trivial⟩ ⟨fun b_ => if b_ < w.heap.size then o b_ else (fun _ => 0) (o76 b_), rfl, hs.close0 o (fun _ => 0)⟩
                        · rw [b67] at hk H
                          replace H := bifT H
                          refine x_if hk (b := true) rfl ?_
                          refine (show Code.wp _ _ _ _ _ from ?_)
                          refine wp_region_lit ?_
                          refine x_run tab hk (k := 4) (lv := []) (ks := [2, 4, 63, 64]) (e' := [(2, .pointer (some ⟨bx4, 0, none⟩)), (4, .pointer (some ⟨bx9, 0, none⟩)), (63, .int .i64 (IntKind.wrap .i64 ((IntKind.wrap .i64 (p1 - 40)) + 1))), (64, .pointer (some ((⟨bx4, 0, none⟩ : Addr).add 1)))]) rfl trivial fun a hk => ?_
                          refine x_op hk rfl ?_
                          refine op_store tab hk (t := 3) (v := .int .i64 (IntKind.wrap .i64 ((IntKind.wrap .i64 (p1 - 40)) + 1))) (b := bx4) (k := 1) (cs' := [.int .i64 p0.Fore, .int .i64 (IntKind.wrap .i64 ((IntKind.wrap .i64 (p1 - 40)) + 1)), .bool p0.Bold, .bool p0.Under, .bool p0.Inverse]) rfl rfl rfl rfl rfl rfl f5 rfl rfl fun w78 o79 st80 f5_ => ?_
                          replace f10 := f10.st st80 (by decide)
                          replace hs := hs.loc0 st80 (by decide)
                          replace f5 := f5_
                          refine wpList_nil ?_
                          refine blk_n ?_
                          refine then_n ?_
                          refine x_seq ?_
                          refine wp_region_lit ?_
                          refine x_run tab hk (k := 1) (lv := [.agg #[.int .i64 p0.Fore, .int .i64 (IntKind.wrap .i64 ((IntKind.wrap .i64 (p1 - 40)) + 1)), .bool p0.Bold, .bool p0.Under, .bool p0.Inverse]]) (ks := [4, 69]) (e' := [(4, .pointer (some ⟨bx9, 0, none⟩)), (69, .agg #[.int .i64 p0.Fore, .int .i64 (IntKind.wrap .i64 ((IntKind.wrap .i64 (p1 - 40)) + 1)), .bool p0.Bold, .bool p0.Under, .bool p0.Inverse])]) rfl ⟨(load_box tab rfl rfl f5.now (k := 0) rfl rfl), trivial⟩ fun a hk => ?_
                          refine x_op hk rfl ?_
                          refine op_store tab hk (t := 26) (v := .agg #[.int .i64 p0.Fore, .int .i64 (IntKind.wrap .i64 ((IntKind.wrap .i64 (p1 - 40)) + 1)), .bool p0.Bold, .bool p0.Under, .bool p0.Inverse]) (b := bx9) (k := 0) (cs' := [.int .i64 p0.Fore, .int .i64 (IntKind.wrap .i64 ((IntKind.wrap .i64 (p1 - 40)) + 1)), .bool p0.Bold, .bool p0.Under, .bool p0.Inverse]) rfl rfl rfl rfl rfl rfl f10 rfl rfl fun w81 o82 st83 f10_ => ?_
                          replace hs := hs.loc0 st83 (by decide)
                          replace f10 := f10_
                          refine wpList_nil ?_
                          refine then_n ?_
                          refine wp_ret ?_
                          obtain rfl := Option.some.inj H
                          exact x_retG hk (rs := [.cell 4 26]) (vs := [.agg #[.int .i64 p0.Fore, .int .i64 (IntKind.wrap .i64 ((IntKind.wrap .i64 (p1 - 40)) + 1)), .bool p0.Bold, .bool p0.Under, .bool p0.Inverse]]) rfl ⟨⟨_, rfl, load_box tab rfl rfl f10.now (k := 0) rfl rfl⟩, trivial⟩ ⟨fun b_ => if b_ < w.heap.size then o b_ else (fun _ => 0) (o82 b_), rfl, hs.close0 o (fun _ => 0)⟩
                      refine wp_region_lit ?_
                      refine x_run tab hk (k := 3) (lv := []) (ks := [1, 2, 4, 57]) (e' := [(1, .int .i64 p1), (2, .pointer (some ⟨bx4, 0, none⟩)), (4, .pointer (some ⟨bx9, 0, none⟩)), (57, .bool (decide (p1 ≥ (40 : Int))))]) rfl trivial fun a hk => ?_
                      cases b84 : (decide (p1 ≥ (40 : Int)))
                      · rw [b84] at hk H
                        replace H := bifF H
                        refine x_run tab hk (k := 4) (lv := []) (ks := [1, 2, 4, 54]) (e' := [(1, .int .i64 p1), (2, .pointer (some ⟨bx4, 0, none⟩)), (4, .pointer (some ⟨bx9, 0, none⟩)), (54, .bool false)]) rfl trivial fun a hk => ?_
                        refine wpList_nil ?_
                        refine then_n ?_
                        exact ⟨(fun b_ => (fun l_ => if l_ = 9 then 11 else if l_ = 10 then 12 else l_) (o52 b_)), false, (by exact Kn.pick (ks := [1, 2, 4, 54]) hk rfl), (hs.relab0 (fun l_ => if l_ = 9 then 11 else if l_ = 10 then 12 else l_) rfl), (f10.relab (fun l_ => if l_ = 9 then 11 else if l_ = 10 then 12 else l_) rfl), (f5.relab (fun l_ => if l_ = 9 then 11 else if l_ = 10 then 12 else l_) rfl), H⟩
                      · rw [b84] at hk H
                        replace H := bifT H
                        refine x_run tab hk (k := 4) (lv := []) (ks := [1, 2, 4, 54]) (e' := [(1, .int .i64 p1), (2, .pointer (some ⟨bx4, 0, none⟩)), (4, .pointer (some ⟨bx9, 0, none⟩)), (54, .bool (decide (p1 < (48 : Int))))]) rfl trivial fun a hk => ?_
                        refine wpList_nil ?_
                        refine then_n ?_
                        exact ⟨(fun b_ => (fun l_ => if l_ = 9 then 11 else if l_ = 10 then 12 else l_) (o52 b_)), (decide (p1 < (48 : Int))), (by exact Kn.pick (ks := [1, 2, 4, 54]) hk rfl), (hs.relab0 (fun l_ => if l_ = 9 then 11 else if l_ = 10 then 12 else l_) rfl), (f10.relab (fun l_ => if l_ = 9 then 11 else if l_ = 10 then 12 else l_) rfl), (f5.relab (fun l_ => if l_ = 9 then 11 else if l_ = 10 then 12 else l_) rfl), H⟩
                    · rw [b56] at hk H
                      replace H := bifT H
                      refine x_if hk (b := true) rfl ?_
                      refine (show Code.wp _ _ _ _ _ from ?_)
                      refine wp_region_lit ?_
                      refine x_run tab hk (k := 1) (lv := []) (ks := [2, 4, 53]) (e' := [(2, .pointer (some ⟨bx4, 0, none⟩)), (4, .pointer (some ⟨bx9, 0, none⟩)), (53, .pointer (some ⟨bx4, 0, none⟩))]) rfl trivial fun a hk => ?_
                      refine x_op hk rfl ?_
                      refine op_store tab hk (t := 3) (v := .int .i64 0) (b := bx4) (k := 0) (cs' := [.int .i64 0, .int .i64 p0.Back, .bool p0.Bold, .bool p0.Under, .bool p0.Inverse]) rfl rfl rfl rfl rfl rfl f5 rfl rfl fun w85 o86 st87 f5_ => ?_
                      replace f10 := f10.st st87 (by decide)
                      replace hs := hs.loc0 st87 (by decide)
                      replace f5 := f5_
                      refine wpList_nil ?_
                      refine blk_n ?_
                      refine then_n ?_
                      refine x_seq ?_
                      refine wp_region_lit ?_
                      refine x_run tab hk (k := 1) (lv := [.agg #[.int .i64 0, .int .i64 p0.Back, .bool p0.Bold, .bool p0.Under, .bool p0.Inverse]]) (ks := [4, 69]) (e' := [(4, .pointer (some ⟨bx9, 0, none⟩)), (69, .agg #[.int .i64 0, .int .i64 p0.Back, .bool p0.Bold, .bool p0.Under, .bool p0.Inverse])]) rfl ⟨(load_box tab rfl rfl f5.now (k := 0) rfl rfl), trivial⟩ fun a hk => ?_
                      refine x_op hk rfl ?_
                      refine op_store tab hk (t := 26) (v := .agg #[.int .i64 0, .int .i64 p0.Back, .bool p0.Bold, .bool p0.Under, .bool p0.Inverse]) (b := bx9) (k := 0) (cs' := [.int .i64 0, .int .i64 p0.Back, .bool p0.Bold, .bool p0.Under, .bool p0.Inverse]) rfl rfl rfl rfl rfl rfl f10 rfl rfl fun w88 o89 st90 f10_ => ?_
                      replace hs := hs.loc0 st90 (by decide)
                      replace f10 := f10_
                      refine wpList_nil ?_
                      refine then_n ?_
                      refine wp_ret ?_
                      obtain rfl := Option.some.inj H
                      exact x_retG hk (rs := [.cell 4 26]) (vs := [.agg #[.int .i64 0, .int .i64 p0.Back, .bool p0.Bold, .bool p0.Under, .bool p0.Inverse]]) rfl ⟨⟨_, rfl, load_box tab rfl rfl f10.now (k := 0) rfl rfl⟩, trivial⟩ ⟨fun b_ => if b_ < w.heap.size then o b_ else (fun _ => 0) (o89 b_), rfl, hs.close0 o (fun _ => 0)⟩
                  · rw [b55] at hk H
                    replace H := bifT H
                    refine x_if hk (b := true) rfl ?_
                    refine (show Code.wp _ _ _ _ _ from ?_)
                    refine wp_region_lit ?_
                    refine x_run tab hk (k := 4) (lv := []) (ks := [2, 4, 48, 49]) (e' := [(2, .pointer (some ⟨bx4, 0, none⟩)), (4, .pointer (some ⟨bx9, 0, none⟩)), (48, .int .i64 (IntKind.wrap .i64 ((IntKind.wrap .i64 (p1 - 30)) + 1))), (49, .pointer (some ⟨bx4, 0, none⟩))]) rfl trivial fun a hk => ?_
                    refine x_op hk rfl ?_
                    refine op_store tab hk (t := 3) (v := .int .i64 (IntKind.wrap .i64 ((IntKind.wrap .i64 (p1 - 30)) + 1))) (b := bx4) (k := 0) (cs' := [.int .i64 (IntKind.wrap .i64 ((IntKind.wrap .i64 (p1 - 30)) + 1)), .int .i64 p0.Back, .bool p0.Bold, .bool p0.Under, .bool p0.Inverse]) rfl rfl rfl rfl rfl rfl f5 rfl rfl fun w91 o92 st93 f5_ => ?_
                    replace f10 := f10.st st93 (by decide)
                    replace hs := hs.loc0 st93 (by decide)
                    replace f5 := f5_
                    refine wpList_nil ?_
                    refine blk_n ?_
                    refine then_n ?_
                    refine x_seq ?_
                    refine wp_region_lit ?_
                    refine x_run tab hk (k := 1) (lv := [.agg #[.int .i64 (IntKind.wrap .i64 ((IntKind.wrap .i64 (p1 - 30)) + 1)), .int .i64 p0.Back, .bool p0.Bold, .bool p0.Under, .bool p0.Inverse]]) (ks := [4, 69]) (e' := [(4, .pointer (some ⟨bx9, 0, none⟩)), (69, .agg #[.int .i64 (IntKind.wrap .i64 ((IntKind.wrap .i64 (p1 - 30)) + 1)), .int .i64 p0.Back, .bool p0.Bold, .bool p0.Under, .bool p0.Inverse])]) rfl ⟨(load_box tab rfl rfl f5.now (k := 0) rfl rfl), trivial⟩ fun a hk => ?_
                    refine x_op hk rfl ?_
                    refine op_store tab hk (t := 26) (v := .agg #[.int .i64 (IntKind.wrap .i64 ((IntKind.wrap .i64 (p1 - 30)) + 1)), .int .i64 p0.Back, .bool p0.Bold, .bool p0.Under, .bool p0.Inverse]) (b := bx9) (k := 0) (cs' := [.int .i64 (IntKind.wrap .i64 ((IntKind.wrap .i64 (p1 - 30)) + 1)), .int .i64 p0.Back, .bool p0.Bold, .bool p0.Under, .bool p0.Inverse]) rfl rfl rfl rfl rfl rfl f10 rfl rfl fun w94 o95 st96 f10_ => ?_
                    replace hs := hs.loc0 st96 (by decide)
                    replace f10 := f10_
                    refine wpList_nil ?_
                    refine then_n ?_
                    refine wp_ret ?_
                    obtain rfl := Option.some.inj H
                    exact x_retG hk (rs := [.cell 4 26]) (vs := [.agg #[.int .i64 (IntKind.wrap .i64 ((IntKind.wrap .i64 (p1 - 30)) + 1)), .int .i64 p0.Back, .bool p0.Bold, .bool p0.Under, .bool p0.Inverse]]) rfl ⟨⟨_, rfl, load_box tab rfl rfl f10.now (k := 0) rfl rfl⟩, trivial⟩ ⟨fun b_ => if b_ < w.heap.size then o b_ else (fun _ => 0) (o95 b_), rfl, hs.close0 o (fun _ => 0)⟩
                refine wp_region_lit ?_
                refine x_run tab hk (k := 3) (lv := []) (ks := [1, 2, 4, 42]) (e' := [(1, .int .i64 p1), (2, .pointer (some ⟨bx4, 0, none⟩)), (4, .pointer (some ⟨bx9, 0, none⟩)), (42, .bool (decide (p1 ≥ (30 : Int))))]) rfl trivial fun a hk => ?_
                cases b97 : (decide (p1 ≥ (30 : Int)))
                · rw [b97] at hk H
                  replace H := bifF H
                  refine x_run tab hk (k := 4) (lv := []) (ks := [1, 2, 4, 39]) (e' := [(1, .int .i64 p1), (2, .pointer (some ⟨bx4, 0, none⟩)), (4, .pointer (some ⟨bx9, 0, none⟩)), (39, .bool false)]) rfl trivial fun a hk => ?_
                  refine wpList_nil ?_
                  refine then_n ?_
                  exact ⟨(fun b_ => (fun l_ => if l_ = 7 then 9 else if l_ = 8 then 10 else l_) (o41 b_)), false, (by exact Kn.pick (ks := [1, 2, 4, 39]) hk rfl), (hs.relab0 (fun l_ => if l_ = 7 then 9 else if l_ = 8 then 10 else l_) rfl), (f10.relab (fun l_ => if l_ = 7 then 9 else if l_ = 8 then 10 else l_) rfl), (f5.relab (fun l_ => if l_ = 7 then 9 else if l_ = 8 then 10 else l_) rfl), H⟩
                · rw [b97] at hk H
                  replace H := bifT H
                  refine x_run tab hk (k := 4) (lv := []) (ks := [1, 2, 4, 39]) (e' := [(1, .int .i64 p1), (2, .pointer (some ⟨bx4, 0, none⟩)), (4, .pointer (some ⟨bx9, 0, none⟩)), (39, .bool (decide (p1 < (38 : Int))))]) rfl trivial fun a hk => ?_
                  refine wpList_nil ?_
                  refine then_n ?_
                  exact ⟨(fun b_ => (fun l_ => if l_ = 7 then 9 else if l_ = 8 then 10 else l_) (o41 b_)), (decide (p1 < (38 : Int))), (by exact Kn.pick (ks := [1, 2, 4, 39]) hk rfl), (hs.relab0 (fun l_ => if l_ = 7 then 9 else if l_ = 8 then 10 else l_) rfl), (f10.relab (fun l_ => if l_ = 7 then 9 else if l_ = 8 then 10 else l_) rfl), (f5.relab (fun l_ => if l_ = 7 then 9 else if l_ = 8 then 10 else l_) rfl), H⟩
              · rw [b44] at hk H
                replace H := bifT H
                refine x_if hk (b := true) rfl ?_
                refine (show Code.wp _ _ _ _ _ from ?_)
                refine wp_region_lit ?_
                refine x_run tab hk (k := 3) (lv := []) (ks := [2, 4, 37, 38]) (e' := [(2, .pointer (some ⟨bx4, 0, none⟩)), (4, .pointer (some ⟨bx9, 0, none⟩)), (37, .bool (p1 == (7 : Int))), (38, .pointer (some ((⟨bx4, 0, none⟩ : Addr).add 4)))]) rfl trivial fun a hk => ?_
                refine x_op hk rfl ?_
                refine op_store tab hk (t := 4) (v := .bool (p1 == (7 : Int))) (b := bx4) (k := 4) (cs' := [.int .i64 p0.Fore, .int .i64 p0.Back, .bool p0.Bold, .bool p0.Under, .bool (p1 == (7 : Int))]) rfl rfl rfl rfl rfl rfl f5 rfl rfl fun w98 o99 st100 f5_ => ?_
                replace f10 := f10.st st100 (by decide)
                replace hs := hs.loc0 st100 (by decide)
                replace f5 := f5_
                refine wpList_nil ?_
                refine blk_n ?_
                refine then_n ?_
                refine x_seq ?_
                refine wp_region_lit ?_
                refine x_run tab hk (k := 1) (lv := [.agg #[.int .i64 p0.Fore, .int .i64 p0.Back, .bool p0.Bold, .bool p0.Under, .bool (p1 == (7 : Int))]]) (ks := [4, 69]) (e' := [(4, .pointer (some ⟨bx9, 0, none⟩)), (69, .agg #[.int .i64 p0.Fore, .int .i64 p0.Back, .bool p0.Bold, .bool p0.Under, .bool (p1 == (7 : Int))])]) rfl ⟨(load_box tab rfl rfl f5.now (k := 0) rfl rfl), trivial⟩ fun a hk => ?_
                refine x_op hk rfl ?_
                refine op_store tab hk (t := 26) (v := .agg #[.int .i64 p0.Fore, .int .i64 p0.Back, .bool p0.Bold, .bool p0.Under, .bool (p1 == (7 : Int))]) (b := bx9) (k := 0) (cs' := [.int .i64 p0.Fore, .int .i64 p0.Back, .bool p0.Bold, .bool p0.Under, .bool (p1 == (7 : Int))]) rfl rfl rfl rfl rfl rfl f10 rfl rfl fun w101 o102 st103 f10_ => ?_
                replace hs := hs.loc0 st103 (by decide)
                replace f10 := f10_
                refine wpList_nil ?_
                refine then_n ?_
                refine wp_ret ?_
                obtain rfl := Option.some.inj H
                exact x_retG hk (rs := [.cell 4 26]) (vs := [.agg #[.int .i64 p0.Fore, .int .i64 p0.Back, .bool p0.Bold, .bool p0.Under, .bool (p1 == (7 : Int))]]) rfl ⟨⟨_, rfl, load_box tab rfl rfl f10.now (k := 0) rfl rfl⟩, trivial⟩ ⟨fun b_ => if b_ < w.heap.size then o b_ else (fun _ => 0) (o102 b_), rfl, hs.close0 o (fun _ => 0)⟩
            refine wp_region_lit ?_
            refine x_run tab hk (k := 3) (lv := []) (ks := [1, 2, 4, 32]) (e' := [(1, .int .i64 p1), (2, .pointer (some ⟨bx4, 0, none⟩)), (4, .pointer (some ⟨bx9, 0, none⟩)), (32, .bool (p1 == (7 : Int)))]) rfl trivial fun a hk => ?_
            cases b104 : (p1 == (7 : Int))
            · rw [b104] at hk H
              replace H := bifF H
              refine x_run tab hk (k := 4) (lv := []) (ks := [1, 2, 4, 29]) (e' := [(1, .int .i64 p1), (2, .pointer (some ⟨bx4, 0, none⟩)), (4, .pointer (some ⟨bx9, 0, none⟩)), (29, .bool (p1 == (27 : Int)))]) rfl trivial fun a hk => ?_
              refine wpList_nil ?_
              refine then_n ?_
              exact ⟨(fun b_ => (fun l_ => if l_ = 5 then 7 else if l_ = 6 then 8 else l_) (o30 b_)), (p1 == (27 : Int)), (by exact Kn.pick (ks := [1, 2, 4, 29]) hk rfl), (hs.relab0 (fun l_ => if l_ = 5 then 7 else if l_ = 6 then 8 else l_) rfl), (f10.relab (fun l_ => if l_ = 5 then 7 else if l_ = 6 then 8 else l_) rfl), (f5.relab (fun l_ => if l_ = 5 then 7 else if l_ = 6 then 8 else l_) rfl), H⟩
            · rw [b104] at hk H
              replace H := bifT H
              refine x_run tab hk (k := 4) (lv := []) (ks := [1, 2, 4, 29]) (e' := [(1, .int .i64 p1), (2, .pointer (some ⟨bx4, 0, none⟩)), (4, .pointer (some ⟨bx9, 0, none⟩)), (29, .bool true)]) rfl trivial fun a hk => ?_
              refine wpList_nil ?_
              refine then_n ?_
              exact ⟨(fun b_ => (fun l_ => if l_ = 5 then 7 else if l_ = 6 then 8 else l_) (o30 b_)), true, (by exact Kn.pick (ks := [1, 2, 4, 29]) hk rfl), (hs.relab0 (fun l_ => if l_ = 5 then 7 else if l_ = 6 then 8 else l_) rfl), (f10.relab (fun l_ => if l_ = 5 then 7 else if l_ = 6 then 8 else l_) rfl), (f5.relab (fun l_ => if l_ = 5 then 7 else if l_ = 6 then 8 else l_) rfl), H⟩
          · rw [b33] at hk H
            replace H := bifT H
            refine x_if hk (b := true) rfl ?_
            refine (show Code.wp _ _ _ _ _ from ?_)
            refine wp_region_lit ?_
            refine x_run tab hk (k := 3) (lv := []) (ks := [2, 4, 27, 28]) (e' := [(2, .pointer (some ⟨bx4, 0, none⟩)), (4, .pointer (some ⟨bx9, 0, none⟩)), (27, .bool (p1 == (4 : Int))), (28, .pointer (some ((⟨bx4, 0, none⟩ : Addr).add 3)))]) rfl trivial fun a hk => ?_
            refine x_op hk rfl ?_
            refine op_store tab hk (t := 4) (v := .bool (p1 == (4 : Int))) (b := bx4) (k := 3) (cs' := [.int .i64 p0.Fore, .int .i64 p0.Back, .bool p0.Bold, .bool (p1 == (4 : Int)), .bool p0.Inverse]) rfl rfl rfl rfl rfl rfl f5 rfl rfl fun w105 o106 st107 f5_ => ?_
            replace f10 := f10.st st107 (by decide)
            replace hs := hs.loc0 st107 (by decide)
            replace f5 := f5_
            refine wpList_nil ?_
            refine blk_n ?_
            refine then_n ?_
            refine x_seq ?_
            refine wp_region_lit ?_
            refine x_run tab hk (k := 1) (lv := [.agg #[.int .i64 p0.Fore, .int .i64 p0.Back, .bool p0.Bold, .bool (p1 == (4 : Int)), .bool p0.Inverse]]) (ks := [4, 69]) (e' := [(4, .pointer (some ⟨bx9, 0, none⟩)), (69, .agg #[.int .i64 p0.Fore, .int .i64 p0.Back, .bool p0.Bold, .bool (p1 == (4 : Int)), .bool p0.Inverse])]) rfl ⟨(load_box tab rfl rfl f5.now (k := 0) rfl rfl), trivial⟩ fun a hk => ?_
            refine x_op hk rfl ?_
            refine op_store tab hk (t := 26) (v := .agg #[.int .i64 p0.Fore, .int .i64 p0.Back, .bool p0.Bold, .bool (p1 == (4 : Int)), .bool p0.Inverse]) (b := bx9) (k := 0) (cs' := [.int .i64 p0.Fore, .int .i64 p0.Back, .bool p0.Bold, .bool (p1 == (4 : Int)), .bool p0.Inverse]) rfl rfl rfl rfl rfl rfl f10 rfl rfl fun w108 o109 st110 f10_ => ?_
            replace hs := hs.loc0 st110 (by decide)
            replace f10 := f10_
            refine wpList_nil ?_
            refine then_n ?_
            refine wp_ret ?_
            obtain rfl := Option.some.inj H
            exact x_retG hk (rs := [.cell 4 26]) (vs := [.agg #[.int .i64 p0.Fore, .int .i64 p0.Back, .bool p0.Bold, .bool (p1 == (4 : Int)), .bool p0.Inverse]]) rfl ⟨⟨_, rfl, load_box tab rfl rfl f10.now (k := 0) rfl rfl⟩, trivial⟩ ⟨fun b_ => if b_ < w.heap.size then o b_ else (fun _ => 0) (o109 b_), rfl, hs.close0 o (fun _ => 0)⟩
        refine wp_region_lit ?_
        refine x_run tab hk (k := 3) (lv := []) (ks := [1, 2, 4, 22]) (e' := [(1, .int .i64 p1), (2, .pointer (some ⟨bx4, 0, none⟩)), (4, .pointer (some ⟨bx9, 0, none⟩)), (22, .bool (p1 == (4 : Int)))]) rfl trivial fun a hk => ?_
        cases b111 : (p1 == (4 : Int))
        · rw [b111] at hk H
          replace H := bifF H
          refine x_run tab hk (k := 4) (lv := []) (ks := [1, 2, 4, 19]) (e' := [(1, .int .i64 p1), (2, .pointer (some ⟨bx4, 0, none⟩)), (4, .pointer (some ⟨bx9, 0, none⟩)), (19, .bool (p1 == (24 : Int)))]) rfl trivial fun a hk => ?_
          refine wpList_nil ?_
          refine then_n ?_
          exact ⟨(fun b_ => (fun l_ => if l_ = 3 then 5 else if l_ = 4 then 6 else l_) (o19 b_)), (p1 == (24 : Int)), (by exact Kn.pick (ks := [1, 2, 4, 19]) hk rfl), (hs.relab0 (fun l_ => if l_ = 3 then 5 else if l_ = 4 then 6 else l_) rfl), (f10.relab (fun l_ => if l_ = 3 then 5 else if l_ = 4 then 6 else l_) rfl), (f5.relab (fun l_ => if l_ = 3 then 5 else if l_ = 4 then 6 else l_) rfl), H⟩
        · rw [b111] at hk H
          replace H := bifT H
          refine x_run tab hk (k := 4) (lv := []) (ks := [1, 2, 4, 19]) (e' := [(1, .int .i64 p1), (2, .pointer (some ⟨bx4, 0, none⟩)), (4, .pointer (some ⟨bx9, 0, none⟩)), (19, .bool true)]) rfl trivial fun a hk => ?_
          refine wpList_nil ?_
          refine then_n ?_
          exact ⟨(fun b_ => (fun l_ => if l_ = 3 then 5 else if l_ = 4 then 6 else l_) (o19 b_)), true, (by exact Kn.pick (ks := [1, 2, 4, 19]) hk rfl), (hs.relab0 (fun l_ => if l_ = 3 then 5 else if l_ = 4 then 6 else l_) rfl), (f10.relab (fun l_ => if l_ = 3 then 5 else if l_ = 4 then 6 else l_) rfl), (f5.relab (fun l_ => if l_ = 3 then 5 else if l_ = 4 then 6 else l_) rfl), H⟩
      · rw [b22] at hk H
        replace H := bifT H
        refine x_if hk (b := true) rfl ?_
        refine (show Code.wp _ _ _ _ _ from ?_)
        refine wp_region_lit ?_
        refine x_run tab hk (k := 3) (lv := []) (ks := [2, 4, 17, 18]) (e' := [(2, .pointer (some ⟨bx4, 0, none⟩)), (4, .pointer (some ⟨bx9, 0, none⟩)), (17, .bool (p1 == (1 : Int))), (18, .pointer (some ((⟨bx4, 0, none⟩ : Addr).add 2)))]) rfl trivial fun a hk => ?_
        refine x_op hk rfl ?_
        refine op_store tab hk (t := 4) (v := .bool (p1 == (1 : Int))) (b := bx4) (k := 2) (cs' := [.int .i64 p0.Fore, .int .i64 p0.Back, .bool (p1 == (1 : Int)), .bool p0.Under, .bool p0.Inverse]) rfl rfl rfl rfl rfl rfl f5 rfl rfl fun w112 o113 st114 f5_ => ?_
        replace f10 := f10.st st114 (by decide)
        replace hs := hs.loc0 st114 (by decide)
        replace f5 := f5_
        refine wpList_nil ?_
        refine blk_n ?_
        refine then_n ?_
        refine x_seq ?_
        refine wp_region_lit ?_
        refine x_run tab hk (k := 1) (lv := [.agg #[.int .i64 p0.Fore, .int .i64 p0.Back, .bool (p1 == (1 : Int)), .bool p0.Under, .bool p0.Inverse]]) (ks := [4, 69]) (e' := [(4, .pointer (some ⟨bx9, 0, none⟩)), (69, .agg #[.int .i64 p0.Fore, .int .i64 p0.Back, .bool (p1 == (1 : Int)), .bool p0.Under, .bool p0.Inverse])]) rfl ⟨(load_box tab rfl rfl f5.now (k := 0) rfl rfl), trivial⟩ fun a hk => ?_
        refine x_op hk rfl ?_
        refine op_store tab hk (t := 26) (v := .agg #[.int .i64 p0.Fore, .int .i64 p0.Back, .bool (p1 == (1 : Int)), .bool p0.Under, .bool p0.Inverse]) (b := bx9) (k := 0) (cs' := [.int .i64 p0.Fore, .int .i64 p0.Back, .bool (p1 == (1 : Int)), .bool p0.Under, .bool p0.Inverse]) rfl rfl rfl rfl rfl rfl f10 rfl rfl fun w115 o116 st117 f10_ => ?_
        replace hs := hs.loc0 st117 (by decide)
        replace f10 := f10_
        refine wpList_nil ?_
        refine then_n ?_
        refine wp_ret ?_
        obtain rfl := Option.some.inj H
        exact x_retG hk (rs := [.cell 4 26]) (vs := [.agg #[.int .i64 p0.Fore, .int .i64 p0.Back, .bool (p1 == (1 : Int)), .bool p0.Under, .bool p0.Inverse]]) rfl ⟨⟨_, rfl, load_box tab rfl rfl f10.now (k := 0) rfl rfl⟩, trivial⟩ ⟨fun b_ => if b_ < w.heap.size then o b_ else (fun _ => 0) (o116 b_), rfl, hs.close0 o (fun _ => 0)⟩
    refine wp_region_lit ?_
    refine x_run tab hk (k := 3) (lv := []) (ks := [1, 2, 4, 12]) (e' := [(1, .int .i64 p1), (2, .pointer (some ⟨bx4, 0, none⟩)), (4, .pointer (some ⟨bx9, 0, none⟩)), (12, .bool (p1 == (1 : Int)))]) rfl trivial fun a hk => ?_
    cases b118 : (p1 == (1 : Int))
    · rw [b118] at hk H
      replace H := bifF H
      refine x_run tab hk (k := 4) (lv := []) (ks := [1, 2, 4, 9]) (e' := [(1, .int .i64 p1), (2, .pointer (some ⟨bx4, 0, none⟩)), (4, .pointer (some ⟨bx9, 0, none⟩)), (9, .bool (p1 == (22 : Int)))]) rfl trivial fun a hk => ?_
      refine wpList_nil ?_
      refine then_n ?_
      exact ⟨(fun b_ => (fun l_ => if l_ = 1 then 3 else if l_ = 2 then 4 else l_) (o7 b_)), (p1 == (22 : Int)), (by exact Kn.pick (ks := [1, 2, 4, 9]) hk rfl), (hs.relab0 (fun l_ => if l_ = 1 then 3 else if l_ = 2 then 4 else l_) rfl), (f10.relab (fun l_ => if l_ = 1 then 3 else if l_ = 2 then 4 else l_) rfl), (f5.relab (fun l_ => if l_ = 1 then 3 else if l_ = 2 then 4 else l_) rfl), H⟩
    · rw [b118] at hk H
      replace H := bifT H
      refine x_run tab hk (k := 4) (lv := []) (ks := [1, 2, 4, 9]) (e' := [(1, .int .i64 p1), (2, .pointer (some ⟨bx4, 0, none⟩)), (4, .pointer (some ⟨bx9, 0, none⟩)), (9, .bool true)]) rfl trivial fun a hk => ?_
      refine wpList_nil ?_
      refine then_n ?_
      exact ⟨(fun b_ => (fun l_ => if l_ = 1 then 3 else if l_ = 2 then 4 else l_) (o7 b_)), true, (by exact Kn.pick (ks := [1, 2, 4, 9]) hk rfl), (hs.relab0 (fun l_ => if l_ = 1 then 3 else if l_ = 2 then 4 else l_) rfl), (f10.relab (fun l_ => if l_ = 1 then 3 else if l_ = 2 then 4 else l_) rfl), (f5.relab (fun l_ => if l_ = 1 then 3 else if l_ = 2 then 4 else l_) rfl), H⟩
  · rw [b11] at hk H
    replace H := bifT H
    refine x_if hk (b := true) rfl ?_
    refine (show Code.wp _ _ _ _ _ from ?_)
    refine x_seq ?_
    refine wp_region_lit ?_
    refine x_run tab hk (k := 1) (lv := []) (ks := [4, 8]) (e' := [(4, .pointer (some ⟨bx9, 0, none⟩)), (8, .agg #[.int .i64 0, .int .i64 0, .bool false, .bool false, .bool false])]) rfl trivial fun a hk => ?_
    refine x_op hk rfl ?_
    refine op_store tab hk (t := 26) (v := .agg #[.int .i64 0, .int .i64 0, .bool false, .bool false, .bool false]) (b := bx9) (k := 0) (cs' := [.int .i64 0, .int .i64 0, .bool false, .bool false, .bool false]) rfl rfl rfl rfl rfl rfl f10 rfl rfl fun w119 o120 st121 f10_ => ?_
    replace hs := hs.loc0 st121 (by decide)
    replace f10 := f10_
    refine wpList_nil ?_
    refine then_n ?_
    refine wp_ret ?_
    refine blk_r ?_
    refine then_r ?_
    obtain rfl := Option.some.inj H
    exact x_retG hk (rs := [.cell 4 26]) (vs := [.agg #[.int .i64 0, .int .i64 0, .bool false, .bool false, .bool false]]) rfl ⟨⟨_, rfl, load_box tab rfl rfl f10.now (k := 0) rfl rfl⟩, trivial⟩ ⟨fun b_ => if b_ < w.heap.size then o b_ else (fun _ => 0) (o120 b_), rfl, hs.close0 o (fun _ => 0)⟩

/-! (tidewrack/style.Style).Set -/
theorem style_Style_Set_calls (K : Nat) (p0 : T22) (Ap1 : Option Addr) (cp1 : Nat) (p1 : List Int) (w : World) (o : Nat → Nat) (Lp1 : Nat) (hp1 : Ft (RdC (encInt .i64) Ap1 p1) w o Lp1) (hcp1 : p1.length ≤ cp1) (r : T22) (H : style_Style_Set K p0 p1 = some r) :
    Calls Try.prog 9 #[.agg #[.int .i64 p0.Fore, .int .i64 p0.Back, .bool p0.Bold, .bool p0.Under, .bool p0.Inverse], .slice Ap1 (p1).length cp1] w (Ret fun v_ w' => ∃ o' : Nat → Nat, v_ = .agg #[.int .i64 r.Fore, .int .i64 r.Back, .bool r.Bold, .bool r.Under, .bool r.Inverse] ∧ St [] w o w' o') := by
  refine x_enter (vs := [.agg #[.int .i64 p0.Fore, .int .i64 p0.Back, .bool p0.Bold, .bool p0.Under, .bool p0.Inverse], .slice Ap1 (p1).length cp1]) Try.func9 rfl rfl rfl fun a hk => ?_
  obtain ⟨o0, hs, h0⟩ := St.start w o
  have f901 := h0 _ _ hp1
  clear h0
  rw [style_Style_Set] at H
  refine x_seq ?_
  refine wp_region_lit ?_
  refine x_op hk rfl ?_
  refine op_box (o := o0) (t := 26) (v := .agg #[.int .i64 p0.Fore, .int .i64 p0.Back, .bool p0.Bold, .bool p0.Under, .bool p0.Inverse]) (cs := [.int .i64 p0.Fore, .int .i64 p0.Back, .bool p0.Bold, .bool p0.Under, .bool p0.Inverse]) hk rfl rfl 1 fun bx4 w1 o2 st3 f5 => ?_
  replace f901 := f901.st st3 (by decide)
  replace hs := hs.loc0 st3 (by decide)
  have hk := hk.put 2 (.pointer (some ⟨bx4, 0, none⟩)) rfl
  refine x_op hk rfl ?_
  refine op_alloc (o := o2) tab (t := 26) (cs := [.int .i64 0, .int .i64 0, .bool false, .bool false, .bool false]) rfl rfl 2 fun bx9 w6 o7 st8 f10 => ?_
  replace f5 := f5.st st8 (by decide)
  replace f901 := f901.st st8 (by decide)
  replace hs := hs.loc0 st8 (by decide)
  have hk := hk.put 4 (.pointer (some ⟨bx9, 0, none⟩)) rfl
  refine wpList_nil ?_
  refine then_n ?_
  refine x_seq ?_
  refine x_seq ?_
  refine wp_region_lit ?_
  refine x_run tab hk (k := 3) (lv := []) (ks := [1, 2, 4, 9]) (e' := [(1, .slice Ap1 (p1).length cp1), (2, .pointer (some ⟨bx4, 0, none⟩)), (4, .pointer (some ⟨bx9, 0, none⟩)), (9, .bool (((p1).length : Int) == (0 : Int)))]) rfl trivial fun a hk => ?_
  refine wpList_nil ?_
  refine then_n ?_
  cases b11 : (((p1).length : Int) == (0 : Int))
  · rw [b11] at hk H
    replace H := bifF H
    refine x_if hk (b := false) rfl ?_
    refine (show Code.wp _ _ _ _ _ from ?_)
    refine wp_skip ?_
    refine then_n ?_
    refine x_mid (fun a_ w_ => ∃ o190 : Nat → Nat, ∃ x191 : T22, Kn 41 a_ [(2, .pointer (some ⟨bx4, 0, none⟩)), (4, .pointer (some ⟨bx9, 0, none⟩))] ∧ St [] w (fun _ => 0) w_ o190 ∧ Ft (Bx bx9 26 [.int .i64 0, .int .i64 0, .bool false, .bool false, .bool false]) w_ o190 16 ∧ Ft (Bx bx4 26 [.int .i64 x191.Fore, .int .i64 x191.Back, .bool x191.Bold, .bool x191.Under, .bool x191.Inverse]) w_ o190 15 ∧ style_Style_Set_j1 x191 = some r) ?_ ?_
    rotate_left
    · rintro a w192 ⟨o190, x191, hk, hs, f10, f5, H⟩
      rw [style_Style_Set_j1] at H
      refine x_seq ?_
      refine wp_region_lit ?_
      refine x_run tab hk (k := 1) (lv := [.agg #[.int .i64 x191.Fore, .int .i64 x191.Back, .bool x191.Bold, .bool x191.Under, .bool x191.Inverse]]) (ks := [4, 40]) (e' := [(4, .pointer (some ⟨bx9, 0, none⟩)), (40, .agg #[.int .i64 x191.Fore, .int .i64 x191.Back, .bool x191.Bold, .bool x191.Under, .bool x191.Inverse])]) rfl ⟨(load_box tab rfl rfl f5.now (k := 0) rfl rfl), trivial⟩ fun a hk => ?_
      refine x_op hk rfl ?_
      refine op_store tab hk (t := 26) (v := .agg #[.int .i64 x191.Fore, .int .i64 x191.Back, .bool x191.Bold, .bool x191.Under, .bool x191.Inverse]) (b := bx9) (k := 0) (cs' := [.int .i64 x191.Fore, .int .i64 x191.Back, .bool x191.Bold, .bool x191.Under, .bool x191.Inverse]) rfl rfl rfl rfl rfl rfl f10 rfl rfl fun w193 o194 st195 f10_ => ?_
      replace hs := hs.loc0 st195 (by decide)
      replace f10 := f10_
      refine wpList_nil ?_
      refine then_n ?_
      refine wp_ret ?_
      obtain rfl := Option.some.inj H
      exact x_retG hk (rs := [.cell 4 26]) (vs := [.agg #[.int .i64 x191.Fore, .int .i64 x191.Back, .bool x191.Bold, .bool x191.Under, .bool x191.Inverse]]) rfl ⟨⟨_, rfl, load_box tab rfl rfl f10.now (k := 0) rfl rfl⟩, trivial⟩ ⟨fun b_ => if b_ < w.heap.size then o b_ else (fun _ => 0) (o194 b_), rfl, hs.close0 o (fun _ => 0)⟩
    refine x_seq ?_
    refine wp_region_lit ?_
    refine x_run tab hk (k := 1) (lv := []) (ks := [1, 2, 4, 5]) (e' := [(1, .slice Ap1 (p1).length cp1), (2, .pointer (some ⟨bx4, 0, none⟩)), (4, .pointer (some ⟨bx9, 0, none⟩)), (5, .int .i64 0)]) rfl trivial fun a hk => ?_
    refine wpList_nil ?_
    refine then_n ?_
    refine wp_block ?_
    refine x_loop (fun j_ a_ w_ => ∃ o253 : Nat → Nat, ∃ x254 : T22, ∃ x255 : Int, Kn 41 a_ [(1, .slice Ap1 (p1).length cp1), (2, .pointer (some ⟨bx4, 0, none⟩)), (4, .pointer (some ⟨bx9, 0, none⟩)), (5, .int .i64 x255)] ∧ St [] w (fun _ => 0) w_ o253 ∧ Ft (Bx bx9 26 [.int .i64 0, .int .i64 0, .bool false, .bool false, .bool false]) w_ o253 24 ∧ Ft (Bx bx4 26 [.int .i64 x254.Fore, .int .i64 x254.Back, .bool x254.Bold, .bool x254.Under, .bool x254.Inverse]) w_ o253 23 ∧ Ft (RdC (encInt .i64) Ap1 p1) w_ o253 0 ∧ style_Style_Set_l2 p1 j_ x254 x255 = some r) (k := K) ⟨(fun b_ => (fun l_ => if l_ = 1 then 23 else if l_ = 2 then 24 else l_) (o7 b_)), p0, 0, (by exact Kn.pick (ks := [1, 2, 4, 5]) hk rfl), (hs.relab0 (fun l_ => if l_ = 1 then 23 else if l_ = 2 then 24 else l_) rfl), (f10.relab (fun l_ => if l_ = 1 then 23 else if l_ = 2 then 24 else l_) rfl), (f5.relab (fun l_ => if l_ = 1 then 23 else if l_ = 2 then 24 else l_) rfl), (f901.relab (fun l_ => if l_ = 1 then 23 else if l_ = 2 then 24 else l_) rfl), H⟩ (by rintro _ _ ⟨_, _, _, _, _, _, _, _, H_⟩; exact absurd (show (none : Option T22) = some r from H_) (by simp)) ?_
    rintro k311 a w310 ⟨o253, x254, x255, hk, hs, f10, f5, f901, H⟩
    rw [style_Style_Set_l2] at H
    obtain ⟨lp312, hlp313⟩ : ∃ lp_, lp_ = style_Style_Set_l2 p1 k311 := ⟨_, rfl⟩
    rw [← hlp313] at H
    refine x_seq ?_
    refine x_seq ?_
    refine wp_region_lit ?_
    refine x_run tab hk (k := 4) (lv := []) (ks := [1, 2, 4, 5, 14]) (e' := [(1, .slice Ap1 (p1).length cp1), (2, .pointer (some ⟨bx4, 0, none⟩)), (4, .pointer (some ⟨bx9, 0, none⟩)), (5, .int .i64 x255), (14, .bool (decide (x255 < ((p1).length : Int))))]) rfl trivial fun a hk => ?_
    refine wpList_nil ?_
    refine then_n ?_
    cases b314 : (decide (x255 < ((p1).length : Int)))
    · rw [b314] at hk H
      replace H := bifF H
      refine x_if hk (b := false) rfl ?_
      refine (show Code.wp _ _ _ _ _ from ?_)
      refine wp_exit ?_
      refine then_x ?_
      refine then_x ?_
      refine blk_x ?_
      refine then_n ?_
      exact ⟨(fun b_ => (fun l_ => if l_ = 23 then 15 else if l_ = 24 then 16 else l_) (o253 b_)), x254, (by exact Kn.pick (ks := [2, 4]) hk rfl), (hs.relab0 (fun l_ => if l_ = 23 then 15 else if l_ = 24 then 16 else l_) rfl), (f10.relab (fun l_ => if l_ = 23 then 15 else if l_ = 24 then 16 else l_) rfl), (f5.relab (fun l_ => if l_ = 23 then 15 else if l_ = 24 then 16 else l_) rfl), H⟩
    · rw [b314] at hk H
      replace H := bifT H
      refine x_if hk (b := true) rfl ?_
      refine (show Code.wp _ _ _ _ _ from ?_)
      refine wp_skip ?_
      refine then_n ?_
      refine x_seq ?_
      refine wp_block ?_
      refine x_seq ?_
      refine x_seq ?_
      refine wp_region_lit ?_
      obtain ⟨q315, H⟩ := ifS H
      obtain ⟨ad316, hAad316⟩ := RdC.addr f901.now q315
      subst hAad316
      refine x_run tab hk (k := 5) (lv := [.int .i64 (rdD 0 p1 x255)]) (ks := [1, 2, 4, 5, 6]) (e' := [(1, .slice (some ad316) (p1).length cp1), (2, .pointer (some ⟨bx4, 0, none⟩)), (4, .pointer (some ⟨bx9, 0, none⟩)), (5, .int .i64 x255), (6, .int .i64 (rdD 0 p1 x255))]) rfl ⟨q315, (load1 tab rfl (RdC.at0 (E := (encInt .i64)) (d := 0) (i := x255) f901.now q315 rfl)), trivial⟩ fun a hk => ?_
      refine wpList_nil ?_
      refine then_n ?_
      refine x_mid (fun a_ w_ => ∃ o324 : Nat → Nat, ∃ x325 : Bool, Kn 41 a_ [(1, .slice (some ad316) (p1).length cp1), (2, .pointer (some ⟨bx4, 0, none⟩)), (4, .pointer (some ⟨bx9, 0, none⟩)), (5, .int .i64 x255), (26, .bool x325)] ∧ St [] w (fun _ => 0) w_ o324 ∧ Ft (Bx bx9 26 [.int .i64 0, .int .i64 0, .bool false, .bool false, .bool false]) w_ o324 28 ∧ Ft (Bx bx4 26 [.int .i64 x254.Fore, .int .i64 x254.Back, .bool x254.Bold, .bool x254.Under, .bool x254.Inverse]) w_ o324 27 ∧ Ft (RdC (encInt .i64) (some ad316) p1) w_ o324 0 ∧ style_Style_Set_j3 p1 x254 x255 lp312 x325 = some r) ?_ ?_
      rotate_left
      · rintro a w326 ⟨o324, x325, hk, hs, f10, f5, f901, H⟩
        rw [style_Style_Set_j3] at H
        cases b327 : x325
        · rw [b327] at hk H
          replace H := bifF H
          refine x_if hk (b := false) rfl ?_
          refine (show Code.wp _ _ _ _ _ from ?_)
          refine wp_skip ?_
          refine then_n ?_
          refine xd_begin (o := o324) (fun W_ => (Bx bx4 26 [.int .i64 x254.Fore, .int .i64 x254.Back, .bool x254.Bold, .bool x254.Under, .bool x254.Inverse]) W_ ∧ (RdC (encInt .i64) (some ad316) p1) W_ ∧ True) mixed rfl rfl fun w339 st340 => ?_
          replace f10 := f10.st st340 (by decide)
          replace f5 := f5.st st340 (by decide)
          replace f901 := f901.st st340 (by decide)
          replace hs := hs.loc0 st340 (by decide)
          refine xd_take tab hk (k := 2) (is := [0, 1, 2, 3, 4]) (ls' := #[true, true, true, true, true, false, false]) (lv := [.agg #[.int .i64 x254.Fore, .int .i64 x254.Back, .bool x254.Bold, .bool x254.Under, .bool x254.Inverse], .int .i64 (rdD 0 p1 x255)]) (ks := [1, 2, 4, 5, 34, 38]) (e' := [(1, .slice (some ad316) (p1).length cp1), (2, .pointer (some ⟨bx4, 0, none⟩)), (4, .pointer (some ⟨bx9, 0, none⟩)), (5, .int .i64 x255), (34, .agg #[.int .i64 x254.Fore, .int .i64 x254.Back, .bool x254.Bold, .bool x254.Under, .bool x254.Inverse]), (38, .int .i64 (rdD 0 p1 x255))]) (by kernel_rfl) rfl rfl (by kernel_rfl) (np_blk (np_then (np_then (np_blk (np_then np_body))))) ⟨f5.now, f901.now, trivial⟩ (fun W_ hS => ⟨(load_box tab rfl rfl hS.1 (k := 0) rfl rfl), q315, (load1 tab rfl (RdC.at0 (E := (encInt .i64)) (d := 0) (i := x255) hS.2.1 q315 rfl)), trivial⟩) fun a hk => ?_
          refine xd_op hk (i := 5) (by kernel_rfl) rfl rfl ?_
          obtain ⟨t344, hc345, H⟩ := bindS H
          refine op_call hk ent_17 (vs := [.agg #[.int .i64 x254.Fore, .int .i64 x254.Back, .bool x254.Bold, .bool x254.Under, .bool x254.Inverse], .int .i64 (rdD 0 p1 x255)]) rfl (style_Style_one_calls x254 (rdD 0 p1 x255) _ o324    _ hc345) ?_
          rintro _ w346 ⟨o347, rfl, st348⟩
          replace f10 := f10.st st348 (by decide)
          replace f5 := f5.st st348 (by decide)
          replace f901 := f901.st st348 (by decide)
          replace hs := hs.loc0 st348 (by decide)
          have hk := hk.put 39 (.agg #[.int .i64 t344.Fore, .int .i64 t344.Back, .bool t344.Bold, .bool t344.Under, .bool t344.Inverse]) rfl
          refine ⟨.inr ⟨f5.now, f901.now, trivial⟩, ?_⟩
          refine xd_op hk (i := 6) (by kernel_rfl) rfl rfl ?_
          refine op_store tab hk (t := 26) (v := .agg #[.int .i64 t344.Fore, .int .i64 t344.Back, .bool t344.Bold, .bool t344.Under, .bool t344.Inverse]) (b := bx4) (k := 0) (cs' := [.int .i64 t344.Fore, .int .i64 t344.Back, .bool t344.Bold, .bool t344.Under, .bool t344.Inverse]) rfl rfl rfl rfl rfl rfl f5 rfl rfl fun w349 o350 st351 f5_ => ?_
          replace f10 := f10.st st351 (by decide)
          replace f901 := f901.st st351 (by decide)
          replace hs := hs.loc0 st351 (by decide)
          replace f5 := f5_
          refine ⟨.inl (by kernel_rfl), ?_⟩
          refine xd_done (by kernel_rfl) ?_
          refine blk_n ?_
          refine then_n ?_
          refine wp_region_lit ?_
          refine x_run tab hk (k := 3) (lv := []) (ks := [1, 2, 4, 5]) (e' := [(1, .slice (some ad316) (p1).length cp1), (2, .pointer (some ⟨bx4, 0, none⟩)), (4, .pointer (some ⟨bx9, 0, none⟩)), (5, .int .i64 (IntKind.wrap .i64 (x255 + 1)))]) rfl trivial fun a hk => ?_
          refine wpList_nil ?_
          refine then_n ?_
          exact ⟨k311, Nat.le_refl _, (fun b_ => (fun l_ => if l_ = 27 then 23 else if l_ = 28 then 24 else l_) (o350 b_)), t344, (IntKind.wrap .i64 (x255 + 1)), (by exact Kn.pick (ks := [1, 2, 4, 5]) hk rfl), (hs.relab0 (fun l_ => if l_ = 27 then 23 else if l_ = 28 then 24 else l_) rfl), (f10.relab (fun l_ => if l_ = 27 then 23 else if l_ = 28 then 24 else l_) rfl), (f5.relab (fun l_ => if l_ = 27 then 23 else if l_ = 28 then 24 else l_) rfl), (f901.relab (fun l_ => if l_ = 27 then 23 else if l_ = 28 then 24 else l_) rfl), (hlp313 ▸ H)⟩
        · rw [b327] at hk H
          replace H := bifT H
          refine x_if hk (b := true) rfl ?_
          refine (show Code.wp _ _ _ _ _ from ?_)
          refine x_seq ?_
          refine wp_region_lit ?_
          obtain ⟨q352, H⟩ := ifS H
          obtain ⟨q353, H⟩ := ifS H
          obtain ⟨A354, c355, ak357, f356, hc358⟩ := ask_cut (P := Try.prog) tab (t := 24) rfl rfl f901 hcp1 (some (.int .i64 (IntKind.wrap .i64 (x255 + 1)))) none rfl ⟨q352, (by have := q353; omega), trivial⟩ (by have := q352; have := q353; omega) (Nat.le_refl _)
          refine x_run tab hk (k := 5) (lv := [.slice A354 ((List.drop (Int.toNat (IntKind.wrap .i64 (x255 + 1))) (List.take (p1).length p1))).length c355]) (ks := [1, 2, 4, 27, 31]) (e' := [(1, .slice (some ad316) (p1).length cp1), (2, .pointer (some ⟨bx4, 0, none⟩)), (4, .pointer (some ⟨bx9, 0, none⟩)), (27, .int .i64 x255), (31, .slice A354 ((List.drop (Int.toNat (IntKind.wrap .i64 (x255 + 1))) (List.take (p1).length p1))).length c355)]) rfl ⟨(ak357 rfl rfl rfl _), trivial⟩ fun a hk => ?_
          refine x_op hk rfl ?_
          obtain ⟨t362, hc363, H⟩ := bindS H
          refine op_call hk ent_16 (vs := [.slice A354 ((List.drop (Int.toNat (IntKind.wrap .i64 (x255 + 1))) (List.take (p1).length p1))).length c355]) rfl (style_skip_calls A354 c355 (List.drop (Int.toNat (IntKind.wrap .i64 (x255 + 1))) (List.take (p1).length p1)) _ o324 _ f356 hc358   _ hc363) ?_
          rintro _ w364 ⟨o365, rfl, st366⟩
          replace f10 := f10.st st366 (by decide)
          replace f356 := f356.st st366 (by decide)
          replace f5 := f5.st st366 (by decide)
          replace f901 := f901.st st366 (by decide)
          replace hs := hs.loc0 st366 (by decide)
          have hk := hk.put 32 (.int .i64 t362) rfl
          refine x_run tab hk (k := 2) (lv := []) (ks := [1, 2, 4, 5]) (e' := [(1, .slice (some ad316) (p1).length cp1), (2, .pointer (some ⟨bx4, 0, none⟩)), (4, .pointer (some ⟨bx9, 0, none⟩)), (5, .int .i64 (IntKind.wrap .i64 (x255 + t362)))]) rfl trivial fun a hk => ?_
          refine wpList_nil ?_
          refine then_n ?_
          refine wp_exit ?_
          refine then_x ?_
          refine blk_x ?_
          refine then_n ?_
          refine wp_region_lit ?_
          refine x_run tab hk (k := 3) (lv := []) (ks := [1, 2, 4, 5]) (e' := [(1, .slice (some ad316) (p1).length cp1), (2, .pointer (some ⟨bx4, 0, none⟩)), (4, .pointer (some ⟨bx9, 0, none⟩)), (5, .int .i64 (IntKind.wrap .i64 ((IntKind.wrap .i64 (x255 + t362)) + 1)))]) rfl trivial fun a hk => ?_
          refine wpList_nil ?_
          refine then_n ?_
          exact ⟨k311, Nat.le_refl _, (fun b_ => (fun l_ => if l_ = 27 then 23 else if l_ = 28 then 24 else l_) (o365 b_)), x254, (IntKind.wrap .i64 ((IntKind.wrap .i64 (x255 + t362)) + 1)), (by exact Kn.pick (ks := [1, 2, 4, 5]) hk rfl), (hs.relab0 (fun l_ => if l_ = 27 then 23 else if l_ = 28 then 24 else l_) rfl), (f10.relab (fun l_ => if l_ = 27 then 23 else if l_ = 28 then 24 else l_) rfl), (f5.relab (fun l_ => if l_ = 27 then 23 else if l_ = 28 then 24 else l_) rfl), (f901.relab (fun l_ => if l_ = 27 then 23 else if l_ = 28 then 24 else l_) rfl), (hlp313 ▸ H)⟩
      refine wp_region_lit ?_
      refine x_run tab hk (k := 3) (lv := []) (ks := [1, 2, 4, 5, 6, 23]) (e' := [(1, .slice (some ad316) (p1).length cp1), (2, .pointer (some ⟨bx4, 0, none⟩)), (4, .pointer (some ⟨bx9, 0, none⟩)), (5, .int .i64 x255), (6, .int .i64 (rdD 0 p1 x255)), (23, .bool ((rdD 0 p1 x255) == (38 : Int)))]) rfl trivial fun a hk => ?_
      cases b367 : ((rdD 0 p1 x255) == (38 : Int))
      · rw [b367] at hk H
        replace H := bifF H
        refine x_run tab hk (k := 3) (lv := []) (ks := [1, 2, 4, 5, 26]) (e' := [(1, .slice (some ad316) (p1).length cp1), (2, .pointer (some ⟨bx4, 0, none⟩)), (4, .pointer (some ⟨bx9, 0, none⟩)), (5, .int .i64 x255), (26, .bool ((rdD 0 p1 x255) == (48 : Int)))]) rfl trivial fun a hk => ?_
        refine wpList_nil ?_
        refine then_n ?_
        exact ⟨(fun b_ => (fun l_ => if l_ = 23 then 27 else if l_ = 24 then 28 else l_) (o253 b_)), ((rdD 0 p1 x255) == (48 : Int)), (by exact Kn.pick (ks := [1, 2, 4, 5, 26]) hk rfl), (hs.relab0 (fun l_ => if l_ = 23 then 27 else if l_ = 24 then 28 else l_) rfl), (f10.relab (fun l_ => if l_ = 23 then 27 else if l_ = 24 then 28 else l_) rfl), (f5.relab (fun l_ => if l_ = 23 then 27 else if l_ = 24 then 28 else l_) rfl), (f901.relab (fun l_ => if l_ = 23 then 27 else if l_ = 24 then 28 else l_) rfl), H⟩
      · rw [b367] at hk H
        replace H := bifT H
        refine x_run tab hk (k := 3) (lv := []) (ks := [1, 2, 4, 5, 26]) (e' := [(1, .slice (some ad316) (p1).length cp1), (2, .pointer (some ⟨bx4, 0, none⟩)), (4, .pointer (some ⟨bx9, 0, none⟩)), (5, .int .i64 x255), (26, .bool true)]) rfl trivial fun a hk => ?_
        refine wpList_nil ?_
        refine then_n ?_
        exact ⟨(fun b_ => (fun l_ => if l_ = 23 then 27 else if l_ = 24 then 28 else l_) (o253 b_)), true, (by exact Kn.pick (ks := [1, 2, 4, 5, 26]) hk rfl), (hs.relab0 (fun l_ => if l_ = 23 then 27 else if l_ = 24 then 28 else l_) rfl), (f10.relab (fun l_ => if l_ = 23 then 27 else if l_ = 24 then 28 else l_) rfl), (f5.relab (fun l_ => if l_ = 23 then 27 else if l_ = 24 then 28 else l_) rfl), (f901.relab (fun l_ => if l_ = 23 then 27 else if l_ = 24 then 28 else l_) rfl), H⟩
  · rw [b11] at hk H
    replace H := bifT H
    refine x_if hk (b := true) rfl ?_
    refine (show Code.wp _ _ _ _ _ from ?_)
    refine x_seq ?_
    refine wp_region_lit ?_
    refine x_run tab hk (k := 1) (lv := []) (ks := [4, 10]) (e' := [(4, .pointer (some ⟨bx9, 0, none⟩)), (10, .agg #[.int .i64 0, .int .i64 0, .bool false, .bool false, .bool false])]) rfl trivial fun a hk => ?_
    refine x_op hk rfl ?_
    refine op_store tab hk (t := 26) (v := .agg #[.int .i64 0, .int .i64 0, .bool false, .bool false, .bool false]) (b := bx9) (k := 0) (cs' := [.int .i64 0, .int .i64 0, .bool false, .bool false, .bool false]) rfl rfl rfl rfl rfl rfl f10 rfl rfl fun w368 o369 st370 f10_ => ?_
    replace hs := hs.loc0 st370 (by decide)
    replace f10 := f10_
    refine wpList_nil ?_
    refine then_n ?_
    refine wp_ret ?_
    refine then_r ?_
    obtain rfl := Option.some.inj H
    exact x_retG hk (rs := [.cell 4 26]) (vs := [.agg #[.int .i64 0, .int .i64 0, .bool false, .bool false, .bool false]]) rfl ⟨⟨_, rfl, load_box tab rfl rfl f10.now (k := 0) rfl rfl⟩, trivial⟩ ⟨fun b_ => if b_ < w.heap.size then o b_ else (fun _ => 0) (o369 b_), rfl, hs.close0 o (fun _ => 0)⟩

/-! (tidewrack/style.Style).may -/
theorem style_Style_may_calls (p0 : T22) (w : World) (o : Nat → Nat)  (r : Bool) (H : style_Style_may p0 = some r) :
    Calls Try.prog 18 #[.agg #[.int .i64 p0.Fore, .int .i64 p0.Back, .bool p0.Bold, .bool p0.Under, .bool p0.Inverse]] w (Ret fun v_ w' => ∃ o' : Nat → Nat, v_ = .bool r ∧ St [] w o w' o') := by
  refine x_enter (vs := [.agg #[.int .i64 p0.Fore, .int .i64 p0.Back, .bool p0.Bold, .bool p0.Under, .bool p0.Inverse]]) Try.func18 rfl rfl rfl fun a hk => ?_
  obtain ⟨o0, hs, h0⟩ := St.start w o
  clear h0
  rw [style_Style_may] at H
  refine x_seq ?_
  refine wp_region_lit ?_
  refine x_op hk rfl ?_
  refine op_box (o := o0) (t := 26) (v := .agg #[.int .i64 p0.Fore, .int .i64 p0.Back, .bool p0.Bold, .bool p0.Under, .bool p0.Inverse]) (cs := [.int .i64 p0.Fore, .int .i64 p0.Back, .bool p0.Bold, .bool p0.Under, .bool p0.Inverse]) hk rfl rfl 1 fun bx4 w1 o2 st3 f5 => ?_
  replace hs := hs.loc0 st3 (by decide)
  have hk := hk.put 1 (.pointer (some ⟨bx4, 0, none⟩)) rfl
  refine x_run tab hk (k := 1) (lv := []) (ks := [1]) (e' := [(1, .pointer (some ⟨bx4, 0, none⟩))]) rfl trivial fun a hk => ?_
  refine wpList_nil ?_
  refine then_n ?_
  refine x_seq ?_
  refine wp_region_lit ?_
  refine x_run tab hk (k := 4) (lv := [.int .i64 p0.Fore]) (ks := [1, 6]) (e' := [(1, .pointer (some ⟨bx4, 0, none⟩)), (6, .bool (decide (p0.Fore ≥ (0 : Int))))]) rfl ⟨(load1 tab rfl ((Bx.cell f5.now 0).trans rfl)), trivial⟩ fun a hk => ?_
  cases b6 : (decide (p0.Fore ≥ (0 : Int)))
  · rw [b6] at hk H
    replace H := bifF H
    refine x_run tab hk (k := 13) (lv := []) (ks := [16, 19]) (e' := [(16, .bool false), (19, undef)]) rfl trivial fun a hk => ?_
    refine x_run tab hk (k := 2) (lv := []) (ks := [2]) (e' := [(2, .bool false)]) rfl trivial fun a hk => ?_
    refine wpList_nil ?_
    refine then_n ?_
    refine wp_ret ?_
    obtain rfl := Option.some.inj H
    exact x_retG hk (rs := [.tmp 2]) (vs := [.bool false]) rfl ⟨rfl, trivial⟩ ⟨fun b_ => if b_ < w.heap.size then o b_ else (fun _ => 0) (o2 b_), rfl, hs.close0 o (fun _ => 0)⟩
  · rw [b6] at hk H
    replace H := bifT H
    refine x_run tab hk (k := 5) (lv := [.int .i64 p0.Fore]) (ks := [1, 11]) (e' := [(1, .pointer (some ⟨bx4, 0, none⟩)), (11, .bool (decide (p0.Fore < (9 : Int))))]) rfl ⟨(load1 tab rfl ((Bx.cell f5.now 0).trans rfl)), trivial⟩ fun a hk => ?_
    cases b7 : (decide (p0.Fore < (9 : Int)))
    · rw [b7] at hk H
      replace H := bifF H
      refine x_run tab hk (k := 10) (lv := []) (ks := [2]) (e' := [(2, .bool false)]) rfl trivial fun a hk => ?_
      refine wpList_nil ?_
      refine then_n ?_
      refine wp_ret ?_
      obtain rfl := Option.some.inj H
      exact x_retG hk (rs := [.tmp 2]) (vs := [.bool false]) rfl ⟨rfl, trivial⟩ ⟨fun b_ => if b_ < w.heap.size then o b_ else (fun _ => 0) (o2 b_), rfl, hs.close0 o (fun _ => 0)⟩
    · rw [b7] at hk H
      replace H := bifT H
      refine x_run tab hk (k := 5) (lv := [.int .i64 p0.Back]) (ks := [1, 16]) (e' := [(1, .pointer (some ⟨bx4, 0, none⟩)), (16, .bool (decide (p0.Back ≥ (0 : Int))))]) rfl ⟨(load1 tab rfl ((Bx.cell f5.now 1).trans rfl)), trivial⟩ fun a hk => ?_
      cases b8 : (decide (p0.Back ≥ (0 : Int)))
      · rw [b8] at hk H
        replace H := bifF H
        refine x_run tab hk (k := 5) (lv := []) (ks := [2]) (e' := [(2, .bool false)]) rfl trivial fun a hk => ?_
        refine wpList_nil ?_
        refine then_n ?_
        refine wp_ret ?_
        obtain rfl := Option.some.inj H
        exact x_retG hk (rs := [.tmp 2]) (vs := [.bool false]) rfl ⟨rfl, trivial⟩ ⟨fun b_ => if b_ < w.heap.size then o b_ else (fun _ => 0) (o2 b_), rfl, hs.close0 o (fun _ => 0)⟩
      · rw [b8] at hk H
        replace H := bifT H
        refine x_run tab hk (k := 5) (lv := [.int .i64 p0.Back]) (ks := [2]) (e' := [(2, .bool (decide (p0.Back < (9 : Int))))]) rfl ⟨(load1 tab rfl ((Bx.cell f5.now 1).trans rfl)), trivial⟩ fun a hk => ?_
        refine wpList_nil ?_
        refine then_n ?_
        refine wp_ret ?_
        obtain rfl := Option.some.inj H
        exact x_retG hk (rs := [.tmp 2]) (vs := [.bool (decide (p0.Back < (9 : Int)))]) rfl ⟨rfl, trivial⟩ ⟨fun b_ => if b_ < w.heap.size then o b_ else (fun _ => 0) (o2 b_), rfl, hs.close0 o (fun _ => 0)⟩

/-! tidewrack/style.bit -/
theorem style_bit_calls (p0 : Bool) (p1 : Int) (w : World) (o : Nat → Nat)  (r : Int) (H : style_bit p0 p1 = some r) :
    Calls Try.prog 19 #[.bool p0, .int .i64 p1] w (Ret fun v_ w' => ∃ o' : Nat → Nat, v_ = .int .i64 r ∧ St [] w o w' o') := by
  refine x_enter (vs := [.bool p0, .int .i64 p1]) Try.func19 rfl rfl rfl fun a hk => ?_
  obtain ⟨o0, hs, h0⟩ := St.start w o
  clear h0
  rw [style_bit] at H
  refine x_seq ?_
  refine wp_region_lit ?_
  refine x_run tab hk (k := 1) (lv := []) (ks := [0, 1]) (e' := [(0, .bool p0), (1, .int .i64 p1)]) rfl trivial fun a hk => ?_
  refine wpList_nil ?_
  refine then_n ?_
  refine x_seq ?_
  refine x_seq ?_
  refine wp_region_lit ?_
  refine x_run tab hk (k := 1) (lv := []) (ks := [1, 5]) (e' := [(1, .int .i64 p1), (5, .bool p0)]) rfl trivial fun a hk => ?_
  refine wpList_nil ?_
  refine then_n ?_
  cases b1 : p0
  · rw [b1] at hk H
    replace H := bifF H
    refine x_if hk (b := false) rfl ?_
    refine (show Code.wp _ _ _ _ _ from ?_)
    refine wp_skip ?_
    refine then_n ?_
    refine x_seq ?_
    refine wp_region_lit ?_
    refine x_run tab hk (k := 1) (lv := []) (ks := [4]) (e' := [(4, .int .i64 0)]) rfl trivial fun a hk => ?_
    refine wpList_nil ?_
    refine then_n ?_
    refine wp_ret ?_
    obtain rfl := Option.some.inj H
    exact x_retG hk (rs := [.tmp 4]) (vs := [.int .i64 0]) rfl ⟨rfl, trivial⟩ ⟨fun b_ => if b_ < w.heap.size then o b_ else (fun _ => 0) (o0 b_), rfl, hs.close0 o (fun _ => 0)⟩
  · rw [b1] at hk H
    replace H := bifT H
    refine x_if hk (b := true) rfl ?_
    refine (show Code.wp _ _ _ _ _ from ?_)
    refine x_seq ?_
    refine wp_region_lit ?_
    refine x_run tab hk (k := 2) (lv := []) (ks := [4]) (e' := [(4, .int .i64 p1)]) rfl trivial fun a hk => ?_
    refine wpList_nil ?_
    refine then_n ?_
    refine wp_ret ?_
    refine then_r ?_
    obtain rfl := Option.some.inj H
    exact x_retG hk (rs := [.tmp 4]) (vs := [.int .i64 p1]) rfl ⟨rfl, trivial⟩ ⟨fun b_ => if b_ < w.heap.size then o b_ else (fun _ => 0) (o0 b_), rfl, hs.close0 o (fun _ => 0)⟩

/-! (tidewrack/style.Style).Num -/
theorem style_Style_Num_calls (p0 : T22) (w : World) (o : Nat → Nat)  (r : Int) (H : style_Style_Num p0 = some r) :
    Calls Try.prog 12 #[.agg #[.int .i64 p0.Fore, .int .i64 p0.Back, .bool p0.Bold, .bool p0.Under, .bool p0.Inverse]] w (Ret fun v_ w' => ∃ o' : Nat → Nat, v_ = .int .i64 r ∧ St [] w o w' o') := by
  refine x_enter (vs := [.agg #[.int .i64 p0.Fore, .int .i64 p0.Back, .bool p0.Bold, .bool p0.Under, .bool p0.Inverse]]) Try.func12 rfl rfl rfl fun a hk => ?_
  obtain ⟨o0, hs, h0⟩ := St.start w o
  clear h0
  rw [style_Style_Num] at H
  refine x_seq ?_
  refine wp_region_lit ?_
  refine x_op hk rfl ?_
  refine op_box (o := o0) (t := 26) (v := .agg #[.int .i64 p0.Fore, .int .i64 p0.Back, .bool p0.Bold, .bool p0.Under, .bool p0.Inverse]) (cs := [.int .i64 p0.Fore, .int .i64 p0.Back, .bool p0.Bold, .bool p0.Under, .bool p0.Inverse]) hk rfl rfl 1 fun bx4 w1 o2 st3 f5 => ?_
  replace hs := hs.loc0 st3 (by decide)
  have hk := hk.put 1 (.pointer (some ⟨bx4, 0, none⟩)) rfl
  refine x_run tab hk (k := 1) (lv := []) (ks := [1]) (e' := [(1, .pointer (some ⟨bx4, 0, none⟩))]) rfl trivial fun a hk => ?_
  refine wpList_nil ?_
  refine then_n ?_
  refine x_seq ?_
  refine x_seq ?_
  refine wp_region_lit ?_
  refine x_run tab hk (k := 1) (lv := [.agg #[.int .i64 p0.Fore, .int .i64 p0.Back, .bool p0.Bold, .bool p0.Under, .bool p0.Inverse]]) (ks := [1, 3]) (e' := [(1, .pointer (some ⟨bx4, 0, none⟩)), (3, .agg #[.int .i64 p0.Fore, .int .i64 p0.Back, .bool p0.Bold, .bool p0.Under, .bool p0.Inverse])]) rfl ⟨(load_box tab rfl rfl f5.now (k := 0) rfl rfl), trivial⟩ fun a hk => ?_
  refine x_op hk rfl ?_
  obtain ⟨t9, hc10, H⟩ := bindS H
  refine op_call hk ent_18 (vs := [.agg #[.int .i64 p0.Fore, .int .i64 p0.Back, .bool p0.Bold, .bool p0.Under, .bool p0.Inverse]]) rfl (style_Style_may_calls p0 _ o2    _ hc10) ?_
  rintro _ w11 ⟨o12, rfl, st13⟩
  replace f5 := f5.st st13 (by decide)
  replace hs := hs.loc0 st13 (by decide)
  have hk := hk.put 4 (.bool t9) rfl
  refine x_run tab hk (k := 1) (lv := []) (ks := [1, 5]) (e' := [(1, .pointer (some ⟨bx4, 0, none⟩)), (5, .bool (!t9))]) rfl trivial fun a hk => ?_
  refine wpList_nil ?_
  refine then_n ?_
  cases b14 : (!t9)
  · rw [b14] at hk H
    replace H := bifF H
    refine x_if hk (b := false) rfl ?_
    refine (show Code.wp _ _ _ _ _ from ?_)
    refine wp_skip ?_
    refine then_n ?_
    refine x_seq ?_
    refine xd_begin (o := o12) (fun W_ => (Bx bx4 26 [.int .i64 p0.Fore, .int .i64 p0.Back, .bool p0.Bold, .bool p0.Under, .bool p0.Inverse]) W_ ∧ True) mixed rfl rfl fun w39 st40 => ?_
    replace f5 := f5.st st40 (by decide)
    replace hs := hs.loc0 st40 (by decide)
    refine xd_take tab hk (k := 7) (is := [0, 1, 2, 3, 4, 5, 6, 7, 10, 11, 14, 15]) (ls' := #[true, true, true, true, true, true, true, true, false, false, true, true, false, false, true, true, false, false, false]) (lv := [.int .i64 p0.Fore, .int .i64 p0.Back, .bool p0.Bold, .bool p0.Under, .bool p0.Inverse]) (ks := [11, 13, 17, 21]) (e' := [(11, .int .i64 (IntKind.wrap .i64 (p0.Fore + (IntKind.wrap .i64 (9 * p0.Back))))), (13, .bool p0.Bold), (17, .bool p0.Under), (21, .bool p0.Inverse)]) (by kernel_rfl) rfl rfl (by kernel_rfl) (np_then np_body) ⟨f5.now, trivial⟩ (fun W_ hS => ⟨(load1 tab rfl ((Bx.cell hS.1 0).trans rfl)), (load1 tab rfl ((Bx.cell hS.1 1).trans rfl)), (load1 tab rfl ((Bx.cell hS.1 2).trans rfl)), (load1 tab rfl ((Bx.cell hS.1 3).trans rfl)), (load1 tab rfl ((Bx.cell hS.1 4).trans rfl)), trivial⟩) fun a hk => ?_
    refine xd_op hk (i := 8) (by kernel_rfl) rfl rfl ?_
    obtain ⟨t44, hc45, H⟩ := bindS H
    refine op_call hk ent_19 (vs := [.bool p0.Bold, .int .i64 81]) rfl (style_bit_calls p0.Bold 81 _ o12    _ hc45) ?_
    rintro _ w46 ⟨o47, rfl, st48⟩
    replace f5 := f5.st st48 (by decide)
    replace hs := hs.loc0 st48 (by decide)
    have hk := hk.put 14 (.int .i64 t44) rfl
    refine ⟨.inr ⟨f5.now, trivial⟩, ?_⟩
    refine xd_take tab hk (k := 5) (is := [9]) (ls' := #[true, true, true, true, true, true, true, true, true, true, true, true, false, false, true, true, false, false, false]) (lv := []) (ks := [15, 17, 21]) (e' := [(15, .int .i64 (IntKind.wrap .i64 ((IntKind.wrap .i64 (p0.Fore + (IntKind.wrap .i64 (9 * p0.Back)))) + t44))), (17, .bool p0.Under), (21, .bool p0.Inverse)]) (by kernel_rfl) rfl rfl (by kernel_rfl) (np_then np_body) ⟨f5.now, trivial⟩ (fun W_ hS => trivial) fun a hk => ?_
    refine xd_op hk (i := 12) (by kernel_rfl) rfl rfl ?_
    obtain ⟨t52, hc53, H⟩ := bindS H
    refine op_call hk ent_19 (vs := [.bool p0.Under, .int .i64 162]) rfl (style_bit_calls p0.Under 162 _ o47    _ hc53) ?_
    rintro _ w54 ⟨o55, rfl, st56⟩
    replace f5 := f5.st st56 (by decide)
    replace hs := hs.loc0 st56 (by decide)
    have hk := hk.put 18 (.int .i64 t52) rfl
    refine ⟨.inr ⟨f5.now, trivial⟩, ?_⟩
    refine xd_take tab hk (k := 3) (is := [13]) (ls' := #[true, true, true, true, true, true, true, true, true, true, true, true, true, true, true, true, false, false, false]) (lv := []) (ks := [19, 21]) (e' := [(19, .int .i64 (IntKind.wrap .i64 ((IntKind.wrap .i64 ((IntKind.wrap .i64 (p0.Fore + (IntKind.wrap .i64 (9 * p0.Back)))) + t44)) + t52))), (21, .bool p0.Inverse)]) (by kernel_rfl) rfl rfl (by kernel_rfl) (np_then np_body) ⟨f5.now, trivial⟩ (fun W_ hS => trivial) fun a hk => ?_
    refine xd_op hk (i := 16) (by kernel_rfl) rfl rfl ?_
    obtain ⟨t60, hc61, H⟩ := bindS H
    refine op_call hk ent_19 (vs := [.bool p0.Inverse, .int .i64 324]) rfl (style_bit_calls p0.Inverse 324 _ o55    _ hc61) ?_
    rintro _ w62 ⟨o63, rfl, st64⟩
    replace f5 := f5.st st64 (by decide)
    replace hs := hs.loc0 st64 (by decide)
    have hk := hk.put 22 (.int .i64 t60) rfl
    refine ⟨.inr ⟨f5.now, trivial⟩, ?_⟩
    refine xd_take tab hk (k := 0) (is := [17, 18]) (ls' := #[true, true, true, true, true, true, true, true, true, true, true, true, true, true, true, true, true, true, true]) (lv := []) (ks := [2]) (e' := [(2, .int .i64 (IntKind.wrap .i64 ((IntKind.wrap .i64 ((IntKind.wrap .i64 ((IntKind.wrap .i64 (p0.Fore + (IntKind.wrap .i64 (9 * p0.Back)))) + t44)) + t52)) + t60)))]) (by kernel_rfl) rfl rfl (by kernel_rfl) (np_then np_body) ⟨f5.now, trivial⟩ (fun W_ hS => trivial) fun a hk => ?_
    refine xd_done (by kernel_rfl) ?_
    refine then_n ?_
    refine wp_ret ?_
    obtain rfl := Option.some.inj H
    exact x_retG hk (rs := [.tmp 2]) (vs := [.int .i64 (IntKind.wrap .i64 ((IntKind.wrap .i64 ((IntKind.wrap .i64 ((IntKind.wrap .i64 (p0.Fore + (IntKind.wrap .i64 (9 * p0.Back)))) + t44)) + t52)) + t60))]) rfl ⟨rfl, trivial⟩ ⟨fun b_ => if b_ < w.heap.size then o b_ else (fun _ => 0) (o63 b_), rfl, hs.close0 o (fun _ => 0)⟩
  · rw [b14] at hk H
    replace H := bifT H
    refine x_if hk (b := true) rfl ?_
    refine (show Code.wp _ _ _ _ _ from ?_)
    refine x_seq ?_
    refine wp_region_lit ?_
    refine x_run tab hk (k := 1) (lv := []) (ks := [2]) (e' := [(2, .int .i64 0)]) rfl trivial fun a hk => ?_
    refine wpList_nil ?_
    refine then_n ?_
    refine wp_ret ?_
    refine then_r ?_
    obtain rfl := Option.some.inj H
    exact x_retG hk (rs := [.tmp 2]) (vs := [.int .i64 0]) rfl ⟨rfl, trivial⟩ ⟨fun b_ => if b_ < w.heap.size then o b_ else (fun _ => 0) (o12 b_), rfl, hs.close0 o (fun _ => 0)⟩

/-! tidewrack/tidewracklaw08.awake -/
theorem tidewracklaw08_awake_calls (K : Nat)  (w : World) (o : Nat → Nat)  (r : Bool) (H : tidewracklaw08_awake K = some r) :
    Calls Try.prog 8 #[] w (Ret fun v_ w' => ∃ o' : Nat → Nat, v_ = .bool r ∧ St [] w o w' o') := by
  refine x_enter (vs := []) Try.func8 rfl rfl rfl fun a hk => ?_
  obtain ⟨o0, hs, h0⟩ := St.start w o
  clear h0
  rw [tidewracklaw08_awake] at H
  refine x_seq ?_
  refine wp_region_lit ?_
  refine x_run tab hk (k := 1) (lv := []) (ks := []) (e' := []) rfl trivial fun a hk => ?_
  refine wpList_nil ?_
  refine then_n ?_
  refine x_seq ?_
  refine wp_region_lit ?_
  refine x_run tab hk (k := 1) (lv := []) (ks := [2]) (e' := [(2, .agg #[.int .i64 0, .int .i64 0, .bool false, .bool false, .bool false])]) rfl trivial fun a hk => ?_
  refine x_op hk rfl ?_
  refine op_slice (o := o0) tab hk (vs := [.int .i64 1, .int .i64 31]) (cs := [.int .i64 1, .int .i64 31]) rfl rfl rfl rfl rfl rfl rfl rfl rfl 1 fun bx4 w1 o2 st3 f5 => ?_
  replace hs := hs.loc0 st3 (by decide)
  have f6 : Ft (Own (encInt .i64) 3 (.slice (some ⟨bx4, 0, none⟩) (([1, 31] : List Int)).length 2) ([1, 31] : List Int)) w1 o2 1 := f5.imp fun _ h_ => Own.of_box h_ rfl (by simp)
  have hk := hk.put 3 (.slice (some ⟨bx4, 0, none⟩) (([1, 31] : List Int)).length 2) rfl
  refine x_op hk rfl ?_
  obtain ⟨t10, hc11, H⟩ := bindS H
  refine op_call hk ent_9 (vs := [.agg #[.int .i64 0, .int .i64 0, .bool false, .bool false, .bool false], .slice (some ⟨bx4, 0, none⟩) (([1, 31] : List Int)).length 2]) rfl (style_Style_Set_calls K (⟨0, 0, false, false, false⟩ : T22) (some ⟨bx4, 0, none⟩) 2 ([1, 31] : List Int) _ o2 _ (f6.imp fun _ h_ => Own.rd h_) (Nat.le_refl _)   _ hc11) ?_
  rintro _ w12 ⟨o13, rfl, st14⟩
  replace f6 := f6.st st14 (by decide)
  replace hs := hs.loc0 st14 (by decide)
  have hk := hk.put 4 (.agg #[.int .i64 t10.Fore, .int .i64 t10.Back, .bool t10.Bold, .bool t10.Under, .bool t10.Inverse]) rfl
  refine x_op hk rfl ?_
  refine op_alloc (o := o13) tab (t := 26) (cs := [.int .i64 0, .int .i64 0, .bool false, .bool false, .bool false]) rfl rfl 2 fun bx18 w15 o16 st17 f19 => ?_
  replace f6 := f6.st st17 (by decide)
  replace hs := hs.loc0 st17 (by decide)
  have hk := hk.put 1 (.pointer (some ⟨bx18, 0, none⟩)) rfl
  refine x_op hk rfl ?_
  refine op_store tab hk (t := 26) (v := .agg #[.int .i64 t10.Fore, .int .i64 t10.Back, .bool t10.Bold, .bool t10.Under, .bool t10.Inverse]) (b := bx18) (k := 0) (cs' := [.int .i64 t10.Fore, .int .i64 t10.Back, .bool t10.Bold, .bool t10.Under, .bool t10.Inverse]) rfl rfl rfl rfl rfl rfl f19 rfl rfl fun w20 o21 st22 f19_ => ?_
  replace f6 := f6.st st22 (by decide)
  replace hs := hs.loc0 st22 (by decide)
  replace f19 := f19_
  refine wpList_nil ?_
  refine then_n ?_
  refine x_seq ?_
  refine wp_region_lit ?_
  refine x_run tab hk (k := 4) (lv := [.agg #[.int .i64 t10.Fore, .int .i64 t10.Back, .bool t10.Bold, .bool t10.Under, .bool t10.Inverse], .bool (eqT22 t10 (⟨2, 0, true, false, false⟩ : T22))]) (ks := [1, 8]) (e' := [(1, .pointer (some ⟨bx18, 0, none⟩)), (8, .bool (eqT22 t10 (⟨2, 0, true, false, false⟩ : T22)))]) rfl ⟨(load_box tab rfl rfl f19.now (k := 0) rfl rfl), (ask_eq tab stood rfl rfl rfl rfl), trivial⟩ fun a hk => ?_
  cases b23 : (eqT22 t10 (⟨2, 0, true, false, false⟩ : T22))
  · rw [b23] at hk H
    replace H := bifF H
    refine x_run tab hk (k := 10) (lv := []) (ks := [18]) (e' := [(18, .bool false)]) rfl trivial fun a hk => ?_
    refine x_run tab hk (k := 1) (lv := []) (ks := [0]) (e' := [(0, .bool false)]) rfl trivial fun a hk => ?_
    refine wpList_nil ?_
    refine then_n ?_
    refine wp_ret ?_
    obtain rfl := Option.some.inj H
    exact x_retG hk (rs := [.tmp 0]) (vs := [.bool false]) rfl ⟨rfl, trivial⟩ ⟨fun b_ => if b_ < w.heap.size then o b_ else (fun _ => 0) (o21 b_), rfl, hs.close0 o (fun _ => 0)⟩
  · rw [b23] at hk H
    replace H := bifT H
    refine x_run tab hk (k := 1) (lv := [.agg #[.int .i64 t10.Fore, .int .i64 t10.Back, .bool t10.Bold, .bool t10.Under, .bool t10.Inverse]]) (ks := [8, 9]) (e' := [(8, .bool true), (9, .agg #[.int .i64 t10.Fore, .int .i64 t10.Back, .bool t10.Bold, .bool t10.Under, .bool t10.Inverse])]) rfl ⟨(load_box tab rfl rfl f19.now (k := 0) rfl rfl), trivial⟩ fun a hk => ?_
    refine x_op hk rfl ?_
    obtain ⟨t27, hc28, H⟩ := bindS H
    refine op_call hk ent_12 (vs := [.agg #[.int .i64 t10.Fore, .int .i64 t10.Back, .bool t10.Bold, .bool t10.Under, .bool t10.Inverse]]) rfl (style_Style_Num_calls t10 _ o21    _ hc28) ?_
    rintro _ w29 ⟨o30, rfl, st31⟩
    replace hs := hs.loc0 st31 (by decide)
    have hk := hk.put 10 (.int .i64 t27) rfl
    refine x_run tab hk (k := 3) (lv := []) (ks := [13]) (e' := [(13, .bool (t27 == (83 : Int)))]) rfl trivial fun a hk => ?_
    cases b32 : (t27 == (83 : Int))
    · rw [b32] at hk H
      replace H := bifF H
      refine x_run tab hk (k := 6) (lv := []) (ks := [0]) (e' := [(0, .bool false)]) rfl trivial fun a hk => ?_
      refine wpList_nil ?_
      refine then_n ?_
      refine wp_ret ?_
      obtain rfl := Option.some.inj H
      exact x_retG hk (rs := [.tmp 0]) (vs := [.bool false]) rfl ⟨rfl, trivial⟩ ⟨fun b_ => if b_ < w.heap.size then o b_ else (fun _ => 0) (o30 b_), rfl, hs.close0 o (fun _ => 0)⟩
    · rw [b32] at hk H
      replace H := bifT H
      refine x_run tab hk (k := 1) (lv := []) (ks := [13, 14]) (e' := [(13, .bool true), (14, .agg #[.int .i64 0, .int .i64 0, .bool true, .bool false, .bool false])]) rfl trivial fun a hk => ?_
      refine x_op hk rfl ?_
      obtain ⟨t36, hc37, H⟩ := bindS H
      refine op_call hk ent_9 (vs := [.agg #[.int .i64 0, .int .i64 0, .bool true, .bool false, .bool false], .slice none 0 0]) rfl (style_Style_Set_calls K (⟨0, 0, true, false, false⟩ : T22) none 0 ([] : List Int) _ o30 _ (Ft.of_all (fun _ h_ => absurd h_ (by simp)) _ _ 0) (by simp)   _ hc37) ?_
      rintro _ w38 ⟨o39, rfl, st40⟩
      replace hs := hs.loc0 st40 (by decide)
      have hk := hk.put 15 (.agg #[.int .i64 t36.Fore, .int .i64 t36.Back, .bool t36.Bold, .bool t36.Under, .bool t36.Inverse]) rfl
      refine x_run tab hk (k := 4) (lv := [.bool (eqT22 t36 (⟨0, 0, false, false, false⟩ : T22))]) (ks := [0]) (e' := [(0, .bool (eqT22 t36 (⟨0, 0, false, false, false⟩ : T22)))]) rfl ⟨(ask_eq tab stood rfl rfl rfl rfl), trivial⟩ fun a hk => ?_
      refine wpList_nil ?_
      refine then_n ?_
      refine wp_ret ?_
      obtain rfl := Option.some.inj H
      exact x_retG hk (rs := [.tmp 0]) (vs := [.bool (eqT22 t36 (⟨0, 0, false, false, false⟩ : T22))]) rfl ⟨rfl, trivial⟩ ⟨fun b_ => if b_ < w.heap.size then o b_ else (fun _ => 0) (o39 b_), rfl, hs.close0 o (fun _ => 0)⟩

/-! tidewrack/tidewrackref08.Set -/
theorem tidewrackref08_Set_calls (K : Nat) (p0 : T22) (Ap1 : Option Addr) (cp1 : Nat) (p1 : List Int) (w : World) (o : Nat → Nat) (Lp1 : Nat) (hp1 : Ft (RdC (encInt .i64) Ap1 p1) w o Lp1) (hcp1 : p1.length ≤ cp1) (r : T22) (H : tidewrackref08_Set K p0 p1 = some r) :
    Calls Try.prog 10 #[.agg #[.int .i64 p0.Fore, .int .i64 p0.Back, .bool p0.Bold, .bool p0.Under, .bool p0.Inverse], .slice Ap1 (p1).length cp1] w (Ret fun v_ w' => ∃ o' : Nat → Nat, v_ = .agg #[.int .i64 r.Fore, .int .i64 r.Back, .bool r.Bold, .bool r.Under, .bool r.Inverse] ∧ St [] w o w' o') := by
  refine x_enter (vs := [.agg #[.int .i64 p0.Fore, .int .i64 p0.Back, .bool p0.Bold, .bool p0.Under, .bool p0.Inverse], .slice Ap1 (p1).length cp1]) Try.func10 rfl rfl rfl fun a hk => ?_
  obtain ⟨o0, hs, h0⟩ := St.start w o
  have f901 := h0 _ _ hp1
  clear h0
  rw [tidewrackref08_Set] at H
  refine x_seq ?_
  refine wp_region_lit ?_
  refine x_op hk rfl ?_
  refine op_box (o := o0) (t := 23) (v := .agg #[.int .i64 p0.Fore, .int .i64 p0.Back, .bool p0.Bold, .bool p0.Under, .bool p0.Inverse]) (cs := [.int .i64 p0.Fore, .int .i64 p0.Back, .bool p0.Bold, .bool p0.Under, .bool p0.Inverse]) hk rfl rfl 1 fun bx4 w1 o2 st3 f5 => ?_
  replace f901 := f901.st st3 (by decide)
  replace hs := hs.loc0 st3 (by decide)
  have hk := hk.put 2 (.pointer (some ⟨bx4, 0, none⟩)) rfl
  refine x_op hk rfl ?_
  refine op_alloc (o := o2) tab (t := 23) (cs := [.int .i64 0, .int .i64 0, .bool false, .bool false, .bool false]) rfl rfl 2 fun bx9 w6 o7 st8 f10 => ?_
  replace f5 := f5.st st8 (by decide)
  replace f901 := f901.st st8 (by decide)
  replace hs := hs.loc0 st8 (by decide)
  have hk := hk.put 4 (.pointer (some ⟨bx9, 0, none⟩)) rfl
  refine wpList_nil ?_
  refine then_n ?_
  refine x_seq ?_
  refine x_seq ?_
  refine wp_region_lit ?_
  refine x_run tab hk (k := 3) (lv := []) (ks := [1, 2, 4, 10]) (e' := [(1, .slice Ap1 (p1).length cp1), (2, .pointer (some ⟨bx4, 0, none⟩)), (4, .pointer (some ⟨bx9, 0, none⟩)), (10, .bool (((p1).length : Int) == (0 : Int)))]) rfl trivial fun a hk => ?_
  refine wpList_nil ?_
  refine then_n ?_
  cases b11 : (((p1).length : Int) == (0 : Int))
  · rw [b11] at hk H
    replace H := bifF H
    refine x_if hk (b := false) rfl ?_
    refine (show Code.wp _ _ _ _ _ from ?_)
    refine wp_skip ?_
    refine then_n ?_
    refine x_seq ?_
    refine wp_region_lit ?_
    refine x_run tab hk (k := 1) (lv := []) (ks := [1, 2, 4, 5]) (e' := [(1, .slice Ap1 (p1).length cp1), (2, .pointer (some ⟨bx4, 0, none⟩)), (4, .pointer (some ⟨bx9, 0, none⟩)), (5, .int .i64 0)]) rfl trivial fun a hk => ?_
    refine wpList_nil ?_
    refine then_n ?_
    refine x_mid (fun a_ w_ => ∃ o936 : Nat → Nat, ∃ x937 : T22, Kn 111 a_ [(2, .pointer (some ⟨bx4, 0, none⟩)), (4, .pointer (some ⟨bx9, 0, none⟩))] ∧ St [] w (fun _ => 0) w_ o936 ∧ Ft (Bx bx9 23 [.int .i64 0, .int .i64 0, .bool false, .bool false, .bool false]) w_ o936 186 ∧ Ft (Bx bx4 23 [.int .i64 x937.Fore, .int .i64 x937.Back, .bool x937.Bold, .bool x937.Under, .bool x937.Inverse]) w_ o936 185 ∧ tidewrackref08_Set_j1 x937 = some r) ?_ ?_
    rotate_left
    · rintro a w938 ⟨o936, x937, hk, hs, f10, f5, H⟩
      rw [tidewrackref08_Set_j1] at H
      refine x_seq ?_
      refine wp_region_lit ?_
      refine x_run tab hk (k := 1) (lv := [.agg #[.int .i64 x937.Fore, .int .i64 x937.Back, .bool x937.Bold, .bool x937.Under, .bool x937.Inverse]]) (ks := [4, 110]) (e' := [(4, .pointer (some ⟨bx9, 0, none⟩)), (110, .agg #[.int .i64 x937.Fore, .int .i64 x937.Back, .bool x937.Bold, .bool x937.Under, .bool x937.Inverse])]) rfl ⟨(load_box tab rfl rfl f5.now (k := 0) rfl rfl), trivial⟩ fun a hk => ?_
      refine x_op hk rfl ?_
      refine op_store tab hk (t := 23) (v := .agg #[.int .i64 x937.Fore, .int .i64 x937.Back, .bool x937.Bold, .bool x937.Under, .bool x937.Inverse]) (b := bx9) (k := 0) (cs' := [.int .i64 x937.Fore, .int .i64 x937.Back, .bool x937.Bold, .bool x937.Under, .bool x937.Inverse]) rfl rfl rfl rfl rfl rfl f10 rfl rfl fun w939 o940 st941 f10_ => ?_
      replace hs := hs.loc0 st941 (by decide)
      replace f10 := f10_
      refine wpList_nil ?_
      refine then_n ?_
      refine wp_ret ?_
      obtain rfl := Option.some.inj H
      exact x_retG hk (rs := [.cell 4 23]) (vs := [.agg #[.int .i64 x937.Fore, .int .i64 x937.Back, .bool x937.Bold, .bool x937.Under, .bool x937.Inverse]]) rfl ⟨⟨_, rfl, load_box tab rfl rfl f10.now (k := 0) rfl rfl⟩, trivial⟩ ⟨fun b_ => if b_ < w.heap.size then o b_ else (fun _ => 0) (o940 b_), rfl, hs.close0 o (fun _ => 0)⟩
    refine x_seq ?_
    refine wp_region_lit ?_
    refine x_run tab hk (k := 3) (lv := []) (ks := [1, 2, 4, 5, 12, 13, 14]) (e' := [(1, .slice Ap1 (p1).length cp1), (2, .pointer (some ⟨bx4, 0, none⟩)), (4, .pointer (some ⟨bx9, 0, none⟩)), (5, .int .i64 0), (12, .slice Ap1 (p1).length cp1), (13, .int .i64 ((p1).length : Int)), (14, .int .i64 0)]) rfl trivial fun a hk => ?_
    refine wpList_nil ?_
    refine then_n ?_
    refine wp_block ?_
    refine x_loop (fun j_ a_ w_ => ∃ o1248 : Nat → Nat, ∃ x1249 : T22, ∃ x1250 : Int, ∃ x1251 : Int, Kn 111 a_ [(1, .slice Ap1 (p1).length cp1), (2, .pointer (some ⟨bx4, 0, none⟩)), (4, .pointer (some ⟨bx9, 0, none⟩)), (5, .int .i64 x1250), (12, .slice Ap1 (p1).length cp1), (13, .int .i64 ((p1).length : Int)), (14, .int .i64 x1251)] ∧ St [] w (fun _ => 0) w_ o1248 ∧ Ft (Bx bx9 23 [.int .i64 0, .int .i64 0, .bool false, .bool false, .bool false]) w_ o1248 280 ∧ Ft (Bx bx4 23 [.int .i64 x1249.Fore, .int .i64 x1249.Back, .bool x1249.Bold, .bool x1249.Under, .bool x1249.Inverse]) w_ o1248 279 ∧ Ft (RdC (encInt .i64) Ap1 p1) w_ o1248 0 ∧ tidewrackref08_Set_l2 p1 j_ x1249 x1250 x1251 = some r) (k := K) ⟨(fun b_ => (fun l_ => if l_ = 1 then 279 else if l_ = 2 then 280 else l_) (o7 b_)), p0, 0, 0, (by exact Kn.pick (ks := [1, 2, 4, 5, 12, 13, 14]) hk rfl), (hs.relab0 (fun l_ => if l_ = 1 then 279 else if l_ = 2 then 280 else l_) rfl), (f10.relab (fun l_ => if l_ = 1 then 279 else if l_ = 2 then 280 else l_) rfl), (f5.relab (fun l_ => if l_ = 1 then 279 else if l_ = 2 then 280 else l_) rfl), (f901.relab (fun l_ => if l_ = 1 then 279 else if l_ = 2 then 280 else l_) rfl), H⟩ (by rintro _ _ ⟨_, _, _, _, _, _, _, _, _, H_⟩; exact absurd (show (none : Option T22) = some r from H_) (by simp)) ?_
    rintro k1555 a w1554 ⟨o1248, x1249, x1250, x1251, hk, hs, f10, f5, f901, H⟩
    rw [tidewrackref08_Set_l2] at H
    obtain ⟨lp1556, hlp1557⟩ : ∃ lp_, lp_ = tidewrackref08_Set_l2 p1 k1555 := ⟨_, rfl⟩
    rw [← hlp1557] at H
    refine x_seq ?_
    refine wp_region_lit ?_
    refine x_run tab hk (k := 1) (lv := []) (ks := [1, 2, 4, 5, 12, 13, 14, 15]) (e' := [(1, .slice Ap1 (p1).length cp1), (2, .pointer (some ⟨bx4, 0, none⟩)), (4, .pointer (some ⟨bx9, 0, none⟩)), (5, .int .i64 x1250), (12, .slice Ap1 (p1).length cp1), (13, .int .i64 ((p1).length : Int)), (14, .int .i64 x1251), (15, .bool (decide (x1251 < ((p1).length : Int))))]) rfl trivial fun a hk => ?_
    refine wpList_nil ?_
    refine then_n ?_
    refine x_seq ?_
    cases b1558 : (decide (x1251 < ((p1).length : Int)))
    · rw [b1558] at hk H
      replace H := bifF H
      refine x_if hk (b := false) rfl ?_
      refine (show Code.wp _ _ _ _ _ from ?_)
      refine wp_exit ?_
      refine then_x ?_
      refine then_x ?_
      refine blk_x ?_
      refine then_n ?_
      exact ⟨(fun b_ => (fun l_ => if l_ = 279 then 185 else if l_ = 280 then 186 else l_) (o1248 b_)), x1249, (by exact Kn.pick (ks := [2, 4]) hk rfl), (hs.relab0 (fun l_ => if l_ = 279 then 185 else if l_ = 280 then 186 else l_) rfl), (f10.relab (fun l_ => if l_ = 279 then 185 else if l_ = 280 then 186 else l_) rfl), (f5.relab (fun l_ => if l_ = 279 then 185 else if l_ = 280 then 186 else l_) rfl), H⟩
    · rw [b1558] at hk H
      replace H := bifT H
      refine x_if hk (b := true) rfl ?_
      refine (show Code.wp _ _ _ _ _ from ?_)
      refine wp_skip ?_
      refine then_n ?_
      refine x_seq ?_
      refine wp_block ?_
      refine x_seq ?_
      refine wp_region_lit ?_
      obtain ⟨q1559, H⟩ := ifS H
      obtain ⟨ad1560, hAad1560⟩ := RdC.addr f901.now q1559
      subst hAad1560
      refine x_run tab hk (k := 5) (lv := [.int .i64 (rdD 0 p1 x1251)]) (ks := [1, 2, 4, 5, 6, 7, 12, 13, 14]) (e' := [(1, .slice (some ad1560) (p1).length cp1), (2, .pointer (some ⟨bx4, 0, none⟩)), (4, .pointer (some ⟨bx9, 0, none⟩)), (5, .int .i64 x1250), (6, .int .i64 x1251), (7, .int .i64 (rdD 0 p1 x1251)), (12, .slice (some ad1560) (p1).length cp1), (13, .int .i64 ((p1).length : Int)), (14, .int .i64 x1251)]) rfl ⟨q1559, (load1 tab rfl (RdC.at0 (E := (encInt .i64)) (d := 0) (i := x1251) f901.now q1559 rfl)), trivial⟩ fun a hk => ?_
      refine wpList_nil ?_
      refine then_n ?_
      refine x_seq ?_
      refine x_seq ?_
      refine wp_region_lit ?_
      refine x_run tab hk (k := 2) (lv := []) (ks := [1, 2, 4, 5, 6, 7, 12, 13, 14, 20]) (e' := [(1, .slice (some ad1560) (p1).length cp1), (2, .pointer (some ⟨bx4, 0, none⟩)), (4, .pointer (some ⟨bx9, 0, none⟩)), (5, .int .i64 x1250), (6, .int .i64 x1251), (7, .int .i64 (rdD 0 p1 x1251)), (12, .slice (some ad1560) (p1).length cp1), (13, .int .i64 ((p1).length : Int)), (14, .int .i64 x1251), (20, .bool (decide (x1250 > (0 : Int))))]) rfl trivial fun a hk => ?_
      refine wpList_nil ?_
      refine then_n ?_
      cases b1561 : (decide (x1250 > (0 : Int)))
      · rw [b1561] at hk H
        replace H := bifF H
        refine x_if hk (b := false) rfl ?_
        refine (show Code.wp _ _ _ _ _ from ?_)
        refine wp_skip ?_
        refine then_n ?_
        refine x_mid (fun a_ w_ => ∃ o1595 : Nat → Nat, Kn 111 a_ [(1, .slice (some ad1560) (p1).length cp1), (2, .pointer (some ⟨bx4, 0, none⟩)), (4, .pointer (some ⟨bx9, 0, none⟩)), (5, .int .i64 x1250), (7, .int .i64 (rdD 0 p1 x1251)), (12, .slice (some ad1560) (p1).length cp1), (13, .int .i64 ((p1).length : Int)), (14, .int .i64 x1251)] ∧ St [] w (fun _ => 0) w_ o1595 ∧ Ft (Bx bx9 23 [.int .i64 0, .int .i64 0, .bool false, .bool false, .bool false]) w_ o1595 330 ∧ Ft (Bx bx4 23 [.int .i64 x1249.Fore, .int .i64 x1249.Back, .bool x1249.Bold, .bool x1249.Under, .bool x1249.Inverse]) w_ o1595 329 ∧ Ft (RdC (encInt .i64) (some ad1560) p1) w_ o1595 0 ∧ tidewrackref08_Set_j3 p1 x1249 x1250 x1251 lp1556 = some r) ?_ ?_
        rotate_left
        · rintro a w1596 ⟨o1595, hk, hs, f10, f5, f901, H⟩
          rw [tidewrackref08_Set_j3] at H
          refine x_mid (fun a_ w_ => ∃ o1607 : Nat → Nat, ∃ x1608 : T22, Kn 111 a_ [(1, .slice (some ad1560) (p1).length cp1), (2, .pointer (some ⟨bx4, 0, none⟩)), (4, .pointer (some ⟨bx9, 0, none⟩)), (5, .int .i64 x1250), (7, .int .i64 (rdD 0 p1 x1251)), (12, .slice (some ad1560) (p1).length cp1), (13, .int .i64 ((p1).length : Int)), (14, .int .i64 x1251)] ∧ St [] w (fun _ => 0) w_ o1607 ∧ Ft (Bx bx9 23 [.int .i64 0, .int .i64 0, .bool false, .bool false, .bool false]) w_ o1607 332 ∧ Ft (Bx bx4 23 [.int .i64 x1608.Fore, .int .i64 x1608.Back, .bool x1608.Bold, .bool x1608.Under, .bool x1608.Inverse]) w_ o1607 331 ∧ Ft (RdC (encInt .i64) (some ad1560) p1) w_ o1607 0 ∧ tidewrackref08_Set_j4 p1 x1250 x1251 lp1556 x1608 = some r) ?_ ?_
          rotate_left
          · rintro a w1609 ⟨o1607, x1608, hk, hs, f10, f5, f901, H⟩
            rw [tidewrackref08_Set_j4] at H
            refine x_mid (fun a_ w_ => ∃ o1631 : Nat → Nat, ∃ x1632 : T22, Kn 111 a_ [(1, .slice (some ad1560) (p1).length cp1), (2, .pointer (some ⟨bx4, 0, none⟩)), (4, .pointer (some ⟨bx9, 0, none⟩)), (5, .int .i64 x1250), (7, .int .i64 (rdD 0 p1 x1251)), (12, .slice (some ad1560) (p1).length cp1), (13, .int .i64 ((p1).length : Int)), (14, .int .i64 x1251)] ∧ St [] w (fun _ => 0) w_ o1631 ∧ Ft (Bx bx9 23 [.int .i64 0, .int .i64 0, .bool false, .bool false, .bool false]) w_ o1631 336 ∧ Ft (Bx bx4 23 [.int .i64 x1632.Fore, .int .i64 x1632.Back, .bool x1632.Bold, .bool x1632.Under, .bool x1632.Inverse]) w_ o1631 335 ∧ Ft (RdC (encInt .i64) (some ad1560) p1) w_ o1631 0 ∧ tidewrackref08_Set_j5 p1 x1250 x1251 lp1556 x1632 = some r) ?_ ?_
            rotate_left
            · rintro a w1633 ⟨o1631, x1632, hk, hs, f10, f5, f901, H⟩
              rw [tidewrackref08_Set_j5] at H
              refine x_mid (fun a_ w_ => ∃ o1655 : Nat → Nat, ∃ x1656 : T22, Kn 111 a_ [(1, .slice (some ad1560) (p1).length cp1), (2, .pointer (some ⟨bx4, 0, none⟩)), (4, .pointer (some ⟨bx9, 0, none⟩)), (5, .int .i64 x1250), (7, .int .i64 (rdD 0 p1 x1251)), (12, .slice (some ad1560) (p1).length cp1), (13, .int .i64 ((p1).length : Int)), (14, .int .i64 x1251)] ∧ St [] w (fun _ => 0) w_ o1655 ∧ Ft (Bx bx9 23 [.int .i64 0, .int .i64 0, .bool false, .bool false, .bool false]) w_ o1655 340 ∧ Ft (Bx bx4 23 [.int .i64 x1656.Fore, .int .i64 x1656.Back, .bool x1656.Bold, .bool x1656.Under, .bool x1656.Inverse]) w_ o1655 339 ∧ Ft (RdC (encInt .i64) (some ad1560) p1) w_ o1655 0 ∧ tidewrackref08_Set_j6 p1 x1250 x1251 lp1556 x1656 = some r) ?_ ?_
              rotate_left
              · rintro a w1657 ⟨o1655, x1656, hk, hs, f10, f5, f901, H⟩
                rw [tidewrackref08_Set_j6] at H
                refine x_mid (fun a_ w_ => ∃ o1679 : Nat → Nat, ∃ x1680 : T22, Kn 111 a_ [(1, .slice (some ad1560) (p1).length cp1), (2, .pointer (some ⟨bx4, 0, none⟩)), (4, .pointer (some ⟨bx9, 0, none⟩)), (5, .int .i64 x1250), (7, .int .i64 (rdD 0 p1 x1251)), (12, .slice (some ad1560) (p1).length cp1), (13, .int .i64 ((p1).length : Int)), (14, .int .i64 x1251)] ∧ St [] w (fun _ => 0) w_ o1679 ∧ Ft (Bx bx9 23 [.int .i64 0, .int .i64 0, .bool false, .bool false, .bool false]) w_ o1679 344 ∧ Ft (Bx bx4 23 [.int .i64 x1680.Fore, .int .i64 x1680.Back, .bool x1680.Bold, .bool x1680.Under, .bool x1680.Inverse]) w_ o1679 343 ∧ Ft (RdC (encInt .i64) (some ad1560) p1) w_ o1679 0 ∧ tidewrackref08_Set_j7 p1 x1250 x1251 lp1556 x1680 = some r) ?_ ?_
                rotate_left
                · rintro a w1681 ⟨o1679, x1680, hk, hs, f10, f5, f901, H⟩
                  rw [tidewrackref08_Set_j7] at H
                  refine x_mid (fun a_ w_ => ∃ o1703 : Nat → Nat, ∃ x1704 : T22, Kn 111 a_ [(1, .slice (some ad1560) (p1).length cp1), (2, .pointer (some ⟨bx4, 0, none⟩)), (4, .pointer (some ⟨bx9, 0, none⟩)), (5, .int .i64 x1250), (7, .int .i64 (rdD 0 p1 x1251)), (12, .slice (some ad1560) (p1).length cp1), (13, .int .i64 ((p1).length : Int)), (14, .int .i64 x1251)] ∧ St [] w (fun _ => 0) w_ o1703 ∧ Ft (Bx bx9 23 [.int .i64 0, .int .i64 0, .bool false, .bool false, .bool false]) w_ o1703 348 ∧ Ft (Bx bx4 23 [.int .i64 x1704.Fore, .int .i64 x1704.Back, .bool x1704.Bold, .bool x1704.Under, .bool x1704.Inverse]) w_ o1703 347 ∧ Ft (RdC (encInt .i64) (some ad1560) p1) w_ o1703 0 ∧ tidewrackref08_Set_j8 p1 x1250 x1251 lp1556 x1704 = some r) ?_ ?_
                  rotate_left
                  · rintro a w1705 ⟨o1703, x1704, hk, hs, f10, f5, f901, H⟩
                    rw [tidewrackref08_Set_j8] at H
                    refine x_mid (fun a_ w_ => ∃ o1716 : Nat → Nat, ∃ x1717 : T22, Kn 111 a_ [(1, .slice (some ad1560) (p1).length cp1), (2, .pointer (some ⟨bx4, 0, none⟩)), (4, .pointer (some ⟨bx9, 0, none⟩)), (5, .int .i64 x1250), (7, .int .i64 (rdD 0 p1 x1251)), (12, .slice (some ad1560) (p1).length cp1), (13, .int .i64 ((p1).length : Int)), (14, .int .i64 x1251)] ∧ St [] w (fun _ => 0) w_ o1716 ∧ Ft (Bx bx9 23 [.int .i64 0, .int .i64 0, .bool false, .bool false, .bool false]) w_ o1716 350 ∧ Ft (Bx bx4 23 [.int .i64 x1717.Fore, .int .i64 x1717.Back, .bool x1717.Bold, .bool x1717.Under, .bool x1717.Inverse]) w_ o1716 349 ∧ Ft (RdC (encInt .i64) (some ad1560) p1) w_ o1716 0 ∧ tidewrackref08_Set_j9 p1 x1250 x1251 lp1556 x1717 = some r) ?_ ?_
                    rotate_left
                    · rintro a w1718 ⟨o1716, x1717, hk, hs, f10, f5, f901, H⟩
                      rw [tidewrackref08_Set_j9] at H
                      refine x_mid (fun a_ w_ => ∃ o1740 : Nat → Nat, ∃ x1741 : T22, Kn 111 a_ [(1, .slice (some ad1560) (p1).length cp1), (2, .pointer (some ⟨bx4, 0, none⟩)), (4, .pointer (some ⟨bx9, 0, none⟩)), (5, .int .i64 x1250), (7, .int .i64 (rdD 0 p1 x1251)), (12, .slice (some ad1560) (p1).length cp1), (13, .int .i64 ((p1).length : Int)), (14, .int .i64 x1251)] ∧ St [] w (fun _ => 0) w_ o1740 ∧ Ft (Bx bx9 23 [.int .i64 0, .int .i64 0, .bool false, .bool false, .bool false]) w_ o1740 354 ∧ Ft (Bx bx4 23 [.int .i64 x1741.Fore, .int .i64 x1741.Back, .bool x1741.Bold, .bool x1741.Under, .bool x1741.Inverse]) w_ o1740 353 ∧ Ft (RdC (encInt .i64) (some ad1560) p1) w_ o1740 0 ∧ tidewrackref08_Set_j10 p1 x1250 x1251 lp1556 x1741 = some r) ?_ ?_
                      rotate_left
                      · rintro a w1742 ⟨o1740, x1741, hk, hs, f10, f5, f901, H⟩
                        rw [tidewrackref08_Set_j10] at H
                        refine x_seq ?_
                        refine wp_region_lit ?_
                        refine x_run tab hk (k := 2) (lv := []) (ks := [1, 2, 4, 5, 12, 13, 14, 107]) (e' := [(1, .slice (some ad1560) (p1).length cp1), (2, .pointer (some ⟨bx4, 0, none⟩)), (4, .pointer (some ⟨bx9, 0, none⟩)), (5, .int .i64 x1250), (12, .slice (some ad1560) (p1).length cp1), (13, .int .i64 ((p1).length : Int)), (14, .int .i64 x1251), (107, .bool ((rdD 0 p1 x1251) == (49 : Int)))]) rfl trivial fun a hk => ?_
                        refine wpList_nil ?_
                        refine then_n ?_
                        cases b1743 : ((rdD 0 p1 x1251) == (49 : Int))
                        · rw [b1743] at hk H
                          replace H := bifF H
                          refine x_if hk (b := false) rfl ?_
                          refine (show Code.wp _ _ _ _ _ from ?_)
                          refine wp_skip ?_
                          refine blk_n ?_
                          refine then_n ?_
                          refine wp_region_lit ?_
                          refine x_run tab hk (k := 2) (lv := []) (ks := [1, 2, 4, 5, 12, 13, 14]) (e' := [(1, .slice (some ad1560) (p1).length cp1), (2, .pointer (some ⟨bx4, 0, none⟩)), (4, .pointer (some ⟨bx9, 0, none⟩)), (5, .int .i64 x1250), (12, .slice (some ad1560) (p1).length cp1), (13, .int .i64 ((p1).length : Int)), (14, .int .i64 (IntKind.wrap .i64 (x1251 + 1)))]) rfl trivial fun a hk => ?_
                          refine wpList_nil ?_
                          refine then_n ?_
                          exact ⟨k1555, Nat.le_refl _, (fun b_ => (fun l_ => if l_ = 353 then 279 else if l_ = 354 then 280 else l_) (o1740 b_)), x1741, x1250, (IntKind.wrap .i64 (x1251 + 1)), (by exact Kn.pick (ks := [1, 2, 4, 5, 12, 13, 14]) hk rfl), (hs.relab0 (fun l_ => if l_ = 353 then 279 else if l_ = 354 then 280 else l_) rfl), (f10.relab (fun l_ => if l_ = 353 then 279 else if l_ = 354 then 280 else l_) rfl), (f5.relab (fun l_ => if l_ = 353 then 279 else if l_ = 354 then 280 else l_) rfl), (f901.relab (fun l_ => if l_ = 353 then 279 else if l_ = 354 then 280 else l_) rfl), (hlp1557 ▸ H)⟩
                        · rw [b1743] at hk H
                          replace H := bifT H
                          refine x_if hk (b := true) rfl ?_
                          refine (show Code.wp _ _ _ _ _ from ?_)
                          refine wp_region_lit ?_
                          refine x_run tab hk (k := 1) (lv := []) (ks := [1, 2, 4, 5, 12, 13, 14, 108]) (e' := [(1, .slice (some ad1560) (p1).length cp1), (2, .pointer (some ⟨bx4, 0, none⟩)), (4, .pointer (some ⟨bx9, 0, none⟩)), (5, .int .i64 x1250), (12, .slice (some ad1560) (p1).length cp1), (13, .int .i64 ((p1).length : Int)), (14, .int .i64 x1251), (108, .pointer (some ((⟨bx4, 0, none⟩ : Addr).add 1)))]) rfl trivial fun a hk => ?_
                          refine x_op hk rfl ?_
                          refine op_store tab hk (t := 3) (v := .int .i64 0) (b := bx4) (k := 1) (cs' := [.int .i64 x1741.Fore, .int .i64 0, .bool x1741.Bold, .bool x1741.Under, .bool x1741.Inverse]) rfl rfl rfl rfl rfl rfl f5 rfl rfl fun w1744 o1745 st1746 f5_ => ?_
                          replace f10 := f10.st st1746 (by decide)
                          replace f901 := f901.st st1746 (by decide)
                          replace hs := hs.loc0 st1746 (by decide)
                          replace f5 := f5_
                          refine wpList_nil ?_
                          refine blk_n ?_
                          refine then_n ?_
                          refine wp_region_lit ?_
                          refine x_run tab hk (k := 2) (lv := []) (ks := [1, 2, 4, 5, 12, 13, 14]) (e' := [(1, .slice (some ad1560) (p1).length cp1), (2, .pointer (some ⟨bx4, 0, none⟩)), (4, .pointer (some ⟨bx9, 0, none⟩)), (5, .int .i64 x1250), (12, .slice (some ad1560) (p1).length cp1), (13, .int .i64 ((p1).length : Int)), (14, .int .i64 (IntKind.wrap .i64 (x1251 + 1)))]) rfl trivial fun a hk => ?_
                          refine wpList_nil ?_
                          refine then_n ?_
                          exact ⟨k1555, Nat.le_refl _, (fun b_ => (fun l_ => if l_ = 353 then 279 else if l_ = 354 then 280 else l_) (o1745 b_)), (⟨x1741.Fore, 0, x1741.Bold, x1741.Under, x1741.Inverse⟩ : T22), x1250, (IntKind.wrap .i64 (x1251 + 1)), (by exact Kn.pick (ks := [1, 2, 4, 5, 12, 13, 14]) hk rfl), (hs.relab0 (fun l_ => if l_ = 353 then 279 else if l_ = 354 then 280 else l_) rfl), (f10.relab (fun l_ => if l_ = 353 then 279 else if l_ = 354 then 280 else l_) rfl), (f5.relab (fun l_ => if l_ = 353 then 279 else if l_ = 354 then 280 else l_) rfl), (f901.relab (fun l_ => if l_ = 353 then 279 else if l_ = 354 then 280 else l_) rfl), (hlp1557 ▸ H)⟩
                      refine x_mid (fun a_ w_ => ∃ o1754 : Nat → Nat, ∃ x1755 : Bool, Kn 111 a_ [(1, .slice (some ad1560) (p1).length cp1), (2, .pointer (some ⟨bx4, 0, none⟩)), (4, .pointer (some ⟨bx9, 0, none⟩)), (5, .int .i64 x1250), (7, .int .i64 (rdD 0 p1 x1251)), (12, .slice (some ad1560) (p1).length cp1), (13, .int .i64 ((p1).length : Int)), (14, .int .i64 x1251), (102, .bool x1755)] ∧ St [] w (fun _ => 0) w_ o1754 ∧ Ft (Bx bx9 23 [.int .i64 0, .int .i64 0, .bool false, .bool false, .bool false]) w_ o1754 356 ∧ Ft (Bx bx4 23 [.int .i64 x1717.Fore, .int .i64 x1717.Back, .bool x1717.Bold, .bool x1717.Under, .bool x1717.Inverse]) w_ o1754 355 ∧ Ft (RdC (encInt .i64) (some ad1560) p1) w_ o1754 0 ∧ tidewrackref08_Set_j11 p1 x1250 x1251 lp1556 x1717 x1755 = some r) ?_ ?_
                      rotate_left
                      · rintro a w1756 ⟨o1754, x1755, hk, hs, f10, f5, f901, H⟩
                        rw [tidewrackref08_Set_j11] at H
                        cases b1757 : x1755
                        · rw [b1757] at hk H
                          replace H := bifF H
                          refine x_if hk (b := false) rfl ?_
                          refine (show Code.wp _ _ _ _ _ from ?_)
                          refine wp_skip ?_
                          refine then_n ?_
                          exact ⟨(fun b_ => (fun l_ => if l_ = 355 then 353 else if l_ = 356 then 354 else l_) (o1754 b_)), x1717, (by exact Kn.pick (ks := [1, 2, 4, 5, 7, 12, 13, 14]) hk rfl), (hs.relab0 (fun l_ => if l_ = 355 then 353 else if l_ = 356 then 354 else l_) rfl), (f10.relab (fun l_ => if l_ = 355 then 353 else if l_ = 356 then 354 else l_) rfl), (f5.relab (fun l_ => if l_ = 355 then 353 else if l_ = 356 then 354 else l_) rfl), (f901.relab (fun l_ => if l_ = 355 then 353 else if l_ = 356 then 354 else l_) rfl), H⟩
                        · rw [b1757] at hk H
                          replace H := bifT H
                          refine x_if hk (b := true) rfl ?_
                          refine (show Code.wp _ _ _ _ _ from ?_)
                          refine wp_region_lit ?_
                          refine x_run tab hk (k := 3) (lv := []) (ks := [1, 2, 4, 5, 7, 12, 13, 14, 104, 105]) (e' := [(1, .slice (some ad1560) (p1).length cp1), (2, .pointer (some ⟨bx4, 0, none⟩)), (4, .pointer (some ⟨bx9, 0, none⟩)), (5, .int .i64 x1250), (7, .int .i64 (rdD 0 p1 x1251)), (12, .slice (some ad1560) (p1).length cp1), (13, .int .i64 ((p1).length : Int)), (14, .int .i64 x1251), (104, .int .i64 (IntKind.wrap .i64 ((rdD 0 p1 x1251) - 39))), (105, .pointer (some ((⟨bx4, 0, none⟩ : Addr).add 1)))]) rfl trivial fun a hk => ?_
                          refine x_op hk rfl ?_
                          refine op_store tab hk (t := 3) (v := .int .i64 (IntKind.wrap .i64 ((rdD 0 p1 x1251) - 39))) (b := bx4) (k := 1) (cs' := [.int .i64 x1717.Fore, .int .i64 (IntKind.wrap .i64 ((rdD 0 p1 x1251) - 39)), .bool x1717.Bold, .bool x1717.Under, .bool x1717.Inverse]) rfl rfl rfl rfl rfl rfl f5 rfl rfl fun w1758 o1759 st1760 f5_ => ?_
                          replace f10 := f10.st st1760 (by decide)
                          replace f901 := f901.st st1760 (by decide)
                          replace hs := hs.loc0 st1760 (by decide)
                          replace f5 := f5_
                          refine wpList_nil ?_
                          refine then_n ?_
                          exact ⟨(fun b_ => (fun l_ => if l_ = 355 then 353 else if l_ = 356 then 354 else l_) (o1759 b_)), (⟨x1717.Fore, (IntKind.wrap .i64 ((rdD 0 p1 x1251) - 39)), x1717.Bold, x1717.Under, x1717.Inverse⟩ : T22), (by exact Kn.pick (ks := [1, 2, 4, 5, 7, 12, 13, 14]) hk rfl), (hs.relab0 (fun l_ => if l_ = 355 then 353 else if l_ = 356 then 354 else l_) rfl), (f10.relab (fun l_ => if l_ = 355 then 353 else if l_ = 356 then 354 else l_) rfl), (f5.relab (fun l_ => if l_ = 355 then 353 else if l_ = 356 then 354 else l_) rfl), (f901.relab (fun l_ => if l_ = 355 then 353 else if l_ = 356 then 354 else l_) rfl), H⟩
                      refine wp_region_lit ?_
                      refine x_run tab hk (k := 3) (lv := []) (ks := [1, 2, 4, 5, 7, 12, 13, 14, 99]) (e' := [(1, .slice (some ad1560) (p1).length cp1), (2, .pointer (some ⟨bx4, 0, none⟩)), (4, .pointer (some ⟨bx9, 0, none⟩)), (5, .int .i64 x1250), (7, .int .i64 (rdD 0 p1 x1251)), (12, .slice (some ad1560) (p1).length cp1), (13, .int .i64 ((p1).length : Int)), (14, .int .i64 x1251), (99, .bool (decide ((rdD 0 p1 x1251) ≥ (40 : Int))))]) rfl trivial fun a hk => ?_
                      cases b1761 : (decide ((rdD 0 p1 x1251) ≥ (40 : Int)))
                      · rw [b1761] at hk H
                        replace H := bifF H
                        refine x_run tab hk (k := 3) (lv := []) (ks := [1, 2, 4, 5, 7, 12, 13, 14, 102]) (e' := [(1, .slice (some ad1560) (p1).length cp1), (2, .pointer (some ⟨bx4, 0, none⟩)), (4, .pointer (some ⟨bx9, 0, none⟩)), (5, .int .i64 x1250), (7, .int .i64 (rdD 0 p1 x1251)), (12, .slice (some ad1560) (p1).length cp1), (13, .int .i64 ((p1).length : Int)), (14, .int .i64 x1251), (102, .bool false)]) rfl trivial fun a hk => ?_
                        refine wpList_nil ?_
                        refine then_n ?_
                        exact ⟨(fun b_ => (fun l_ => if l_ = 349 then 355 else if l_ = 350 then 356 else l_) (o1716 b_)), false, (by exact Kn.pick (ks := [1, 2, 4, 5, 7, 12, 13, 14, 102]) hk rfl), (hs.relab0 (fun l_ => if l_ = 349 then 355 else if l_ = 350 then 356 else l_) rfl), (f10.relab (fun l_ => if l_ = 349 then 355 else if l_ = 350 then 356 else l_) rfl), (f5.relab (fun l_ => if l_ = 349 then 355 else if l_ = 350 then 356 else l_) rfl), (f901.relab (fun l_ => if l_ = 349 then 355 else if l_ = 350 then 356 else l_) rfl), H⟩
                      · rw [b1761] at hk H
                        replace H := bifT H
                        refine x_run tab hk (k := 3) (lv := []) (ks := [1, 2, 4, 5, 7, 12, 13, 14, 102]) (e' := [(1, .slice (some ad1560) (p1).length cp1), (2, .pointer (some ⟨bx4, 0, none⟩)), (4, .pointer (some ⟨bx9, 0, none⟩)), (5, .int .i64 x1250), (7, .int .i64 (rdD 0 p1 x1251)), (12, .slice (some ad1560) (p1).length cp1), (13, .int .i64 ((p1).length : Int)), (14, .int .i64 x1251), (102, .bool (decide ((rdD 0 p1 x1251) ≤ (47 : Int))))]) rfl trivial fun a hk => ?_
                        refine wpList_nil ?_
                        refine then_n ?_
                        exact ⟨(fun b_ => (fun l_ => if l_ = 349 then 355 else if l_ = 350 then 356 else l_) (o1716 b_)), (decide ((rdD 0 p1 x1251) ≤ (47 : Int))), (by exact Kn.pick (ks := [1, 2, 4, 5, 7, 12, 13, 14, 102]) hk rfl), (hs.relab0 (fun l_ => if l_ = 349 then 355 else if l_ = 350 then 356 else l_) rfl), (f10.relab (fun l_ => if l_ = 349 then 355 else if l_ = 350 then 356 else l_) rfl), (f5.relab (fun l_ => if l_ = 349 then 355 else if l_ = 350 then 356 else l_) rfl), (f901.relab (fun l_ => if l_ = 349 then 355 else if l_ = 350 then 356 else l_) rfl), H⟩
                    refine x_seq ?_
                    refine wp_region_lit ?_
                    refine x_run tab hk (k := 2) (lv := []) (ks := [1, 2, 4, 5, 7, 12, 13, 14, 95]) (e' := [(1, .slice (some ad1560) (p1).length cp1), (2, .pointer (some ⟨bx4, 0, none⟩)), (4, .pointer (some ⟨bx9, 0, none⟩)), (5, .int .i64 x1250), (7, .int .i64 (rdD 0 p1 x1251)), (12, .slice (some ad1560) (p1).length cp1), (13, .int .i64 ((p1).length : Int)), (14, .int .i64 x1251), (95, .bool ((rdD 0 p1 x1251) == (39 : Int)))]) rfl trivial fun a hk => ?_
                    refine wpList_nil ?_
                    refine then_n ?_
                    cases b1762 : ((rdD 0 p1 x1251) == (39 : Int))
                    · rw [b1762] at hk H
                      replace H := bifF H
                      refine x_if hk (b := false) rfl ?_
                      refine (show Code.wp _ _ _ _ _ from ?_)
                      refine wp_skip ?_
                      refine then_n ?_
                      exact ⟨(fun b_ => (fun l_ => if l_ = 347 then 349 else if l_ = 348 then 350 else l_) (o1703 b_)), x1704, (by exact Kn.pick (ks := [1, 2, 4, 5, 7, 12, 13, 14]) hk rfl), (hs.relab0 (fun l_ => if l_ = 347 then 349 else if l_ = 348 then 350 else l_) rfl), (f10.relab (fun l_ => if l_ = 347 then 349 else if l_ = 348 then 350 else l_) rfl), (f5.relab (fun l_ => if l_ = 347 then 349 else if l_ = 348 then 350 else l_) rfl), (f901.relab (fun l_ => if l_ = 347 then 349 else if l_ = 348 then 350 else l_) rfl), H⟩
                    · rw [b1762] at hk H
                      replace H := bifT H
                      refine x_if hk (b := true) rfl ?_
                      refine (show Code.wp _ _ _ _ _ from ?_)
                      refine wp_region_lit ?_
                      refine x_run tab hk (k := 1) (lv := []) (ks := [1, 2, 4, 5, 7, 12, 13, 14, 96]) (e' := [(1, .slice (some ad1560) (p1).length cp1), (2, .pointer (some ⟨bx4, 0, none⟩)), (4, .pointer (some ⟨bx9, 0, none⟩)), (5, .int .i64 x1250), (7, .int .i64 (rdD 0 p1 x1251)), (12, .slice (some ad1560) (p1).length cp1), (13, .int .i64 ((p1).length : Int)), (14, .int .i64 x1251), (96, .pointer (some ⟨bx4, 0, none⟩))]) rfl trivial fun a hk => ?_
                      refine x_op hk rfl ?_
                      refine op_store tab hk (t := 3) (v := .int .i64 0) (b := bx4) (k := 0) (cs' := [.int .i64 0, .int .i64 x1704.Back, .bool x1704.Bold, .bool x1704.Under, .bool x1704.Inverse]) rfl rfl rfl rfl rfl rfl f5 rfl rfl fun w1763 o1764 st1765 f5_ => ?_
                      replace f10 := f10.st st1765 (by decide)
                      replace f901 := f901.st st1765 (by decide)
                      replace hs := hs.loc0 st1765 (by decide)
                      replace f5 := f5_
                      refine wpList_nil ?_
                      refine then_n ?_
                      exact ⟨(fun b_ => (fun l_ => if l_ = 347 then 349 else if l_ = 348 then 350 else l_) (o1764 b_)), (⟨0, x1704.Back, x1704.Bold, x1704.Under, x1704.Inverse⟩ : T22), (by exact Kn.pick (ks := [1, 2, 4, 5, 7, 12, 13, 14]) hk rfl), (hs.relab0 (fun l_ => if l_ = 347 then 349 else if l_ = 348 then 350 else l_) rfl), (f10.relab (fun l_ => if l_ = 347 then 349 else if l_ = 348 then 350 else l_) rfl), (f5.relab (fun l_ => if l_ = 347 then 349 else if l_ = 348 then 350 else l_) rfl), (f901.relab (fun l_ => if l_ = 347 then 349 else if l_ = 348 then 350 else l_) rfl), H⟩
                  refine x_mid (fun a_ w_ => ∃ o1773 : Nat → Nat, ∃ x1774 : Bool, Kn 111 a_ [(1, .slice (some ad1560) (p1).length cp1), (2, .pointer (some ⟨bx4, 0, none⟩)), (4, .pointer (some ⟨bx9, 0, none⟩)), (5, .int .i64 x1250), (7, .int .i64 (rdD 0 p1 x1251)), (12, .slice (some ad1560) (p1).length cp1), (13, .int .i64 ((p1).length : Int)), (14, .int .i64 x1251), (90, .bool x1774)] ∧ St [] w (fun _ => 0) w_ o1773 ∧ Ft (Bx bx9 23 [.int .i64 0, .int .i64 0, .bool false, .bool false, .bool false]) w_ o1773 358 ∧ Ft (Bx bx4 23 [.int .i64 x1680.Fore, .int .i64 x1680.Back, .bool x1680.Bold, .bool x1680.Under, .bool x1680.Inverse]) w_ o1773 357 ∧ Ft (RdC (encInt .i64) (some ad1560) p1) w_ o1773 0 ∧ tidewrackref08_Set_j12 p1 x1250 x1251 lp1556 x1680 x1774 = some r) ?_ ?_
                  rotate_left
                  · rintro a w1775 ⟨o1773, x1774, hk, hs, f10, f5, f901, H⟩
                    rw [tidewrackref08_Set_j12] at H
                    cases b1776 : x1774
                    · rw [b1776] at hk H
                      replace H := bifF H
                      refine x_if hk (b := false) rfl ?_
                      refine (show Code.wp _ _ _ _ _ from ?_)
                      refine wp_skip ?_
                      refine then_n ?_
                      exact ⟨(fun b_ => (fun l_ => if l_ = 357 then 347 else if l_ = 358 then 348 else l_) (o1773 b_)), x1680, (by exact Kn.pick (ks := [1, 2, 4, 5, 7, 12, 13, 14]) hk rfl), (hs.relab0 (fun l_ => if l_ = 357 then 347 else if l_ = 358 then 348 else l_) rfl), (f10.relab (fun l_ => if l_ = 357 then 347 else if l_ = 358 then 348 else l_) rfl), (f5.relab (fun l_ => if l_ = 357 then 347 else if l_ = 358 then 348 else l_) rfl), (f901.relab (fun l_ => if l_ = 357 then 347 else if l_ = 358 then 348 else l_) rfl), H⟩
                    · rw [b1776] at hk H
                      replace H := bifT H
                      refine x_if hk (b := true) rfl ?_
                      refine (show Code.wp _ _ _ _ _ from ?_)
                      refine wp_region_lit ?_
                      refine x_run tab hk (k := 3) (lv := []) (ks := [1, 2, 4, 5, 7, 12, 13, 14, 92, 93]) (e' := [(1, .slice (some ad1560) (p1).length cp1), (2, .pointer (some ⟨bx4, 0, none⟩)), (4, .pointer (some ⟨bx9, 0, none⟩)), (5, .int .i64 x1250), (7, .int .i64 (rdD 0 p1 x1251)), (12, .slice (some ad1560) (p1).length cp1), (13, .int .i64 ((p1).length : Int)), (14, .int .i64 x1251), (92, .int .i64 (IntKind.wrap .i64 ((rdD 0 p1 x1251) - 29))), (93, .pointer (some ⟨bx4, 0, none⟩))]) rfl trivial fun a hk => ?_
                      refine x_op hk rfl ?_
                      refine op_store tab hk (t := 3) (v := .int .i64 (IntKind.wrap .i64 ((rdD 0 p1 x1251) - 29))) (b := bx4) (k := 0) (cs' := [.int .i64 (IntKind.wrap .i64 ((rdD 0 p1 x1251) - 29)), .int .i64 x1680.Back, .bool x1680.Bold, .bool x1680.Under, .bool x1680.Inverse]) rfl rfl rfl rfl rfl rfl f5 rfl rfl fun w1777 o1778 st1779 f5_ => ?_
                      replace f10 := f10.st st1779 (by decide)
                      replace f901 := f901.st st1779 (by decide)
                      replace hs := hs.loc0 st1779 (by decide)
                      replace f5 := f5_
                      refine wpList_nil ?_
                      refine then_n ?_
                      exact ⟨(fun b_ => (fun l_ => if l_ = 357 then 347 else if l_ = 358 then 348 else l_) (o1778 b_)), (⟨(IntKind.wrap .i64 ((rdD 0 p1 x1251) - 29)), x1680.Back, x1680.Bold, x1680.Under, x1680.Inverse⟩ : T22), (by exact Kn.pick (ks := [1, 2, 4, 5, 7, 12, 13, 14]) hk rfl), (hs.relab0 (fun l_ => if l_ = 357 then 347 else if l_ = 358 then 348 else l_) rfl), (f10.relab (fun l_ => if l_ = 357 then 347 else if l_ = 358 then 348 else l_) rfl), (f5.relab (fun l_ => if l_ = 357 then 347 else if l_ = 358 then 348 else l_) rfl), (f901.relab (fun l_ => if l_ = 357 then 347 else if l_ = 358 then 348 else l_) rfl), H⟩
                  refine wp_region_lit ?_
                  refine x_run tab hk (k := 3) (lv := []) (ks := [1, 2, 4, 5, 7, 12, 13, 14, 87]) (e' := [(1, .slice (some ad1560) (p1).length cp1), (2, .pointer (some ⟨bx4, 0, none⟩)), (4, .pointer (some ⟨bx9, 0, none⟩)), (5, .int .i64 x1250), (7, .int .i64 (rdD 0 p1 x1251)), (12, .slice (some ad1560) (p1).length cp1), (13, .int .i64 ((p1).length : Int)), (14, .int .i64 x1251), (87, .bool (decide ((rdD 0 p1 x1251) ≥ (30 : Int))))]) rfl trivial fun a hk => ?_
                  cases b1780 : (decide ((rdD 0 p1 x1251) ≥ (30 : Int)))
                  · rw [b1780] at hk H
                    replace H := bifF H
                    refine x_run tab hk (k := 3) (lv := []) (ks := [1, 2, 4, 5, 7, 12, 13, 14, 90]) (e' := [(1, .slice (some ad1560) (p1).length cp1), (2, .pointer (some ⟨bx4, 0, none⟩)), (4, .pointer (some ⟨bx9, 0, none⟩)), (5, .int .i64 x1250), (7, .int .i64 (rdD 0 p1 x1251)), (12, .slice (some ad1560) (p1).length cp1), (13, .int .i64 ((p1).length : Int)), (14, .int .i64 x1251), (90, .bool false)]) rfl trivial fun a hk => ?_
                    refine wpList_nil ?_
                    refine then_n ?_
                    exact ⟨(fun b_ => (fun l_ => if l_ = 343 then 357 else if l_ = 344 then 358 else l_) (o1679 b_)), false, (by exact Kn.pick (ks := [1, 2, 4, 5, 7, 12, 13, 14, 90]) hk rfl), (hs.relab0 (fun l_ => if l_ = 343 then 357 else if l_ = 344 then 358 else l_) rfl), (f10.relab (fun l_ => if l_ = 343 then 357 else if l_ = 344 then 358 else l_) rfl), (f5.relab (fun l_ => if l_ = 343 then 357 else if l_ = 344 then 358 else l_) rfl), (f901.relab (fun l_ => if l_ = 343 then 357 else if l_ = 344 then 358 else l_) rfl), H⟩
                  · rw [b1780] at hk H
                    replace H := bifT H
                    refine x_run tab hk (k := 3) (lv := []) (ks := [1, 2, 4, 5, 7, 12, 13, 14, 90]) (e' := [(1, .slice (some ad1560) (p1).length cp1), (2, .pointer (some ⟨bx4, 0, none⟩)), (4, .pointer (some ⟨bx9, 0, none⟩)), (5, .int .i64 x1250), (7, .int .i64 (rdD 0 p1 x1251)), (12, .slice (some ad1560) (p1).length cp1), (13, .int .i64 ((p1).length : Int)), (14, .int .i64 x1251), (90, .bool (decide ((rdD 0 p1 x1251) ≤ (37 : Int))))]) rfl trivial fun a hk => ?_
                    refine wpList_nil ?_
                    refine then_n ?_
                    exact ⟨(fun b_ => (fun l_ => if l_ = 343 then 357 else if l_ = 344 then 358 else l_) (o1679 b_)), (decide ((rdD 0 p1 x1251) ≤ (37 : Int))), (by exact Kn.pick (ks := [1, 2, 4, 5, 7, 12, 13, 14, 90]) hk rfl), (hs.relab0 (fun l_ => if l_ = 343 then 357 else if l_ = 344 then 358 else l_) rfl), (f10.relab (fun l_ => if l_ = 343 then 357 else if l_ = 344 then 358 else l_) rfl), (f5.relab (fun l_ => if l_ = 343 then 357 else if l_ = 344 then 358 else l_) rfl), (f901.relab (fun l_ => if l_ = 343 then 357 else if l_ = 344 then 358 else l_) rfl), H⟩
                refine x_mid (fun a_ w_ => ∃ o1788 : Nat → Nat, ∃ x1789 : Bool, Kn 111 a_ [(1, .slice (some ad1560) (p1).length cp1), (2, .pointer (some ⟨bx4, 0, none⟩)), (4, .pointer (some ⟨bx9, 0, none⟩)), (5, .int .i64 x1250), (7, .int .i64 (rdD 0 p1 x1251)), (12, .slice (some ad1560) (p1).length cp1), (13, .int .i64 ((p1).length : Int)), (14, .int .i64 x1251), (81, .bool x1789)] ∧ St [] w (fun _ => 0) w_ o1788 ∧ Ft (Bx bx9 23 [.int .i64 0, .int .i64 0, .bool false, .bool false, .bool false]) w_ o1788 360 ∧ Ft (Bx bx4 23 [.int .i64 x1656.Fore, .int .i64 x1656.Back, .bool x1656.Bold, .bool x1656.Under, .bool x1656.Inverse]) w_ o1788 359 ∧ Ft (RdC (encInt .i64) (some ad1560) p1) w_ o1788 0 ∧ tidewrackref08_Set_j13 p1 x1250 x1251 lp1556 x1656 x1789 = some r) ?_ ?_
                rotate_left
                · rintro a w1790 ⟨o1788, x1789, hk, hs, f10, f5, f901, H⟩
                  rw [tidewrackref08_Set_j13] at H
                  cases b1791 : x1789
                  · rw [b1791] at hk H
                    replace H := bifF H
                    refine x_if hk (b := false) rfl ?_
                    refine (show Code.wp _ _ _ _ _ from ?_)
                    refine wp_skip ?_
                    refine then_n ?_
                    exact ⟨(fun b_ => (fun l_ => if l_ = 359 then 343 else if l_ = 360 then 344 else l_) (o1788 b_)), x1656, (by exact Kn.pick (ks := [1, 2, 4, 5, 7, 12, 13, 14]) hk rfl), (hs.relab0 (fun l_ => if l_ = 359 then 343 else if l_ = 360 then 344 else l_) rfl), (f10.relab (fun l_ => if l_ = 359 then 343 else if l_ = 360 then 344 else l_) rfl), (f5.relab (fun l_ => if l_ = 359 then 343 else if l_ = 360 then 344 else l_) rfl), (f901.relab (fun l_ => if l_ = 359 then 343 else if l_ = 360 then 344 else l_) rfl), H⟩
                  · rw [b1791] at hk H
                    replace H := bifT H
                    refine x_if hk (b := true) rfl ?_
                    refine (show Code.wp _ _ _ _ _ from ?_)
                    refine wp_region_lit ?_
                    refine x_run tab hk (k := 3) (lv := []) (ks := [1, 2, 4, 5, 7, 12, 13, 14, 83, 84]) (e' := [(1, .slice (some ad1560) (p1).length cp1), (2, .pointer (some ⟨bx4, 0, none⟩)), (4, .pointer (some ⟨bx9, 0, none⟩)), (5, .int .i64 x1250), (7, .int .i64 (rdD 0 p1 x1251)), (12, .slice (some ad1560) (p1).length cp1), (13, .int .i64 ((p1).length : Int)), (14, .int .i64 x1251), (83, .bool (decide ((rdD 0 p1 x1251) < (10 : Int)))), (84, .pointer (some ((⟨bx4, 0, none⟩ : Addr).add 4)))]) rfl trivial fun a hk => ?_
                    refine x_op hk rfl ?_
                    refine op_store tab hk (t := 4) (v := .bool (decide ((rdD 0 p1 x1251) < (10 : Int)))) (b := bx4) (k := 4) (cs' := [.int .i64 x1656.Fore, .int .i64 x1656.Back, .bool x1656.Bold, .bool x1656.Under, .bool (decide ((rdD 0 p1 x1251) < (10 : Int)))]) rfl rfl rfl rfl rfl rfl f5 rfl rfl fun w1792 o1793 st1794 f5_ => ?_
                    replace f10 := f10.st st1794 (by decide)
                    replace f901 := f901.st st1794 (by decide)
                    replace hs := hs.loc0 st1794 (by decide)
                    replace f5 := f5_
                    refine wpList_nil ?_
                    refine then_n ?_
                    exact ⟨(fun b_ => (fun l_ => if l_ = 359 then 343 else if l_ = 360 then 344 else l_) (o1793 b_)), (⟨x1656.Fore, x1656.Back, x1656.Bold, x1656.Under, (decide ((rdD 0 p1 x1251) < (10 : Int)))⟩ : T22), (by exact Kn.pick (ks := [1, 2, 4, 5, 7, 12, 13, 14]) hk rfl), (hs.relab0 (fun l_ => if l_ = 359 then 343 else if l_ = 360 then 344 else l_) rfl), (f10.relab (fun l_ => if l_ = 359 then 343 else if l_ = 360 then 344 else l_) rfl), (f5.relab (fun l_ => if l_ = 359 then 343 else if l_ = 360 then 344 else l_) rfl), (f901.relab (fun l_ => if l_ = 359 then 343 else if l_ = 360 then 344 else l_) rfl), H⟩
                refine wp_region_lit ?_
                refine x_run tab hk (k := 3) (lv := []) (ks := [1, 2, 4, 5, 7, 12, 13, 14, 78]) (e' := [(1, .slice (some ad1560) (p1).length cp1), (2, .pointer (some ⟨bx4, 0, none⟩)), (4, .pointer (some ⟨bx9, 0, none⟩)), (5, .int .i64 x1250), (7, .int .i64 (rdD 0 p1 x1251)), (12, .slice (some ad1560) (p1).length cp1), (13, .int .i64 ((p1).length : Int)), (14, .int .i64 x1251), (78, .bool ((rdD 0 p1 x1251) == (7 : Int)))]) rfl trivial fun a hk => ?_
                cases b1795 : ((rdD 0 p1 x1251) == (7 : Int))
                · rw [b1795] at hk H
                  replace H := bifF H
                  refine x_run tab hk (k := 3) (lv := []) (ks := [1, 2, 4, 5, 7, 12, 13, 14, 81]) (e' := [(1, .slice (some ad1560) (p1).length cp1), (2, .pointer (some ⟨bx4, 0, none⟩)), (4, .pointer (some ⟨bx9, 0, none⟩)), (5, .int .i64 x1250), (7, .int .i64 (rdD 0 p1 x1251)), (12, .slice (some ad1560) (p1).length cp1), (13, .int .i64 ((p1).length : Int)), (14, .int .i64 x1251), (81, .bool ((rdD 0 p1 x1251) == (27 : Int)))]) rfl trivial fun a hk => ?_
                  refine wpList_nil ?_
                  refine then_n ?_
                  exact ⟨(fun b_ => (fun l_ => if l_ = 339 then 359 else if l_ = 340 then 360 else l_) (o1655 b_)), ((rdD 0 p1 x1251) == (27 : Int)), (by exact Kn.pick (ks := [1, 2, 4, 5, 7, 12, 13, 14, 81]) hk rfl), (hs.relab0 (fun l_ => if l_ = 339 then 359 else if l_ = 340 then 360 else l_) rfl), (f10.relab (fun l_ => if l_ = 339 then 359 else if l_ = 340 then 360 else l_) rfl), (f5.relab (fun l_ => if l_ = 339 then 359 else if l_ = 340 then 360 else l_) rfl), (f901.relab (fun l_ => if l_ = 339 then 359 else if l_ = 340 then 360 else l_) rfl), H⟩
                · rw [b1795] at hk H
                  replace H := bifT H
                  refine x_run tab hk (k := 3) (lv := []) (ks := [1, 2, 4, 5, 7, 12, 13, 14, 81]) (e' := [(1, .slice (some ad1560) (p1).length cp1), (2, .pointer (some ⟨bx4, 0, none⟩)), (4, .pointer (some ⟨bx9, 0, none⟩)), (5, .int .i64 x1250), (7, .int .i64 (rdD 0 p1 x1251)), (12, .slice (some ad1560) (p1).length cp1), (13, .int .i64 ((p1).length : Int)), (14, .int .i64 x1251), (81, .bool true)]) rfl trivial fun a hk => ?_
                  refine wpList_nil ?_
                  refine then_n ?_
                  exact ⟨(fun b_ => (fun l_ => if l_ = 339 then 359 else if l_ = 340 then 360 else l_) (o1655 b_)), true, (by exact Kn.pick (ks := [1, 2, 4, 5, 7, 12, 13, 14, 81]) hk rfl), (hs.relab0 (fun l_ => if l_ = 339 then 359 else if l_ = 340 then 360 else l_) rfl), (f10.relab (fun l_ => if l_ = 339 then 359 else if l_ = 340 then 360 else l_) rfl), (f5.relab (fun l_ => if l_ = 339 then 359 else if l_ = 340 then 360 else l_) rfl), (f901.relab (fun l_ => if l_ = 339 then 359 else if l_ = 340 then 360 else l_) rfl), H⟩
              refine x_mid (fun a_ w_ => ∃ o1803 : Nat → Nat, ∃ x1804 : Bool, Kn 111 a_ [(1, .slice (some ad1560) (p1).length cp1), (2, .pointer (some ⟨bx4, 0, none⟩)), (4, .pointer (some ⟨bx9, 0, none⟩)), (5, .int .i64 x1250), (7, .int .i64 (rdD 0 p1 x1251)), (12, .slice (some ad1560) (p1).length cp1), (13, .int .i64 ((p1).length : Int)), (14, .int .i64 x1251), (72, .bool x1804)] ∧ St [] w (fun _ => 0) w_ o1803 ∧ Ft (Bx bx9 23 [.int .i64 0, .int .i64 0, .bool false, .bool false, .bool false]) w_ o1803 362 ∧ Ft (Bx bx4 23 [.int .i64 x1632.Fore, .int .i64 x1632.Back, .bool x1632.Bold, .bool x1632.Under, .bool x1632.Inverse]) w_ o1803 361 ∧ Ft (RdC (encInt .i64) (some ad1560) p1) w_ o1803 0 ∧ tidewrackref08_Set_j14 p1 x1250 x1251 lp1556 x1632 x1804 = some r) ?_ ?_
              rotate_left
              · rintro a w1805 ⟨o1803, x1804, hk, hs, f10, f5, f901, H⟩
                rw [tidewrackref08_Set_j14] at H
                cases b1806 : x1804
                · rw [b1806] at hk H
                  replace H := bifF H
                  refine x_if hk (b := false) rfl ?_
                  refine (show Code.wp _ _ _ _ _ from ?_)
                  refine wp_skip ?_
                  refine then_n ?_
                  exact ⟨(fun b_ => (fun l_ => if l_ = 361 then 339 else if l_ = 362 then 340 else l_) (o1803 b_)), x1632, (by exact Kn.pick (ks := [1, 2, 4, 5, 7, 12, 13, 14]) hk rfl), (hs.relab0 (fun l_ => if l_ = 361 then 339 else if l_ = 362 then 340 else l_) rfl), (f10.relab (fun l_ => if l_ = 361 then 339 else if l_ = 362 then 340 else l_) rfl), (f5.relab (fun l_ => if l_ = 361 then 339 else if l_ = 362 then 340 else l_) rfl), (f901.relab (fun l_ => if l_ = 361 then 339 else if l_ = 362 then 340 else l_) rfl), H⟩
                · rw [b1806] at hk H
                  replace H := bifT H
                  refine x_if hk (b := true) rfl ?_
                  refine (show Code.wp _ _ _ _ _ from ?_)
                  refine wp_region_lit ?_
                  refine x_run tab hk (k := 3) (lv := []) (ks := [1, 2, 4, 5, 7, 12, 13, 14, 74, 75]) (e' := [(1, .slice (some ad1560) (p1).length cp1), (2, .pointer (some ⟨bx4, 0, none⟩)), (4, .pointer (some ⟨bx9, 0, none⟩)), (5, .int .i64 x1250), (7, .int .i64 (rdD 0 p1 x1251)), (12, .slice (some ad1560) (p1).length cp1), (13, .int .i64 ((p1).length : Int)), (14, .int .i64 x1251), (74, .bool (decide ((rdD 0 p1 x1251) < (10 : Int)))), (75, .pointer (some ((⟨bx4, 0, none⟩ : Addr).add 3)))]) rfl trivial fun a hk => ?_
                  refine x_op hk rfl ?_
                  refine op_store tab hk (t := 4) (v := .bool (decide ((rdD 0 p1 x1251) < (10 : Int)))) (b := bx4) (k := 3) (cs' := [.int .i64 x1632.Fore, .int .i64 x1632.Back, .bool x1632.Bold, .bool (decide ((rdD 0 p1 x1251) < (10 : Int))), .bool x1632.Inverse]) rfl rfl rfl rfl rfl rfl f5 rfl rfl fun w1807 o1808 st1809 f5_ => ?_
                  replace f10 := f10.st st1809 (by decide)
                  replace f901 := f901.st st1809 (by decide)
                  replace hs := hs.loc0 st1809 (by decide)
                  replace f5 := f5_
                  refine wpList_nil ?_
                  refine then_n ?_
                  exact ⟨(fun b_ => (fun l_ => if l_ = 361 then 339 else if l_ = 362 then 340 else l_) (o1808 b_)), (⟨x1632.Fore, x1632.Back, x1632.Bold, (decide ((rdD 0 p1 x1251) < (10 : Int))), x1632.Inverse⟩ : T22), (by exact Kn.pick (ks := [1, 2, 4, 5, 7, 12, 13, 14]) hk rfl), (hs.relab0 (fun l_ => if l_ = 361 then 339 else if l_ = 362 then 340 else l_) rfl), (f10.relab (fun l_ => if l_ = 361 then 339 else if l_ = 362 then 340 else l_) rfl), (f5.relab (fun l_ => if l_ = 361 then 339 else if l_ = 362 then 340 else l_) rfl), (f901.relab (fun l_ => if l_ = 361 then 339 else if l_ = 362 then 340 else l_) rfl), H⟩
              refine wp_region_lit ?_
              refine x_run tab hk (k := 3) (lv := []) (ks := [1, 2, 4, 5, 7, 12, 13, 14, 69]) (e' := [(1, .slice (some ad1560) (p1).length cp1), (2, .pointer (some ⟨bx4, 0, none⟩)), (4, .pointer (some ⟨bx9, 0, none⟩)), (5, .int .i64 x1250), (7, .int .i64 (rdD 0 p1 x1251)), (12, .slice (some ad1560) (p1).length cp1), (13, .int .i64 ((p1).length : Int)), (14, .int .i64 x1251), (69, .bool ((rdD 0 p1 x1251) == (4 : Int)))]) rfl trivial fun a hk => ?_
              cases b1810 : ((rdD 0 p1 x1251) == (4 : Int))
              · rw [b1810] at hk H
                replace H := bifF H
                refine x_run tab hk (k := 3) (lv := []) (ks := [1, 2, 4, 5, 7, 12, 13, 14, 72]) (e' := [(1, .slice (some ad1560) (p1).length cp1), (2, .pointer (some ⟨bx4, 0, none⟩)), (4, .pointer (some ⟨bx9, 0, none⟩)), (5, .int .i64 x1250), (7, .int .i64 (rdD 0 p1 x1251)), (12, .slice (some ad1560) (p1).length cp1), (13, .int .i64 ((p1).length : Int)), (14, .int .i64 x1251), (72, .bool ((rdD 0 p1 x1251) == (24 : Int)))]) rfl trivial fun a hk => ?_
                refine wpList_nil ?_
                refine then_n ?_
                exact ⟨(fun b_ => (fun l_ => if l_ = 335 then 361 else if l_ = 336 then 362 else l_) (o1631 b_)), ((rdD 0 p1 x1251) == (24 : Int)), (by exact Kn.pick (ks := [1, 2, 4, 5, 7, 12, 13, 14, 72]) hk rfl), (hs.relab0 (fun l_ => if l_ = 335 then 361 else if l_ = 336 then 362 else l_) rfl), (f10.relab (fun l_ => if l_ = 335 then 361 else if l_ = 336 then 362 else l_) rfl), (f5.relab (fun l_ => if l_ = 335 then 361 else if l_ = 336 then 362 else l_) rfl), (f901.relab (fun l_ => if l_ = 335 then 361 else if l_ = 336 then 362 else l_) rfl), H⟩
              · rw [b1810] at hk H
                replace H := bifT H
                refine x_run tab hk (k := 3) (lv := []) (ks := [1, 2, 4, 5, 7, 12, 13, 14, 72]) (e' := [(1, .slice (some ad1560) (p1).length cp1), (2, .pointer (some ⟨bx4, 0, none⟩)), (4, .pointer (some ⟨bx9, 0, none⟩)), (5, .int .i64 x1250), (7, .int .i64 (rdD 0 p1 x1251)), (12, .slice (some ad1560) (p1).length cp1), (13, .int .i64 ((p1).length : Int)), (14, .int .i64 x1251), (72, .bool true)]) rfl trivial fun a hk => ?_
                refine wpList_nil ?_
                refine then_n ?_
                exact ⟨(fun b_ => (fun l_ => if l_ = 335 then 361 else if l_ = 336 then 362 else l_) (o1631 b_)), true, (by exact Kn.pick (ks := [1, 2, 4, 5, 7, 12, 13, 14, 72]) hk rfl), (hs.relab0 (fun l_ => if l_ = 335 then 361 else if l_ = 336 then 362 else l_) rfl), (f10.relab (fun l_ => if l_ = 335 then 361 else if l_ = 336 then 362 else l_) rfl), (f5.relab (fun l_ => if l_ = 335 then 361 else if l_ = 336 then 362 else l_) rfl), (f901.relab (fun l_ => if l_ = 335 then 361 else if l_ = 336 then 362 else l_) rfl), H⟩
            refine x_mid (fun a_ w_ => ∃ o1818 : Nat → Nat, ∃ x1819 : Bool, Kn 111 a_ [(1, .slice (some ad1560) (p1).length cp1), (2, .pointer (some ⟨bx4, 0, none⟩)), (4, .pointer (some ⟨bx9, 0, none⟩)), (5, .int .i64 x1250), (7, .int .i64 (rdD 0 p1 x1251)), (12, .slice (some ad1560) (p1).length cp1), (13, .int .i64 ((p1).length : Int)), (14, .int .i64 x1251), (63, .bool x1819)] ∧ St [] w (fun _ => 0) w_ o1818 ∧ Ft (Bx bx9 23 [.int .i64 0, .int .i64 0, .bool false, .bool false, .bool false]) w_ o1818 364 ∧ Ft (Bx bx4 23 [.int .i64 x1608.Fore, .int .i64 x1608.Back, .bool x1608.Bold, .bool x1608.Under, .bool x1608.Inverse]) w_ o1818 363 ∧ Ft (RdC (encInt .i64) (some ad1560) p1) w_ o1818 0 ∧ tidewrackref08_Set_j15 p1 x1250 x1251 lp1556 x1608 x1819 = some r) ?_ ?_
            rotate_left
            · rintro a w1820 ⟨o1818, x1819, hk, hs, f10, f5, f901, H⟩
              rw [tidewrackref08_Set_j15] at H
              cases b1821 : x1819
              · rw [b1821] at hk H
                replace H := bifF H
                refine x_if hk (b := false) rfl ?_
                refine (show Code.wp _ _ _ _ _ from ?_)
                refine wp_skip ?_
                refine then_n ?_
                exact ⟨(fun b_ => (fun l_ => if l_ = 363 then 335 else if l_ = 364 then 336 else l_) (o1818 b_)), x1608, (by exact Kn.pick (ks := [1, 2, 4, 5, 7, 12, 13, 14]) hk rfl), (hs.relab0 (fun l_ => if l_ = 363 then 335 else if l_ = 364 then 336 else l_) rfl), (f10.relab (fun l_ => if l_ = 363 then 335 else if l_ = 364 then 336 else l_) rfl), (f5.relab (fun l_ => if l_ = 363 then 335 else if l_ = 364 then 336 else l_) rfl), (f901.relab (fun l_ => if l_ = 363 then 335 else if l_ = 364 then 336 else l_) rfl), H⟩
              · rw [b1821] at hk H
                replace H := bifT H
                refine x_if hk (b := true) rfl ?_
                refine (show Code.wp _ _ _ _ _ from ?_)
                refine wp_region_lit ?_
                refine x_run tab hk (k := 3) (lv := []) (ks := [1, 2, 4, 5, 7, 12, 13, 14, 65, 66]) (e' := [(1, .slice (some ad1560) (p1).length cp1), (2, .pointer (some ⟨bx4, 0, none⟩)), (4, .pointer (some ⟨bx9, 0, none⟩)), (5, .int .i64 x1250), (7, .int .i64 (rdD 0 p1 x1251)), (12, .slice (some ad1560) (p1).length cp1), (13, .int .i64 ((p1).length : Int)), (14, .int .i64 x1251), (65, .bool (decide ((rdD 0 p1 x1251) < (10 : Int)))), (66, .pointer (some ((⟨bx4, 0, none⟩ : Addr).add 2)))]) rfl trivial fun a hk => ?_
                refine x_op hk rfl ?_
                refine op_store tab hk (t := 4) (v := .bool (decide ((rdD 0 p1 x1251) < (10 : Int)))) (b := bx4) (k := 2) (cs' := [.int .i64 x1608.Fore, .int .i64 x1608.Back, .bool (decide ((rdD 0 p1 x1251) < (10 : Int))), .bool x1608.Under, .bool x1608.Inverse]) rfl rfl rfl rfl rfl rfl f5 rfl rfl fun w1822 o1823 st1824 f5_ => ?_
                replace f10 := f10.st st1824 (by decide)
                replace f901 := f901.st st1824 (by decide)
                replace hs := hs.loc0 st1824 (by decide)
                replace f5 := f5_
                refine wpList_nil ?_
                refine then_n ?_
                exact ⟨(fun b_ => (fun l_ => if l_ = 363 then 335 else if l_ = 364 then 336 else l_) (o1823 b_)), (⟨x1608.Fore, x1608.Back, (decide ((rdD 0 p1 x1251) < (10 : Int))), x1608.Under, x1608.Inverse⟩ : T22), (by exact Kn.pick (ks := [1, 2, 4, 5, 7, 12, 13, 14]) hk rfl), (hs.relab0 (fun l_ => if l_ = 363 then 335 else if l_ = 364 then 336 else l_) rfl), (f10.relab (fun l_ => if l_ = 363 then 335 else if l_ = 364 then 336 else l_) rfl), (f5.relab (fun l_ => if l_ = 363 then 335 else if l_ = 364 then 336 else l_) rfl), (f901.relab (fun l_ => if l_ = 363 then 335 else if l_ = 364 then 336 else l_) rfl), H⟩
            refine wp_region_lit ?_
            refine x_run tab hk (k := 3) (lv := []) (ks := [1, 2, 4, 5, 7, 12, 13, 14, 60]) (e' := [(1, .slice (some ad1560) (p1).length cp1), (2, .pointer (some ⟨bx4, 0, none⟩)), (4, .pointer (some ⟨bx9, 0, none⟩)), (5, .int .i64 x1250), (7, .int .i64 (rdD 0 p1 x1251)), (12, .slice (some ad1560) (p1).length cp1), (13, .int .i64 ((p1).length : Int)), (14, .int .i64 x1251), (60, .bool ((rdD 0 p1 x1251) == (1 : Int)))]) rfl trivial fun a hk => ?_
            cases b1825 : ((rdD 0 p1 x1251) == (1 : Int))
            · rw [b1825] at hk H
              replace H := bifF H
              refine x_run tab hk (k := 3) (lv := []) (ks := [1, 2, 4, 5, 7, 12, 13, 14, 63]) (e' := [(1, .slice (some ad1560) (p1).length cp1), (2, .pointer (some ⟨bx4, 0, none⟩)), (4, .pointer (some ⟨bx9, 0, none⟩)), (5, .int .i64 x1250), (7, .int .i64 (rdD 0 p1 x1251)), (12, .slice (some ad1560) (p1).length cp1), (13, .int .i64 ((p1).length : Int)), (14, .int .i64 x1251), (63, .bool ((rdD 0 p1 x1251) == (22 : Int)))]) rfl trivial fun a hk => ?_
              refine wpList_nil ?_
              refine then_n ?_
              exact ⟨(fun b_ => (fun l_ => if l_ = 331 then 363 else if l_ = 332 then 364 else l_) (o1607 b_)), ((rdD 0 p1 x1251) == (22 : Int)), (by exact Kn.pick (ks := [1, 2, 4, 5, 7, 12, 13, 14, 63]) hk rfl), (hs.relab0 (fun l_ => if l_ = 331 then 363 else if l_ = 332 then 364 else l_) rfl), (f10.relab (fun l_ => if l_ = 331 then 363 else if l_ = 332 then 364 else l_) rfl), (f5.relab (fun l_ => if l_ = 331 then 363 else if l_ = 332 then 364 else l_) rfl), (f901.relab (fun l_ => if l_ = 331 then 363 else if l_ = 332 then 364 else l_) rfl), H⟩
            · rw [b1825] at hk H
              replace H := bifT H
              refine x_run tab hk (k := 3) (lv := []) (ks := [1, 2, 4, 5, 7, 12, 13, 14, 63]) (e' := [(1, .slice (some ad1560) (p1).length cp1), (2, .pointer (some ⟨bx4, 0, none⟩)), (4, .pointer (some ⟨bx9, 0, none⟩)), (5, .int .i64 x1250), (7, .int .i64 (rdD 0 p1 x1251)), (12, .slice (some ad1560) (p1).length cp1), (13, .int .i64 ((p1).length : Int)), (14, .int .i64 x1251), (63, .bool true)]) rfl trivial fun a hk => ?_
              refine wpList_nil ?_
              refine then_n ?_
              exact ⟨(fun b_ => (fun l_ => if l_ = 331 then 363 else if l_ = 332 then 364 else l_) (o1607 b_)), true, (by exact Kn.pick (ks := [1, 2, 4, 5, 7, 12, 13, 14, 63]) hk rfl), (hs.relab0 (fun l_ => if l_ = 331 then 363 else if l_ = 332 then 364 else l_) rfl), (f10.relab (fun l_ => if l_ = 331 then 363 else if l_ = 332 then 364 else l_) rfl), (f5.relab (fun l_ => if l_ = 331 then 363 else if l_ = 332 then 364 else l_) rfl), (f901.relab (fun l_ => if l_ = 331 then 363 else if l_ = 332 then 364 else l_) rfl), H⟩
          refine x_seq ?_
          refine wp_region_lit ?_
          refine x_run tab hk (k := 2) (lv := []) (ks := [1, 2, 4, 5, 7, 12, 13, 14, 56]) (e' := [(1, .slice (some ad1560) (p1).length cp1), (2, .pointer (some ⟨bx4, 0, none⟩)), (4, .pointer (some ⟨bx9, 0, none⟩)), (5, .int .i64 x1250), (7, .int .i64 (rdD 0 p1 x1251)), (12, .slice (some ad1560) (p1).length cp1), (13, .int .i64 ((p1).length : Int)), (14, .int .i64 x1251), (56, .bool ((rdD 0 p1 x1251) == (0 : Int)))]) rfl trivial fun a hk => ?_
          refine wpList_nil ?_
          refine then_n ?_
          cases b1826 : ((rdD 0 p1 x1251) == (0 : Int))
          · rw [b1826] at hk H
            replace H := bifF H
            refine x_if hk (b := false) rfl ?_
            refine (show Code.wp _ _ _ _ _ from ?_)
            refine wp_skip ?_
            refine then_n ?_
            exact ⟨(fun b_ => (fun l_ => if l_ = 329 then 331 else if l_ = 330 then 332 else l_) (o1595 b_)), x1249, (by exact Kn.pick (ks := [1, 2, 4, 5, 7, 12, 13, 14]) hk rfl), (hs.relab0 (fun l_ => if l_ = 329 then 331 else if l_ = 330 then 332 else l_) rfl), (f10.relab (fun l_ => if l_ = 329 then 331 else if l_ = 330 then 332 else l_) rfl), (f5.relab (fun l_ => if l_ = 329 then 331 else if l_ = 330 then 332 else l_) rfl), (f901.relab (fun l_ => if l_ = 329 then 331 else if l_ = 330 then 332 else l_) rfl), H⟩
          · rw [b1826] at hk H
            replace H := bifT H
            refine x_if hk (b := true) rfl ?_
            refine (show Code.wp _ _ _ _ _ from ?_)
            refine wp_region_lit ?_
            refine x_run tab hk (k := 1) (lv := []) (ks := [1, 2, 4, 5, 7, 12, 13, 14, 57]) (e' := [(1, .slice (some ad1560) (p1).length cp1), (2, .pointer (some ⟨bx4, 0, none⟩)), (4, .pointer (some ⟨bx9, 0, none⟩)), (5, .int .i64 x1250), (7, .int .i64 (rdD 0 p1 x1251)), (12, .slice (some ad1560) (p1).length cp1), (13, .int .i64 ((p1).length : Int)), (14, .int .i64 x1251), (57, .agg #[.int .i64 0, .int .i64 0, .bool false, .bool false, .bool false])]) rfl trivial fun a hk => ?_
            refine x_op hk rfl ?_
            refine op_store tab hk (t := 23) (v := .agg #[.int .i64 0, .int .i64 0, .bool false, .bool false, .bool false]) (b := bx4) (k := 0) (cs' := [.int .i64 0, .int .i64 0, .bool false, .bool false, .bool false]) rfl rfl rfl rfl rfl rfl f5 rfl rfl fun w1827 o1828 st1829 f5_ => ?_
            replace f10 := f10.st st1829 (by decide)
            replace f901 := f901.st st1829 (by decide)
            replace hs := hs.loc0 st1829 (by decide)
            replace f5 := f5_
            refine wpList_nil ?_
            refine then_n ?_
            exact ⟨(fun b_ => (fun l_ => if l_ = 329 then 331 else if l_ = 330 then 332 else l_) (o1828 b_)), (⟨0, 0, false, false, false⟩ : T22), (by exact Kn.pick (ks := [1, 2, 4, 5, 7, 12, 13, 14]) hk rfl), (hs.relab0 (fun l_ => if l_ = 329 then 331 else if l_ = 330 then 332 else l_) rfl), (f10.relab (fun l_ => if l_ = 329 then 331 else if l_ = 330 then 332 else l_) rfl), (f5.relab (fun l_ => if l_ = 329 then 331 else if l_ = 330 then 332 else l_) rfl), (f901.relab (fun l_ => if l_ = 329 then 331 else if l_ = 330 then 332 else l_) rfl), H⟩
        refine x_mid (fun a_ w_ => ∃ o1837 : Nat → Nat, ∃ x1838 : Bool, Kn 111 a_ [(1, .slice (some ad1560) (p1).length cp1), (2, .pointer (some ⟨bx4, 0, none⟩)), (4, .pointer (some ⟨bx9, 0, none⟩)), (5, .int .i64 x1250), (6, .int .i64 x1251), (7, .int .i64 (rdD 0 p1 x1251)), (12, .slice (some ad1560) (p1).length cp1), (13, .int .i64 ((p1).length : Int)), (14, .int .i64 x1251), (28, .bool x1838)] ∧ St [] w (fun _ => 0) w_ o1837 ∧ Ft (Bx bx9 23 [.int .i64 0, .int .i64 0, .bool false, .bool false, .bool false]) w_ o1837 366 ∧ Ft (Bx bx4 23 [.int .i64 x1249.Fore, .int .i64 x1249.Back, .bool x1249.Bold, .bool x1249.Under, .bool x1249.Inverse]) w_ o1837 365 ∧ Ft (RdC (encInt .i64) (some ad1560) p1) w_ o1837 0 ∧ tidewrackref08_Set_j16 p1 x1249 x1250 x1251 lp1556 x1838 = some r) ?_ ?_
        rotate_left
        · rintro a w1839 ⟨o1837, x1838, hk, hs, f10, f5, f901, H⟩
          rw [tidewrackref08_Set_j16] at H
          cases b1840 : x1838
          · rw [b1840] at hk H
            replace H := bifF H
            refine x_if hk (b := false) rfl ?_
            refine (show Code.wp _ _ _ _ _ from ?_)
            refine wp_skip ?_
            refine then_n ?_
            exact ⟨(fun b_ => (fun l_ => if l_ = 365 then 329 else if l_ = 366 then 330 else l_) (o1837 b_)), (by exact Kn.pick (ks := [1, 2, 4, 5, 7, 12, 13, 14]) hk rfl), (hs.relab0 (fun l_ => if l_ = 365 then 329 else if l_ = 366 then 330 else l_) rfl), (f10.relab (fun l_ => if l_ = 365 then 329 else if l_ = 366 then 330 else l_) rfl), (f5.relab (fun l_ => if l_ = 365 then 329 else if l_ = 366 then 330 else l_) rfl), (f901.relab (fun l_ => if l_ = 365 then 329 else if l_ = 366 then 330 else l_) rfl), H⟩
          · rw [b1840] at hk H
            replace H := bifT H
            refine x_if hk (b := true) rfl ?_
            refine (show Code.wp _ _ _ _ _ from ?_)
            refine x_mid (fun a_ w_ => ∃ o1850 : Nat → Nat, ∃ x1851 : Int, Kn 111 a_ [(1, .slice (some ad1560) (p1).length cp1), (2, .pointer (some ⟨bx4, 0, none⟩)), (4, .pointer (some ⟨bx9, 0, none⟩)), (5, .int .i64 x1851), (6, .int .i64 x1251), (12, .slice (some ad1560) (p1).length cp1), (13, .int .i64 ((p1).length : Int)), (14, .int .i64 x1251)] ∧ St [] w (fun _ => 0) w_ o1850 ∧ Ft (Bx bx9 23 [.int .i64 0, .int .i64 0, .bool false, .bool false, .bool false]) w_ o1850 368 ∧ Ft (Bx bx4 23 [.int .i64 x1249.Fore, .int .i64 x1249.Back, .bool x1249.Bold, .bool x1249.Under, .bool x1249.Inverse]) w_ o1850 367 ∧ Ft (RdC (encInt .i64) (some ad1560) p1) w_ o1850 0 ∧ tidewrackref08_Set_j17 p1 x1249 x1251 lp1556 x1851 = some r) ?_ ?_
            rotate_left
            · rintro a w1852 ⟨o1850, x1851, hk, hs, f10, f5, f901, H⟩
              rw [tidewrackref08_Set_j17] at H
              refine x_seq ?_
              refine x_seq ?_
              refine wp_region_lit ?_
              refine x_run tab hk (k := 6) (lv := []) (ks := [1, 2, 4, 5, 6, 12, 13, 14, 47]) (e' := [(1, .slice (some ad1560) (p1).length cp1), (2, .pointer (some ⟨bx4, 0, none⟩)), (4, .pointer (some ⟨bx9, 0, none⟩)), (5, .int .i64 x1851), (6, .int .i64 x1251), (12, .slice (some ad1560) (p1).length cp1), (13, .int .i64 ((p1).length : Int)), (14, .int .i64 x1251), (47, .bool (decide ((IntKind.wrap .i64 (x1251 + 1)) < ((p1).length : Int))))]) rfl trivial fun a hk => ?_
              cases b1853 : (decide ((IntKind.wrap .i64 (x1251 + 1)) < ((p1).length : Int)))
              · rw [b1853] at hk H
                replace H := bifF H
                refine x_run tab hk (k := 7) (lv := []) (ks := [1, 2, 4, 5, 12, 13, 14, 54]) (e' := [(1, .slice (some ad1560) (p1).length cp1), (2, .pointer (some ⟨bx4, 0, none⟩)), (4, .pointer (some ⟨bx9, 0, none⟩)), (5, .int .i64 x1851), (12, .slice (some ad1560) (p1).length cp1), (13, .int .i64 ((p1).length : Int)), (14, .int .i64 x1251), (54, .bool false)]) rfl trivial fun a hk => ?_
                refine wpList_nil ?_
                refine then_n ?_
                refine x_if hk (b := false) rfl ?_
                refine (show Code.wp _ _ _ _ _ from ?_)
                refine wp_skip ?_
                refine then_n ?_
                refine wp_exit ?_
                refine then_x ?_
                refine blk_x ?_
                refine then_n ?_
                refine wp_region_lit ?_
                refine x_run tab hk (k := 2) (lv := []) (ks := [1, 2, 4, 5, 12, 13, 14]) (e' := [(1, .slice (some ad1560) (p1).length cp1), (2, .pointer (some ⟨bx4, 0, none⟩)), (4, .pointer (some ⟨bx9, 0, none⟩)), (5, .int .i64 x1851), (12, .slice (some ad1560) (p1).length cp1), (13, .int .i64 ((p1).length : Int)), (14, .int .i64 (IntKind.wrap .i64 (x1251 + 1)))]) rfl trivial fun a hk => ?_
                refine wpList_nil ?_
                refine then_n ?_
                exact ⟨k1555, Nat.le_refl _, (fun b_ => (fun l_ => if l_ = 367 then 279 else if l_ = 368 then 280 else l_) (o1850 b_)), x1249, x1851, (IntKind.wrap .i64 (x1251 + 1)), (by exact Kn.pick (ks := [1, 2, 4, 5, 12, 13, 14]) hk rfl), (hs.relab0 (fun l_ => if l_ = 367 then 279 else if l_ = 368 then 280 else l_) rfl), (f10.relab (fun l_ => if l_ = 367 then 279 else if l_ = 368 then 280 else l_) rfl), (f5.relab (fun l_ => if l_ = 367 then 279 else if l_ = 368 then 280 else l_) rfl), (f901.relab (fun l_ => if l_ = 367 then 279 else if l_ = 368 then 280 else l_) rfl), (hlp1557 ▸ H)⟩
              · rw [b1853] at hk H
                replace H := bifT H
                obtain ⟨q1854, H⟩ := ifS H
                refine x_run tab hk (k := 7) (lv := [.int .i64 (rdD 0 p1 (IntKind.wrap .i64 (x1251 + 1)))]) (ks := [1, 2, 4, 5, 12, 13, 14, 54]) (e' := [(1, .slice (some ad1560) (p1).length cp1), (2, .pointer (some ⟨bx4, 0, none⟩)), (4, .pointer (some ⟨bx9, 0, none⟩)), (5, .int .i64 x1851), (12, .slice (some ad1560) (p1).length cp1), (13, .int .i64 ((p1).length : Int)), (14, .int .i64 x1251), (54, .bool ((rdD 0 p1 (IntKind.wrap .i64 (x1251 + 1))) == (2 : Int)))]) rfl ⟨q1854, (load1 tab rfl (RdC.at0 (E := (encInt .i64)) (d := 0) (i := (IntKind.wrap .i64 (x1251 + 1))) f901.now q1854 rfl)), trivial⟩ fun a hk => ?_
                refine wpList_nil ?_
                refine then_n ?_
                cases b1855 : ((rdD 0 p1 (IntKind.wrap .i64 (x1251 + 1))) == (2 : Int))
                · rw [b1855] at hk H
                  replace H := bifF H
                  refine x_if hk (b := false) rfl ?_
                  refine (show Code.wp _ _ _ _ _ from ?_)
                  refine wp_skip ?_
                  refine then_n ?_
                  refine wp_exit ?_
                  refine then_x ?_
                  refine blk_x ?_
                  refine then_n ?_
                  refine wp_region_lit ?_
                  refine x_run tab hk (k := 2) (lv := []) (ks := [1, 2, 4, 5, 12, 13, 14]) (e' := [(1, .slice (some ad1560) (p1).length cp1), (2, .pointer (some ⟨bx4, 0, none⟩)), (4, .pointer (some ⟨bx9, 0, none⟩)), (5, .int .i64 x1851), (12, .slice (some ad1560) (p1).length cp1), (13, .int .i64 ((p1).length : Int)), (14, .int .i64 (IntKind.wrap .i64 (x1251 + 1)))]) rfl trivial fun a hk => ?_
                  refine wpList_nil ?_
                  refine then_n ?_
                  exact ⟨k1555, Nat.le_refl _, (fun b_ => (fun l_ => if l_ = 367 then 279 else if l_ = 368 then 280 else l_) (o1850 b_)), x1249, x1851, (IntKind.wrap .i64 (x1251 + 1)), (by exact Kn.pick (ks := [1, 2, 4, 5, 12, 13, 14]) hk rfl), (hs.relab0 (fun l_ => if l_ = 367 then 279 else if l_ = 368 then 280 else l_) rfl), (f10.relab (fun l_ => if l_ = 367 then 279 else if l_ = 368 then 280 else l_) rfl), (f5.relab (fun l_ => if l_ = 367 then 279 else if l_ = 368 then 280 else l_) rfl), (f901.relab (fun l_ => if l_ = 367 then 279 else if l_ = 368 then 280 else l_) rfl), (hlp1557 ▸ H)⟩
                · rw [b1855] at hk H
                  replace H := bifT H
                  refine x_if hk (b := true) rfl ?_
                  refine (show Code.wp _ _ _ _ _ from ?_)
                  refine wp_region_lit ?_
                  refine x_run tab hk (k := 1) (lv := []) (ks := [1, 2, 4, 5, 12, 13, 14]) (e' := [(1, .slice (some ad1560) (p1).length cp1), (2, .pointer (some ⟨bx4, 0, none⟩)), (4, .pointer (some ⟨bx9, 0, none⟩)), (5, .int .i64 4), (12, .slice (some ad1560) (p1).length cp1), (13, .int .i64 ((p1).length : Int)), (14, .int .i64 x1251)]) rfl trivial fun a hk => ?_
                  refine wpList_nil ?_
                  refine then_n ?_
                  refine wp_exit ?_
                  refine then_x ?_
                  refine blk_x ?_
                  refine then_n ?_
                  refine wp_region_lit ?_
                  refine x_run tab hk (k := 2) (lv := []) (ks := [1, 2, 4, 5, 12, 13, 14]) (e' := [(1, .slice (some ad1560) (p1).length cp1), (2, .pointer (some ⟨bx4, 0, none⟩)), (4, .pointer (some ⟨bx9, 0, none⟩)), (5, .int .i64 4), (12, .slice (some ad1560) (p1).length cp1), (13, .int .i64 ((p1).length : Int)), (14, .int .i64 (IntKind.wrap .i64 (x1251 + 1)))]) rfl trivial fun a hk => ?_
                  refine wpList_nil ?_
                  refine then_n ?_
                  exact ⟨k1555, Nat.le_refl _, (fun b_ => (fun l_ => if l_ = 367 then 279 else if l_ = 368 then 280 else l_) (o1850 b_)), x1249, 4, (IntKind.wrap .i64 (x1251 + 1)), (by exact Kn.pick (ks := [1, 2, 4, 5, 12, 13, 14]) hk rfl), (hs.relab0 (fun l_ => if l_ = 367 then 279 else if l_ = 368 then 280 else l_) rfl), (f10.relab (fun l_ => if l_ = 367 then 279 else if l_ = 368 then 280 else l_) rfl), (f5.relab (fun l_ => if l_ = 367 then 279 else if l_ = 368 then 280 else l_) rfl), (f901.relab (fun l_ => if l_ = 367 then 279 else if l_ = 368 then 280 else l_) rfl), (hlp1557 ▸ H)⟩
            refine x_seq ?_
            refine wp_region_lit ?_
            refine x_run tab hk (k := 6) (lv := []) (ks := [1, 2, 4, 5, 6, 12, 13, 14, 34]) (e' := [(1, .slice (some ad1560) (p1).length cp1), (2, .pointer (some ⟨bx4, 0, none⟩)), (4, .pointer (some ⟨bx9, 0, none⟩)), (5, .int .i64 x1250), (6, .int .i64 x1251), (12, .slice (some ad1560) (p1).length cp1), (13, .int .i64 ((p1).length : Int)), (14, .int .i64 x1251), (34, .bool (decide ((IntKind.wrap .i64 (x1251 + 1)) < ((p1).length : Int))))]) rfl trivial fun a hk => ?_
            cases b1856 : (decide ((IntKind.wrap .i64 (x1251 + 1)) < ((p1).length : Int)))
            · rw [b1856] at hk H
              replace H := bifF H
              refine x_run tab hk (k := 7) (lv := []) (ks := [1, 2, 4, 5, 6, 12, 13, 14, 41]) (e' := [(1, .slice (some ad1560) (p1).length cp1), (2, .pointer (some ⟨bx4, 0, none⟩)), (4, .pointer (some ⟨bx9, 0, none⟩)), (5, .int .i64 x1250), (6, .int .i64 x1251), (12, .slice (some ad1560) (p1).length cp1), (13, .int .i64 ((p1).length : Int)), (14, .int .i64 x1251), (41, .bool false)]) rfl trivial fun a hk => ?_
              refine wpList_nil ?_
              refine then_n ?_
              refine x_if hk (b := false) rfl ?_
              refine (show Code.wp _ _ _ _ _ from ?_)
              refine wp_skip ?_
              refine then_n ?_
              exact ⟨(fun b_ => (fun l_ => if l_ = 365 then 367 else if l_ = 366 then 368 else l_) (o1837 b_)), x1250, (by exact Kn.pick (ks := [1, 2, 4, 5, 6, 12, 13, 14]) hk rfl), (hs.relab0 (fun l_ => if l_ = 365 then 367 else if l_ = 366 then 368 else l_) rfl), (f10.relab (fun l_ => if l_ = 365 then 367 else if l_ = 366 then 368 else l_) rfl), (f5.relab (fun l_ => if l_ = 365 then 367 else if l_ = 366 then 368 else l_) rfl), (f901.relab (fun l_ => if l_ = 365 then 367 else if l_ = 366 then 368 else l_) rfl), H⟩
            · rw [b1856] at hk H
              replace H := bifT H
              obtain ⟨q1857, H⟩ := ifS H
              refine x_run tab hk (k := 7) (lv := [.int .i64 (rdD 0 p1 (IntKind.wrap .i64 (x1251 + 1)))]) (ks := [1, 2, 4, 5, 6, 12, 13, 14, 41]) (e' := [(1, .slice (some ad1560) (p1).length cp1), (2, .pointer (some ⟨bx4, 0, none⟩)), (4, .pointer (some ⟨bx9, 0, none⟩)), (5, .int .i64 x1250), (6, .int .i64 x1251), (12, .slice (some ad1560) (p1).length cp1), (13, .int .i64 ((p1).length : Int)), (14, .int .i64 x1251), (41, .bool ((rdD 0 p1 (IntKind.wrap .i64 (x1251 + 1))) == (5 : Int)))]) rfl ⟨q1857, (load1 tab rfl (RdC.at0 (E := (encInt .i64)) (d := 0) (i := (IntKind.wrap .i64 (x1251 + 1))) f901.now q1857 rfl)), trivial⟩ fun a hk => ?_
              refine wpList_nil ?_
              refine then_n ?_
              cases b1858 : ((rdD 0 p1 (IntKind.wrap .i64 (x1251 + 1))) == (5 : Int))
              · rw [b1858] at hk H
                replace H := bifF H
                refine x_if hk (b := false) rfl ?_
                refine (show Code.wp _ _ _ _ _ from ?_)
                refine wp_skip ?_
                refine then_n ?_
                exact ⟨(fun b_ => (fun l_ => if l_ = 365 then 367 else if l_ = 366 then 368 else l_) (o1837 b_)), x1250, (by exact Kn.pick (ks := [1, 2, 4, 5, 6, 12, 13, 14]) hk rfl), (hs.relab0 (fun l_ => if l_ = 365 then 367 else if l_ = 366 then 368 else l_) rfl), (f10.relab (fun l_ => if l_ = 365 then 367 else if l_ = 366 then 368 else l_) rfl), (f5.relab (fun l_ => if l_ = 365 then 367 else if l_ = 366 then 368 else l_) rfl), (f901.relab (fun l_ => if l_ = 365 then 367 else if l_ = 366 then 368 else l_) rfl), H⟩
              · rw [b1858] at hk H
                replace H := bifT H
                refine x_if hk (b := true) rfl ?_
                refine (show Code.wp _ _ _ _ _ from ?_)
                refine wp_region_lit ?_
                refine x_run tab hk (k := 1) (lv := []) (ks := [1, 2, 4, 5, 6, 12, 13, 14]) (e' := [(1, .slice (some ad1560) (p1).length cp1), (2, .pointer (some ⟨bx4, 0, none⟩)), (4, .pointer (some ⟨bx9, 0, none⟩)), (5, .int .i64 2), (6, .int .i64 x1251), (12, .slice (some ad1560) (p1).length cp1), (13, .int .i64 ((p1).length : Int)), (14, .int .i64 x1251)]) rfl trivial fun a hk => ?_
                refine wpList_nil ?_
                refine then_n ?_
                exact ⟨(fun b_ => (fun l_ => if l_ = 365 then 367 else if l_ = 366 then 368 else l_) (o1837 b_)), 2, (by exact Kn.pick (ks := [1, 2, 4, 5, 6, 12, 13, 14]) hk rfl), (hs.relab0 (fun l_ => if l_ = 365 then 367 else if l_ = 366 then 368 else l_) rfl), (f10.relab (fun l_ => if l_ = 365 then 367 else if l_ = 366 then 368 else l_) rfl), (f5.relab (fun l_ => if l_ = 365 then 367 else if l_ = 366 then 368 else l_) rfl), (f901.relab (fun l_ => if l_ = 365 then 367 else if l_ = 366 then 368 else l_) rfl), H⟩
        refine wp_region_lit ?_
        refine x_run tab hk (k := 3) (lv := []) (ks := [1, 2, 4, 5, 6, 7, 12, 13, 14, 25]) (e' := [(1, .slice (some ad1560) (p1).length cp1), (2, .pointer (some ⟨bx4, 0, none⟩)), (4, .pointer (some ⟨bx9, 0, none⟩)), (5, .int .i64 x1250), (6, .int .i64 x1251), (7, .int .i64 (rdD 0 p1 x1251)), (12, .slice (some ad1560) (p1).length cp1), (13, .int .i64 ((p1).length : Int)), (14, .int .i64 x1251), (25, .bool ((rdD 0 p1 x1251) == (38 : Int)))]) rfl trivial fun a hk => ?_
        cases b1859 : ((rdD 0 p1 x1251) == (38 : Int))
        · rw [b1859] at hk H
          replace H := bifF H
          refine x_run tab hk (k := 3) (lv := []) (ks := [1, 2, 4, 5, 6, 7, 12, 13, 14, 28]) (e' := [(1, .slice (some ad1560) (p1).length cp1), (2, .pointer (some ⟨bx4, 0, none⟩)), (4, .pointer (some ⟨bx9, 0, none⟩)), (5, .int .i64 x1250), (6, .int .i64 x1251), (7, .int .i64 (rdD 0 p1 x1251)), (12, .slice (some ad1560) (p1).length cp1), (13, .int .i64 ((p1).length : Int)), (14, .int .i64 x1251), (28, .bool ((rdD 0 p1 x1251) == (48 : Int)))]) rfl trivial fun a hk => ?_
          refine wpList_nil ?_
          refine then_n ?_
          exact ⟨(fun b_ => (fun l_ => if l_ = 279 then 365 else if l_ = 280 then 366 else l_) (o1248 b_)), ((rdD 0 p1 x1251) == (48 : Int)), (by exact Kn.pick (ks := [1, 2, 4, 5, 6, 7, 12, 13, 14, 28]) hk rfl), (hs.relab0 (fun l_ => if l_ = 279 then 365 else if l_ = 280 then 366 else l_) rfl), (f10.relab (fun l_ => if l_ = 279 then 365 else if l_ = 280 then 366 else l_) rfl), (f5.relab (fun l_ => if l_ = 279 then 365 else if l_ = 280 then 366 else l_) rfl), (f901.relab (fun l_ => if l_ = 279 then 365 else if l_ = 280 then 366 else l_) rfl), H⟩
        · rw [b1859] at hk H
          replace H := bifT H
          refine x_run tab hk (k := 3) (lv := []) (ks := [1, 2, 4, 5, 6, 7, 12, 13, 14, 28]) (e' := [(1, .slice (some ad1560) (p1).length cp1), (2, .pointer (some ⟨bx4, 0, none⟩)), (4, .pointer (some ⟨bx9, 0, none⟩)), (5, .int .i64 x1250), (6, .int .i64 x1251), (7, .int .i64 (rdD 0 p1 x1251)), (12, .slice (some ad1560) (p1).length cp1), (13, .int .i64 ((p1).length : Int)), (14, .int .i64 x1251), (28, .bool true)]) rfl trivial fun a hk => ?_
          refine wpList_nil ?_
          refine then_n ?_
          exact ⟨(fun b_ => (fun l_ => if l_ = 279 then 365 else if l_ = 280 then 366 else l_) (o1248 b_)), true, (by exact Kn.pick (ks := [1, 2, 4, 5, 6, 7, 12, 13, 14, 28]) hk rfl), (hs.relab0 (fun l_ => if l_ = 279 then 365 else if l_ = 280 then 366 else l_) rfl), (f10.relab (fun l_ => if l_ = 279 then 365 else if l_ = 280 then 366 else l_) rfl), (f5.relab (fun l_ => if l_ = 279 then 365 else if l_ = 280 then 366 else l_) rfl), (f901.relab (fun l_ => if l_ = 279 then 365 else if l_ = 280 then 366 else l_) rfl), H⟩
      · rw [b1561] at hk H
        replace H := bifT H
        refine x_if hk (b := true) rfl ?_
        refine (show Code.wp _ _ _ _ _ from ?_)
        refine x_seq ?_
        refine wp_region_lit ?_
        refine x_run tab hk (k := 3) (lv := []) (ks := [1, 2, 4, 5, 12, 13, 14]) (e' := [(1, .slice (some ad1560) (p1).length cp1), (2, .pointer (some ⟨bx4, 0, none⟩)), (4, .pointer (some ⟨bx9, 0, none⟩)), (5, .int .i64 (IntKind.wrap .i64 (x1250 - 1))), (12, .slice (some ad1560) (p1).length cp1), (13, .int .i64 ((p1).length : Int)), (14, .int .i64 x1251)]) rfl trivial fun a hk => ?_
        refine wpList_nil ?_
        refine then_n ?_
        refine wp_exit ?_
        refine then_x ?_
        refine blk_x ?_
        refine then_n ?_
        refine wp_region_lit ?_
        refine x_run tab hk (k := 2) (lv := []) (ks := [1, 2, 4, 5, 12, 13, 14]) (e' := [(1, .slice (some ad1560) (p1).length cp1), (2, .pointer (some ⟨bx4, 0, none⟩)), (4, .pointer (some ⟨bx9, 0, none⟩)), (5, .int .i64 (IntKind.wrap .i64 (x1250 - 1))), (12, .slice (some ad1560) (p1).length cp1), (13, .int .i64 ((p1).length : Int)), (14, .int .i64 (IntKind.wrap .i64 (x1251 + 1)))]) rfl trivial fun a hk => ?_
        refine wpList_nil ?_
        refine then_n ?_
        exact ⟨k1555, Nat.le_refl _, o1248, x1249, (IntKind.wrap .i64 (x1250 - 1)), (IntKind.wrap .i64 (x1251 + 1)), (by exact Kn.pick (ks := [1, 2, 4, 5, 12, 13, 14]) hk rfl), hs, f10, f5, f901, (hlp1557 ▸ H)⟩
  · rw [b11] at hk H
    replace H := bifT H
    refine x_if hk (b := true) rfl ?_
    refine (show Code.wp _ _ _ _ _ from ?_)
    refine x_seq ?_
    refine wp_region_lit ?_
    refine x_run tab hk (k := 1) (lv := []) (ks := [4, 11]) (e' := [(4, .pointer (some ⟨bx9, 0, none⟩)), (11, .agg #[.int .i64 0, .int .i64 0, .bool false, .bool false, .bool false])]) rfl trivial fun a hk => ?_
    refine x_op hk rfl ?_
    refine op_store tab hk (t := 23) (v := .agg #[.int .i64 0, .int .i64 0, .bool false, .bool false, .bool false]) (b := bx9) (k := 0) (cs' := [.int .i64 0, .int .i64 0, .bool false, .bool false, .bool false]) rfl rfl rfl rfl rfl rfl f10 rfl rfl fun w1860 o1861 st1862 f10_ => ?_
    replace hs := hs.loc0 st1862 (by decide)
    replace f10 := f10_
    refine wpList_nil ?_
    refine then_n ?_
    refine wp_ret ?_
    refine then_r ?_
    obtain rfl := Option.some.inj H
    exact x_retG hk (rs := [.cell 4 23]) (vs := [.agg #[.int .i64 0, .int .i64 0, .bool false, .bool false, .bool false]]) rfl ⟨⟨_, rfl, load_box tab rfl rfl f10.now (k := 0) rfl rfl⟩, trivial⟩ ⟨fun b_ => if b_ < w.heap.size then o b_ else (fun _ => 0) (o1861 b_), rfl, hs.close0 o (fun _ => 0)⟩

/-! tidewrack/tidewracklaw08.StyleSets -/
theorem tidewracklaw08_StyleSets_calls (K : Nat) (p0 : T22) (Ap1 : Option Addr) (cp1 : Nat) (p1 : List Int) (w : World) (o : Nat → Nat) (Lp1 : Nat) (hp1 : Ft (RdC (encInt .i64) Ap1 p1) w o Lp1) (hcp1 : p1.length ≤ cp1) (r : Bool) (H : tidewracklaw08_StyleSets K p0 p1 = some r) :
    Calls Try.prog 3 #[.agg #[.int .i64 p0.Fore, .int .i64 p0.Back, .bool p0.Bold, .bool p0.Under, .bool p0.Inverse], .slice Ap1 (p1).length cp1] w (Ret fun v_ w' => ∃ o' : Nat → Nat, v_ = .bool r ∧ St [] w o w' o') := by
  refine x_enter (vs := [.agg #[.int .i64 p0.Fore, .int .i64 p0.Back, .bool p0.Bold, .bool p0.Under, .bool p0.Inverse], .slice Ap1 (p1).length cp1]) Try.func3 rfl rfl rfl fun a hk => ?_
  obtain ⟨o0, hs, h0⟩ := St.start w o
  have f901 := h0 _ _ hp1
  clear h0
  rw [tidewracklaw08_StyleSets] at H
  refine x_seq ?_
  refine wp_region_lit ?_
  refine x_op hk rfl ?_
  refine op_box (o := o0) (t := 23) (v := .agg #[.int .i64 p0.Fore, .int .i64 p0.Back, .bool p0.Bold, .bool p0.Under, .bool p0.Inverse]) (cs := [.int .i64 p0.Fore, .int .i64 p0.Back, .bool p0.Bold, .bool p0.Under, .bool p0.Inverse]) hk rfl rfl 1 fun bx4 w1 o2 st3 f5 => ?_
  replace f901 := f901.st st3 (by decide)
  replace hs := hs.loc0 st3 (by decide)
  have hk := hk.put 2 (.pointer (some ⟨bx4, 0, none⟩)) rfl
  refine x_run tab hk (k := 1) (lv := []) (ks := [1, 2]) (e' := [(1, .slice Ap1 (p1).length cp1), (2, .pointer (some ⟨bx4, 0, none⟩))]) rfl trivial fun a hk => ?_
  refine wpList_nil ?_
  refine then_n ?_
  refine x_seq ?_
  refine x_seq ?_
  refine wp_region_lit ?_
  refine x_op hk rfl ?_
  obtain ⟨t9, hc10, H⟩ := bindS H
  refine op_call hk ent_8 (vs := []) rfl (tidewracklaw08_awake_calls K  _ o2    _ hc10) ?_
  rintro _ w11 ⟨o12, rfl, st13⟩
  replace f5 := f5.st st13 (by decide)
  replace f901 := f901.st st13 (by decide)
  replace hs := hs.loc0 st13 (by decide)
  have hk := hk.put 5 (.bool t9) rfl
  refine x_run tab hk (k := 1) (lv := []) (ks := [1, 2, 6]) (e' := [(1, .slice Ap1 (p1).length cp1), (2, .pointer (some ⟨bx4, 0, none⟩)), (6, .bool (!t9))]) rfl trivial fun a hk => ?_
  refine wpList_nil ?_
  refine then_n ?_
  cases b14 : (!t9)
  · rw [b14] at hk H
    replace H := bifF H
    refine x_if hk (b := false) rfl ?_
    refine (show Code.wp _ _ _ _ _ from ?_)
    refine wp_skip ?_
    refine then_n ?_
    refine x_seq ?_
    refine wp_region_lit ?_
    obtain ⟨q15, H⟩ := ifS H
    obtain ⟨q16, H⟩ := ifS H
    obtain ⟨A17, c18, ak20, f19, hc21⟩ := ask_cut (P := Try.prog) tab (t := 24) rfl rfl f901 hcp1 none (some (.int .i64 (if 30 < ((p1).length : Int) then 30 else ((p1).length : Int)))) rfl ⟨q15, (by have := q16; have := hcp1; omega), trivial⟩ (by have := q15; have := q16; omega) (by have := q15; have := q16; omega)
    refine x_run tab hk (k := 6) (lv := [.slice A17 ((List.drop 0 (List.take (Int.toNat (if 30 < ((p1).length : Int) then 30 else ((p1).length : Int))) p1))).length c18]) (ks := [1, 2]) (e' := [(1, .slice A17 ((List.drop 0 (List.take (Int.toNat (if 30 < ((p1).length : Int) then 30 else ((p1).length : Int))) p1))).length c18), (2, .pointer (some ⟨bx4, 0, none⟩))]) rfl ⟨(ak20 rfl rfl rfl _), trivial⟩ fun a hk => ?_
    refine wpList_nil ?_
    refine then_n ?_
    refine x_seq ?_
    refine xd_begin (o := o12) (fun W_ => (Bx bx4 23 [.int .i64 p0.Fore, .int .i64 p0.Back, .bool p0.Bold, .bool p0.Under, .bool p0.Inverse]) W_ ∧ True) mixed rfl rfl fun w38 st39 => ?_
    replace f19 := f19.st st39 (by decide)
    replace f5 := f5.st st39 (by decide)
    replace hs := hs.loc0 st39 (by decide)
    refine xd_take tab hk (k := 4) (is := [0, 1, 3, 4]) (ls' := #[true, true, false, true, true, false, false, false]) (lv := [.agg #[.int .i64 p0.Fore, .int .i64 p0.Back, .bool p0.Bold, .bool p0.Under, .bool p0.Inverse], .agg #[.int .i64 p0.Fore, .int .i64 p0.Back, .bool p0.Bold, .bool p0.Under, .bool p0.Inverse]]) (ks := [12, 13, 15, 16]) (e' := [(12, .agg #[.int .i64 p0.Fore, .int .i64 p0.Back, .bool p0.Bold, .bool p0.Under, .bool p0.Inverse]), (13, .slice A17 ((List.drop 0 (List.take (Int.toNat (if 30 < ((p1).length : Int) then 30 else ((p1).length : Int))) p1))).length c18), (15, .agg #[.int .i64 p0.Fore, .int .i64 p0.Back, .bool p0.Bold, .bool p0.Under, .bool p0.Inverse]), (16, .slice A17 ((List.drop 0 (List.take (Int.toNat (if 30 < ((p1).length : Int) then 30 else ((p1).length : Int))) p1))).length c18)]) (by kernel_rfl) rfl rfl (by kernel_rfl) (np_then np_body) ⟨f5.now, trivial⟩ (fun W_ hS => ⟨(load_box tab rfl rfl hS.1 (k := 0) rfl rfl), (load_box tab rfl rfl hS.1 (k := 0) rfl rfl), trivial⟩) fun a hk => ?_
    refine xd_op hk (i := 2) (by kernel_rfl) rfl rfl ?_
    obtain ⟨t43, hc44, H⟩ := bindS H
    refine op_call hk ent_9 (vs := [.agg #[.int .i64 p0.Fore, .int .i64 p0.Back, .bool p0.Bold, .bool p0.Under, .bool p0.Inverse], .slice A17 ((List.drop 0 (List.take (Int.toNat (if 30 < ((p1).length : Int) then 30 else ((p1).length : Int))) p1))).length c18]) rfl (style_Style_Set_calls K p0 A17 c18 (List.drop 0 (List.take (Int.toNat (if 30 < ((p1).length : Int) then 30 else ((p1).length : Int))) p1)) _ o12 _ f19 hc21   _ hc44) ?_
    rintro _ w45 ⟨o46, rfl, st47⟩
    replace f19 := f19.st st47 (by decide)
    replace f5 := f5.st st47 (by decide)
    replace hs := hs.loc0 st47 (by decide)
    have hk := hk.put 14 (.agg #[.int .i64 t43.Fore, .int .i64 t43.Back, .bool t43.Bold, .bool t43.Under, .bool t43.Inverse]) rfl
    refine ⟨.inr ⟨f5.now, trivial⟩, ?_⟩
    refine xd_op hk (i := 5) (by kernel_rfl) rfl rfl ?_
    obtain ⟨t51, hc52, H⟩ := bindS H
    refine op_call hk ent_10 (vs := [.agg #[.int .i64 p0.Fore, .int .i64 p0.Back, .bool p0.Bold, .bool p0.Under, .bool p0.Inverse], .slice A17 ((List.drop 0 (List.take (Int.toNat (if 30 < ((p1).length : Int) then 30 else ((p1).length : Int))) p1))).length c18]) rfl (tidewrackref08_Set_calls K p0 A17 c18 (List.drop 0 (List.take (Int.toNat (if 30 < ((p1).length : Int) then 30 else ((p1).length : Int))) p1)) _ o46 _ f19 hc21   _ hc52) ?_
    rintro _ w53 ⟨o54, rfl, st55⟩
    replace f19 := f19.st st55 (by decide)
    replace f5 := f5.st st55 (by decide)
    replace hs := hs.loc0 st55 (by decide)
    have hk := hk.put 17 (.agg #[.int .i64 t51.Fore, .int .i64 t51.Back, .bool t51.Bold, .bool t51.Under, .bool t51.Inverse]) rfl
    refine ⟨.inr ⟨f5.now, trivial⟩, ?_⟩
    refine xd_take tab hk (k := 0) (is := [6, 7]) (ls' := #[true, true, true, true, true, true, true, true]) (lv := [.bool (eqT22 t43 t51)]) (ks := [4]) (e' := [(4, .bool (eqT22 t43 t51))]) (by kernel_rfl) rfl rfl (by kernel_rfl) (np_then np_body) ⟨f5.now, trivial⟩ (fun W_ hS => ⟨(ask_eq tab stood rfl rfl rfl rfl), trivial⟩) fun a hk => ?_
    refine xd_done (by kernel_rfl) ?_
    refine then_n ?_
    refine wp_ret ?_
    obtain rfl := Option.some.inj H
    exact x_retG hk (rs := [.tmp 4]) (vs := [.bool (eqT22 t43 t51)]) rfl ⟨rfl, trivial⟩ ⟨fun b_ => if b_ < w.heap.size then o b_ else (fun _ => 0) (o54 b_), rfl, hs.close0 o (fun _ => 0)⟩
  · rw [b14] at hk H
    replace H := bifT H
    refine x_if hk (b := true) rfl ?_
    refine (show Code.wp _ _ _ _ _ from ?_)
    refine x_seq ?_
    refine wp_region_lit ?_
    refine x_run tab hk (k := 1) (lv := []) (ks := [4]) (e' := [(4, .bool false)]) rfl trivial fun a hk => ?_
    refine wpList_nil ?_
    refine then_n ?_
    refine wp_ret ?_
    refine then_r ?_
    obtain rfl := Option.some.inj H
    exact x_retG hk (rs := [.tmp 4]) (vs := [.bool false]) rfl ⟨rfl, trivial⟩ ⟨fun b_ => if b_ < w.heap.size then o b_ else (fun _ => 0) (o12 b_), rfl, hs.close0 o (fun _ => 0)⟩

/-! tidewrack/tidewracklaw08.StyleTwice -/
theorem tidewracklaw08_StyleTwice_calls (K : Nat) (p0 : T22) (Ap1 : Option Addr) (cp1 : Nat) (p1 : List Int) (Ap2 : Option Addr) (cp2 : Nat) (p2 : List Int) (w : World) (o : Nat → Nat) (Lp1 : Nat) (hp1 : Ft (RdC (encInt .i64) Ap1 p1) w o Lp1) (hcp1 : p1.length ≤ cp1) (Lp2 : Nat) (hp2 : Ft (RdC (encInt .i64) Ap2 p2) w o Lp2) (hcp2 : p2.length ≤ cp2) (r : Bool) (H : tidewracklaw08_StyleTwice K p0 p1 p2 = some r) :
    Calls Try.prog 4 #[.agg #[.int .i64 p0.Fore, .int .i64 p0.Back, .bool p0.Bold, .bool p0.Under, .bool p0.Inverse], .slice Ap1 (p1).length cp1, .slice Ap2 (p2).length cp2] w (Ret fun v_ w' => ∃ o' : Nat → Nat, v_ = .bool r ∧ St [] w o w' o') := by
  refine x_enter (vs := [.agg #[.int .i64 p0.Fore, .int .i64 p0.Back, .bool p0.Bold, .bool p0.Under, .bool p0.Inverse], .slice Ap1 (p1).length cp1, .slice Ap2 (p2).length cp2]) Try.func4 rfl rfl rfl fun a hk => ?_
  obtain ⟨o0, hs, h0⟩ := St.start w o
  have f901 := h0 _ _ hp1
  have f902 := h0 _ _ hp2
  clear h0
  rw [tidewracklaw08_StyleTwice] at H
  refine x_seq ?_
  refine wp_region_lit ?_
  refine x_op hk rfl ?_
  refine op_box (o := o0) (t := 23) (v := .agg #[.int .i64 p0.Fore, .int .i64 p0.Back, .bool p0.Bold, .bool p0.Under, .bool p0.Inverse]) (cs := [.int .i64 p0.Fore, .int .i64 p0.Back, .bool p0.Bold, .bool p0.Under, .bool p0.Inverse]) hk rfl rfl 1 fun bx4 w1 o2 st3 f5 => ?_
  replace f901 := f901.st st3 (by decide)
  replace f902 := f902.st st3 (by decide)
  replace hs := hs.loc0 st3 (by decide)
  have hk := hk.put 3 (.pointer (some ⟨bx4, 0, none⟩)) rfl
  refine x_run tab hk (k := 1) (lv := []) (ks := [1, 2, 3]) (e' := [(1, .slice Ap1 (p1).length cp1), (2, .slice Ap2 (p2).length cp2), (3, .pointer (some ⟨bx4, 0, none⟩))]) rfl trivial fun a hk => ?_
  refine wpList_nil ?_
  refine then_n ?_
  refine x_seq ?_
  refine x_seq ?_
  refine wp_region_lit ?_
  refine x_op hk rfl ?_
  obtain ⟨t9, hc10, H⟩ := bindS H
  refine op_call hk ent_8 (vs := []) rfl (tidewracklaw08_awake_calls K  _ o2    _ hc10) ?_
  rintro _ w11 ⟨o12, rfl, st13⟩
  replace f5 := f5.st st13 (by decide)
  replace f901 := f901.st st13 (by decide)
  replace f902 := f902.st st13 (by decide)
  replace hs := hs.loc0 st13 (by decide)
  have hk := hk.put 11 (.bool t9) rfl
  refine x_run tab hk (k := 1) (lv := []) (ks := [1, 2, 3, 12]) (e' := [(1, .slice Ap1 (p1).length cp1), (2, .slice Ap2 (p2).length cp2), (3, .pointer (some ⟨bx4, 0, none⟩)), (12, .bool (!t9))]) rfl trivial fun a hk => ?_
  refine wpList_nil ?_
  refine then_n ?_
  cases b14 : (!t9)
  · rw [b14] at hk H
    replace H := bifF H
    refine x_if hk (b := false) rfl ?_
    refine (show Code.wp _ _ _ _ _ from ?_)
    refine wp_skip ?_
    refine then_n ?_
    refine x_seq ?_
    refine wp_region_lit ?_
    refine x_op hk rfl ?_
    refine op_slice (o := o12) tab hk (vs := [.int .i64 7]) (cs := [.int .i64 7]) rfl rfl rfl rfl rfl rfl rfl rfl rfl 2 fun bx18 w15 o16 st17 f19 => ?_
    replace f5 := f5.st st17 (by decide)
    replace f901 := f901.st st17 (by decide)
    replace f902 := f902.st st17 (by decide)
    replace hs := hs.loc0 st17 (by decide)
    have f20 : Ft (Own (encInt .i64) 3 (.slice (some ⟨bx18, 0, none⟩) (([7] : List Int)).length 1) ([7] : List Int)) w15 o16 2 := f19.imp fun _ h_ => Own.of_box h_ rfl (by simp)
    have hk := hk.put 13 (.slice (some ⟨bx18, 0, none⟩) (([7] : List Int)).length 1) rfl
    refine x_op hk rfl ?_
    refine op_slice (o := o16) tab hk (vs := [.int .i64 0]) (cs := [.int .i64 0]) rfl rfl rfl rfl rfl rfl rfl rfl rfl 3 fun bx24 w21 o22 st23 f25 => ?_
    replace f20 := f20.st st23 (by decide)
    replace f5 := f5.st st23 (by decide)
    replace f901 := f901.st st23 (by decide)
    replace f902 := f902.st st23 (by decide)
    replace hs := hs.loc0 st23 (by decide)
    have f26 : Ft (Own (encInt .i64) 3 (.slice (some ⟨bx24, 0, none⟩) (([0] : List Int)).length 1) ([0] : List Int)) w21 o22 3 := f25.imp fun _ h_ => Own.of_box h_ rfl (by simp)
    have hk := hk.put 14 (.slice (some ⟨bx24, 0, none⟩) (([0] : List Int)).length 1) rfl
    refine x_run tab hk (k := 2) (lv := []) (ks := [1, 2, 3, 7, 8]) (e' := [(1, .slice Ap1 (p1).length cp1), (2, .slice Ap2 (p2).length cp2), (3, .pointer (some ⟨bx4, 0, none⟩)), (7, .slice (some ⟨bx18, 0, none⟩) (([7] : List Int)).length 1), (8, .slice (some ⟨bx24, 0, none⟩) (([0] : List Int)).length 1)]) rfl trivial fun a hk => ?_
    refine wpList_nil ?_
    refine then_n ?_
    refine x_mid (fun a_ w_ => ∃ o209 : Nat → Nat, ∃ A210 : Option Addr, ∃ c211 : Nat, ∃ l212 : List Int, Kn 84 a_ [(2, .slice Ap2 (p2).length cp2), (3, .pointer (some ⟨bx4, 0, none⟩)), (7, .slice A210 (l212).length c211), (8, .slice (some ⟨bx24, 0, none⟩) (([0] : List Int)).length 1)] ∧ St [] w (fun _ => 0) w_ o209 ∧ Ft (Own (encInt .i64) 3 (.slice A210 (l212).length c211) l212) w_ o209 38 ∧ Ft (Own (encInt .i64) 3 (.slice (some ⟨bx24, 0, none⟩) (([0] : List Int)).length 1) ([0] : List Int)) w_ o209 39 ∧ Ft (Bx bx4 23 [.int .i64 p0.Fore, .int .i64 p0.Back, .bool p0.Bold, .bool p0.Under, .bool p0.Inverse]) w_ o209 37 ∧ Ft (RdC (encInt .i64) Ap2 p2) w_ o209 0 ∧ (l212).length ≤ c211 ∧ tidewracklaw08_StyleTwice_j1 K p0 p2 l212 = some r) ?_ ?_
    rotate_left
    · rintro a w215 ⟨o209, A210, c211, l212, hk, hs, f213, f26, f5, f902, hc214, H⟩
      rw [tidewracklaw08_StyleTwice_j1] at H
      refine x_mid (fun a_ w_ => ∃ o411 : Nat → Nat, ∃ A412 : Option Addr, ∃ c413 : Nat, ∃ l414 : List Int, Kn 84 a_ [(3, .pointer (some ⟨bx4, 0, none⟩)), (7, .slice A210 (l212).length c211), (8, .slice A412 (l414).length c413)] ∧ St [] w (fun _ => 0) w_ o411 ∧ Ft (Own (encInt .i64) 3 (.slice A210 (l212).length c211) l212) w_ o411 64 ∧ Ft (Own (encInt .i64) 3 (.slice A412 (l414).length c413) l414) w_ o411 65 ∧ Ft (Bx bx4 23 [.int .i64 p0.Fore, .int .i64 p0.Back, .bool p0.Bold, .bool p0.Under, .bool p0.Inverse]) w_ o411 63 ∧ (l414).length ≤ c413 ∧ tidewracklaw08_StyleTwice_j2 K p0 l212 l414 = some r) ?_ ?_
      rotate_left
      · rintro a w417 ⟨o411, A412, c413, l414, hk, hs, f213, f415, f5, hc416, H⟩
        rw [tidewracklaw08_StyleTwice_j2] at H
        refine x_seq ?_
        refine wp_region_lit ?_
        obtain ⟨q418, H⟩ := ifS H
        obtain ⟨A419, c420, ak422, f421, hc423⟩ := ask_cut (P := Try.prog) tab (t := 24) rfl rfl (f415.imp fun _ h_ => Own.rd h_) hc416 (some (.int .i64 1)) none rfl ⟨(show 0 ≤ (1 : Int) from by decide), (by have := q418; omega), trivial⟩ (by have := (show 0 ≤ (1 : Int) from by decide); have := q418; omega) (Nat.le_refl _)
        refine x_run tab hk (k := 3) (lv := [.slice A419 ((List.drop (Int.toNat 1) (List.take (l414).length l414))).length c420]) (ks := [3, 7, 8]) (e' := [(3, .pointer (some ⟨bx4, 0, none⟩)), (7, .slice A210 (l212).length c211), (8, .slice A419 ((List.drop (Int.toNat 1) (List.take (l414).length l414))).length c420)]) rfl ⟨(ak422 rfl rfl rfl _), trivial⟩ fun a hk => ?_
        refine wpList_nil ?_
        refine then_n ?_
        refine x_mid (fun a_ w_ => ∃ o441 : Nat → Nat, ∃ A442 : Option Addr, ∃ c443 : Nat, ∃ l444 : List Int, Kn 84 a_ [(3, .pointer (some ⟨bx4, 0, none⟩)), (7, .slice A210 (l212).length c211), (8, .slice A442 (l444).length c443)] ∧ St [] w (fun _ => 0) w_ o441 ∧ Ft (Own (encInt .i64) 3 (.slice A210 (l212).length c211) l212) w_ o441 68 ∧ Ft (RdC (encInt .i64) A442 l444) w_ o441 69 ∧ Ft (Bx bx4 23 [.int .i64 p0.Fore, .int .i64 p0.Back, .bool p0.Bold, .bool p0.Under, .bool p0.Inverse]) w_ o441 67 ∧ (l444).length ≤ c443 ∧ tidewracklaw08_StyleTwice_j3 K p0 l212 l444 = some r) ?_ ?_
        rotate_left
        · rintro a w447 ⟨o441, A442, c443, l444, hk, hs, f213, f445, f5, hc446, H⟩
          rw [tidewracklaw08_StyleTwice_j3] at H
          refine x_seq ?_
          refine x_cut (fun a_ w_ => ∃ o718 : Nat → Nat, ∃ x719 : Bool, Kn 84 a_ [(6, .bool x719)] ∧ St [] w (fun _ => 0) w_ o718 ∧ tidewracklaw08_StyleTwice_j4 x719 = some r) ?_ ?_
          rotate_left
          · rintro a w720 ⟨o718, x719, hk, hs, H⟩
            rw [tidewracklaw08_StyleTwice_j4] at H
            refine then_n ?_
            refine wp_ret ?_
            obtain rfl := Option.some.inj H
            exact x_retG hk (rs := [.tmp 6]) (vs := [.bool x719]) rfl ⟨rfl, trivial⟩ ⟨fun b_ => if b_ < w.heap.size then o b_ else (fun _ => 0) (o718 b_), rfl, hs.close0 o (fun _ => 0)⟩
          obtain ⟨t724, hc725, H⟩ := bindS H
          obtain ⟨t732, hc733, H⟩ := bindS H
          obtain ⟨q746, H⟩ := ifS H
          obtain ⟨q754, H⟩ := ifS H
          obtain ⟨t762, hc763, H⟩ := bindS H
          refine xd_begin (o := o441) (fun W_ => (Bx bx4 23 [.int .i64 p0.Fore, .int .i64 p0.Back, .bool p0.Bold, .bool p0.Under, .bool p0.Inverse]) W_ ∧ True) mixed rfl rfl fun w875 st876 => ?_
          replace f213 := f213.st st876 (by decide)
          replace f445 := f445.st st876 (by decide)
          replace f5 := f5.st st876 (by decide)
          replace hs := hs.loc0 st876 (by decide)
          refine xd_take tab hk (k := 8) (is := [0, 1, 3, 5, 7, 9]) (ls' := #[true, true, false, true, false, true, false, true, false, true, false, false, false, false]) (lv := [.agg #[.int .i64 p0.Fore, .int .i64 p0.Back, .bool p0.Bold, .bool p0.Under, .bool p0.Inverse], .agg #[.int .i64 p0.Fore, .int .i64 p0.Back, .bool p0.Bold, .bool p0.Under, .bool p0.Inverse]]) (ks := [71, 72, 74, 76, 78, 80]) (e' := [(71, .agg #[.int .i64 p0.Fore, .int .i64 p0.Back, .bool p0.Bold, .bool p0.Under, .bool p0.Inverse]), (72, .slice A210 (l212).length c211), (74, .slice A442 (l444).length c443), (76, .agg #[.int .i64 p0.Fore, .int .i64 p0.Back, .bool p0.Bold, .bool p0.Under, .bool p0.Inverse]), (78, .slice A210 (l212).length c211), (80, .slice A442 (l444).length c443)]) (by kernel_rfl) rfl rfl (by kernel_rfl) (np_then (np_then np_body)) ⟨f5.now, trivial⟩ (fun W_ hS => ⟨(load_box tab rfl rfl hS.1 (k := 0) rfl rfl), (load_box tab rfl rfl hS.1 (k := 0) rfl rfl), trivial⟩) fun a hk => ?_
          refine xd_each [2, 6] (by kernel_rfl) rfl ⟨?_, ?_, trivial⟩
          · refine xd_one hk rfl rfl ?_
            refine op_call hk ent_9 (vs := [.agg #[.int .i64 p0.Fore, .int .i64 p0.Back, .bool p0.Bold, .bool p0.Under, .bool p0.Inverse], .slice A210 (l212).length c211]) rfl (style_Style_Set_calls K p0 A210 c211 l212 _ o441 _ (f213.imp fun _ h_ => Own.rd h_) hc214   _ hc725) ?_
            rintro _ w880 ⟨o881, rfl, st882⟩
            replace f213 := f213.st st882 (by decide)
            replace f445 := f445.st st882 (by decide)
            replace f5 := f5.st st882 (by decide)
            replace hs := hs.loc0 st882 (by decide)
            have hk := hk.put 73 (.agg #[.int .i64 t724.Fore, .int .i64 t724.Back, .bool t724.Bold, .bool t724.Under, .bool t724.Inverse]) rfl
            refine ⟨.inr ⟨f5.now, trivial⟩, ?_⟩
            refine xd_each [4, 6] (by kernel_rfl) rfl ⟨?_, ?_, trivial⟩
            · refine xd_one hk rfl rfl ?_
              refine op_call hk ent_9 (vs := [.agg #[.int .i64 t724.Fore, .int .i64 t724.Back, .bool t724.Bold, .bool t724.Under, .bool t724.Inverse], .slice A442 (l444).length c443]) rfl (style_Style_Set_calls K t724 A442 c443 l444 _ o881 _ f445 hc446   _ hc733) ?_
              rintro _ w886 ⟨o887, rfl, st888⟩
              replace f213 := f213.st st888 (by decide)
              replace f445 := f445.st st888 (by decide)
              replace f5 := f5.st st888 (by decide)
              replace hs := hs.loc0 st888 (by decide)
              have hk := hk.put 75 (.agg #[.int .i64 t732.Fore, .int .i64 t732.Back, .bool t732.Bold, .bool t732.Under, .bool t732.Inverse]) rfl
              refine ⟨.inr ⟨f5.now, trivial⟩, ?_⟩
              refine xd_op hk (i := 6) (by kernel_rfl) rfl rfl ?_
              refine op_slice (o := o887) tab hk (vs := []) (cs := []) rfl rfl rfl rfl rfl rfl rfl rfl rfl 81 fun bx892 w889 o890 st891 f893 => ?_
              replace f213 := f213.st st891 (by decide)
              replace f445 := f445.st st891 (by decide)
              replace f5 := f5.st st891 (by decide)
              replace hs := hs.loc0 st891 (by decide)
              have f894 : Ft (Own (encInt .i64) 3 (.slice (some ⟨bx892, 0, none⟩) (([] : List Int)).length 0) ([] : List Int)) w889 o890 81 := f893.imp fun _ h_ => Own.of_box h_ rfl (by simp)
              have hk := hk.put 77 (.slice (some ⟨bx892, 0, none⟩) (([] : List Int)).length 0) rfl
              refine ⟨.inr ⟨f5.now, trivial⟩, ?_⟩
              refine xd_op hk (i := 8) (by kernel_rfl) rfl rfl ?_
              refine op_append (o := o890) (E := (encInt .i64)) (xs := ([] : List Int)) (ys := l212) tab hk rfl rfl rfl rfl rfl rfl rfl f894 (Own.rd f213.now) q746 fun A898 c899 w895 o896 st897 f900 hc901 => ?_
              replace f213 := f213.st st897 (by decide)
              replace f445 := f445.st st897 (by decide)
              replace f5 := f5.st st897 (by decide)
              replace hs := hs.loc0 st897 (by decide)
              have hk := hk.put 79 (.slice A898 ((([] : List Int) ++ l212)).length c899) rfl
              refine ⟨.inr ⟨f5.now, trivial⟩, ?_⟩
              refine xd_op hk (i := 10) (by kernel_rfl) rfl rfl ?_
              refine op_append (o := o896) (E := (encInt .i64)) (xs := (([] : List Int) ++ l212)) (ys := l444) tab hk rfl rfl rfl rfl rfl rfl rfl f900 f445.now q754 fun A905 c906 w902 o903 st904 f907 hc908 => ?_
              replace f213 := f213.st st904 (by decide)
              replace f445 := f445.st st904 (by decide)
              replace f5 := f5.st st904 (by decide)
              replace hs := hs.loc0 st904 (by decide)
              have hk := hk.put 81 (.slice A905 (((([] : List Int) ++ l212) ++ l444)).length c906) rfl
              refine ⟨.inr ⟨f5.now, trivial⟩, ?_⟩
              refine xd_op hk (i := 11) (by kernel_rfl) rfl rfl ?_
              refine op_call hk ent_9 (vs := [.agg #[.int .i64 p0.Fore, .int .i64 p0.Back, .bool p0.Bold, .bool p0.Under, .bool p0.Inverse], .slice A905 (((([] : List Int) ++ l212) ++ l444)).length c906]) rfl (style_Style_Set_calls K p0 A905 c906 ((([] : List Int) ++ l212) ++ l444) _ o903 _ (f907.imp fun _ h_ => Own.rd h_) hc908   _ hc763) ?_
              rintro _ w912 ⟨o913, rfl, st914⟩
              replace f213 := f213.st st914 (by decide)
              replace f445 := f445.st st914 (by decide)
              replace f5 := f5.st st914 (by decide)
              replace f907 := f907.st st914 (by decide)
              replace hs := hs.loc0 st914 (by decide)
              have hk := hk.put 82 (.agg #[.int .i64 t762.Fore, .int .i64 t762.Back, .bool t762.Bold, .bool t762.Under, .bool t762.Inverse]) rfl
              refine ⟨.inr ⟨f5.now, trivial⟩, ?_⟩
              refine xd_take tab hk (k := 0) (is := [12, 13]) (ls' := #[true, true, true, true, true, true, true, true, true, true, true, true, true, true]) (lv := [.bool (eqT22 t732 t762)]) (ks := [6]) (e' := [(6, .bool (eqT22 t732 t762))]) (by kernel_rfl) rfl rfl (by kernel_rfl) (np_then (np_then np_body)) ⟨f5.now, trivial⟩ (fun W_ hS => ⟨(ask_eq tab stood rfl rfl rfl rfl), trivial⟩) fun a hk => ?_
              refine xd_done (by kernel_rfl) ?_
              refine then_n ?_
              exact ⟨o913, (eqT22 t732 t762), (by exact Kn.pick (ks := [6]) hk rfl), hs, H⟩
            · refine xd_one hk rfl rfl ?_
              refine op_slice (o := o881) tab hk (vs := []) (cs := []) rfl rfl rfl rfl rfl rfl rfl rfl rfl 82 fun bx918 w915 o916 st917 f919 => ?_
              replace f213 := f213.st st917 (by decide)
              replace f445 := f445.st st917 (by decide)
              replace f5 := f5.st st917 (by decide)
              replace hs := hs.loc0 st917 (by decide)
              have f920 : Ft (Own (encInt .i64) 3 (.slice (some ⟨bx918, 0, none⟩) (([] : List Int)).length 0) ([] : List Int)) w915 o916 82 := f919.imp fun _ h_ => Own.of_box h_ rfl (by simp)
              have hk := hk.put 77 (.slice (some ⟨bx918, 0, none⟩) (([] : List Int)).length 0) rfl
              refine ⟨.inr ⟨f5.now, trivial⟩, ?_⟩
              refine xd_op hk (i := 4) (by kernel_rfl) rfl rfl ?_
              refine op_call hk ent_9 (vs := [.agg #[.int .i64 t724.Fore, .int .i64 t724.Back, .bool t724.Bold, .bool t724.Under, .bool t724.Inverse], .slice A442 (l444).length c443]) rfl (style_Style_Set_calls K t724 A442 c443 l444 _ o916 _ f445 hc446   _ hc733) ?_
              rintro _ w924 ⟨o925, rfl, st926⟩
              replace f213 := f213.st st926 (by decide)
              replace f445 := f445.st st926 (by decide)
              replace f5 := f5.st st926 (by decide)
              replace f920 := f920.st st926 (by decide)
              replace hs := hs.loc0 st926 (by decide)
              have hk := hk.put 75 (.agg #[.int .i64 t732.Fore, .int .i64 t732.Back, .bool t732.Bold, .bool t732.Under, .bool t732.Inverse]) rfl
              refine ⟨.inr ⟨f5.now, trivial⟩, ?_⟩
              refine xd_op hk (i := 8) (by kernel_rfl) rfl rfl ?_
              refine op_append (o := o925) (E := (encInt .i64)) (xs := ([] : List Int)) (ys := l212) tab hk rfl rfl rfl rfl rfl rfl rfl f920 (Own.rd f213.now) q746 fun A930 c931 w927 o928 st929 f932 hc933 => ?_
              replace f213 := f213.st st929 (by decide)
              replace f445 := f445.st st929 (by decide)
              replace f5 := f5.st st929 (by decide)
              replace hs := hs.loc0 st929 (by decide)
              have hk := hk.put 79 (.slice A930 ((([] : List Int) ++ l212)).length c931) rfl
              refine ⟨.inr ⟨f5.now, trivial⟩, ?_⟩
              refine xd_op hk (i := 10) (by kernel_rfl) rfl rfl ?_
              refine op_append (o := o928) (E := (encInt .i64)) (xs := (([] : List Int) ++ l212)) (ys := l444) tab hk rfl rfl rfl rfl rfl rfl rfl f932 f445.now q754 fun A937 c938 w934 o935 st936 f939 hc940 => ?_
              replace f213 := f213.st st936 (by decide)
              replace f445 := f445.st st936 (by decide)
              replace f5 := f5.st st936 (by decide)
              replace hs := hs.loc0 st936 (by decide)
              have hk := hk.put 81 (.slice A937 (((([] : List Int) ++ l212) ++ l444)).length c938) rfl
              refine ⟨.inr ⟨f5.now, trivial⟩, ?_⟩
              refine xd_op hk (i := 11) (by kernel_rfl) rfl rfl ?_
              refine op_call hk ent_9 (vs := [.agg #[.int .i64 p0.Fore, .int .i64 p0.Back, .bool p0.Bold, .bool p0.Under, .bool p0.Inverse], .slice A937 (((([] : List Int) ++ l212) ++ l444)).length c938]) rfl (style_Style_Set_calls K p0 A937 c938 ((([] : List Int) ++ l212) ++ l444) _ o935 _ (f939.imp fun _ h_ => Own.rd h_) hc940   _ hc763) ?_
              rintro _ w944 ⟨o945, rfl, st946⟩
              replace f213 := f213.st st946 (by decide)
              replace f445 := f445.st st946 (by decide)
              replace f5 := f5.st st946 (by decide)
              replace f939 := f939.st st946 (by decide)
              replace hs := hs.loc0 st946 (by decide)
              have hk := hk.put 82 (.agg #[.int .i64 t762.Fore, .int .i64 t762.Back, .bool t762.Bold, .bool t762.Under, .bool t762.Inverse]) rfl
              refine ⟨.inr ⟨f5.now, trivial⟩, ?_⟩
              refine xd_take tab hk (k := 0) (is := [12, 13]) (ls' := #[true, true, true, true, true, true, true, true, true, true, true, true, true, true]) (lv := [.bool (eqT22 t732 t762)]) (ks := [6]) (e' := [(6, .bool (eqT22 t732 t762))]) (by kernel_rfl) rfl rfl (by kernel_rfl) (np_then (np_then np_body)) ⟨f5.now, trivial⟩ (fun W_ hS => ⟨(ask_eq tab stood rfl rfl rfl rfl), trivial⟩) fun a hk => ?_
              refine xd_done (by kernel_rfl) ?_
              refine then_n ?_
              exact ⟨o945, (eqT22 t732 t762), (by exact Kn.pick (ks := [6]) hk rfl), hs, H⟩
          · refine xd_one hk rfl rfl ?_
            refine op_slice (o := o441) tab hk (vs := []) (cs := []) rfl rfl rfl rfl rfl rfl rfl rfl rfl 83 fun bx950 w947 o948 st949 f951 => ?_
            replace f213 := f213.st st949 (by decide)
            replace f445 := f445.st st949 (by decide)
            replace f5 := f5.st st949 (by decide)
            replace hs := hs.loc0 st949 (by decide)
            have f952 : Ft (Own (encInt .i64) 3 (.slice (some ⟨bx950, 0, none⟩) (([] : List Int)).length 0) ([] : List Int)) w947 o948 83 := f951.imp fun _ h_ => Own.of_box h_ rfl (by simp)
            have hk := hk.put 77 (.slice (some ⟨bx950, 0, none⟩) (([] : List Int)).length 0) rfl
            refine ⟨.inr ⟨f5.now, trivial⟩, ?_⟩
            refine xd_op hk (i := 2) (by kernel_rfl) rfl rfl ?_
            refine op_call hk ent_9 (vs := [.agg #[.int .i64 p0.Fore, .int .i64 p0.Back, .bool p0.Bold, .bool p0.Under, .bool p0.Inverse], .slice A210 (l212).length c211]) rfl (style_Style_Set_calls K p0 A210 c211 l212 _ o948 _ (f213.imp fun _ h_ => Own.rd h_) hc214   _ hc725) ?_
            rintro _ w956 ⟨o957, rfl, st958⟩
            replace f213 := f213.st st958 (by decide)
            replace f445 := f445.st st958 (by decide)
            replace f5 := f5.st st958 (by decide)
            replace f952 := f952.st st958 (by decide)
            replace hs := hs.loc0 st958 (by decide)
            have hk := hk.put 73 (.agg #[.int .i64 t724.Fore, .int .i64 t724.Back, .bool t724.Bold, .bool t724.Under, .bool t724.Inverse]) rfl
            refine ⟨.inr ⟨f5.now, trivial⟩, ?_⟩
            refine xd_op hk (i := 4) (by kernel_rfl) rfl rfl ?_
            refine op_call hk ent_9 (vs := [.agg #[.int .i64 t724.Fore, .int .i64 t724.Back, .bool t724.Bold, .bool t724.Under, .bool t724.Inverse], .slice A442 (l444).length c443]) rfl (style_Style_Set_calls K t724 A442 c443 l444 _ o957 _ f445 hc446   _ hc733) ?_
            rintro _ w962 ⟨o963, rfl, st964⟩
            replace f213 := f213.st st964 (by decide)
            replace f445 := f445.st st964 (by decide)
            replace f5 := f5.st st964 (by decide)
            replace f952 := f952.st st964 (by decide)
            replace hs := hs.loc0 st964 (by decide)
            have hk := hk.put 75 (.agg #[.int .i64 t732.Fore, .int .i64 t732.Back, .bool t732.Bold, .bool t732.Under, .bool t732.Inverse]) rfl
            refine ⟨.inr ⟨f5.now, trivial⟩, ?_⟩
            refine xd_op hk (i := 8) (by kernel_rfl) rfl rfl ?_
            refine op_append (o := o963) (E := (encInt .i64)) (xs := ([] : List Int)) (ys := l212) tab hk rfl rfl rfl rfl rfl rfl rfl f952 (Own.rd f213.now) q746 fun A968 c969 w965 o966 st967 f970 hc971 => ?_
            replace f213 := f213.st st967 (by decide)
            replace f445 := f445.st st967 (by decide)
            replace f5 := f5.st st967 (by decide)
            replace hs := hs.loc0 st967 (by decide)
            have hk := hk.put 79 (.slice A968 ((([] : List Int) ++ l212)).length c969) rfl
            refine ⟨.inr ⟨f5.now, trivial⟩, ?_⟩
            refine xd_op hk (i := 10) (by kernel_rfl) rfl rfl ?_
            refine op_append (o := o966) (E := (encInt .i64)) (xs := (([] : List Int) ++ l212)) (ys := l444) tab hk rfl rfl rfl rfl rfl rfl rfl f970 f445.now q754 fun A975 c976 w972 o973 st974 f977 hc978 => ?_
            replace f213 := f213.st st974 (by decide)
            replace f445 := f445.st st974 (by decide)
            replace f5 := f5.st st974 (by decide)
            replace hs := hs.loc0 st974 (by decide)
            have hk := hk.put 81 (.slice A975 (((([] : List Int) ++ l212) ++ l444)).length c976) rfl
            refine ⟨.inr ⟨f5.now, trivial⟩, ?_⟩
            refine xd_op hk (i := 11) (by kernel_rfl) rfl rfl ?_
            refine op_call hk ent_9 (vs := [.agg #[.int .i64 p0.Fore, .int .i64 p0.Back, .bool p0.Bold, .bool p0.Under, .bool p0.Inverse], .slice A975 (((([] : List Int) ++ l212) ++ l444)).length c976]) rfl (style_Style_Set_calls K p0 A975 c976 ((([] : List Int) ++ l212) ++ l444) _ o973 _ (f977.imp fun _ h_ => Own.rd h_) hc978   _ hc763) ?_
            rintro _ w982 ⟨o983, rfl, st984⟩
            replace f213 := f213.st st984 (by decide)
            replace f445 := f445.st st984 (by decide)
            replace f5 := f5.st st984 (by decide)
            replace f977 := f977.st st984 (by decide)
            replace hs := hs.loc0 st984 (by decide)
            have hk := hk.put 82 (.agg #[.int .i64 t762.Fore, .int .i64 t762.Back, .bool t762.Bold, .bool t762.Under, .bool t762.Inverse]) rfl
            refine ⟨.inr ⟨f5.now, trivial⟩, ?_⟩
            refine xd_take tab hk (k := 0) (is := [12, 13]) (ls' := #[true, true, true, true, true, true, true, true, true, true, true, true, true, true]) (lv := [.bool (eqT22 t732 t762)]) (ks := [6]) (e' := [(6, .bool (eqT22 t732 t762))]) (by kernel_rfl) rfl rfl (by kernel_rfl) (np_then (np_then np_body)) ⟨f5.now, trivial⟩ (fun W_ hS => ⟨(ask_eq tab stood rfl rfl rfl rfl), trivial⟩) fun a hk => ?_
            refine xd_done (by kernel_rfl) ?_
            refine then_n ?_
            exact ⟨o983, (eqT22 t732 t762), (by exact Kn.pick (ks := [6]) hk rfl), hs, H⟩
        refine x_seq ?_
        refine wp_region_lit ?_
        refine x_run tab hk (k := 3) (lv := []) (ks := [3, 7, 8, 69]) (e' := [(3, .pointer (some ⟨bx4, 0, none⟩)), (7, .slice A210 (l212).length c211), (8, .slice A419 ((List.drop (Int.toNat 1) (List.take (l414).length l414))).length c420), (69, .bool ((((List.drop (Int.toNat 1) (List.take (l414).length l414))).length : Int) == (0 : Int)))]) rfl trivial fun a hk => ?_
        refine wpList_nil ?_
        refine then_n ?_
        cases b985 : ((((List.drop (Int.toNat 1) (List.take (l414).length l414))).length : Int) == (0 : Int))
        · rw [b985] at hk H
          replace H := bifF H
          refine x_if hk (b := false) rfl ?_
          refine (show Code.wp _ _ _ _ _ from ?_)
          refine wp_skip ?_
          refine then_n ?_
          exact ⟨(fun b_ => (fun l_ => if l_ = 63 then 67 else if l_ = 64 then 68 else if l_ = 65 then 69 else l_) (o411 b_)), A419, c420, (List.drop (Int.toNat 1) (List.take (l414).length l414)), (by exact Kn.pick (ks := [3, 7, 8]) hk rfl), (hs.relab0 (fun l_ => if l_ = 63 then 67 else if l_ = 64 then 68 else if l_ = 65 then 69 else l_) rfl), (f213.relab (fun l_ => if l_ = 63 then 67 else if l_ = 64 then 68 else if l_ = 65 then 69 else l_) rfl), (f421.relab (fun l_ => if l_ = 63 then 67 else if l_ = 64 then 68 else if l_ = 65 then 69 else l_) rfl), (f5.relab (fun l_ => if l_ = 63 then 67 else if l_ = 64 then 68 else if l_ = 65 then 69 else l_) rfl), hc423, H⟩
        · rw [b985] at hk H
          replace H := bifT H
          refine x_if hk (b := true) rfl ?_
          refine (show Code.wp _ _ _ _ _ from ?_)
          refine wp_region_lit ?_
          refine x_op hk rfl ?_
          refine op_slice (o := o411) tab hk (vs := [.int .i64 4]) (cs := [.int .i64 4]) rfl rfl rfl rfl rfl rfl rfl rfl rfl 84 fun bx989 w986 o987 st988 f990 => ?_
          replace f213 := f213.st st988 (by decide)
          replace f421 := f421.st st988 (by decide)
          replace f5 := f5.st st988 (by decide)
          replace hs := hs.loc0 st988 (by decide)
          have f991 : Ft (Own (encInt .i64) 3 (.slice (some ⟨bx989, 0, none⟩) (([4] : List Int)).length 1) ([4] : List Int)) w986 o987 84 := f990.imp fun _ h_ => Own.of_box h_ rfl (by simp)
          have hk := hk.put 70 (.slice (some ⟨bx989, 0, none⟩) (([4] : List Int)).length 1) rfl
          refine x_run tab hk (k := 1) (lv := []) (ks := [3, 7, 8]) (e' := [(3, .pointer (some ⟨bx4, 0, none⟩)), (7, .slice A210 (l212).length c211), (8, .slice (some ⟨bx989, 0, none⟩) (([4] : List Int)).length 1)]) rfl trivial fun a hk => ?_
          refine wpList_nil ?_
          refine then_n ?_
          exact ⟨(fun b_ => (fun l_ => if l_ = 63 then 67 else if l_ = 64 then 68 else if l_ = 84 then 69 else l_) (o987 b_)), (some ⟨bx989, 0, none⟩), 1, ([4] : List Int), (by exact Kn.pick (ks := [3, 7, 8]) hk rfl), (hs.relab0 (fun l_ => if l_ = 63 then 67 else if l_ = 64 then 68 else if l_ = 84 then 69 else l_) rfl), (f213.relab (fun l_ => if l_ = 63 then 67 else if l_ = 64 then 68 else if l_ = 84 then 69 else l_) rfl), ((f991.imp fun _ h_ => Own.rd h_).relab (fun l_ => if l_ = 63 then 67 else if l_ = 64 then 68 else if l_ = 84 then 69 else l_) rfl), (f5.relab (fun l_ => if l_ = 63 then 67 else if l_ = 64 then 68 else if l_ = 84 then 69 else l_) rfl), (Nat.le_refl _), H⟩
      refine x_seq ?_
      refine wp_region_lit ?_
      refine x_run tab hk (k := 1) (lv := []) (ks := [2, 3, 7, 8, 10]) (e' := [(2, .slice Ap2 (p2).length cp2), (3, .pointer (some ⟨bx4, 0, none⟩)), (7, .slice A210 (l212).length c211), (8, .slice (some ⟨bx24, 0, none⟩) (([0] : List Int)).length 1), (10, .int .i64 0)]) rfl trivial fun a hk => ?_
      refine wpList_nil ?_
      refine then_n ?_
      refine wp_block ?_
      refine x_loop (fun j_ a_ w_ => ∃ o1052 : Nat → Nat, ∃ A1053 : Option Addr, ∃ c1054 : Nat, ∃ l1055 : List Int, ∃ x1058 : Int, Kn 84 a_ [(2, .slice Ap2 (p2).length cp2), (3, .pointer (some ⟨bx4, 0, none⟩)), (7, .slice A210 (l212).length c211), (8, .slice A1053 (l1055).length c1054), (10, .int .i64 x1058)] ∧ St [] w (fun _ => 0) w_ o1052 ∧ Ft (Own (encInt .i64) 3 (.slice A1053 (l1055).length c1054) l1055) w_ o1052 97 ∧ Ft (Own (encInt .i64) 3 (.slice A210 (l212).length c211) l212) w_ o1052 96 ∧ Ft (Bx bx4 23 [.int .i64 p0.Fore, .int .i64 p0.Back, .bool p0.Bold, .bool p0.Under, .bool p0.Inverse]) w_ o1052 95 ∧ Ft (RdC (encInt .i64) Ap2 p2) w_ o1052 0 ∧ (l1055).length ≤ c1054 ∧ tidewracklaw08_StyleTwice_l5 K p0 p2 l212 j_ l1055 x1058 = some r) (k := K) ⟨(fun b_ => (fun l_ => if l_ = 37 then 95 else if l_ = 38 then 96 else if l_ = 39 then 97 else l_) (o209 b_)), (some ⟨bx24, 0, none⟩), 1, ([0] : List Int), 0, (by exact Kn.pick (ks := [2, 3, 7, 8, 10]) hk rfl), (hs.relab0 (fun l_ => if l_ = 37 then 95 else if l_ = 38 then 96 else if l_ = 39 then 97 else l_) rfl), (f26.relab (fun l_ => if l_ = 37 then 95 else if l_ = 38 then 96 else if l_ = 39 then 97 else l_) rfl), (f213.relab (fun l_ => if l_ = 37 then 95 else if l_ = 38 then 96 else if l_ = 39 then 97 else l_) rfl), (f5.relab (fun l_ => if l_ = 37 then 95 else if l_ = 38 then 96 else if l_ = 39 then 97 else l_) rfl), (f902.relab (fun l_ => if l_ = 37 then 95 else if l_ = 38 then 96 else if l_ = 39 then 97 else l_) rfl), (Nat.le_refl _), H⟩ (by rintro _ _ ⟨_, _, _, _, _, _, _, _, _, _, _, _, H_⟩; exact absurd (show (none : Option Bool) = some r from H_) (by simp)) ?_
      rintro k1117 a w1116 ⟨o1052, A1053, c1054, l1055, x1058, hk, hs, f1056, f213, f5, f902, hc1057, H⟩
      rw [tidewracklaw08_StyleTwice_l5] at H
      obtain ⟨lp1118, hlp1119⟩ : ∃ lp_, lp_ = tidewracklaw08_StyleTwice_l5 K p0 p2 l212 k1117 := ⟨_, rfl⟩
      rw [← hlp1119] at H
      refine x_mid (fun a_ w_ => ∃ o1125 : Nat → Nat, Kn 84 a_ [(2, .slice Ap2 (p2).length cp2), (3, .pointer (some ⟨bx4, 0, none⟩)), (7, .slice A210 (l212).length c211), (8, .slice A1053 (l1055).length c1054), (10, .int .i64 x1058)] ∧ St [] w (fun _ => 0) w_ o1125 ∧ Ft (Own (encInt .i64) 3 (.slice A1053 (l1055).length c1054) l1055) w_ o1125 105 ∧ Ft (Own (encInt .i64) 3 (.slice A210 (l212).length c211) l212) w_ o1125 104 ∧ Ft (Bx bx4 23 [.int .i64 p0.Fore, .int .i64 p0.Back, .bool p0.Bold, .bool p0.Under, .bool p0.Inverse]) w_ o1125 103 ∧ Ft (RdC (encInt .i64) Ap2 p2) w_ o1125 0 ∧ tidewracklaw08_StyleTwice_j6 p2 l1055 x1058 lp1118 = some r) ?_ ?_
      rotate_left
      · rintro a w1126 ⟨o1125, hk, hs, f1056, f213, f5, f902, H⟩
        rw [tidewracklaw08_StyleTwice_j6] at H
        refine x_seq ?_
        refine wp_block ?_
        refine xd_begin (o := o1125) (fun W_ => (RdC (encInt .i64) Ap2 p2) W_ ∧ True) mixed rfl rfl fun w1150 st1151 => ?_
        replace f1056 := f1056.st st1151 (by decide)
        replace f213 := f213.st st1151 (by decide)
        replace f5 := f5.st st1151 (by decide)
        replace f902 := f902.st st1151 (by decide)
        replace hs := hs.loc0 st1151 (by decide)
        obtain ⟨q1152, H⟩ := ifS H
        obtain ⟨q1153, H⟩ := ifS H
        obtain ⟨A1154, c1155, ak1157, f1156, hc1158⟩ := ask_take (P := Try.prog) tab (t := 24) rfl rfl f1056 hc1057 (k := .i64) (if ((l1055).length : Int) > 1 then ((l1055).length : Int) else 1) q1152 q1153
        obtain ⟨q1159, H⟩ := ifS H
        obtain ⟨ad1160, hAad1160⟩ := RdC.addr f902.now q1159
        subst hAad1160
        refine xd_take tab hk (k := 3) (is := [0, 1, 2, 3, 4, 5, 6, 7, 8]) (ls' := #[true, true, true, true, true, true, true, true, true, false, false, false]) (lv := [.slice A1154 ((List.take (Int.toNat (if ((l1055).length : Int) > 1 then ((l1055).length : Int) else 1)) l1055)).length c1155, .int .i64 (rdD 0 p2 x1058)]) (ks := [2, 3, 7, 8, 10, 58, 62]) (e' := [(2, .slice (some ad1160) (p2).length cp2), (3, .pointer (some ⟨bx4, 0, none⟩)), (7, .slice A210 (l212).length c211), (8, .slice A1053 (l1055).length c1054), (10, .int .i64 x1058), (58, .slice A1154 ((List.take (Int.toNat (if ((l1055).length : Int) > 1 then ((l1055).length : Int) else 1)) l1055)).length c1155), (62, .int .i64 (rdD 0 p2 x1058))]) (by kernel_rfl) rfl rfl (by kernel_rfl) (np_blk (np_then (np_then (np_blk (np_then np_body))))) ⟨f902.now, trivial⟩ (fun W_ hS => ⟨(ak1157 rfl rfl _), q1159, (load1 tab rfl (RdC.at0 (E := (encInt .i64)) (d := 0) (i := x1058) hS.1 q1159 rfl)), trivial⟩) fun a hk => ?_
        refine xd_op hk (i := 9) (by kernel_rfl) rfl rfl ?_
        refine op_slice (o := o1125) tab hk (vs := [.int .i64 (rdD 0 p2 x1058)]) (cs := [.int .i64 (rdD 0 p2 x1058)]) rfl rfl rfl rfl rfl rfl rfl rfl rfl 107 fun bx1164 w1161 o1162 st1163 f1165 => ?_
        replace f1056 := f1056.st st1163 (by decide)
        replace f1156 := f1156.st st1163 (by decide)
        replace f213 := f213.st st1163 (by decide)
        replace f5 := f5.st st1163 (by decide)
        replace f902 := f902.st st1163 (by decide)
        replace hs := hs.loc0 st1163 (by decide)
        have f1166 : Ft (Own (encInt .i64) 3 (.slice (some ⟨bx1164, 0, none⟩) (([(rdD 0 p2 x1058)] : List Int)).length 1) ([(rdD 0 p2 x1058)] : List Int)) w1161 o1162 107 := f1165.imp fun _ h_ => Own.of_box h_ rfl (by simp)
        have hk := hk.put 63 (.slice (some ⟨bx1164, 0, none⟩) (([(rdD 0 p2 x1058)] : List Int)).length 1) rfl
        refine ⟨.inr ⟨f902.now, trivial⟩, ?_⟩
        refine xd_op hk (i := 10) (by kernel_rfl) rfl rfl ?_
        obtain ⟨q1170, H⟩ := ifS H
        refine op_append (o := o1162) (E := (encInt .i64)) (xs := (List.take (Int.toNat (if ((l1055).length : Int) > 1 then ((l1055).length : Int) else 1)) l1055)) (ys := ([(rdD 0 p2 x1058)] : List Int)) tab hk rfl rfl rfl rfl rfl rfl rfl f1156 (Own.rd f1166.now) q1170 fun A1171 c1172 w1167 o1168 st1169 f1173 hc1174 => ?_
        replace f1166 := f1166.st st1169 (by decide)
        replace f213 := f213.st st1169 (by decide)
        replace f5 := f5.st st1169 (by decide)
        replace f902 := f902.st st1169 (by decide)
        replace hs := hs.loc0 st1169 (by decide)
        have hk := hk.put 64 (.slice A1171 (((List.take (Int.toNat (if ((l1055).length : Int) > 1 then ((l1055).length : Int) else 1)) l1055) ++ ([(rdD 0 p2 x1058)] : List Int))).length c1172) rfl
        refine ⟨.inr ⟨f902.now, trivial⟩, ?_⟩
        refine xd_take tab hk (k := 0) (is := [11]) (ls' := #[true, true, true, true, true, true, true, true, true, true, true, true]) (lv := []) (ks := [2, 3, 7, 8, 10]) (e' := [(2, .slice (some ad1160) (p2).length cp2), (3, .pointer (some ⟨bx4, 0, none⟩)), (7, .slice A210 (l212).length c211), (8, .slice A1171 (((List.take (Int.toNat (if ((l1055).length : Int) > 1 then ((l1055).length : Int) else 1)) l1055) ++ ([(rdD 0 p2 x1058)] : List Int))).length c1172), (10, .int .i64 x1058)]) (by kernel_rfl) rfl rfl (by kernel_rfl) (np_blk (np_then (np_then (np_blk (np_then np_body))))) ⟨f902.now, trivial⟩ (fun W_ hS => trivial) fun a hk => ?_
        refine xd_done (by kernel_rfl) ?_
        refine blk_n ?_
        refine then_n ?_
        refine wp_region_lit ?_
        refine x_run tab hk (k := 3) (lv := []) (ks := [2, 3, 7, 8, 10]) (e' := [(2, .slice (some ad1160) (p2).length cp2), (3, .pointer (some ⟨bx4, 0, none⟩)), (7, .slice A210 (l212).length c211), (8, .slice A1171 (((List.take (Int.toNat (if ((l1055).length : Int) > 1 then ((l1055).length : Int) else 1)) l1055) ++ ([(rdD 0 p2 x1058)] : List Int))).length c1172), (10, .int .i64 (IntKind.wrap .i64 (x1058 + 1)))]) rfl trivial fun a hk => ?_
        refine wpList_nil ?_
        refine then_n ?_
        exact ⟨k1117, Nat.le_refl _, (fun b_ => (fun l_ => if l_ = 103 then 95 else if l_ = 104 then 96 else if l_ = 105 then 97 else l_) (o1168 b_)), A1171, c1172, ((List.take (Int.toNat (if ((l1055).length : Int) > 1 then ((l1055).length : Int) else 1)) l1055) ++ ([(rdD 0 p2 x1058)] : List Int)), (IntKind.wrap .i64 (x1058 + 1)), (by exact Kn.pick (ks := [2, 3, 7, 8, 10]) hk rfl), (hs.relab0 (fun l_ => if l_ = 103 then 95 else if l_ = 104 then 96 else if l_ = 105 then 97 else l_) rfl), (f1173.relab (fun l_ => if l_ = 103 then 95 else if l_ = 104 then 96 else if l_ = 105 then 97 else l_) rfl), (f213.relab (fun l_ => if l_ = 103 then 95 else if l_ = 104 then 96 else if l_ = 105 then 97 else l_) rfl), (f5.relab (fun l_ => if l_ = 103 then 95 else if l_ = 104 then 96 else if l_ = 105 then 97 else l_) rfl), (f902.relab (fun l_ => if l_ = 103 then 95 else if l_ = 104 then 96 else if l_ = 105 then 97 else l_) rfl), hc1174, (hlp1119 ▸ H)⟩
      refine x_seq ?_
      refine wp_region_lit ?_
      refine x_run tab hk (k := 5) (lv := []) (ks := [2, 3, 7, 8, 10, 48]) (e' := [(2, .slice Ap2 (p2).length cp2), (3, .pointer (some ⟨bx4, 0, none⟩)), (7, .slice A210 (l212).length c211), (8, .slice A1053 (l1055).length c1054), (10, .int .i64 x1058), (48, .bool (decide (x1058 < ((p2).length : Int))))]) rfl trivial fun a hk => ?_
      cases b1175 : (decide (x1058 < ((p2).length : Int)))
      · rw [b1175] at hk H
        replace H := bifF H
        refine x_run tab hk (k := 3) (lv := []) (ks := [2, 3, 7, 8, 10, 51]) (e' := [(2, .slice Ap2 (p2).length cp2), (3, .pointer (some ⟨bx4, 0, none⟩)), (7, .slice A210 (l212).length c211), (8, .slice A1053 (l1055).length c1054), (10, .int .i64 x1058), (51, .bool false)]) rfl trivial fun a hk => ?_
        refine wpList_nil ?_
        refine then_n ?_
        refine x_if hk (b := false) rfl ?_
        refine (show Code.wp _ _ _ _ _ from ?_)
        refine wp_exit ?_
        refine then_x ?_
        refine then_x ?_
        refine blk_x ?_
        refine then_n ?_
        exact ⟨(fun b_ => (fun l_ => if l_ = 95 then 63 else if l_ = 96 then 64 else if l_ = 97 then 65 else l_) (o1052 b_)), A1053, c1054, l1055, (by exact Kn.pick (ks := [3, 7, 8]) hk rfl), (hs.relab0 (fun l_ => if l_ = 95 then 63 else if l_ = 96 then 64 else if l_ = 97 then 65 else l_) rfl), (f213.relab (fun l_ => if l_ = 95 then 63 else if l_ = 96 then 64 else if l_ = 97 then 65 else l_) rfl), (f1056.relab (fun l_ => if l_ = 95 then 63 else if l_ = 96 then 64 else if l_ = 97 then 65 else l_) rfl), (f5.relab (fun l_ => if l_ = 95 then 63 else if l_ = 96 then 64 else if l_ = 97 then 65 else l_) rfl), hc1057, H⟩
      · rw [b1175] at hk H
        replace H := bifT H
        refine x_run tab hk (k := 3) (lv := []) (ks := [2, 3, 7, 8, 10, 51]) (e' := [(2, .slice Ap2 (p2).length cp2), (3, .pointer (some ⟨bx4, 0, none⟩)), (7, .slice A210 (l212).length c211), (8, .slice A1053 (l1055).length c1054), (10, .int .i64 x1058), (51, .bool (decide (x1058 < (12 : Int))))]) rfl trivial fun a hk => ?_
        refine wpList_nil ?_
        refine then_n ?_
        cases b1176 : (decide (x1058 < (12 : Int)))
        · rw [b1176] at hk H
          replace H := bifF H
          refine x_if hk (b := false) rfl ?_
          refine (show Code.wp _ _ _ _ _ from ?_)
          refine wp_exit ?_
          refine then_x ?_
          refine then_x ?_
          refine blk_x ?_
          refine then_n ?_
          exact ⟨(fun b_ => (fun l_ => if l_ = 95 then 63 else if l_ = 96 then 64 else if l_ = 97 then 65 else l_) (o1052 b_)), A1053, c1054, l1055, (by exact Kn.pick (ks := [3, 7, 8]) hk rfl), (hs.relab0 (fun l_ => if l_ = 95 then 63 else if l_ = 96 then 64 else if l_ = 97 then 65 else l_) rfl), (f213.relab (fun l_ => if l_ = 95 then 63 else if l_ = 96 then 64 else if l_ = 97 then 65 else l_) rfl), (f1056.relab (fun l_ => if l_ = 95 then 63 else if l_ = 96 then 64 else if l_ = 97 then 65 else l_) rfl), (f5.relab (fun l_ => if l_ = 95 then 63 else if l_ = 96 then 64 else if l_ = 97 then 65 else l_) rfl), hc1057, H⟩
        · rw [b1176] at hk H
          replace H := bifT H
          refine x_if hk (b := true) rfl ?_
          refine (show Code.wp _ _ _ _ _ from ?_)
          refine wp_skip ?_
          refine then_n ?_
          exact ⟨(fun b_ => (fun l_ => if l_ = 95 then 103 else if l_ = 96 then 104 else if l_ = 97 then 105 else l_) (o1052 b_)), (by exact Kn.pick (ks := [2, 3, 7, 8, 10]) hk rfl), (hs.relab0 (fun l_ => if l_ = 95 then 103 else if l_ = 96 then 104 else if l_ = 97 then 105 else l_) rfl), (f1056.relab (fun l_ => if l_ = 95 then 103 else if l_ = 96 then 104 else if l_ = 97 then 105 else l_) rfl), (f213.relab (fun l_ => if l_ = 95 then 103 else if l_ = 96 then 104 else if l_ = 97 then 105 else l_) rfl), (f5.relab (fun l_ => if l_ = 95 then 103 else if l_ = 96 then 104 else if l_ = 97 then 105 else l_) rfl), (f902.relab (fun l_ => if l_ = 95 then 103 else if l_ = 96 then 104 else if l_ = 97 then 105 else l_) rfl), H⟩
    refine x_seq ?_
    refine wp_region_lit ?_
    refine x_run tab hk (k := 1) (lv := []) (ks := [1, 2, 3, 7, 8, 9]) (e' := [(1, .slice Ap1 (p1).length cp1), (2, .slice Ap2 (p2).length cp2), (3, .pointer (some ⟨bx4, 0, none⟩)), (7, .slice (some ⟨bx18, 0, none⟩) (([7] : List Int)).length 1), (8, .slice (some ⟨bx24, 0, none⟩) (([0] : List Int)).length 1), (9, .int .i64 0)]) rfl trivial fun a hk => ?_
    refine wpList_nil ?_
    refine then_n ?_
    refine wp_block ?_
    refine x_loop (fun j_ a_ w_ => ∃ o1231 : Nat → Nat, ∃ A1232 : Option Addr, ∃ c1233 : Nat, ∃ l1234 : List Int, ∃ A1237 : Option Addr, ∃ c1238 : Nat, ∃ l1239 : List Int, ∃ x1242 : Int, Kn 84 a_ [(1, .slice A1232 (l1234).length c1233), (2, .slice Ap2 (p2).length cp2), (3, .pointer (some ⟨bx4, 0, none⟩)), (7, .slice A1237 (l1239).length c1238), (8, .slice (some ⟨bx24, 0, none⟩) (([0] : List Int)).length 1), (9, .int .i64 x1242)] ∧ St [] w (fun _ => 0) w_ o1231 ∧ Ft (RdC (encInt .i64) A1232 l1234) w_ o1231 0 ∧ Ft (Own (encInt .i64) 3 (.slice A1237 (l1239).length c1238) l1239) w_ o1231 125 ∧ Ft (Own (encInt .i64) 3 (.slice (some ⟨bx24, 0, none⟩) (([0] : List Int)).length 1) ([0] : List Int)) w_ o1231 126 ∧ Ft (Bx bx4 23 [.int .i64 p0.Fore, .int .i64 p0.Back, .bool p0.Bold, .bool p0.Under, .bool p0.Inverse]) w_ o1231 124 ∧ Ft (RdC (encInt .i64) Ap2 p2) w_ o1231 0 ∧ (l1234).length ≤ c1233 ∧ (l1239).length ≤ c1238 ∧ tidewracklaw08_StyleTwice_l7 K p0 p2 j_ l1234 l1239 x1242 = some r) (k := K) ⟨(fun b_ => (fun l_ => if l_ = 1 then 124 else if l_ = 2 then 125 else if l_ = 3 then 126 else l_) (o22 b_)), Ap1, cp1, p1, (some ⟨bx18, 0, none⟩), 1, ([7] : List Int), 0, (by exact Kn.pick (ks := [1, 2, 3, 7, 8, 9]) hk rfl), (hs.relab0 (fun l_ => if l_ = 1 then 124 else if l_ = 2 then 125 else if l_ = 3 then 126 else l_) rfl), (f901.relab (fun l_ => if l_ = 1 then 124 else if l_ = 2 then 125 else if l_ = 3 then 126 else l_) rfl), (f20.relab (fun l_ => if l_ = 1 then 124 else if l_ = 2 then 125 else if l_ = 3 then 126 else l_) rfl), (f26.relab (fun l_ => if l_ = 1 then 124 else if l_ = 2 then 125 else if l_ = 3 then 126 else l_) rfl), (f5.relab (fun l_ => if l_ = 1 then 124 else if l_ = 2 then 125 else if l_ = 3 then 126 else l_) rfl), (f902.relab (fun l_ => if l_ = 1 then 124 else if l_ = 2 then 125 else if l_ = 3 then 126 else l_) rfl), hcp1, (Nat.le_refl _), H⟩ (by rintro _ _ ⟨_, _, _, _, _, _, _, _, _, _, _, _, _, _, _, _, _, H_⟩; exact absurd (show (none : Option Bool) = some r from H_) (by simp)) ?_
    rintro k1295 a w1294 ⟨o1231, A1232, c1233, l1234, A1237, c1238, l1239, x1242, hk, hs, f1235, f1240, f26, f5, f902, hc1236, hc1241, H⟩
    rw [tidewracklaw08_StyleTwice_l7] at H
    obtain ⟨lp1296, hlp1297⟩ : ∃ lp_, lp_ = tidewracklaw08_StyleTwice_l7 K p0 p2 k1295 := ⟨_, rfl⟩
    rw [← hlp1297] at H
    refine x_mid (fun a_ w_ => ∃ o1303 : Nat → Nat, Kn 84 a_ [(1, .slice A1232 (l1234).length c1233), (2, .slice Ap2 (p2).length cp2), (3, .pointer (some ⟨bx4, 0, none⟩)), (7, .slice A1237 (l1239).length c1238), (8, .slice (some ⟨bx24, 0, none⟩) (([0] : List Int)).length 1), (9, .int .i64 x1242)] ∧ St [] w (fun _ => 0) w_ o1303 ∧ Ft (RdC (encInt .i64) A1232 l1234) w_ o1303 0 ∧ Ft (Own (encInt .i64) 3 (.slice A1237 (l1239).length c1238) l1239) w_ o1303 135 ∧ Ft (Own (encInt .i64) 3 (.slice (some ⟨bx24, 0, none⟩) (([0] : List Int)).length 1) ([0] : List Int)) w_ o1303 136 ∧ Ft (Bx bx4 23 [.int .i64 p0.Fore, .int .i64 p0.Back, .bool p0.Bold, .bool p0.Under, .bool p0.Inverse]) w_ o1303 134 ∧ Ft (RdC (encInt .i64) Ap2 p2) w_ o1303 0 ∧ tidewracklaw08_StyleTwice_j8 l1234 l1239 x1242 lp1296 = some r) ?_ ?_
    rotate_left
    · rintro a w1304 ⟨o1303, hk, hs, f1235, f1240, f26, f5, f902, H⟩
      rw [tidewracklaw08_StyleTwice_j8] at H
      refine x_seq ?_
      refine wp_block ?_
      refine x_mid (fun a_ w_ => ∃ o1319 : Nat → Nat, ∃ A1320 : Option Addr, ∃ c1321 : Nat, ∃ l1322 : List Int, ∃ x1325 : Bool, Kn 84 a_ [(1, .slice A1320 (l1322).length c1321), (2, .slice Ap2 (p2).length cp2), (3, .pointer (some ⟨bx4, 0, none⟩)), (7, .slice A1237 (l1239).length c1238), (8, .slice (some ⟨bx24, 0, none⟩) (([0] : List Int)).length 1), (9, .int .i64 x1242), (36, .bool x1325)] ∧ St [] w (fun _ => 0) w_ o1319 ∧ Ft (Own (encInt .i64) 3 (.slice A1237 (l1239).length c1238) l1239) w_ o1319 138 ∧ Ft (RdC (encInt .i64) A1320 l1322) w_ o1319 0 ∧ Ft (Own (encInt .i64) 3 (.slice (some ⟨bx24, 0, none⟩) (([0] : List Int)).length 1) ([0] : List Int)) w_ o1319 139 ∧ Ft (Bx bx4 23 [.int .i64 p0.Fore, .int .i64 p0.Back, .bool p0.Bold, .bool p0.Under, .bool p0.Inverse]) w_ o1319 137 ∧ Ft (RdC (encInt .i64) Ap2 p2) w_ o1319 0 ∧ (l1322).length ≤ c1321 ∧ tidewracklaw08_StyleTwice_j9 l1239 x1242 lp1296 l1322 x1325 = some r) ?_ ?_
      rotate_left
      · rintro a w1326 ⟨o1319, A1320, c1321, l1322, x1325, hk, hs, f1240, f1323, f26, f5, f902, hc1324, H⟩
        rw [tidewracklaw08_StyleTwice_j9] at H
        cases b1327 : x1325
        · rw [b1327] at hk H
          replace H := bifF H
          refine x_if hk (b := false) rfl ?_
          refine (show Code.wp _ _ _ _ _ from ?_)
          refine wp_skip ?_
          refine blk_n ?_
          refine then_n ?_
          refine wp_region_lit ?_
          refine x_run tab hk (k := 3) (lv := []) (ks := [1, 2, 3, 7, 8, 9]) (e' := [(1, .slice A1320 (l1322).length c1321), (2, .slice Ap2 (p2).length cp2), (3, .pointer (some ⟨bx4, 0, none⟩)), (7, .slice A1237 (l1239).length c1238), (8, .slice (some ⟨bx24, 0, none⟩) (([0] : List Int)).length 1), (9, .int .i64 (IntKind.wrap .i64 (x1242 + 1)))]) rfl trivial fun a hk => ?_
          refine wpList_nil ?_
          refine then_n ?_
          exact ⟨k1295, Nat.le_refl _, (fun b_ => (fun l_ => if l_ = 137 then 124 else if l_ = 138 then 125 else if l_ = 139 then 126 else l_) (o1319 b_)), A1320, c1321, l1322, A1237, c1238, l1239, (IntKind.wrap .i64 (x1242 + 1)), (by exact Kn.pick (ks := [1, 2, 3, 7, 8, 9]) hk rfl), (hs.relab0 (fun l_ => if l_ = 137 then 124 else if l_ = 138 then 125 else if l_ = 139 then 126 else l_) rfl), (f1323.relab (fun l_ => if l_ = 137 then 124 else if l_ = 138 then 125 else if l_ = 139 then 126 else l_) rfl), (f1240.relab (fun l_ => if l_ = 137 then 124 else if l_ = 138 then 125 else if l_ = 139 then 126 else l_) rfl), (f26.relab (fun l_ => if l_ = 137 then 124 else if l_ = 138 then 125 else if l_ = 139 then 126 else l_) rfl), (f5.relab (fun l_ => if l_ = 137 then 124 else if l_ = 138 then 125 else if l_ = 139 then 126 else l_) rfl), (f902.relab (fun l_ => if l_ = 137 then 124 else if l_ = 138 then 125 else if l_ = 139 then 126 else l_) rfl), hc1324, hc1241, (hlp1297 ▸ H)⟩
        · rw [b1327] at hk H
          replace H := bifT H
          refine x_if hk (b := true) rfl ?_
          refine (show Code.wp _ _ _ _ _ from ?_)
          refine wp_region_lit ?_
          obtain ⟨q1328, H⟩ := ifS H
          obtain ⟨ad1329, hAad1329⟩ := RdC.addr f1323.now q1328
          subst hAad1329
          refine x_run tab hk (k := 5) (lv := [.int .i64 (rdD 0 l1322 x1242)]) (ks := [1, 2, 3, 8, 9, 37, 41]) (e' := [(1, .slice (some ad1329) (l1322).length c1321), (2, .slice Ap2 (p2).length cp2), (3, .pointer (some ⟨bx4, 0, none⟩)), (8, .slice (some ⟨bx24, 0, none⟩) (([0] : List Int)).length 1), (9, .int .i64 x1242), (37, .slice A1237 (l1239).length c1238), (41, .int .i64 (rdD 0 l1322 x1242))]) rfl ⟨q1328, (load1 tab rfl (RdC.at0 (E := (encInt .i64)) (d := 0) (i := x1242) f1323.now q1328 rfl)), trivial⟩ fun a hk => ?_
          refine x_op hk rfl ?_
          refine op_slice (o := o1319) tab hk (vs := [.int .i64 (rdD 0 l1322 x1242)]) (cs := [.int .i64 (rdD 0 l1322 x1242)]) rfl rfl rfl rfl rfl rfl rfl rfl rfl 140 fun bx1333 w1330 o1331 st1332 f1334 => ?_
          replace f1240 := f1240.st st1332 (by decide)
          replace f1323 := f1323.st st1332 (by decide)
          replace f26 := f26.st st1332 (by decide)
          replace f5 := f5.st st1332 (by decide)
          replace f902 := f902.st st1332 (by decide)
          replace hs := hs.loc0 st1332 (by decide)
          have f1335 : Ft (Own (encInt .i64) 3 (.slice (some ⟨bx1333, 0, none⟩) (([(rdD 0 l1322 x1242)] : List Int)).length 1) ([(rdD 0 l1322 x1242)] : List Int)) w1330 o1331 140 := f1334.imp fun _ h_ => Own.of_box h_ rfl (by simp)
          have hk := hk.put 42 (.slice (some ⟨bx1333, 0, none⟩) (([(rdD 0 l1322 x1242)] : List Int)).length 1) rfl
          refine x_op hk rfl ?_
          obtain ⟨q1339, H⟩ := ifS H
          refine op_append (o := o1331) (E := (encInt .i64)) (xs := l1239) (ys := ([(rdD 0 l1322 x1242)] : List Int)) tab hk rfl rfl rfl rfl rfl rfl rfl f1240 (Own.rd f1335.now) q1339 fun A1340 c1341 w1336 o1337 st1338 f1342 hc1343 => ?_
          replace f1323 := f1323.st st1338 (by decide)
          replace f1335 := f1335.st st1338 (by decide)
          replace f26 := f26.st st1338 (by decide)
          replace f5 := f5.st st1338 (by decide)
          replace f902 := f902.st st1338 (by decide)
          replace hs := hs.loc0 st1338 (by decide)
          have hk := hk.put 43 (.slice A1340 ((l1239 ++ ([(rdD 0 l1322 x1242)] : List Int))).length c1341) rfl
          refine x_run tab hk (k := 1) (lv := []) (ks := [1, 2, 3, 7, 8, 9]) (e' := [(1, .slice (some ad1329) (l1322).length c1321), (2, .slice Ap2 (p2).length cp2), (3, .pointer (some ⟨bx4, 0, none⟩)), (7, .slice A1340 ((l1239 ++ ([(rdD 0 l1322 x1242)] : List Int))).length c1341), (8, .slice (some ⟨bx24, 0, none⟩) (([0] : List Int)).length 1), (9, .int .i64 x1242)]) rfl trivial fun a hk => ?_
          refine wpList_nil ?_
          refine blk_n ?_
          refine then_n ?_
          refine wp_region_lit ?_
          refine x_run tab hk (k := 3) (lv := []) (ks := [1, 2, 3, 7, 8, 9]) (e' := [(1, .slice (some ad1329) (l1322).length c1321), (2, .slice Ap2 (p2).length cp2), (3, .pointer (some ⟨bx4, 0, none⟩)), (7, .slice A1340 ((l1239 ++ ([(rdD 0 l1322 x1242)] : List Int))).length c1341), (8, .slice (some ⟨bx24, 0, none⟩) (([0] : List Int)).length 1), (9, .int .i64 (IntKind.wrap .i64 (x1242 + 1)))]) rfl trivial fun a hk => ?_
          refine wpList_nil ?_
          refine then_n ?_
          exact ⟨k1295, Nat.le_refl _, (fun b_ => (fun l_ => if l_ = 137 then 124 else if l_ = 138 then 125 else if l_ = 139 then 126 else l_) (o1337 b_)), (some ad1329), c1321, l1322, A1340, c1341, (l1239 ++ ([(rdD 0 l1322 x1242)] : List Int)), (IntKind.wrap .i64 (x1242 + 1)), (by exact Kn.pick (ks := [1, 2, 3, 7, 8, 9]) hk rfl), (hs.relab0 (fun l_ => if l_ = 137 then 124 else if l_ = 138 then 125 else if l_ = 139 then 126 else l_) rfl), (f1323.relab (fun l_ => if l_ = 137 then 124 else if l_ = 138 then 125 else if l_ = 139 then 126 else l_) rfl), (f1342.relab (fun l_ => if l_ = 137 then 124 else if l_ = 138 then 125 else if l_ = 139 then 126 else l_) rfl), (f26.relab (fun l_ => if l_ = 137 then 124 else if l_ = 138 then 125 else if l_ = 139 then 126 else l_) rfl), (f5.relab (fun l_ => if l_ = 137 then 124 else if l_ = 138 then 125 else if l_ = 139 then 126 else l_) rfl), (f902.relab (fun l_ => if l_ = 137 then 124 else if l_ = 138 then 125 else if l_ = 139 then 126 else l_) rfl), hc1324, hc1343, (hlp1297 ▸ H)⟩
      refine wp_region_lit ?_
      obtain ⟨q1344, H⟩ := ifS H
      obtain ⟨ad1345, hAad1345⟩ := RdC.addr f1235.now q1344
      subst hAad1345
      refine x_run tab hk (k := 6) (lv := [.int .i64 (rdD 0 l1234 x1242)]) (ks := [1, 2, 3, 7, 8, 9, 30]) (e' := [(1, .slice (some ad1345) (l1234).length c1233), (2, .slice Ap2 (p2).length cp2), (3, .pointer (some ⟨bx4, 0, none⟩)), (7, .slice A1237 (l1239).length c1238), (8, .slice (some ⟨bx24, 0, none⟩) (([0] : List Int)).length 1), (9, .int .i64 x1242), (30, .bool ((rdD 0 l1234 x1242) != (38 : Int)))]) rfl ⟨q1344, (load1 tab rfl (RdC.at0 (E := (encInt .i64)) (d := 0) (i := x1242) f1235.now q1344 rfl)), trivial⟩ fun a hk => ?_
      cases b1346 : ((rdD 0 l1234 x1242) != (38 : Int))
      · rw [b1346] at hk H
        replace H := bifF H
        refine x_run tab hk (k := 6) (lv := []) (ks := [1, 2, 3, 7, 8, 9, 36]) (e' := [(1, .slice (some ad1345) (l1234).length c1233), (2, .slice Ap2 (p2).length cp2), (3, .pointer (some ⟨bx4, 0, none⟩)), (7, .slice A1237 (l1239).length c1238), (8, .slice (some ⟨bx24, 0, none⟩) (([0] : List Int)).length 1), (9, .int .i64 x1242), (36, .bool false)]) rfl trivial fun a hk => ?_
        refine wpList_nil ?_
        refine then_n ?_
        exact ⟨(fun b_ => (fun l_ => if l_ = 134 then 137 else if l_ = 135 then 138 else if l_ = 136 then 139 else l_) (o1303 b_)), (some ad1345), c1233, l1234, false, (by exact Kn.pick (ks := [1, 2, 3, 7, 8, 9, 36]) hk rfl), (hs.relab0 (fun l_ => if l_ = 134 then 137 else if l_ = 135 then 138 else if l_ = 136 then 139 else l_) rfl), (f1240.relab (fun l_ => if l_ = 134 then 137 else if l_ = 135 then 138 else if l_ = 136 then 139 else l_) rfl), (f1235.relab (fun l_ => if l_ = 134 then 137 else if l_ = 135 then 138 else if l_ = 136 then 139 else l_) rfl), (f26.relab (fun l_ => if l_ = 134 then 137 else if l_ = 135 then 138 else if l_ = 136 then 139 else l_) rfl), (f5.relab (fun l_ => if l_ = 134 then 137 else if l_ = 135 then 138 else if l_ = 136 then 139 else l_) rfl), (f902.relab (fun l_ => if l_ = 134 then 137 else if l_ = 135 then 138 else if l_ = 136 then 139 else l_) rfl), hc1236, H⟩
      · rw [b1346] at hk H
        replace H := bifT H
        refine x_run tab hk (k := 6) (lv := [.int .i64 (rdD 0 l1234 x1242)]) (ks := [1, 2, 3, 7, 8, 9, 36]) (e' := [(1, .slice (some ad1345) (l1234).length c1233), (2, .slice Ap2 (p2).length cp2), (3, .pointer (some ⟨bx4, 0, none⟩)), (7, .slice A1237 (l1239).length c1238), (8, .slice (some ⟨bx24, 0, none⟩) (([0] : List Int)).length 1), (9, .int .i64 x1242), (36, .bool ((rdD 0 l1234 x1242) != (48 : Int)))]) rfl ⟨q1344, (load1 tab rfl (RdC.at0 (E := (encInt .i64)) (d := 0) (i := x1242) f1235.now q1344 rfl)), trivial⟩ fun a hk => ?_
        refine wpList_nil ?_
        refine then_n ?_
        exact ⟨(fun b_ => (fun l_ => if l_ = 134 then 137 else if l_ = 135 then 138 else if l_ = 136 then 139 else l_) (o1303 b_)), (some ad1345), c1233, l1234, ((rdD 0 l1234 x1242) != (48 : Int)), (by exact Kn.pick (ks := [1, 2, 3, 7, 8, 9, 36]) hk rfl), (hs.relab0 (fun l_ => if l_ = 134 then 137 else if l_ = 135 then 138 else if l_ = 136 then 139 else l_) rfl), (f1240.relab (fun l_ => if l_ = 134 then 137 else if l_ = 135 then 138 else if l_ = 136 then 139 else l_) rfl), (f1235.relab (fun l_ => if l_ = 134 then 137 else if l_ = 135 then 138 else if l_ = 136 then 139 else l_) rfl), (f26.relab (fun l_ => if l_ = 134 then 137 else if l_ = 135 then 138 else if l_ = 136 then 139 else l_) rfl), (f5.relab (fun l_ => if l_ = 134 then 137 else if l_ = 135 then 138 else if l_ = 136 then 139 else l_) rfl), (f902.relab (fun l_ => if l_ = 134 then 137 else if l_ = 135 then 138 else if l_ = 136 then 139 else l_) rfl), hc1236, H⟩
    refine x_seq ?_
    refine wp_region_lit ?_
    refine x_run tab hk (k := 5) (lv := []) (ks := [1, 2, 3, 7, 8, 9, 19]) (e' := [(1, .slice A1232 (l1234).length c1233), (2, .slice Ap2 (p2).length cp2), (3, .pointer (some ⟨bx4, 0, none⟩)), (7, .slice A1237 (l1239).length c1238), (8, .slice (some ⟨bx24, 0, none⟩) (([0] : List Int)).length 1), (9, .int .i64 x1242), (19, .bool (decide (x1242 < ((l1234).length : Int))))]) rfl trivial fun a hk => ?_
    cases b1347 : (decide (x1242 < ((l1234).length : Int)))
    · rw [b1347] at hk H
      replace H := bifF H
      refine x_run tab hk (k := 3) (lv := []) (ks := [1, 2, 3, 7, 8, 9, 22]) (e' := [(1, .slice A1232 (l1234).length c1233), (2, .slice Ap2 (p2).length cp2), (3, .pointer (some ⟨bx4, 0, none⟩)), (7, .slice A1237 (l1239).length c1238), (8, .slice (some ⟨bx24, 0, none⟩) (([0] : List Int)).length 1), (9, .int .i64 x1242), (22, .bool false)]) rfl trivial fun a hk => ?_
      refine wpList_nil ?_
      refine then_n ?_
      refine x_if hk (b := false) rfl ?_
      refine (show Code.wp _ _ _ _ _ from ?_)
      refine wp_exit ?_
      refine then_x ?_
      refine then_x ?_
      refine blk_x ?_
      refine then_n ?_
      exact ⟨(fun b_ => (fun l_ => if l_ = 124 then 37 else if l_ = 125 then 38 else if l_ = 126 then 39 else l_) (o1231 b_)), A1237, c1238, l1239, (by exact Kn.pick (ks := [2, 3, 7, 8]) hk rfl), (hs.relab0 (fun l_ => if l_ = 124 then 37 else if l_ = 125 then 38 else if l_ = 126 then 39 else l_) rfl), (f1240.relab (fun l_ => if l_ = 124 then 37 else if l_ = 125 then 38 else if l_ = 126 then 39 else l_) rfl), (f26.relab (fun l_ => if l_ = 124 then 37 else if l_ = 125 then 38 else if l_ = 126 then 39 else l_) rfl), (f5.relab (fun l_ => if l_ = 124 then 37 else if l_ = 125 then 38 else if l_ = 126 then 39 else l_) rfl), (f902.relab (fun l_ => if l_ = 124 then 37 else if l_ = 125 then 38 else if l_ = 126 then 39 else l_) rfl), hc1241, H⟩
    · rw [b1347] at hk H
      replace H := bifT H
      refine x_run tab hk (k := 3) (lv := []) (ks := [1, 2, 3, 7, 8, 9, 22]) (e' := [(1, .slice A1232 (l1234).length c1233), (2, .slice Ap2 (p2).length cp2), (3, .pointer (some ⟨bx4, 0, none⟩)), (7, .slice A1237 (l1239).length c1238), (8, .slice (some ⟨bx24, 0, none⟩) (([0] : List Int)).length 1), (9, .int .i64 x1242), (22, .bool (decide (x1242 < (12 : Int))))]) rfl trivial fun a hk => ?_
      refine wpList_nil ?_
      refine then_n ?_
      cases b1348 : (decide (x1242 < (12 : Int)))
      · rw [b1348] at hk H
        replace H := bifF H
        refine x_if hk (b := false) rfl ?_
        refine (show Code.wp _ _ _ _ _ from ?_)
        refine wp_exit ?_
        refine then_x ?_
        refine then_x ?_
        refine blk_x ?_
        refine then_n ?_
        exact ⟨(fun b_ => (fun l_ => if l_ = 124 then 37 else if l_ = 125 then 38 else if l_ = 126 then 39 else l_) (o1231 b_)), A1237, c1238, l1239, (by exact Kn.pick (ks := [2, 3, 7, 8]) hk rfl), (hs.relab0 (fun l_ => if l_ = 124 then 37 else if l_ = 125 then 38 else if l_ = 126 then 39 else l_) rfl), (f1240.relab (fun l_ => if l_ = 124 then 37 else if l_ = 125 then 38 else if l_ = 126 then 39 else l_) rfl), (f26.relab (fun l_ => if l_ = 124 then 37 else if l_ = 125 then 38 else if l_ = 126 then 39 else l_) rfl), (f5.relab (fun l_ => if l_ = 124 then 37 else if l_ = 125 then 38 else if l_ = 126 then 39 else l_) rfl), (f902.relab (fun l_ => if l_ = 124 then 37 else if l_ = 125 then 38 else if l_ = 126 then 39 else l_) rfl), hc1241, H⟩
      · rw [b1348] at hk H
        replace H := bifT H
        refine x_if hk (b := true) rfl ?_
        refine (show Code.wp _ _ _ _ _ from ?_)
        refine wp_skip ?_
        refine then_n ?_
        exact ⟨(fun b_ => (fun l_ => if l_ = 124 then 134 else if l_ = 125 then 135 else if l_ = 126 then 136 else l_) (o1231 b_)), (by exact Kn.pick (ks := [1, 2, 3, 7, 8, 9]) hk rfl), (hs.relab0 (fun l_ => if l_ = 124 then 134 else if l_ = 125 then 135 else if l_ = 126 then 136 else l_) rfl), (f1235.relab (fun l_ => if l_ = 124 then 134 else if l_ = 125 then 135 else if l_ = 126 then 136 else l_) rfl), (f1240.relab (fun l_ => if l_ = 124 then 134 else if l_ = 125 then 135 else if l_ = 126 then 136 else l_) rfl), (f26.relab (fun l_ => if l_ = 124 then 134 else if l_ = 125 then 135 else if l_ = 126 then 136 else l_) rfl), (f5.relab (fun l_ => if l_ = 124 then 134 else if l_ = 125 then 135 else if l_ = 126 then 136 else l_) rfl), (f902.relab (fun l_ => if l_ = 124 then 134 else if l_ = 125 then 135 else if l_ = 126 then 136 else l_) rfl), H⟩
  · rw [b14] at hk H
    replace H := bifT H
    refine x_if hk (b := true) rfl ?_
    refine (show Code.wp _ _ _ _ _ from ?_)
    refine x_seq ?_
    refine wp_region_lit ?_
    refine x_run tab hk (k := 1) (lv := []) (ks := [6]) (e' := [(6, .bool false)]) rfl trivial fun a hk => ?_
    refine wpList_nil ?_
    refine then_n ?_
    refine wp_ret ?_
    refine then_r ?_
    obtain rfl := Option.some.inj H
    exact x_retG hk (rs := [.tmp 6]) (vs := [.bool false]) rfl ⟨rfl, trivial⟩ ⟨fun b_ => if b_ < w.heap.size then o b_ else (fun _ => 0) (o12 b_), rfl, hs.close0 o (fun _ => 0)⟩

end Go.Proofs.Ytbdocgjhidalfaa
