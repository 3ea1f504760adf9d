/- Walks, printed by an own program: the machine's calls compute the plain functions. -/
import Derived.Test.YthmdgjdgnfoloaaDoorW4
set_option linter.unusedVariables false
set_option linter.unusedSimpArgs false
namespace Go.Proofs.YthmdgjdgnfoloaaDoor
open Go Go.Proofs.XC
/-! tidewrack/tidewrackref01.Num -/
theorem tidewrackref01_Num_calls (K : Nat) (p0 : Int) (w : World) (o : Nat → Nat)   (r : ByteArray) (H : tidewrackref01_Num K p0 = some r) :
    Calls Tryd.prog 44 #[.int .i64 p0] w (Ret fun v_ w' => ∃ o' : Nat → Nat, v_ = .string r ∧ St [] w o w' o') := by
  refine x_enter (vs := [.int .i64 p0]) Tryd.func44 rfl rfl rfl fun a hk => ?_
  obtain ⟨o0, hs, h0⟩ := St.start w o
  clear h0
  rw [tidewrackref01_Num] at H
  refine x_seq ?_
  refine wpIn_region_lit ?_
  refine x_run tab hk (k := 1) (lv := []) (ks := [0]) (e' := [(0, .int .i64 p0)]) rfl trivial fun a hk => ?_
  refine wpListIn_nil ?_
  refine then_n ?_
  refine x_seq ?_
  refine wpIn_region_lit ?_
  refine x_run tab hk (k := 4) (lv := []) (ks := [0]) (e' := [(0, .int .i64 (mxI 0 (mnI p0 4611686018427387904)))]) rfl trivial fun a hk => ?_
  refine wpListIn_nil ?_
  refine then_n ?_
  refine x_seq ?_
  refine wpIn_region_lit ?_
  refine x_op hk rfl ?_
  refine op_slice (o := o0) tab hk (vs := []) (cs := []) rfl rfl rfl rfl rfl rfl rfl rfl rfl 1 fun bx4 w1 o2 st3 f5 => ?_
  replace hs := hs.loc0 st3 (by decide)
  have f6 : Ft (Own (encInt .u8) 5 (.slice (some ⟨bx4, 0, none⟩) (([] : List Int)).length 0) ([] : List Int)) w1 o2 1 := f5.imp fun _ h_ => Own.of_box h_ rfl (by simp)
  have hk := hk.put 7 (.slice (some ⟨bx4, 0, none⟩) (([] : List Int)).length 0) rfl
  refine x_run tab hk (k := 1) (lv := []) (ks := [0, 3]) (e' := [(0, .int .i64 (mxI 0 (mnI p0 4611686018427387904))), (3, .slice (some ⟨bx4, 0, none⟩) (([] : List Int)).length 0)]) rfl trivial fun a hk => ?_
  refine wpListIn_nil ?_
  refine then_n ?_
  refine x_mid (fun a_ w_ => ∃ o77 : Nat → Nat, ∃ x78 : Int, ∃ A79 : Option Addr, ∃ c80 : Nat, ∃ l81 : List Int, Kn 25 a_ [(0, .int .i64 x78), (3, .slice A79 (l81).length c80)] ∧ St [] w (fun _ => 0) w_ o77 ∧ Ft (Own (encInt .u8) 5 (.slice A79 (l81).length c80) l81) w_ o77 7 ∧ (l81).length ≤ c80 ∧ tidewrackref01_Num_j1 x78 l81 = some r) ?_ ?_
  rotate_left
  · rintro a w84 ⟨o77, x78, A79, c80, l81, hk, hs, f82, hc83, H⟩
    rw [tidewrackref01_Num_j1] at H
    refine x_seq ?_
    refine wpIn_region_lit ?_
    refine x_run tab hk (k := 3) (lv := []) (ks := [19, 21]) (e' := [(19, .slice A79 (l81).length c80), (21, .int .u8 (IntKind.wrap .u8 x78))]) rfl trivial fun a hk => ?_
    refine x_op hk rfl ?_
    refine op_slice (o := o77) tab hk (vs := [.int .u8 (IntKind.wrap .u8 x78)]) (cs := [.int .u8 (IntKind.wrap .u8 x78)]) rfl rfl rfl rfl rfl rfl rfl rfl rfl 8 fun bx88 w85 o86 st87 f89 => ?_
    replace f82 := f82.st st87 (by decide)
    replace hs := hs.loc0 st87 (by decide)
    have f90 : Ft (Own (encInt .u8) 5 (.slice (some ⟨bx88, 0, none⟩) (([(IntKind.wrap .u8 x78)] : List Int)).length 1) ([(IntKind.wrap .u8 x78)] : List Int)) w85 o86 8 := f89.imp fun _ h_ => Own.of_box h_ rfl (by simp)
    have hk := hk.put 22 (.slice (some ⟨bx88, 0, none⟩) (([(IntKind.wrap .u8 x78)] : List Int)).length 1) rfl
    refine x_op hk rfl ?_
    obtain ⟨q94, H⟩ := ifS H
    refine op_append (o := o86) (E := (encInt .u8)) (xs := l81) (ys := ([(IntKind.wrap .u8 x78)] : List Int)) tab hk rfl rfl rfl rfl rfl rfl rfl f82 (Own.rd f90.now) q94 fun A95 c96 w91 o92 st93 f97 hc98 => ?_
    replace f90 := f90.st st93 (by decide)
    replace hs := hs.loc0 st93 (by decide)
    have hk := hk.put 23 (.slice A95 ((l81 ++ ([(IntKind.wrap .u8 x78)] : List Int))).length c96) rfl
    refine x_run tab hk (k := 2) (lv := [.string (strOfNums (l81 ++ ([(IntKind.wrap .u8 x78)] : List Int)))]) (ks := [2]) (e' := [(2, .string (strOfNums (l81 ++ ([(IntKind.wrap .u8 x78)] : List Int))))]) rfl ⟨(ask_str tab rfl rfl rfl rfl (Own.rd f97.now) (Own.plain f97.now _ _ _ rfl)), trivial⟩ fun a hk => ?_
    refine wpListIn_nil ?_
    refine then_n ?_
    refine wpIn_ret ?_
    obtain rfl := Option.some.inj H
    exact x_retG hk (rs := [.tmp 2]) (vs := [.string (strOfNums (l81 ++ ([(IntKind.wrap .u8 x78)] : List Int)))]) rfl ⟨rfl, trivial⟩ ⟨fun b_ => if b_ < w.heap.size then o b_ else (fun _ => 0) (o92 b_), rfl, hs.close0 o (fun _ => 0)⟩
  refine wpIn_block ?_
  refine x_loop (fun j_ a_ w_ => ∃ o117 : Nat → Nat, ∃ x118 : Int, ∃ A119 : Option Addr, ∃ c120 : Nat, ∃ l121 : List Int, Kn 25 a_ [(0, .int .i64 x118), (3, .slice A119 (l121).length c120)] ∧ St [] w (fun _ => 0) w_ o117 ∧ Ft (Own (encInt .u8) 5 (.slice A119 (l121).length c120) l121) w_ o117 11 ∧ (l121).length ≤ c120 ∧ tidewrackref01_Num_l2 j_ x118 l121 = some r) (k := K) ⟨(fun b_ => (fun l_ => if l_ = 1 then 11 else l_) (o2 b_)), (mxI 0 (mnI p0 4611686018427387904)), (some ⟨bx4, 0, none⟩), 0, ([] : List Int), (by exact Kn.pick (ks := [0, 3]) hk rfl), (hs.relab0 (fun l_ => if l_ = 1 then 11 else l_) rfl), (f6.relab (fun l_ => if l_ = 1 then 11 else l_) rfl), (Nat.le_refl _), H⟩ (by rintro _ _ ⟨_, _, _, _, _, _, _, _, _, H_⟩; exact absurd (show (none : Option ByteArray) = some r from H_) (by simp)) ?_
  rintro k140 a w139 ⟨o117, x118, A119, c120, l121, hk, hs, f122, hc123, H⟩
  rw [tidewrackref01_Num_l2] at H
  obtain ⟨lp141, hlp142⟩ : ∃ lp_, lp_ = tidewrackref01_Num_l2 k140 := ⟨_, rfl⟩
  rw [← hlp142] at H
  refine x_seq ?_
  refine x_seq ?_
  refine wpIn_region_lit ?_
  refine x_run tab hk (k := 2) (lv := []) (ks := [0, 3, 9]) (e' := [(0, .int .i64 x118), (3, .slice A119 (l121).length c120), (9, .bool (decide (x118 ≥ (128 : Int))))]) rfl trivial fun a hk => ?_
  refine wpListIn_nil ?_
  refine then_n ?_
  cases b143 : (decide (x118 ≥ (128 : Int)))
  · rw [b143] at hk H
    replace H := bifF H
    refine x_if hk (b := false) rfl ?_
    refine (show Code.wpIn _ _ _ _ _ _ _ from ?_)
    refine wpIn_exit ?_
    refine then_x ?_
    refine then_x ?_
    refine blk_x ?_
    refine then_n ?_
    exact ⟨(fun b_ => (fun l_ => if l_ = 11 then 7 else l_) (o117 b_)), x118, A119, c120, l121, (by exact Kn.pick (ks := [0, 3]) hk rfl), (hs.relab0 (fun l_ => if l_ = 11 then 7 else l_) rfl), (f122.relab (fun l_ => if l_ = 11 then 7 else l_) rfl), hc123, H⟩
  · rw [b143] at hk H
    replace H := bifT H
    refine x_if hk (b := true) rfl ?_
    refine (show Code.wpIn _ _ _ _ _ _ _ from ?_)
    refine wpIn_skip ?_
    refine then_n ?_
    refine wpIn_block ?_
    refine x_seq ?_
    refine wpIn_region_lit ?_
    refine x_run tab hk (k := 5) (lv := []) (ks := [0, 10, 14]) (e' := [(0, .int .i64 x118), (10, .slice A119 (l121).length c120), (14, .int .u8 (IntKind.wrap .u8 (IntKind.wrap .i64 (128 + (Int.tmod x118 128)))))]) rfl ⟨(show (128 : Int) ≠ 0 from by decide), trivial⟩ fun a hk => ?_
    refine x_op hk rfl ?_
    refine op_slice (o := o117) tab hk (vs := [.int .u8 (IntKind.wrap .u8 (IntKind.wrap .i64 (128 + (Int.tmod x118 128))))]) (cs := [.int .u8 (IntKind.wrap .u8 (IntKind.wrap .i64 (128 + (Int.tmod x118 128))))]) rfl rfl rfl rfl rfl rfl rfl rfl rfl 13 fun bx147 w144 o145 st146 f148 => ?_
    replace f122 := f122.st st146 (by decide)
    replace hs := hs.loc0 st146 (by decide)
    have f149 : Ft (Own (encInt .u8) 5 (.slice (some ⟨bx147, 0, none⟩) (([(IntKind.wrap .u8 (IntKind.wrap .i64 (128 + (Int.tmod x118 128))))] : List Int)).length 1) ([(IntKind.wrap .u8 (IntKind.wrap .i64 (128 + (Int.tmod x118 128))))] : List Int)) w144 o145 13 := f148.imp fun _ h_ => Own.of_box h_ rfl (by simp)
    have hk := hk.put 15 (.slice (some ⟨bx147, 0, none⟩) (([(IntKind.wrap .u8 (IntKind.wrap .i64 (128 + (Int.tmod x118 128))))] : List Int)).length 1) rfl
    refine x_op hk rfl ?_
    obtain ⟨q153, H⟩ := ifS H
    refine op_append (o := o145) (E := (encInt .u8)) (xs := l121) (ys := ([(IntKind.wrap .u8 (IntKind.wrap .i64 (128 + (Int.tmod x118 128))))] : List Int)) tab hk rfl rfl rfl rfl rfl rfl rfl f122 (Own.rd f149.now) q153 fun A154 c155 w150 o151 st152 f156 hc157 => ?_
    replace f149 := f149.st st152 (by decide)
    replace hs := hs.loc0 st152 (by decide)
    have hk := hk.put 16 (.slice A154 ((l121 ++ ([(IntKind.wrap .u8 (IntKind.wrap .i64 (128 + (Int.tmod x118 128))))] : List Int))).length c155) rfl
    refine x_run tab hk (k := 1) (lv := []) (ks := [0, 3]) (e' := [(0, .int .i64 x118), (3, .slice A154 ((l121 ++ ([(IntKind.wrap .u8 (IntKind.wrap .i64 (128 + (Int.tmod x118 128))))] : List Int))).length c155)]) rfl trivial fun a hk => ?_
    refine wpListIn_nil ?_
    refine then_n ?_
    refine wpIn_region_lit ?_
    refine x_run tab hk (k := 3) (lv := []) (ks := [0, 3]) (e' := [(0, .int .i64 (IntKind.wrap .i64 (Int.tdiv x118 128))), (3, .slice A154 ((l121 ++ ([(IntKind.wrap .u8 (IntKind.wrap .i64 (128 + (Int.tmod x118 128))))] : List Int))).length c155)]) rfl ⟨(show (128 : Int) ≠ 0 from by decide), trivial⟩ fun a hk => ?_
    refine wpListIn_nil ?_
    refine blk_n ?_
    refine then_n ?_
    exact ⟨k140, Nat.le_refl _, o151, (IntKind.wrap .i64 (Int.tdiv x118 128)), A154, c155, (l121 ++ ([(IntKind.wrap .u8 (IntKind.wrap .i64 (128 + (Int.tmod x118 128))))] : List Int)), (by exact Kn.pick (ks := [0, 3]) hk rfl), hs, f156, hc157, (hlp142 ▸ H)⟩

/-! tidewrack/tidewrackref12.Pack -/
theorem tidewrackref12_Pack_calls (K : Nat) (Ap0 : Option Addr) (cp0 : Nat) (p0 : List T69) (w : World) (o : Nat → Nat) (Lp0 : Nat) (hp0 : Ft (RdC ET69 Ap0 p0) w o Lp0) (hcp0 : (p0).length ≤ cp0)  (r : ByteArray) (H : tidewrackref12_Pack K p0 = some r) :
    Calls Tryd.prog 30 #[.slice Ap0 (p0).length cp0] w (Ret fun v_ w' => ∃ o' : Nat → Nat, v_ = .string r ∧ St [] w o w' o') := by
  refine x_enter (vs := [.slice Ap0 (p0).length cp0]) Tryd.func30 rfl rfl rfl fun a hk => ?_
  obtain ⟨o0, hs, h0⟩ := St.start w o
  have f900000 := h0 _ _ hp0
  clear h0
  rw [tidewrackref12_Pack] at H
  refine x_seq ?_
  refine wpIn_region_lit ?_
  refine x_run tab hk (k := 1) (lv := []) (ks := [0]) (e' := [(0, .slice Ap0 (p0).length cp0)]) rfl trivial fun a hk => ?_
  refine wpListIn_nil ?_
  refine then_n ?_
  refine x_seq ?_
  refine wpIn_region_lit ?_
  refine x_run tab hk (k := 2) (lv := []) (ks := [0, 7]) (e' := [(0, .slice Ap0 (p0).length cp0), (7, .int .i64 ((p0).length : Int))]) rfl trivial fun a hk => ?_
  refine x_op hk rfl ?_
  obtain ⟨t4, hc5, H⟩ := bindS H
  refine op_call hk ent_44 (vs := [.int .i64 ((p0).length : Int)]) rfl (tidewrackref01_Num_calls K ((p0).length : Int) _ o0    _ hc5) ?_
  rintro _ w6 ⟨o7, rfl, st8⟩
  replace f900000 := f900000.st st8 (by decide)
  replace hs := hs.loc0 st8 (by decide)
  have hk := hk.put 8 (.string t4) rfl
  refine x_run tab hk (k := 1) (lv := []) (ks := [0, 3]) (e' := [(0, .slice Ap0 (p0).length cp0), (3, .string t4)]) rfl trivial fun a hk => ?_
  refine wpListIn_nil ?_
  refine then_n ?_
  refine x_mid (fun a_ w_ => ∃ o226 : Nat → Nat, ∃ x227 : ByteArray, Kn 26 a_ [(3, .string x227)] ∧ St [] w (fun _ => 0) w_ o226 ∧ tidewrackref12_Pack_j1 x227 = some r) ?_ ?_
  rotate_left
  · rintro a w228 ⟨o226, x227, hk, hs, H⟩
    rw [tidewrackref12_Pack_j1] at H
    refine x_seq ?_
    refine wpIn_region_lit ?_
    refine x_run tab hk (k := 2) (lv := []) (ks := [2]) (e' := [(2, .string x227)]) rfl trivial fun a hk => ?_
    refine wpListIn_nil ?_
    refine then_n ?_
    refine wpIn_ret ?_
    obtain rfl := Option.some.inj H
    exact x_retG hk (rs := [.tmp 2]) (vs := [.string x227]) rfl ⟨rfl, trivial⟩ ⟨fun b_ => if b_ < w.heap.size then o b_ else (fun _ => 0) (o226 b_), rfl, hs.close0 o (fun _ => 0)⟩
  refine x_seq ?_
  refine wpIn_region_lit ?_
  refine x_run tab hk (k := 3) (lv := []) (ks := [3, 9, 10, 11]) (e' := [(3, .string t4), (9, .slice Ap0 (p0).length cp0), (10, .int .i64 ((p0).length : Int)), (11, .int .i64 0)]) rfl trivial fun a hk => ?_
  refine wpListIn_nil ?_
  refine then_n ?_
  refine wpIn_block ?_
  refine x_loop (fun j_ a_ w_ => ∃ o299 : Nat → Nat, ∃ x300 : ByteArray, ∃ x301 : Int, Kn 26 a_ [(3, .string x300), (9, .slice Ap0 (p0).length cp0), (10, .int .i64 ((p0).length : Int)), (11, .int .i64 x301)] ∧ St [] w (fun _ => 0) w_ o299 ∧ Ft (RdC ET69 Ap0 p0) w_ o299 0 ∧ tidewrackref12_Pack_l2 K p0 j_ x300 x301 = some r) (k := K) ⟨o7, t4, 0, (by exact Kn.pick (ks := [3, 9, 10, 11]) hk rfl), hs, f900000, H⟩ (by rintro _ _ ⟨_, _, _, _, _, _, H_⟩; exact absurd (show (none : Option ByteArray) = some r from H_) (by simp)) ?_
  rintro k370 a w369 ⟨o299, x300, x301, hk, hs, f900000, H⟩
  rw [tidewrackref12_Pack_l2] at H
  obtain ⟨lp371, hlp372⟩ : ∃ lp_, lp_ = tidewrackref12_Pack_l2 K p0 k370 := ⟨_, rfl⟩
  rw [← hlp372] at H
  refine x_seq ?_
  refine wpIn_region_lit ?_
  refine x_run tab hk (k := 1) (lv := []) (ks := [3, 9, 10, 11, 12]) (e' := [(3, .string x300), (9, .slice Ap0 (p0).length cp0), (10, .int .i64 ((p0).length : Int)), (11, .int .i64 x301), (12, .bool (decide (x301 < ((p0).length : Int))))]) rfl trivial fun a hk => ?_
  refine wpListIn_nil ?_
  refine then_n ?_
  refine x_seq ?_
  cases b373 : (decide (x301 < ((p0).length : Int)))
  · rw [b373] at hk H
    replace H := bifF H
    refine x_if hk (b := false) rfl ?_
    refine (show Code.wpIn _ _ _ _ _ _ _ from ?_)
    refine wpIn_exit ?_
    refine then_x ?_
    refine then_x ?_
    refine blk_x ?_
    refine then_n ?_
    exact ⟨o299, x300, (by exact Kn.pick (ks := [3]) hk rfl), hs, H⟩
  · rw [b373] at hk H
    replace H := bifT H
    refine x_if hk (b := true) rfl ?_
    refine (show Code.wpIn _ _ _ _ _ _ _ from ?_)
    refine wpIn_skip ?_
    refine then_n ?_
    refine x_seq ?_
    refine wpIn_block ?_
    refine x_seq ?_
    refine wpIn_region_lit ?_
    obtain ⟨q374, H⟩ := ifS H
    obtain ⟨ad375, hAad375⟩ := RdC.addr f900000.now q374
    have hk_C := hk
    have f900000_C := f900000
    subst hAad375
    have hk := hk_C
    clear hk_C
    have f900000 := f900000_C
    clear f900000_C
    refine x_run tab hk (k := 2) (lv := [.agg #[.int .i64 ((rdD zT69 p0 x301).Rune), .int .i64 ((rdD zT69 p0 x301).Style)]]) (ks := [3, 9, 10, 11, 14]) (e' := [(3, .string x300), (9, .slice (some ad375) (p0).length cp0), (10, .int .i64 ((p0).length : Int)), (11, .int .i64 x301), (14, .agg #[.int .i64 ((rdD zT69 p0 x301).Rune), .int .i64 ((rdD zT69 p0 x301).Style)])]) rfl ⟨q374, (load_elem (E := ET69) (i := x301) (dx := zT69) tab rfl rfl f900000.now q374), trivial⟩ fun a hk => ?_
    refine x_op hk rfl ?_
    refine op_alloc (o := o299) tab (t := 70) (cs := [.int .i64 0, .int .i64 0]) rfl rfl 6 fun bx379 w376 o377 st378 f380 => ?_
    replace f900000 := f900000.st st378 (by decide)
    replace hs := hs.loc0 st378 (by decide)
    have hk := hk.put 5 (.pointer (some ⟨bx379, 0, none⟩)) rfl
    refine x_op hk rfl ?_
    refine op_store tab hk (t := 70) (v := .agg #[.int .i64 ((rdD zT69 p0 x301).Rune), .int .i64 ((rdD zT69 p0 x301).Style)]) (b := bx379) (k := 0) (cs' := [.int .i64 ((rdD zT69 p0 x301).Rune), .int .i64 ((rdD zT69 p0 x301).Style)]) rfl rfl rfl rfl rfl rfl f380 rfl rfl fun w381 o382 st383 f380_ => ?_
    replace f900000 := f900000.st st383 (by decide)
    replace hs := hs.loc0 st383 (by decide)
    replace f380 := f380_
    refine wpListIn_nil ?_
    refine then_n ?_
    refine xd_begin (o := o382) (fun W_ => (Bx bx379 70 [.int .i64 ((rdD zT69 p0 x301).Rune), .int .i64 ((rdD zT69 p0 x301).Style)]) W_ ∧ True) mixed rfl rfl fun w420 st421 => ?_
    replace f380 := f380.st st421 (by decide)
    replace f900000 := f900000.st st421 (by decide)
    replace hs := hs.loc0 st421 (by decide)
    refine xd_take tab hk (k := 5) (is := [0, 1, 2, 4, 5]) (ls' := #[true, true, true, false, true, true, false, false, false, false]) (lv := [.int .i64 ((rdD zT69 p0 x301).Rune), .int .i64 ((rdD zT69 p0 x301).Style)]) (ks := [3, 9, 10, 11, 15, 17, 20]) (e' := [(3, .string x300), (9, .slice (some ad375) (p0).length cp0), (10, .int .i64 ((p0).length : Int)), (11, .int .i64 x301), (15, .string x300), (17, .int .i64 ((rdD zT69 p0 x301).Rune)), (20, .int .i64 ((rdD zT69 p0 x301).Style))]) (by kernel_rfl) rfl rfl (by kernel_rfl) (np_blk (np_then (np_then (np_blk (np_then np_body))))) ⟨f380.now, trivial⟩ (fun W_ hS => ⟨(load1 tab rfl ((Bx.cell hS.1 0).trans rfl)), (load1 tab rfl ((Bx.cell hS.1 1).trans rfl)), trivial⟩) fun a hk => ?_
    refine xd_op hk (i := 3) (by kernel_rfl) rfl rfl ?_
    obtain ⟨t425, hc426, H⟩ := bindS H
    refine op_call hk ent_44 (vs := [.int .i64 ((rdD zT69 p0 x301).Rune)]) rfl (tidewrackref01_Num_calls K ((rdD zT69 p0 x301).Rune) _ o382    _ hc426) ?_
    rintro _ w427 ⟨o428, rfl, st429⟩
    replace f380 := f380.st st429 (by decide)
    replace f900000 := f900000.st st429 (by decide)
    replace hs := hs.loc0 st429 (by decide)
    have hk := hk.put 18 (.string t425) rfl
    refine ⟨.inr ⟨f380.now, trivial⟩, ?_⟩
    refine xd_op hk (i := 6) (by kernel_rfl) rfl rfl ?_
    obtain ⟨t433, hc434, H⟩ := bindS H
    refine op_call hk ent_44 (vs := [.int .i64 ((rdD zT69 p0 x301).Style)]) rfl (tidewrackref01_Num_calls K ((rdD zT69 p0 x301).Style) _ o428    _ hc434) ?_
    rintro _ w435 ⟨o436, rfl, st437⟩
    replace f380 := f380.st st437 (by decide)
    replace f900000 := f900000.st st437 (by decide)
    replace hs := hs.loc0 st437 (by decide)
    have hk := hk.put 21 (.string t433) rfl
    refine ⟨.inr ⟨f380.now, trivial⟩, ?_⟩
    obtain ⟨q438, H⟩ := ifS H
    obtain ⟨q439, H⟩ := ifS H
    refine xd_take tab hk (k := 0) (is := [7, 8, 9]) (ls' := #[true, true, true, true, true, true, true, true, true, true]) (lv := []) (ks := [3, 9, 10, 11]) (e' := [(3, .string (x300 ++ (t425 ++ t433))), (9, .slice (some ad375) (p0).length cp0), (10, .int .i64 ((p0).length : Int)), (11, .int .i64 x301)]) (by kernel_rfl) rfl rfl (by kernel_rfl) (np_blk (np_then (np_then (np_blk (np_then np_body))))) ⟨f380.now, trivial⟩ (fun W_ hS => ⟨q438, q439, trivial⟩) fun a hk => ?_
    refine xd_done (by kernel_rfl) ?_
    refine blk_n ?_
    refine then_n ?_
    refine wpIn_region_lit ?_
    refine x_run tab hk (k := 2) (lv := []) (ks := [3, 9, 10, 11]) (e' := [(3, .string (x300 ++ (t425 ++ t433))), (9, .slice (some ad375) (p0).length cp0), (10, .int .i64 ((p0).length : Int)), (11, .int .i64 (IntKind.wrap .i64 (x301 + 1)))]) rfl trivial fun a hk => ?_
    refine wpListIn_nil ?_
    refine then_n ?_
    exact ⟨k370, Nat.le_refl _, o436, (x300 ++ (t425 ++ t433)), (IntKind.wrap .i64 (x301 + 1)), (by exact Kn.pick (ks := [3, 9, 10, 11]) hk rfl), hs, f900000, (hlp372 ▸ H)⟩

/-! (*tidewrack/num.In).End -/
theorem num_In_End_calls (bp0 : Nat) (p0 : T88) (w : World) (o : Nat → Nat) (Lp0 : Nat) (hp0 : Ft (Bx bp0 89 [.string p0.s, .int .i64 p0.e]) w o Lp0)  (r : Int) (H : num_In_End p0 = some r) :
    Calls Tryd.prog 31 #[.pointer (some ⟨bp0, 0, none⟩)] w (Ret fun v_ w' => ∃ o' : Nat → Nat, v_ = .int .i64 r ∧ St [] w o w' o') := by
  refine x_enter (vs := [.pointer (some ⟨bp0, 0, none⟩)]) Tryd.func31 rfl rfl rfl fun a hk => ?_
  obtain ⟨o0, hs, h0⟩ := St.start w o
  have f900019 := h0 _ _ hp0
  clear h0
  rw [num_In_End] at H
  refine x_seq ?_
  refine wpIn_region_lit ?_
  refine x_run tab hk (k := 1) (lv := []) (ks := [0]) (e' := [(0, .pointer (some ⟨bp0, 0, none⟩))]) rfl trivial fun a hk => ?_
  refine wpListIn_nil ?_
  refine then_n ?_
  refine x_seq ?_
  refine x_seq ?_
  refine wpIn_region_lit ?_
  refine x_run tab hk (k := 5) (lv := [.string p0.s]) (ks := [0, 7]) (e' := [(0, .pointer (some ⟨bp0, 0, none⟩)), (7, .bool (!(ByteArray.toList p0.s == ByteArray.toList (⟨#[]⟩ : ByteArray))))]) rfl ⟨(load1 tab rfl ((Bx.cell f900019.now 0).trans rfl)), trivial⟩ fun a hk => ?_
  refine wpListIn_nil ?_
  refine then_n ?_
  cases b1 : (!(ByteArray.toList p0.s == ByteArray.toList (⟨#[]⟩ : ByteArray)))
  · rw [b1] at hk H
    replace H := bifF H
    refine x_if hk (b := false) rfl ?_
    refine (show Code.wpIn _ _ _ _ _ _ _ from ?_)
    refine wpIn_skip ?_
    refine then_n ?_
    refine x_seq ?_
    refine wpIn_region_lit ?_
    refine x_run tab hk (k := 5) (lv := [.int .i64 p0.e]) (ks := [2]) (e' := [(2, .int .i64 p0.e)]) rfl ⟨(load1 tab rfl ((Bx.cell f900019.now 1).trans rfl)), trivial⟩ fun a hk => ?_
    refine wpListIn_nil ?_
    refine then_n ?_
    refine wpIn_ret ?_
    obtain rfl := Option.some.inj H
    exact x_retG hk (rs := [.tmp 2]) (vs := [.int .i64 p0.e]) rfl ⟨rfl, trivial⟩ ⟨fun b_ => if b_ < w.heap.size then o b_ else (fun _ => 0) (o0 b_), rfl, hs.close0 o (fun _ => 0)⟩
  · rw [b1] at hk H
    replace H := bifT H
    refine x_if hk (b := true) rfl ?_
    refine (show Code.wpIn _ _ _ _ _ _ _ from ?_)
    refine x_seq ?_
    refine wpIn_region_lit ?_
    refine x_run tab hk (k := 1) (lv := []) (ks := [2]) (e' := [(2, .int .i64 1)]) rfl trivial fun a hk => ?_
    refine wpListIn_nil ?_
    refine then_n ?_
    refine wpIn_ret ?_
    refine then_r ?_
    obtain rfl := Option.some.inj H
    exact x_retG hk (rs := [.tmp 2]) (vs := [.int .i64 1]) rfl ⟨rfl, trivial⟩ ⟨fun b_ => if b_ < w.heap.size then o b_ else (fun _ => 0) (o0 b_), rfl, hs.close0 o (fun _ => 0)⟩

/-! tidewrack/tidewracklaw12.BookBack -/
set_option maxHeartbeats 4000000 in
theorem tidewracklaw12_BookBack_calls (K : Nat) (Ap0 : Option Addr) (cp0 : Nat) (p0 : List T49) (w : World) (o : Nat → Nat) (Lg0 : Nat) (hg0 : Ft (RdC ET111 (some ⟨0, 0, none⟩) glob0) w o Lg0) (Lg1 : Nat) (hg1 : Ft (RdC ET111 (some ⟨1, 0, none⟩) glob1) w o Lg1) (Lg2 : Nat) (hg2 : Ft (RdC (encInt .u32) (some ⟨2, 0, none⟩) glob2) w o Lg2) (Lp0 : Nat) (hp0 : Ft (RdC ET49 Ap0 p0) w o Lp0) (hcp0 : (p0).length ≤ cp0)  (r : Bool) (H : tidewracklaw12_BookBack K p0 = some r) :
    Calls Tryd.prog 8 #[.slice Ap0 (p0).length cp0] w (Ret fun v_ w' => ∃ o' : Nat → Nat, v_ = .bool r ∧ St [] w o w' o') := by
  refine x_enter (vs := [.slice Ap0 (p0).length cp0]) Tryd.func8 rfl rfl rfl fun a hk => ?_
  obtain ⟨o0, hs, h0⟩ := St.start w o
  have fg0 := h0 _ _ hg0
  have fg1 := h0 _ _ hg1
  have fg2 := h0 _ _ hg2
  have f900000 := h0 _ _ hp0
  clear h0
  rw [tidewracklaw12_BookBack] at H
  refine x_seq ?_
  refine wpIn_region_lit ?_
  refine x_run tab hk (k := 1) (lv := []) (ks := [0]) (e' := [(0, .slice Ap0 (p0).length cp0)]) rfl trivial fun a hk => ?_
  refine wpListIn_nil ?_
  refine then_n ?_
  refine x_seq ?_
  refine x_seq ?_
  refine wpIn_region_lit ?_
  refine x_op hk rfl ?_
  obtain ⟨t4, hc5, H⟩ := bindS H
  refine op_call hk ent_9 (vs := []) rfl (tidewracklaw12_awake_calls K  _ o0 0 fg0 0 fg1 0 fg2   _ hc5) ?_
  rintro _ w6 ⟨o7, rfl, st8⟩
  replace f900000 := f900000.st st8 (by decide)
  replace fg0 := fg0.st st8 (by decide)
  replace fg1 := fg1.st st8 (by decide)
  replace fg2 := fg2.st st8 (by decide)
  replace hs := hs.loc0 st8 (by decide)
  have hk := hk.put 10 (.bool t4) rfl
  refine x_run tab hk (k := 1) (lv := []) (ks := [0, 11]) (e' := [(0, .slice Ap0 (p0).length cp0), (11, .bool (!t4))]) rfl trivial fun a hk => ?_
  refine wpListIn_nil ?_
  refine then_n ?_
  cases b9 : (!t4)
  · rw [b9] at hk H
    replace H := bifF H
    refine x_if hk (b := false) rfl ?_
    refine (show Code.wpIn _ _ _ _ _ _ _ from ?_)
    refine wpIn_skip ?_
    refine then_n ?_
    refine x_seq ?_
    refine wpIn_region_lit ?_
    obtain ⟨q10, H⟩ := ifS H
    obtain ⟨q11, H⟩ := ifS H
    obtain ⟨A12, c13, ak15, f14, hc16⟩ := ask_cut (P := Tryd.prog) tab (t := 40) rfl rfl f900000 hcp0 none (some (.int .i64 (mnI ((p0).length : Int) 60))) rfl ⟨q10, (by have := q11; have := hcp0; omega), trivial⟩ (by have := q10; have := q11; omega) (by have := q10; have := q11; omega)
    refine x_run tab hk (k := 6) (lv := [.slice A12 ((List.drop 0 (List.take (Int.toNat (mnI ((p0).length : Int) 60)) p0))).length c13]) (ks := [0]) (e' := [(0, .slice A12 ((List.drop 0 (List.take (Int.toNat (mnI ((p0).length : Int) 60)) p0))).length c13)]) rfl ⟨(ak15 rfl rfl rfl _), trivial⟩ fun a hk => ?_
    refine wpListIn_nil ?_
    refine then_n ?_
    refine x_seq ?_
    refine wpIn_region_lit ?_
    refine x_run tab hk (k := 1) (lv := []) (ks := [0, 3]) (e' := [(0, .slice A12 ((List.drop 0 (List.take (Int.toNat (mnI ((p0).length : Int) 60)) p0))).length c13), (3, .slice none 0 0)]) rfl trivial fun a hk => ?_
    refine wpListIn_nil ?_
    refine then_n ?_
    refine x_seq ?_
    refine wpIn_region_lit ?_
    refine x_run tab hk (k := 1) (lv := []) (ks := [0, 3, 4]) (e' := [(0, .slice A12 ((List.drop 0 (List.take (Int.toNat (mnI ((p0).length : Int) 60)) p0))).length c13), (3, .slice none 0 0), (4, .bool true)]) rfl trivial fun a hk => ?_
    refine wpListIn_nil ?_
    refine then_n ?_
    refine x_mid (fun a_ w_ => ∃ o129 : Nat → Nat, ∃ A130 : Option Addr, ∃ c131 : Nat, ∃ l132 : List T69, ∃ x135 : Bool, Kn 78 a_ [(0, .slice A12 ((List.drop 0 (List.take (Int.toNat (mnI ((p0).length : Int) 60)) p0))).length c13), (3, .slice A130 (l132).length c131), (4, .bool x135)] ∧ St [] w (fun _ => 0) w_ o129 ∧ Ft (Own ET69 70 (.slice A130 (l132).length c131) l132) w_ o129 10 ∧ Ft (RdC ET49 A12 (List.drop 0 (List.take (Int.toNat (mnI ((p0).length : Int) 60)) p0))) w_ o129 0 ∧ Ft (RdC ET111 (some ⟨0, 0, none⟩) glob0) w_ o129 0 ∧ Ft (RdC ET111 (some ⟨1, 0, none⟩) glob1) w_ o129 0 ∧ Ft (RdC (encInt .u32) (some ⟨2, 0, none⟩) glob2) w_ o129 0 ∧ (l132).length ≤ c131 ∧ tidewracklaw12_BookBack_j1 K p0 l132 x135 = some r) ?_ ?_
    rotate_left
    · rintro a w136 ⟨o129, A130, c131, l132, x135, hk, hs, f133, f14, fg0, fg1, fg2, hc134, H⟩
      rw [tidewracklaw12_BookBack_j1] at H
      refine x_seq ?_
      refine wpIn_region_lit ?_
      refine x_run tab hk (k := 1) (lv := []) (ks := [3, 4, 54]) (e' := [(3, .slice A130 (l132).length c131), (4, .bool x135), (54, .slice A12 ((List.drop 0 (List.take (Int.toNat (mnI ((p0).length : Int) 60)) p0))).length c13)]) rfl trivial fun a hk => ?_
      refine x_op hk rfl ?_
      obtain ⟨t140, hc141, H⟩ := bindS H
      refine op_call hk ent_29 (vs := [.slice A12 ((List.drop 0 (List.take (Int.toNat (mnI ((p0).length : Int) 60)) p0))).length c13]) rfl (book_Pack_calls K A12 c13 (List.drop 0 (List.take (Int.toNat (mnI ((p0).length : Int) 60)) p0)) _ o129 _ f14 hc16   _ hc141) ?_
      rintro _ w142 ⟨o143, rfl, st144⟩
      replace f133 := f133.st st144 (by decide)
      replace f14 := f14.st st144 (by decide)
      replace fg0 := fg0.st st144 (by decide)
      replace fg1 := fg1.st st144 (by decide)
      replace fg2 := fg2.st st144 (by decide)
      replace hs := hs.loc0 st144 (by decide)
      have hk := hk.put 55 (.string t140) rfl
      refine x_run tab hk (k := 1) (lv := []) (ks := [3, 4, 7]) (e' := [(3, .slice A130 (l132).length c131), (4, .bool x135), (7, .string t140)]) rfl trivial fun a hk => ?_
      refine wpListIn_nil ?_
      refine then_n ?_
      refine x_seq ?_
      refine x_seq ?_
      refine wpIn_region_lit ?_
      refine x_run tab hk (k := 2) (lv := []) (ks := [3, 4, 7, 56, 57]) (e' := [(3, .slice A130 (l132).length c131), (4, .bool x135), (7, .string t140), (56, .string t140), (57, .slice A130 (l132).length c131)]) rfl trivial fun a hk => ?_
      refine x_op hk rfl ?_
      obtain ⟨t148, hc149, H⟩ := bindS H
      refine op_call hk ent_30 (vs := [.slice A130 (l132).length c131]) rfl (tidewrackref12_Pack_calls K A130 c131 l132 _ o143 _ (f133.imp fun _ h_ => Own.rd h_) hc134   _ hc149) ?_
      rintro _ w150 ⟨o151, rfl, st152⟩
      replace f133 := f133.st st152 (by decide)
      replace fg0 := fg0.st st152 (by decide)
      replace fg1 := fg1.st st152 (by decide)
      replace fg2 := fg2.st st152 (by decide)
      replace hs := hs.loc0 st152 (by decide)
      have hk := hk.put 58 (.string t148) rfl
      refine x_run tab hk (k := 1) (lv := []) (ks := [3, 4, 7, 59]) (e' := [(3, .slice A130 (l132).length c131), (4, .bool x135), (7, .string t140), (59, .bool (!(ByteArray.toList t140 == ByteArray.toList t148)))]) rfl trivial fun a hk => ?_
      refine wpListIn_nil ?_
      refine then_n ?_
      cases b153 : (!(ByteArray.toList t140 == ByteArray.toList t148))
      · rw [b153] at hk H
        replace H := bifF H
        refine x_if hk (b := false) rfl ?_
        refine (show Code.wpIn _ _ _ _ _ _ _ from ?_)
        refine wpIn_skip ?_
        refine then_n ?_
        refine x_seq ?_
        refine wpIn_region_lit ?_
        refine x_run tab hk (k := 1) (lv := []) (ks := [3, 4, 60]) (e' := [(3, .slice A130 (l132).length c131), (4, .bool x135), (60, .string t140)]) rfl trivial fun a hk => ?_
        refine x_op hk rfl ?_
        obtain ⟨t157, hc158, H⟩ := bindS H
        refine op_call hk ent_23 (vs := [.string t140]) rfl (num_Of_calls t140 _ o151  11  _ hc158) ?_
        rintro _ w159 ⟨o160, bx162, rfl, st161, f163⟩
        replace f133 := f133.st st161 (by decide)
        replace fg0 := fg0.st st161 (by decide)
        replace fg1 := fg1.st st161 (by decide)
        replace fg2 := fg2.st st161 (by decide)
        replace hs := hs.loc0 st161 (by decide)
        have hk := hk.put 61 (.pointer (some ⟨bx162, 0, none⟩)) rfl
        refine x_run tab hk (k := 1) (lv := []) (ks := [3, 4, 8]) (e' := [(3, .slice A130 (l132).length c131), (4, .bool x135), (8, .pointer (some ⟨bx162, 0, none⟩))]) rfl trivial fun a hk => ?_
        refine wpListIn_nil ?_
        refine then_n ?_
        refine x_seq ?_
        refine x_seq ?_
        refine wpIn_region_lit ?_
        refine x_run tab hk (k := 2) (lv := []) (ks := [3, 4, 8, 63]) (e' := [(3, .slice A130 (l132).length c131), (4, .bool x135), (8, .pointer (some ⟨bx162, 0, none⟩)), (63, .bool false)]) rfl trivial fun a hk => ?_
        refine wpListIn_nil ?_
        refine then_n ?_
        refine x_if hk (b := false) rfl ?_
        refine (show Code.wpIn _ _ _ _ _ _ _ from ?_)
        refine wpIn_skip ?_
        refine then_n ?_
        refine x_seq ?_
        refine wpIn_region_lit ?_
        refine x_run tab hk (k := 1) (lv := []) (ks := [3, 4, 8, 64]) (e' := [(3, .slice A130 (l132).length c131), (4, .bool x135), (8, .pointer (some ⟨bx162, 0, none⟩)), (64, .pointer (some ⟨bx162, 0, none⟩))]) rfl trivial fun a hk => ?_
        refine x_op hk rfl ?_
        obtain ⟨t167, hc168, H⟩ := bindS H
        refine op_call hk ent_24 (vs := [.pointer (some ⟨bx162, 0, none⟩)]) rfl (book_Read_calls K bx162 t157 _ o160 11 f163 (by decide) 12  _ hc168) ?_
        rintro _ w169 ⟨o170, A172, c173, rfl, st171, f174, hc175, f176⟩
        replace f133 := f133.st st171 (by decide)
        replace fg0 := fg0.st st171 (by decide)
        replace fg1 := fg1.st st171 (by decide)
        replace fg2 := fg2.st st171 (by decide)
        replace hs := hs.loc0 st171 (by decide)
        have hk := hk.put 65 (.slice A172 (t167.1).length c173) rfl
        refine x_run tab hk (k := 1) (lv := []) (ks := [3, 4, 8, 9]) (e' := [(3, .slice A130 (l132).length c131), (4, .bool x135), (8, .pointer (some ⟨bx162, 0, none⟩)), (9, .slice A172 (t167.1).length c173)]) rfl trivial fun a hk => ?_
        refine wpListIn_nil ?_
        refine then_n ?_
        refine x_seq ?_
        refine wpIn_region_lit ?_
        refine x_run tab hk (k := 3) (lv := []) (ks := [3, 8, 9, 68]) (e' := [(3, .slice A130 (l132).length c131), (8, .pointer (some ⟨bx162, 0, none⟩)), (9, .slice A172 (t167.1).length c173), (68, .bool (!x135))]) rfl trivial fun a hk => ?_
        cases b177 : (!x135)
        · rw [b177] at hk H
          replace H := bifF H
          refine x_run tab hk (k := 1) (lv := []) (ks := [3, 9, 68, 69]) (e' := [(3, .slice A130 (l132).length c131), (9, .slice A172 (t167.1).length c173), (68, .bool false), (69, .pointer (some ⟨bx162, 0, none⟩))]) rfl trivial fun a hk => ?_
          refine x_op hk rfl ?_
          obtain ⟨t181, hc182, H⟩ := bindS H
          refine op_call hk ent_31 (vs := [.pointer (some ⟨bx162, 0, none⟩)]) rfl (num_In_End_calls bx162 t167.2 _ o170 11 f176   _ hc182) ?_
          rintro _ w183 ⟨o184, rfl, st185⟩
          replace f133 := f133.st st185 (by decide)
          replace f174 := f174.st st185 (by decide)
          replace f176 := f176.st st185 (by decide)
          replace fg0 := fg0.st st185 (by decide)
          replace fg1 := fg1.st st185 (by decide)
          replace fg2 := fg2.st st185 (by decide)
          replace hs := hs.loc0 st185 (by decide)
          have hk := hk.put 70 (.int .i64 t181) rfl
          refine x_run tab hk (k := 2) (lv := []) (ks := [3, 9, 68, 72]) (e' := [(3, .slice A130 (l132).length c131), (9, .slice A172 (t167.1).length c173), (68, .bool false), (72, .bool (t181 == (0 : Int)))]) rfl trivial fun a hk => ?_
          cases b186 : (t181 == (0 : Int))
          · rw [b186] at hk H
            replace H := bifF H
            refine x_run tab hk (k := 6) (lv := []) (ks := [2]) (e' := [(2, .bool false)]) rfl trivial fun a hk => ?_
            refine wpListIn_nil ?_
            refine then_n ?_
            refine wpIn_ret ?_
            obtain rfl := Option.some.inj H
            exact x_retG hk (rs := [.tmp 2]) (vs := [.bool false]) rfl ⟨rfl, trivial⟩ ⟨fun b_ => if b_ < w.heap.size then o b_ else (fun _ => 0) (o184 b_), rfl, hs.close0 o (fun _ => 0)⟩
          · rw [b186] at hk H
            replace H := bifT H
            refine x_run tab hk (k := 2) (lv := []) (ks := [68, 72, 73, 74]) (e' := [(68, .bool false), (72, .bool true), (73, .slice A172 (t167.1).length c173), (74, .slice A130 (l132).length c131)]) rfl trivial fun a hk => ?_
            refine x_op hk rfl ?_
            obtain ⟨t190, hc191, H⟩ := bindS H
            refine op_call hk ent_26 (vs := [.slice A172 (t167.1).length c173, .slice A130 (l132).length c131]) rfl (tidewracklaw09_Glyphs_calls K A172 c173 t167.1 A130 c131 l132 _ o184 _ (f174.imp fun _ h_ => Own.rd h_) hc175 _ (f133.imp fun _ h_ => Own.rd h_) hc134   _ hc191) ?_
            rintro _ w192 ⟨o193, rfl, st194⟩
            replace f133 := f133.st st194 (by decide)
            replace f174 := f174.st st194 (by decide)
            replace fg0 := fg0.st st194 (by decide)
            replace fg1 := fg1.st st194 (by decide)
            replace fg2 := fg2.st st194 (by decide)
            replace hs := hs.loc0 st194 (by decide)
            have hk := hk.put 75 (.bool t190) rfl
            refine x_run tab hk (k := 3) (lv := []) (ks := [2]) (e' := [(2, .bool t190)]) rfl trivial fun a hk => ?_
            refine wpListIn_nil ?_
            refine then_n ?_
            refine wpIn_ret ?_
            obtain rfl := Option.some.inj H
            exact x_retG hk (rs := [.tmp 2]) (vs := [.bool t190]) rfl ⟨rfl, trivial⟩ ⟨fun b_ => if b_ < w.heap.size then o b_ else (fun _ => 0) (o193 b_), rfl, hs.close0 o (fun _ => 0)⟩
        · rw [b177] at hk H
          replace H := bifT H
          refine x_run tab hk (k := 10) (lv := []) (ks := [2]) (e' := [(2, .bool true)]) rfl trivial fun a hk => ?_
          refine wpListIn_nil ?_
          refine then_n ?_
          refine wpIn_ret ?_
          obtain rfl := Option.some.inj H
          exact x_retG hk (rs := [.tmp 2]) (vs := [.bool true]) rfl ⟨rfl, trivial⟩ ⟨fun b_ => if b_ < w.heap.size then o b_ else (fun _ => 0) (o170 b_), rfl, hs.close0 o (fun _ => 0)⟩
      · rw [b153] at hk H
        replace H := bifT H
        refine x_if hk (b := true) rfl ?_
        refine (show Code.wpIn _ _ _ _ _ _ _ from ?_)
        refine x_seq ?_
        refine wpIn_region_lit ?_
        refine x_run tab hk (k := 1) (lv := []) (ks := [2]) (e' := [(2, .bool false)]) rfl trivial fun a hk => ?_
        refine wpListIn_nil ?_
        refine then_n ?_
        refine wpIn_ret ?_
        refine then_r ?_
        obtain rfl := Option.some.inj H
        exact x_retG hk (rs := [.tmp 2]) (vs := [.bool false]) rfl ⟨rfl, trivial⟩ ⟨fun b_ => if b_ < w.heap.size then o b_ else (fun _ => 0) (o151 b_), rfl, hs.close0 o (fun _ => 0)⟩
    refine x_seq ?_
    refine wpIn_region_lit ?_
    refine x_run tab hk (k := 3) (lv := []) (ks := [0, 3, 4, 17, 18, 19]) (e' := [(0, .slice A12 ((List.drop 0 (List.take (Int.toNat (mnI ((p0).length : Int) 60)) p0))).length c13), (3, .slice none 0 0), (4, .bool true), (17, .slice A12 ((List.drop 0 (List.take (Int.toNat (mnI ((p0).length : Int) 60)) p0))).length c13), (18, .int .i64 (((List.drop 0 (List.take (Int.toNat (mnI ((p0).length : Int) 60)) p0))).length : Int)), (19, .int .i64 0)]) rfl trivial fun a hk => ?_
    refine wpListIn_nil ?_
    refine then_n ?_
    refine wpIn_block ?_
    refine x_loop (fun j_ a_ w_ => ∃ o226 : Nat → Nat, ∃ A227 : Option Addr, ∃ c228 : Nat, ∃ l229 : List T69, ∃ x232 : Bool, ∃ x233 : Int, Kn 78 a_ [(0, .slice A12 ((List.drop 0 (List.take (Int.toNat (mnI ((p0).length : Int) 60)) p0))).length c13), (3, .slice A227 (l229).length c228), (4, .bool x232), (17, .slice A12 ((List.drop 0 (List.take (Int.toNat (mnI ((p0).length : Int) 60)) p0))).length c13), (18, .int .i64 (((List.drop 0 (List.take (Int.toNat (mnI ((p0).length : Int) 60)) p0))).length : Int)), (19, .int .i64 x233)] ∧ St [] w (fun _ => 0) w_ o226 ∧ Ft (RdC ET49 A12 (List.drop 0 (List.take (Int.toNat (mnI ((p0).length : Int) 60)) p0))) w_ o226 0 ∧ Ft (Own ET69 70 (.slice A227 (l229).length c228) l229) w_ o226 16 ∧ Ft (RdC ET111 (some ⟨0, 0, none⟩) glob0) w_ o226 0 ∧ Ft (RdC ET111 (some ⟨1, 0, none⟩) glob1) w_ o226 0 ∧ Ft (RdC (encInt .u32) (some ⟨2, 0, none⟩) glob2) w_ o226 0 ∧ (l229).length ≤ c228 ∧ tidewracklaw12_BookBack_l2 K p0 j_ l229 x232 x233 = some r) (k := K) ⟨o7, none, 0, ([] : List T69), true, 0, (by exact Kn.pick (ks := [0, 3, 4, 17, 18, 19]) hk rfl), hs, f14, (Ft.of_all (fun _ => Own.nil _ _ _) _ _ _), fg0, fg1, fg2, (by simp), H⟩ (by rintro _ _ ⟨_, _, _, _, _, _, _, _, _, _, _, _, _, _, H_⟩; exact absurd (show (none : Option Bool) = some r from H_) (by simp)) ?_
    rintro k264 a w263 ⟨o226, A227, c228, l229, x232, x233, hk, hs, f14, f230, fg0, fg1, fg2, hc231, H⟩
    rw [tidewracklaw12_BookBack_l2] at H
    obtain ⟨lp265, hlp266⟩ : ∃ lp_, lp_ = tidewracklaw12_BookBack_l2 K p0 k264 := ⟨_, rfl⟩
    rw [← hlp266] at H
    refine x_seq ?_
    refine wpIn_region_lit ?_
    refine x_run tab hk (k := 1) (lv := []) (ks := [0, 3, 4, 17, 18, 19, 20]) (e' := [(0, .slice A12 ((List.drop 0 (List.take (Int.toNat (mnI ((p0).length : Int) 60)) p0))).length c13), (3, .slice A227 (l229).length c228), (4, .bool x232), (17, .slice A12 ((List.drop 0 (List.take (Int.toNat (mnI ((p0).length : Int) 60)) p0))).length c13), (18, .int .i64 (((List.drop 0 (List.take (Int.toNat (mnI ((p0).length : Int) 60)) p0))).length : Int)), (19, .int .i64 x233), (20, .bool (decide (x233 < (((List.drop 0 (List.take (Int.toNat (mnI ((p0).length : Int) 60)) p0))).length : Int))))]) rfl trivial fun a hk => ?_
    refine wpListIn_nil ?_
    refine then_n ?_
    refine x_seq ?_
    cases b267 : (decide (x233 < (((List.drop 0 (List.take (Int.toNat (mnI ((p0).length : Int) 60)) p0))).length : Int)))
    · rw [b267] at hk H
      replace H := bifF H
      refine x_if hk (b := false) rfl ?_
      refine (show Code.wpIn _ _ _ _ _ _ _ from ?_)
      refine wpIn_exit ?_
      refine then_x ?_
      refine then_x ?_
      refine blk_x ?_
      refine then_n ?_
      exact ⟨(fun b_ => (fun l_ => if l_ = 16 then 10 else l_) (o226 b_)), A227, c228, l229, x232, (by exact Kn.pick (ks := [0, 3, 4]) hk rfl), (hs.relab0 (fun l_ => if l_ = 16 then 10 else l_) rfl), (f230.relab (fun l_ => if l_ = 16 then 10 else l_) rfl), (f14.relab (fun l_ => if l_ = 16 then 10 else l_) rfl), (fg0.relab (fun l_ => if l_ = 16 then 10 else l_) rfl), (fg1.relab (fun l_ => if l_ = 16 then 10 else l_) rfl), (fg2.relab (fun l_ => if l_ = 16 then 10 else l_) rfl), hc231, H⟩
    · rw [b267] at hk H
      replace H := bifT H
      refine x_if hk (b := true) rfl ?_
      refine (show Code.wpIn _ _ _ _ _ _ _ from ?_)
      refine wpIn_skip ?_
      refine then_n ?_
      refine x_seq ?_
      refine wpIn_block ?_
      refine x_seq ?_
      refine wpIn_region_lit ?_
      obtain ⟨q268, H⟩ := ifS H
      obtain ⟨ad269, hAad269⟩ := RdC.addr f14.now q268
      have hk_C := hk
      have f14_C := f14
      have f230_C := f230
      have fg0_C := fg0
      have fg1_C := fg1
      have fg2_C := fg2
      subst hAad269
      have hk := hk_C
      clear hk_C
      have f14 := f14_C
      clear f14_C
      have f230 := f230_C
      clear f230_C
      have fg0 := fg0_C
      clear fg0_C
      have fg1 := fg1_C
      clear fg1_C
      have fg2 := fg2_C
      clear fg2_C
      refine x_run tab hk (k := 2) (lv := [.agg #[.int .i32 ((rdD zT49 (List.drop 0 (List.take (Int.toNat (mnI ((p0).length : Int) 60)) p0)) x233).Rune), .int .i64 ((rdD zT49 (List.drop 0 (List.take (Int.toNat (mnI ((p0).length : Int) 60)) p0)) x233).Style)]]) (ks := [0, 3, 4, 17, 18, 19, 22]) (e' := [(0, .slice (some ad269) ((List.drop 0 (List.take (Int.toNat (mnI ((p0).length : Int) 60)) p0))).length c13), (3, .slice A227 (l229).length c228), (4, .bool x232), (17, .slice (some ad269) ((List.drop 0 (List.take (Int.toNat (mnI ((p0).length : Int) 60)) p0))).length c13), (18, .int .i64 (((List.drop 0 (List.take (Int.toNat (mnI ((p0).length : Int) 60)) p0))).length : Int)), (19, .int .i64 x233), (22, .agg #[.int .i32 ((rdD zT49 (List.drop 0 (List.take (Int.toNat (mnI ((p0).length : Int) 60)) p0)) x233).Rune), .int .i64 ((rdD zT49 (List.drop 0 (List.take (Int.toNat (mnI ((p0).length : Int) 60)) p0)) x233).Style)])]) rfl ⟨q268, (load_elem (E := ET49) (i := x233) (dx := zT49) tab rfl rfl f14.now q268), trivial⟩ fun a hk => ?_
      refine x_op hk rfl ?_
      refine op_alloc (o := o226) tab (t := 50) (cs := [.int .i32 0, .int .i64 0]) rfl rfl 19 fun bx273 w270 o271 st272 f274 => ?_
      replace f14 := f14.st st272 (by decide)
      replace f230 := f230.st st272 (by decide)
      replace fg0 := fg0.st st272 (by decide)
      replace fg1 := fg1.st st272 (by decide)
      replace fg2 := fg2.st st272 (by decide)
      replace hs := hs.loc0 st272 (by decide)
      have hk := hk.put 6 (.pointer (some ⟨bx273, 0, none⟩)) rfl
      refine x_op hk rfl ?_
      refine op_store tab hk (t := 50) (v := .agg #[.int .i32 ((rdD zT49 (List.drop 0 (List.take (Int.toNat (mnI ((p0).length : Int) 60)) p0)) x233).Rune), .int .i64 ((rdD zT49 (List.drop 0 (List.take (Int.toNat (mnI ((p0).length : Int) 60)) p0)) x233).Style)]) (b := bx273) (k := 0) (cs' := [.int .i32 ((rdD zT49 (List.drop 0 (List.take (Int.toNat (mnI ((p0).length : Int) 60)) p0)) x233).Rune), .int .i64 ((rdD zT49 (List.drop 0 (List.take (Int.toNat (mnI ((p0).length : Int) 60)) p0)) x233).Style)]) rfl rfl rfl rfl rfl rfl f274 rfl rfl fun w275 o276 st277 f274_ => ?_
      replace f14 := f14.st st277 (by decide)
      replace f230 := f230.st st277 (by decide)
      replace fg0 := fg0.st st277 (by decide)
      replace fg1 := fg1.st st277 (by decide)
      replace fg2 := fg2.st st277 (by decide)
      replace hs := hs.loc0 st277 (by decide)
      replace f274 := f274_
      refine wpListIn_nil ?_
      refine then_n ?_
      refine x_seq ?_
      refine wpIn_region_lit ?_
      refine x_run tab hk (k := 7) (lv := [.int .i32 ((rdD zT49 (List.drop 0 (List.take (Int.toNat (mnI ((p0).length : Int) 60)) p0)) x233).Rune), .int .i64 ((rdD zT49 (List.drop 0 (List.take (Int.toNat (mnI ((p0).length : Int) 60)) p0)) x233).Style)]) (ks := [0, 4, 6, 17, 18, 19, 23, 29]) (e' := [(0, .slice (some ad269) ((List.drop 0 (List.take (Int.toNat (mnI ((p0).length : Int) 60)) p0))).length c13), (4, .bool x232), (6, .pointer (some ⟨bx273, 0, none⟩)), (17, .slice (some ad269) ((List.drop 0 (List.take (Int.toNat (mnI ((p0).length : Int) 60)) p0))).length c13), (18, .int .i64 (((List.drop 0 (List.take (Int.toNat (mnI ((p0).length : Int) 60)) p0))).length : Int)), (19, .int .i64 x233), (23, .slice A227 (l229).length c228), (29, .agg #[.int .i64 (IntKind.wrap .i64 ((rdD zT49 (List.drop 0 (List.take (Int.toNat (mnI ((p0).length : Int) 60)) p0)) x233).Rune)), .int .i64 ((rdD zT49 (List.drop 0 (List.take (Int.toNat (mnI ((p0).length : Int) 60)) p0)) x233).Style)])]) rfl ⟨(load1 tab rfl ((Bx.cell f274.now 0).trans rfl)), (load1 tab rfl ((Bx.cell f274.now 1).trans rfl)), trivial⟩ fun a hk => ?_
      refine x_op hk rfl ?_
      refine op_slice (o := o276) tab hk (vs := [.agg #[.int .i64 (IntKind.wrap .i64 ((rdD zT49 (List.drop 0 (List.take (Int.toNat (mnI ((p0).length : Int) 60)) p0)) x233).Rune)), .int .i64 ((rdD zT49 (List.drop 0 (List.take (Int.toNat (mnI ((p0).length : Int) 60)) p0)) x233).Style)]]) (cs := [.int .i64 (IntKind.wrap .i64 ((rdD zT49 (List.drop 0 (List.take (Int.toNat (mnI ((p0).length : Int) 60)) p0)) x233).Rune)), .int .i64 ((rdD zT49 (List.drop 0 (List.take (Int.toNat (mnI ((p0).length : Int) 60)) p0)) x233).Style)]) rfl rfl rfl rfl rfl rfl rfl rfl rfl 20 fun bx281 w278 o279 st280 f282 => ?_
      replace f14 := f14.st st280 (by decide)
      replace f230 := f230.st st280 (by decide)
      replace f274 := f274.st st280 (by decide)
      replace fg0 := fg0.st st280 (by decide)
      replace fg1 := fg1.st st280 (by decide)
      replace fg2 := fg2.st st280 (by decide)
      replace hs := hs.loc0 st280 (by decide)
      have f283 : Ft (Own ET69 70 (.slice (some ⟨bx281, 0, none⟩) (([(⟨(IntKind.wrap .i64 ((rdD zT49 (List.drop 0 (List.take (Int.toNat (mnI ((p0).length : Int) 60)) p0)) x233).Rune)), (rdD zT49 (List.drop 0 (List.take (Int.toNat (mnI ((p0).length : Int) 60)) p0)) x233).Style⟩ : T69)] : List T69)).length 1) ([(⟨(IntKind.wrap .i64 ((rdD zT49 (List.drop 0 (List.take (Int.toNat (mnI ((p0).length : Int) 60)) p0)) x233).Rune)), (rdD zT49 (List.drop 0 (List.take (Int.toNat (mnI ((p0).length : Int) 60)) p0)) x233).Style⟩ : T69)] : List T69)) w278 o279 20 := f282.imp fun _ h_ => Own.of_box h_ rfl (by simp)
      have hk := hk.put 30 (.slice (some ⟨bx281, 0, none⟩) (([(⟨(IntKind.wrap .i64 ((rdD zT49 (List.drop 0 (List.take (Int.toNat (mnI ((p0).length : Int) 60)) p0)) x233).Rune)), (rdD zT49 (List.drop 0 (List.take (Int.toNat (mnI ((p0).length : Int) 60)) p0)) x233).Style⟩ : T69)] : List T69)).length 1) rfl
      refine x_op hk rfl ?_
      obtain ⟨q287, H⟩ := ifS H
      refine op_append (o := o279) (E := ET69) (xs := l229) (ys := ([(⟨(IntKind.wrap .i64 ((rdD zT49 (List.drop 0 (List.take (Int.toNat (mnI ((p0).length : Int) 60)) p0)) x233).Rune)), (rdD zT49 (List.drop 0 (List.take (Int.toNat (mnI ((p0).length : Int) 60)) p0)) x233).Style⟩ : T69)] : List T69)) tab hk rfl rfl rfl rfl rfl rfl rfl f230 (Own.rd f283.now) q287 fun A288 c289 w284 o285 st286 f290 hc291 => ?_
      replace f14 := f14.st st286 (by decide)
      replace f274 := f274.st st286 (by decide)
      replace f283 := f283.st st286 (by decide)
      replace fg0 := fg0.st st286 (by decide)
      replace fg1 := fg1.st st286 (by decide)
      replace fg2 := fg2.st st286 (by decide)
      replace hs := hs.loc0 st286 (by decide)
      have hk := hk.put 31 (.slice A288 ((l229 ++ ([(⟨(IntKind.wrap .i64 ((rdD zT49 (List.drop 0 (List.take (Int.toNat (mnI ((p0).length : Int) 60)) p0)) x233).Rune)), (rdD zT49 (List.drop 0 (List.take (Int.toNat (mnI ((p0).length : Int) 60)) p0)) x233).Style⟩ : T69)] : List T69))).length c289) rfl
      refine x_run tab hk (k := 1) (lv := []) (ks := [0, 3, 4, 6, 17, 18, 19]) (e' := [(0, .slice (some ad269) ((List.drop 0 (List.take (Int.toNat (mnI ((p0).length : Int) 60)) p0))).length c13), (3, .slice A288 ((l229 ++ ([(⟨(IntKind.wrap .i64 ((rdD zT49 (List.drop 0 (List.take (Int.toNat (mnI ((p0).length : Int) 60)) p0)) x233).Rune)), (rdD zT49 (List.drop 0 (List.take (Int.toNat (mnI ((p0).length : Int) 60)) p0)) x233).Style⟩ : T69)] : List T69))).length c289), (4, .bool x232), (6, .pointer (some ⟨bx273, 0, none⟩)), (17, .slice (some ad269) ((List.drop 0 (List.take (Int.toNat (mnI ((p0).length : Int) 60)) p0))).length c13), (18, .int .i64 (((List.drop 0 (List.take (Int.toNat (mnI ((p0).length : Int) 60)) p0))).length : Int)), (19, .int .i64 x233)]) rfl trivial fun a hk => ?_
      refine wpListIn_nil ?_
      refine then_n ?_
      refine wpIn_region_lit ?_
      refine x_run tab hk (k := 2) (lv := []) (ks := [0, 3, 6, 17, 18, 19, 33]) (e' := [(0, .slice (some ad269) ((List.drop 0 (List.take (Int.toNat (mnI ((p0).length : Int) 60)) p0))).length c13), (3, .slice A288 ((l229 ++ ([(⟨(IntKind.wrap .i64 ((rdD zT49 (List.drop 0 (List.take (Int.toNat (mnI ((p0).length : Int) 60)) p0)) x233).Rune)), (rdD zT49 (List.drop 0 (List.take (Int.toNat (mnI ((p0).length : Int) 60)) p0)) x233).Style⟩ : T69)] : List T69))).length c289), (6, .pointer (some ⟨bx273, 0, none⟩)), (17, .slice (some ad269) ((List.drop 0 (List.take (Int.toNat (mnI ((p0).length : Int) 60)) p0))).length c13), (18, .int .i64 (((List.drop 0 (List.take (Int.toNat (mnI ((p0).length : Int) 60)) p0))).length : Int)), (19, .int .i64 x233), (33, .bool x232)]) rfl trivial fun a hk => ?_
      cases b292 : x232
      · rw [b292] at hk H
        replace H := bifF H
        refine x_run tab hk (k := 13) (lv := []) (ks := [0, 3, 6, 17, 18, 19, 43, 46]) (e' := [(0, .slice (some ad269) ((List.drop 0 (List.take (Int.toNat (mnI ((p0).length : Int) 60)) p0))).length c13), (3, .slice A288 ((l229 ++ ([(⟨(IntKind.wrap .i64 ((rdD zT49 (List.drop 0 (List.take (Int.toNat (mnI ((p0).length : Int) 60)) p0)) x233).Rune)), (rdD zT49 (List.drop 0 (List.take (Int.toNat (mnI ((p0).length : Int) 60)) p0)) x233).Style⟩ : T69)] : List T69))).length c289), (6, .pointer (some ⟨bx273, 0, none⟩)), (17, .slice (some ad269) ((List.drop 0 (List.take (Int.toNat (mnI ((p0).length : Int) 60)) p0))).length c13), (18, .int .i64 (((List.drop 0 (List.take (Int.toNat (mnI ((p0).length : Int) 60)) p0))).length : Int)), (19, .int .i64 x233), (43, .bool false), (46, undef)]) rfl trivial fun a hk => ?_
        refine x_run tab hk (k := 7) (lv := []) (ks := [0, 3, 4, 17, 18, 19]) (e' := [(0, .slice (some ad269) ((List.drop 0 (List.take (Int.toNat (mnI ((p0).length : Int) 60)) p0))).length c13), (3, .slice A288 ((l229 ++ ([(⟨(IntKind.wrap .i64 ((rdD zT49 (List.drop 0 (List.take (Int.toNat (mnI ((p0).length : Int) 60)) p0)) x233).Rune)), (rdD zT49 (List.drop 0 (List.take (Int.toNat (mnI ((p0).length : Int) 60)) p0)) x233).Style⟩ : T69)] : List T69))).length c289), (4, .bool false), (17, .slice (some ad269) ((List.drop 0 (List.take (Int.toNat (mnI ((p0).length : Int) 60)) p0))).length c13), (18, .int .i64 (((List.drop 0 (List.take (Int.toNat (mnI ((p0).length : Int) 60)) p0))).length : Int)), (19, .int .i64 x233)]) rfl trivial fun a hk => ?_
        refine wpListIn_nil ?_
        refine blk_n ?_
        refine then_n ?_
        refine wpIn_region_lit ?_
        refine x_run tab hk (k := 2) (lv := []) (ks := [0, 3, 4, 17, 18, 19]) (e' := [(0, .slice (some ad269) ((List.drop 0 (List.take (Int.toNat (mnI ((p0).length : Int) 60)) p0))).length c13), (3, .slice A288 ((l229 ++ ([(⟨(IntKind.wrap .i64 ((rdD zT49 (List.drop 0 (List.take (Int.toNat (mnI ((p0).length : Int) 60)) p0)) x233).Rune)), (rdD zT49 (List.drop 0 (List.take (Int.toNat (mnI ((p0).length : Int) 60)) p0)) x233).Style⟩ : T69)] : List T69))).length c289), (4, .bool false), (17, .slice (some ad269) ((List.drop 0 (List.take (Int.toNat (mnI ((p0).length : Int) 60)) p0))).length c13), (18, .int .i64 (((List.drop 0 (List.take (Int.toNat (mnI ((p0).length : Int) 60)) p0))).length : Int)), (19, .int .i64 (IntKind.wrap .i64 (x233 + 1)))]) rfl trivial fun a hk => ?_
        refine wpListIn_nil ?_
        refine then_n ?_
        exact ⟨k264, Nat.le_refl _, o285, A288, c289, (l229 ++ ([(⟨(IntKind.wrap .i64 ((rdD zT49 (List.drop 0 (List.take (Int.toNat (mnI ((p0).length : Int) 60)) p0)) x233).Rune)), (rdD zT49 (List.drop 0 (List.take (Int.toNat (mnI ((p0).length : Int) 60)) p0)) x233).Style⟩ : T69)] : List T69)), false, (IntKind.wrap .i64 (x233 + 1)), (by exact Kn.pick (ks := [0, 3, 4, 17, 18, 19]) hk rfl), hs, f14, f290, fg0, fg1, fg2, hc291, (hlp266 ▸ H)⟩
      · rw [b292] at hk H
        replace H := bifT H
        refine x_run tab hk (k := 5) (lv := [.int .i32 ((rdD zT49 (List.drop 0 (List.take (Int.toNat (mnI ((p0).length : Int) 60)) p0)) x233).Rune)]) (ks := [0, 3, 6, 17, 18, 19, 38]) (e' := [(0, .slice (some ad269) ((List.drop 0 (List.take (Int.toNat (mnI ((p0).length : Int) 60)) p0))).length c13), (3, .slice A288 ((l229 ++ ([(⟨(IntKind.wrap .i64 ((rdD zT49 (List.drop 0 (List.take (Int.toNat (mnI ((p0).length : Int) 60)) p0)) x233).Rune)), (rdD zT49 (List.drop 0 (List.take (Int.toNat (mnI ((p0).length : Int) 60)) p0)) x233).Style⟩ : T69)] : List T69))).length c289), (6, .pointer (some ⟨bx273, 0, none⟩)), (17, .slice (some ad269) ((List.drop 0 (List.take (Int.toNat (mnI ((p0).length : Int) 60)) p0))).length c13), (18, .int .i64 (((List.drop 0 (List.take (Int.toNat (mnI ((p0).length : Int) 60)) p0))).length : Int)), (19, .int .i64 x233), (38, .bool (decide (((rdD zT49 (List.drop 0 (List.take (Int.toNat (mnI ((p0).length : Int) 60)) p0)) x233).Rune) ≥ (0 : Int))))]) rfl ⟨(load1 tab rfl ((Bx.cell f274.now 0).trans rfl)), trivial⟩ fun a hk => ?_
        cases b293 : (decide (((rdD zT49 (List.drop 0 (List.take (Int.toNat (mnI ((p0).length : Int) 60)) p0)) x233).Rune) ≥ (0 : Int)))
        · rw [b293] at hk H
          replace H := bifF H
          refine x_run tab hk (k := 13) (lv := []) (ks := [0, 3, 17, 18, 19, 48, 51]) (e' := [(0, .slice (some ad269) ((List.drop 0 (List.take (Int.toNat (mnI ((p0).length : Int) 60)) p0))).length c13), (3, .slice A288 ((l229 ++ ([(⟨(IntKind.wrap .i64 ((rdD zT49 (List.drop 0 (List.take (Int.toNat (mnI ((p0).length : Int) 60)) p0)) x233).Rune)), (rdD zT49 (List.drop 0 (List.take (Int.toNat (mnI ((p0).length : Int) 60)) p0)) x233).Style⟩ : T69)] : List T69))).length c289), (17, .slice (some ad269) ((List.drop 0 (List.take (Int.toNat (mnI ((p0).length : Int) 60)) p0))).length c13), (18, .int .i64 (((List.drop 0 (List.take (Int.toNat (mnI ((p0).length : Int) 60)) p0))).length : Int)), (19, .int .i64 x233), (48, .bool false), (51, undef)]) rfl trivial fun a hk => ?_
          refine x_run tab hk (k := 2) (lv := []) (ks := [0, 3, 4, 17, 18, 19]) (e' := [(0, .slice (some ad269) ((List.drop 0 (List.take (Int.toNat (mnI ((p0).length : Int) 60)) p0))).length c13), (3, .slice A288 ((l229 ++ ([(⟨(IntKind.wrap .i64 ((rdD zT49 (List.drop 0 (List.take (Int.toNat (mnI ((p0).length : Int) 60)) p0)) x233).Rune)), (rdD zT49 (List.drop 0 (List.take (Int.toNat (mnI ((p0).length : Int) 60)) p0)) x233).Style⟩ : T69)] : List T69))).length c289), (4, .bool false), (17, .slice (some ad269) ((List.drop 0 (List.take (Int.toNat (mnI ((p0).length : Int) 60)) p0))).length c13), (18, .int .i64 (((List.drop 0 (List.take (Int.toNat (mnI ((p0).length : Int) 60)) p0))).length : Int)), (19, .int .i64 x233)]) rfl trivial fun a hk => ?_
          refine wpListIn_nil ?_
          refine blk_n ?_
          refine then_n ?_
          refine wpIn_region_lit ?_
          refine x_run tab hk (k := 2) (lv := []) (ks := [0, 3, 4, 17, 18, 19]) (e' := [(0, .slice (some ad269) ((List.drop 0 (List.take (Int.toNat (mnI ((p0).length : Int) 60)) p0))).length c13), (3, .slice A288 ((l229 ++ ([(⟨(IntKind.wrap .i64 ((rdD zT49 (List.drop 0 (List.take (Int.toNat (mnI ((p0).length : Int) 60)) p0)) x233).Rune)), (rdD zT49 (List.drop 0 (List.take (Int.toNat (mnI ((p0).length : Int) 60)) p0)) x233).Style⟩ : T69)] : List T69))).length c289), (4, .bool false), (17, .slice (some ad269) ((List.drop 0 (List.take (Int.toNat (mnI ((p0).length : Int) 60)) p0))).length c13), (18, .int .i64 (((List.drop 0 (List.take (Int.toNat (mnI ((p0).length : Int) 60)) p0))).length : Int)), (19, .int .i64 (IntKind.wrap .i64 (x233 + 1)))]) rfl trivial fun a hk => ?_
          refine wpListIn_nil ?_
          refine then_n ?_
          exact ⟨k264, Nat.le_refl _, o285, A288, c289, (l229 ++ ([(⟨(IntKind.wrap .i64 ((rdD zT49 (List.drop 0 (List.take (Int.toNat (mnI ((p0).length : Int) 60)) p0)) x233).Rune)), (rdD zT49 (List.drop 0 (List.take (Int.toNat (mnI ((p0).length : Int) 60)) p0)) x233).Style⟩ : T69)] : List T69)), false, (IntKind.wrap .i64 (x233 + 1)), (by exact Kn.pick (ks := [0, 3, 4, 17, 18, 19]) hk rfl), hs, f14, f290, fg0, fg1, fg2, hc291, (hlp266 ▸ H)⟩
        · rw [b293] at hk H
          replace H := bifT H
          refine x_run tab hk (k := 5) (lv := [.int .i32 ((rdD zT49 (List.drop 0 (List.take (Int.toNat (mnI ((p0).length : Int) 60)) p0)) x233).Rune)]) (ks := [0, 3, 6, 17, 18, 19, 43]) (e' := [(0, .slice (some ad269) ((List.drop 0 (List.take (Int.toNat (mnI ((p0).length : Int) 60)) p0))).length c13), (3, .slice A288 ((l229 ++ ([(⟨(IntKind.wrap .i64 ((rdD zT49 (List.drop 0 (List.take (Int.toNat (mnI ((p0).length : Int) 60)) p0)) x233).Rune)), (rdD zT49 (List.drop 0 (List.take (Int.toNat (mnI ((p0).length : Int) 60)) p0)) x233).Style⟩ : T69)] : List T69))).length c289), (6, .pointer (some ⟨bx273, 0, none⟩)), (17, .slice (some ad269) ((List.drop 0 (List.take (Int.toNat (mnI ((p0).length : Int) 60)) p0))).length c13), (18, .int .i64 (((List.drop 0 (List.take (Int.toNat (mnI ((p0).length : Int) 60)) p0))).length : Int)), (19, .int .i64 x233), (43, .bool (decide (((rdD zT49 (List.drop 0 (List.take (Int.toNat (mnI ((p0).length : Int) 60)) p0)) x233).Rune) ≤ (1114111 : Int))))]) rfl ⟨(load1 tab rfl ((Bx.cell f274.now 0).trans rfl)), trivial⟩ fun a hk => ?_
          cases b294 : (decide (((rdD zT49 (List.drop 0 (List.take (Int.toNat (mnI ((p0).length : Int) 60)) p0)) x233).Rune) ≤ (1114111 : Int)))
          · rw [b294] at hk H
            replace H := bifF H
            refine x_run tab hk (k := 10) (lv := []) (ks := [0, 3, 4, 17, 18, 19]) (e' := [(0, .slice (some ad269) ((List.drop 0 (List.take (Int.toNat (mnI ((p0).length : Int) 60)) p0))).length c13), (3, .slice A288 ((l229 ++ ([(⟨(IntKind.wrap .i64 ((rdD zT49 (List.drop 0 (List.take (Int.toNat (mnI ((p0).length : Int) 60)) p0)) x233).Rune)), (rdD zT49 (List.drop 0 (List.take (Int.toNat (mnI ((p0).length : Int) 60)) p0)) x233).Style⟩ : T69)] : List T69))).length c289), (4, .bool false), (17, .slice (some ad269) ((List.drop 0 (List.take (Int.toNat (mnI ((p0).length : Int) 60)) p0))).length c13), (18, .int .i64 (((List.drop 0 (List.take (Int.toNat (mnI ((p0).length : Int) 60)) p0))).length : Int)), (19, .int .i64 x233)]) rfl trivial fun a hk => ?_
            refine wpListIn_nil ?_
            refine blk_n ?_
            refine then_n ?_
            refine wpIn_region_lit ?_
            refine x_run tab hk (k := 2) (lv := []) (ks := [0, 3, 4, 17, 18, 19]) (e' := [(0, .slice (some ad269) ((List.drop 0 (List.take (Int.toNat (mnI ((p0).length : Int) 60)) p0))).length c13), (3, .slice A288 ((l229 ++ ([(⟨(IntKind.wrap .i64 ((rdD zT49 (List.drop 0 (List.take (Int.toNat (mnI ((p0).length : Int) 60)) p0)) x233).Rune)), (rdD zT49 (List.drop 0 (List.take (Int.toNat (mnI ((p0).length : Int) 60)) p0)) x233).Style⟩ : T69)] : List T69))).length c289), (4, .bool false), (17, .slice (some ad269) ((List.drop 0 (List.take (Int.toNat (mnI ((p0).length : Int) 60)) p0))).length c13), (18, .int .i64 (((List.drop 0 (List.take (Int.toNat (mnI ((p0).length : Int) 60)) p0))).length : Int)), (19, .int .i64 (IntKind.wrap .i64 (x233 + 1)))]) rfl trivial fun a hk => ?_
            refine wpListIn_nil ?_
            refine then_n ?_
            exact ⟨k264, Nat.le_refl _, o285, A288, c289, (l229 ++ ([(⟨(IntKind.wrap .i64 ((rdD zT49 (List.drop 0 (List.take (Int.toNat (mnI ((p0).length : Int) 60)) p0)) x233).Rune)), (rdD zT49 (List.drop 0 (List.take (Int.toNat (mnI ((p0).length : Int) 60)) p0)) x233).Style⟩ : T69)] : List T69)), false, (IntKind.wrap .i64 (x233 + 1)), (by exact Kn.pick (ks := [0, 3, 4, 17, 18, 19]) hk rfl), hs, f14, f290, fg0, fg1, fg2, hc291, (hlp266 ▸ H)⟩
          · rw [b294] at hk H
            replace H := bifT H
            refine x_run tab hk (k := 5) (lv := [.int .i64 ((rdD zT49 (List.drop 0 (List.take (Int.toNat (mnI ((p0).length : Int) 60)) p0)) x233).Style)]) (ks := [0, 3, 6, 17, 18, 19, 48]) (e' := [(0, .slice (some ad269) ((List.drop 0 (List.take (Int.toNat (mnI ((p0).length : Int) 60)) p0))).length c13), (3, .slice A288 ((l229 ++ ([(⟨(IntKind.wrap .i64 ((rdD zT49 (List.drop 0 (List.take (Int.toNat (mnI ((p0).length : Int) 60)) p0)) x233).Rune)), (rdD zT49 (List.drop 0 (List.take (Int.toNat (mnI ((p0).length : Int) 60)) p0)) x233).Style⟩ : T69)] : List T69))).length c289), (6, .pointer (some ⟨bx273, 0, none⟩)), (17, .slice (some ad269) ((List.drop 0 (List.take (Int.toNat (mnI ((p0).length : Int) 60)) p0))).length c13), (18, .int .i64 (((List.drop 0 (List.take (Int.toNat (mnI ((p0).length : Int) 60)) p0))).length : Int)), (19, .int .i64 x233), (48, .bool (decide (((rdD zT49 (List.drop 0 (List.take (Int.toNat (mnI ((p0).length : Int) 60)) p0)) x233).Style) ≥ (0 : Int))))]) rfl ⟨(load1 tab rfl ((Bx.cell f274.now 1).trans rfl)), trivial⟩ fun a hk => ?_
            cases b295 : (decide (((rdD zT49 (List.drop 0 (List.take (Int.toNat (mnI ((p0).length : Int) 60)) p0)) x233).Style) ≥ (0 : Int)))
            · rw [b295] at hk H
              replace H := bifF H
              refine x_run tab hk (k := 5) (lv := []) (ks := [0, 3, 4, 17, 18, 19]) (e' := [(0, .slice (some ad269) ((List.drop 0 (List.take (Int.toNat (mnI ((p0).length : Int) 60)) p0))).length c13), (3, .slice A288 ((l229 ++ ([(⟨(IntKind.wrap .i64 ((rdD zT49 (List.drop 0 (List.take (Int.toNat (mnI ((p0).length : Int) 60)) p0)) x233).Rune)), (rdD zT49 (List.drop 0 (List.take (Int.toNat (mnI ((p0).length : Int) 60)) p0)) x233).Style⟩ : T69)] : List T69))).length c289), (4, .bool false), (17, .slice (some ad269) ((List.drop 0 (List.take (Int.toNat (mnI ((p0).length : Int) 60)) p0))).length c13), (18, .int .i64 (((List.drop 0 (List.take (Int.toNat (mnI ((p0).length : Int) 60)) p0))).length : Int)), (19, .int .i64 x233)]) rfl trivial fun a hk => ?_
              refine wpListIn_nil ?_
              refine blk_n ?_
              refine then_n ?_
              refine wpIn_region_lit ?_
              refine x_run tab hk (k := 2) (lv := []) (ks := [0, 3, 4, 17, 18, 19]) (e' := [(0, .slice (some ad269) ((List.drop 0 (List.take (Int.toNat (mnI ((p0).length : Int) 60)) p0))).length c13), (3, .slice A288 ((l229 ++ ([(⟨(IntKind.wrap .i64 ((rdD zT49 (List.drop 0 (List.take (Int.toNat (mnI ((p0).length : Int) 60)) p0)) x233).Rune)), (rdD zT49 (List.drop 0 (List.take (Int.toNat (mnI ((p0).length : Int) 60)) p0)) x233).Style⟩ : T69)] : List T69))).length c289), (4, .bool false), (17, .slice (some ad269) ((List.drop 0 (List.take (Int.toNat (mnI ((p0).length : Int) 60)) p0))).length c13), (18, .int .i64 (((List.drop 0 (List.take (Int.toNat (mnI ((p0).length : Int) 60)) p0))).length : Int)), (19, .int .i64 (IntKind.wrap .i64 (x233 + 1)))]) rfl trivial fun a hk => ?_
              refine wpListIn_nil ?_
              refine then_n ?_
              exact ⟨k264, Nat.le_refl _, o285, A288, c289, (l229 ++ ([(⟨(IntKind.wrap .i64 ((rdD zT49 (List.drop 0 (List.take (Int.toNat (mnI ((p0).length : Int) 60)) p0)) x233).Rune)), (rdD zT49 (List.drop 0 (List.take (Int.toNat (mnI ((p0).length : Int) 60)) p0)) x233).Style⟩ : T69)] : List T69)), false, (IntKind.wrap .i64 (x233 + 1)), (by exact Kn.pick (ks := [0, 3, 4, 17, 18, 19]) hk rfl), hs, f14, f290, fg0, fg1, fg2, hc291, (hlp266 ▸ H)⟩
            · rw [b295] at hk H
              replace H := bifT H
              refine x_run tab hk (k := 5) (lv := [.int .i64 ((rdD zT49 (List.drop 0 (List.take (Int.toNat (mnI ((p0).length : Int) 60)) p0)) x233).Style)]) (ks := [0, 3, 4, 17, 18, 19]) (e' := [(0, .slice (some ad269) ((List.drop 0 (List.take (Int.toNat (mnI ((p0).length : Int) 60)) p0))).length c13), (3, .slice A288 ((l229 ++ ([(⟨(IntKind.wrap .i64 ((rdD zT49 (List.drop 0 (List.take (Int.toNat (mnI ((p0).length : Int) 60)) p0)) x233).Rune)), (rdD zT49 (List.drop 0 (List.take (Int.toNat (mnI ((p0).length : Int) 60)) p0)) x233).Style⟩ : T69)] : List T69))).length c289), (4, .bool (decide (((rdD zT49 (List.drop 0 (List.take (Int.toNat (mnI ((p0).length : Int) 60)) p0)) x233).Style) ≤ (647 : Int)))), (17, .slice (some ad269) ((List.drop 0 (List.take (Int.toNat (mnI ((p0).length : Int) 60)) p0))).length c13), (18, .int .i64 (((List.drop 0 (List.take (Int.toNat (mnI ((p0).length : Int) 60)) p0))).length : Int)), (19, .int .i64 x233)]) rfl ⟨(load1 tab rfl ((Bx.cell f274.now 1).trans rfl)), trivial⟩ fun a hk => ?_
              refine wpListIn_nil ?_
              refine blk_n ?_
              refine then_n ?_
              refine wpIn_region_lit ?_
              refine x_run tab hk (k := 2) (lv := []) (ks := [0, 3, 4, 17, 18, 19]) (e' := [(0, .slice (some ad269) ((List.drop 0 (List.take (Int.toNat (mnI ((p0).length : Int) 60)) p0))).length c13), (3, .slice A288 ((l229 ++ ([(⟨(IntKind.wrap .i64 ((rdD zT49 (List.drop 0 (List.take (Int.toNat (mnI ((p0).length : Int) 60)) p0)) x233).Rune)), (rdD zT49 (List.drop 0 (List.take (Int.toNat (mnI ((p0).length : Int) 60)) p0)) x233).Style⟩ : T69)] : List T69))).length c289), (4, .bool (decide (((rdD zT49 (List.drop 0 (List.take (Int.toNat (mnI ((p0).length : Int) 60)) p0)) x233).Style) ≤ (647 : Int)))), (17, .slice (some ad269) ((List.drop 0 (List.take (Int.toNat (mnI ((p0).length : Int) 60)) p0))).length c13), (18, .int .i64 (((List.drop 0 (List.take (Int.toNat (mnI ((p0).length : Int) 60)) p0))).length : Int)), (19, .int .i64 (IntKind.wrap .i64 (x233 + 1)))]) rfl trivial fun a hk => ?_
              refine wpListIn_nil ?_
              refine then_n ?_
              exact ⟨k264, Nat.le_refl _, o285, A288, c289, (l229 ++ ([(⟨(IntKind.wrap .i64 ((rdD zT49 (List.drop 0 (List.take (Int.toNat (mnI ((p0).length : Int) 60)) p0)) x233).Rune)), (rdD zT49 (List.drop 0 (List.take (Int.toNat (mnI ((p0).length : Int) 60)) p0)) x233).Style⟩ : T69)] : List T69)), (decide (((rdD zT49 (List.drop 0 (List.take (Int.toNat (mnI ((p0).length : Int) 60)) p0)) x233).Style) ≤ (647 : Int))), (IntKind.wrap .i64 (x233 + 1)), (by exact Kn.pick (ks := [0, 3, 4, 17, 18, 19]) hk rfl), hs, f14, f290, fg0, fg1, fg2, hc291, (hlp266 ▸ H)⟩
  · rw [b9] at hk H
    replace H := bifT H
    refine x_if hk (b := true) rfl ?_
    refine (show Code.wpIn _ _ _ _ _ _ _ from ?_)
    refine x_seq ?_
    refine wpIn_region_lit ?_
    refine x_run tab hk (k := 1) (lv := []) (ks := [2]) (e' := [(2, .bool false)]) rfl trivial fun a hk => ?_
    refine wpListIn_nil ?_
    refine then_n ?_
    refine wpIn_ret ?_
    refine then_r ?_
    obtain rfl := Option.some.inj H
    exact x_retG hk (rs := [.tmp 2]) (vs := [.bool false]) rfl ⟨rfl, trivial⟩ ⟨fun b_ => if b_ < w.heap.size then o b_ else (fun _ => 0) (o7 b_), rfl, hs.close0 o (fun _ => 0)⟩

end Go.Proofs.YthmdgjdgnfoloaaDoor
