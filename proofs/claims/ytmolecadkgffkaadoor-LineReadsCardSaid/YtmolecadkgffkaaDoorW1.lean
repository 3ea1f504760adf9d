/- Walks, printed by an own program: the machine's calls compute the plain functions. -/
import Derived.Test.YtmolecadkgffkaaDoorW0
set_option linter.unusedVariables false
set_option linter.unusedSimpArgs false
namespace Go.Proofs.YtmolecadkgffkaaDoor
open Go Go.Proofs.XC
/-! strings.Cut -/
theorem strings_Cut_calls (p0 : ByteArray) (p1 : ByteArray) (w : World) (o : Nat → Nat) (Lg1 : Nat) (hg1 : Ft (GInt 1) w o Lg1)   (r : ByteArray × ByteArray × Bool) (H : strings_Cut p0 p1 = some r) :
    Calls Tryd.prog 27 #[.string p0, .string p1] w (Ret fun v_ w' => ∃ o' : Nat → Nat, v_ = .tuple #[.string r.1, .string r.2.1, .bool r.2.2] ∧ St [] w o w' o') := by
  obtain ⟨m_, hm_⟩ := hg1.now
  unfold strings_Cut at H; split at H
  · rename_i h; cases H; refine (Tryd.strings_Cut p0 p1 m_ w h hm_).mono ?_
    rintro e w' ⟨rfl, n_, rfl⟩
    exact ⟨_, rfl, o, rfl, St.drewN n_⟩
  · cases H

/-! internal/stringslite.HasSuffix -/
theorem stringslite_HasSuffix_calls (p0 : ByteArray) (p1 : ByteArray) (w : World) (o : Nat → Nat)   (r : Bool) (H : stringslite_HasSuffix p0 p1 = some r) :
    Calls Tryd.prog 49 #[.string p0, .string p1] w (Ret fun v_ w' => ∃ o' : Nat → Nat, v_ = .bool r ∧ St [] w o w' o') := by
  refine x_enter (vs := [.string p0, .string p1]) Tryd.func49 rfl rfl rfl fun a hk => ?_
  obtain ⟨o0, hs, h0⟩ := St.start w o
  clear h0
  rw [stringslite_HasSuffix] at H
  refine x_seq ?_
  refine wpIn_region_lit ?_
  refine x_run tab hk (k := 1) (lv := []) (ks := [0, 1]) (e' := [(0, .string p0), (1, .string p1)]) rfl trivial fun a hk => ?_
  refine wpListIn_nil ?_
  refine then_n ?_
  refine x_seq ?_
  refine wpIn_region_lit ?_
  refine x_run tab hk (k := 6) (lv := []) (ks := [0, 1, 10]) (e' := [(0, .string p0), (1, .string p1), (10, .bool (decide (((p0).size : Int) ≥ ((p1).size : Int))))]) rfl trivial fun a hk => ?_
  cases b1 : (decide (((p0).size : Int) ≥ ((p1).size : Int)))
  · rw [b1] at hk H
    replace H := bifF H
    refine x_run tab hk (k := 10) (lv := []) (ks := [20]) (e' := [(20, .bool false)]) rfl trivial fun a hk => ?_
    refine x_run tab hk (k := 1) (lv := []) (ks := [4]) (e' := [(4, .bool false)]) rfl trivial fun a hk => ?_
    refine wpListIn_nil ?_
    refine then_n ?_
    refine wpIn_ret ?_
    obtain rfl := Option.some.inj H
    exact x_retG hk (rs := [.tmp 4]) (vs := [.bool false]) rfl ⟨rfl, trivial⟩ ⟨fun b_ => if b_ < w.heap.size then o b_ else (fun _ => 0) (o0 b_), rfl, hs.close0 o (fun _ => 0)⟩
  · rw [b1] at hk H
    replace H := bifT H
    obtain ⟨q2, H⟩ := ifS H
    obtain ⟨q3, H⟩ := ifS H
    refine x_run tab hk (k := 10) (lv := []) (ks := [20]) (e' := [(20, .bool (ByteArray.toList (ByteArray.extract p0 (Int.toNat (IntKind.wrap .i64 (((p0).size : Int) - ((p1).size : Int)))) (p0).size) == ByteArray.toList p1))]) rfl ⟨q2, q3, trivial⟩ fun a hk => ?_
    refine x_run tab hk (k := 1) (lv := []) (ks := [4]) (e' := [(4, .bool (ByteArray.toList (ByteArray.extract p0 (Int.toNat (IntKind.wrap .i64 (((p0).size : Int) - ((p1).size : Int)))) (p0).size) == ByteArray.toList p1))]) rfl trivial fun a hk => ?_
    refine wpListIn_nil ?_
    refine then_n ?_
    refine wpIn_ret ?_
    obtain rfl := Option.some.inj H
    exact x_retG hk (rs := [.tmp 4]) (vs := [.bool (ByteArray.toList (ByteArray.extract p0 (Int.toNat (IntKind.wrap .i64 (((p0).size : Int) - ((p1).size : Int)))) (p0).size) == ByteArray.toList p1)]) rfl ⟨rfl, trivial⟩ ⟨fun b_ => if b_ < w.heap.size then o b_ else (fun _ => 0) (o0 b_), rfl, hs.close0 o (fun _ => 0)⟩

/-! internal/stringslite.CutSuffix -/
theorem stringslite_CutSuffix_calls (p0 : ByteArray) (p1 : ByteArray) (w : World) (o : Nat → Nat)   (r : ByteArray × Bool) (H : stringslite_CutSuffix p0 p1 = some r) :
    Calls Tryd.prog 39 #[.string p0, .string p1] w (Ret fun v_ w' => ∃ o' : Nat → Nat, v_ = .tuple #[.string r.1, .bool r.2] ∧ St [] w o w' o') := by
  refine x_enter (vs := [.string p0, .string p1]) Tryd.func39 rfl rfl rfl fun a hk => ?_
  obtain ⟨o0, hs, h0⟩ := St.start w o
  clear h0
  rw [stringslite_CutSuffix] at H
  refine x_seq ?_
  refine wpIn_region_lit ?_
  refine x_run tab hk (k := 2) (lv := []) (ks := [0, 1]) (e' := [(0, .string p0), (1, .string p1)]) rfl trivial fun a hk => ?_
  refine wpListIn_nil ?_
  refine then_n ?_
  refine x_seq ?_
  refine x_seq ?_
  refine wpIn_region_lit ?_
  refine x_run tab hk (k := 2) (lv := []) (ks := [0, 1, 6, 7]) (e' := [(0, .string p0), (1, .string p1), (6, .string p0), (7, .string p1)]) rfl trivial fun a hk => ?_
  refine x_op hk rfl ?_
  obtain ⟨t4, hc5, H⟩ := bindS H
  refine op_call hk ent_49 (vs := [.string p0, .string p1]) rfl (stringslite_HasSuffix_calls p0 p1 _ o0    _ hc5) ?_
  rintro _ w6 ⟨o7, rfl, st8⟩
  replace hs := hs.loc0 st8 (by decide)
  have hk := hk.put 8 (.bool t4) rfl
  refine x_run tab hk (k := 1) (lv := []) (ks := [0, 1, 9]) (e' := [(0, .string p0), (1, .string p1), (9, .bool (!t4))]) rfl trivial fun a hk => ?_
  refine wpListIn_nil ?_
  refine then_n ?_
  cases b9 : (!t4)
  · rw [b9] at hk H
    replace H := bifF H
    refine x_if hk (b := false) rfl ?_
    refine (show Code.wpIn _ _ _ _ _ _ _ from ?_)
    refine wpIn_skip ?_
    refine then_n ?_
    refine x_seq ?_
    refine wpIn_region_lit ?_
    obtain ⟨q10, H⟩ := ifS H
    obtain ⟨q11, H⟩ := ifS H
    refine x_run tab hk (k := 9) (lv := []) (ks := [4, 5]) (e' := [(4, .string (ByteArray.extract p0 0 (Int.toNat (IntKind.wrap .i64 (((p0).size : Int) - ((p1).size : Int)))))), (5, .bool true)]) rfl ⟨q10, q11, trivial⟩ fun a hk => ?_
    refine wpListIn_nil ?_
    refine then_n ?_
    refine wpIn_ret ?_
    obtain rfl := Option.some.inj H
    exact x_retG hk (rs := [.tmp 4, .tmp 5]) (vs := [.string (ByteArray.extract p0 0 (Int.toNat (IntKind.wrap .i64 (((p0).size : Int) - ((p1).size : Int))))), .bool true]) rfl ⟨rfl, rfl, trivial⟩ ⟨fun b_ => if b_ < w.heap.size then o b_ else (fun _ => 0) (o7 b_), rfl, hs.close0 o (fun _ => 0)⟩
  · rw [b9] at hk H
    replace H := bifT H
    refine x_if hk (b := true) rfl ?_
    refine (show Code.wpIn _ _ _ _ _ _ _ from ?_)
    refine x_seq ?_
    refine wpIn_region_lit ?_
    refine x_run tab hk (k := 3) (lv := []) (ks := [4, 5]) (e' := [(4, .string p0), (5, .bool false)]) rfl trivial fun a hk => ?_
    refine wpListIn_nil ?_
    refine then_n ?_
    refine wpIn_ret ?_
    refine then_r ?_
    obtain rfl := Option.some.inj H
    exact x_retG hk (rs := [.tmp 4, .tmp 5]) (vs := [.string p0, .bool false]) rfl ⟨rfl, rfl, trivial⟩ ⟨fun b_ => if b_ < w.heap.size then o b_ else (fun _ => 0) (o7 b_), rfl, hs.close0 o (fun _ => 0)⟩

/-! strings.CutSuffix -/
theorem strings_CutSuffix_calls (p0 : ByteArray) (p1 : ByteArray) (w : World) (o : Nat → Nat)   (r : ByteArray × Bool) (H : strings_CutSuffix p0 p1 = some r) :
    Calls Tryd.prog 28 #[.string p0, .string p1] w (Ret fun v_ w' => ∃ o' : Nat → Nat, v_ = .tuple #[.string r.1, .bool r.2] ∧ St [] w o w' o') := by
  refine x_enter (vs := [.string p0, .string p1]) Tryd.func28 rfl rfl rfl fun a hk => ?_
  obtain ⟨o0, hs, h0⟩ := St.start w o
  clear h0
  rw [strings_CutSuffix] at H
  refine x_seq ?_
  refine wpIn_region_lit ?_
  refine x_run tab hk (k := 2) (lv := []) (ks := [0, 1]) (e' := [(0, .string p0), (1, .string p1)]) rfl trivial fun a hk => ?_
  refine wpListIn_nil ?_
  refine then_n ?_
  refine x_seq ?_
  refine wpIn_region_lit ?_
  refine x_run tab hk (k := 2) (lv := []) (ks := [6, 7]) (e' := [(6, .string p0), (7, .string p1)]) rfl trivial fun a hk => ?_
  refine x_op hk rfl ?_
  obtain ⟨t4, hc5, H⟩ := bindS H
  refine op_call hk ent_39 (vs := [.string p0, .string p1]) rfl (stringslite_CutSuffix_calls p0 p1 _ o0    _ hc5) ?_
  rintro _ w6 ⟨o7, rfl, st8⟩
  replace hs := hs.loc0 st8 (by decide)
  have hk := hk.put 8 (.tuple #[.string t4.1, .bool t4.2]) rfl
  refine x_run tab hk (k := 4) (lv := []) (ks := [4, 5]) (e' := [(4, .string t4.1), (5, .bool t4.2)]) rfl trivial fun a hk => ?_
  refine wpListIn_nil ?_
  refine then_n ?_
  refine wpIn_ret ?_
  obtain rfl := Option.some.inj H
  exact x_retG hk (rs := [.tmp 4, .tmp 5]) (vs := [.string t4.1, .bool t4.2]) rfl ⟨rfl, rfl, trivial⟩ ⟨fun b_ => if b_ < w.heap.size then o b_ else (fun _ => 0) (o7 b_), rfl, hs.close0 o (fun _ => 0)⟩

/-! strings.Split -/
theorem strings_Split_calls (p0 : ByteArray) (p1 : ByteArray) (w : World) (o : Nat → Nat) (Lg1 : Nat) (hg1 : Ft (GInt 1) w o Lg1)   (R0 : Nat) (r : List ByteArray) (H : strings_Split p0 p1 = some r) :
    Calls Tryd.prog 29 #[.string p0, .string p1] w (Ret fun v_ w' => ∃ o' : Nat → Nat, ∃ A0 : Option Addr, ∃ c0 : Nat, v_ = .slice A0 (r).length c0 ∧ St [] w o w' o' ∧ Ft (Own encStr 9 (.slice A0 (r).length c0) r) w' o' R0 ∧ (r).length ≤ c0) := by
  obtain ⟨m_, hm_⟩ := hg1.now
  unfold strings_Split at H; split at H
  · rename_i h; cases H; refine (Tryd.strings_Split p0 p1 m_ w h.1 hm_ h.2).mono ?_
    rintro e w' ⟨rfl, rfl⟩
    exact split_alloc p0 p1 h.1 h.2 w o _ R0
  · cases H

/-! tidewrack/line.split -/
theorem line_split_calls (p0 : ByteArray) (w : World) (o : Nat → Nat) (Lg1 : Nat) (hg1 : Ft (GInt 1) w o Lg1)   (R0 : Nat) (r : ByteArray × (List ByteArray) × Bool) (H : line_split p0 = some r) :
    Calls Tryd.prog 17 #[.string p0] w (Ret fun v_ w' => ∃ o' : Nat → Nat, ∃ A0 : Option Addr, ∃ c0 : Nat, v_ = .tuple #[.string r.1, .slice A0 (r.2.1).length c0, .bool r.2.2] ∧ St [] w o w' o' ∧ Ft (Own encStr 9 (.slice A0 (r.2.1).length c0) r.2.1) w' o' R0 ∧ (r.2.1).length ≤ c0) := by
  refine x_enter (vs := [.string p0]) Tryd.func17 rfl rfl rfl fun a hk => ?_
  obtain ⟨o0, hs, h0⟩ := St.start w o
  have fg1 := h0 _ _ hg1
  clear h0
  rw [line_split] at H
  refine x_seq ?_
  refine wpIn_region_lit ?_
  refine x_run tab hk (k := 3) (lv := []) (ks := [0]) (e' := [(0, .string p0)]) rfl trivial fun a hk => ?_
  refine wpListIn_nil ?_
  refine then_n ?_
  refine x_seq ?_
  refine wpIn_region_lit ?_
  refine x_run tab hk (k := 1) (lv := []) (ks := [11]) (e' := [(11, .string p0)]) rfl trivial fun a hk => ?_
  refine x_op hk rfl ?_
  obtain ⟨t4, hc5, H⟩ := bindS H
  refine op_call hk ent_27 (vs := [.string p0, .string (⟨#[40]⟩ : ByteArray)]) rfl (strings_Cut_calls p0 (⟨#[40]⟩ : ByteArray) _ o0 0 fg1   _ hc5) ?_
  rintro _ w6 ⟨o7, rfl, st8⟩
  replace fg1 := fg1.st st8 (by decide)
  replace hs := hs.loc0 st8 (by decide)
  have hk := hk.put 12 (.tuple #[.string t4.1, .string t4.2.1, .bool t4.2.2]) rfl
  refine x_run tab hk (k := 7) (lv := []) (ks := [5, 6, 7]) (e' := [(5, .string t4.1), (6, .string t4.2.1), (7, .bool t4.2.2)]) rfl trivial fun a hk => ?_
  refine wpListIn_nil ?_
  refine then_n ?_
  refine x_seq ?_
  refine wpIn_region_lit ?_
  refine x_run tab hk (k := 1) (lv := []) (ks := [5, 7, 17]) (e' := [(5, .string t4.1), (7, .bool t4.2.2), (17, .string t4.2.1)]) rfl trivial fun a hk => ?_
  refine x_op hk rfl ?_
  obtain ⟨t12, hc13, H⟩ := bindS H
  refine op_call hk ent_28 (vs := [.string t4.2.1, .string (⟨#[41]⟩ : ByteArray)]) rfl (strings_CutSuffix_calls t4.2.1 (⟨#[41]⟩ : ByteArray) _ o7    _ hc13) ?_
  rintro _ w14 ⟨o15, rfl, st16⟩
  replace fg1 := fg1.st st16 (by decide)
  replace hs := hs.loc0 st16 (by decide)
  have hk := hk.put 18 (.tuple #[.string t12.1, .bool t12.2]) rfl
  refine x_run tab hk (k := 5) (lv := []) (ks := [5, 7, 8, 9]) (e' := [(5, .string t4.1), (7, .bool t4.2.2), (8, .string t12.1), (9, .bool t12.2)]) rfl trivial fun a hk => ?_
  refine wpListIn_nil ?_
  refine then_n ?_
  refine x_mid (fun a_ w_ => ∃ o32 : Nat → Nat, Kn 33 a_ [(5, .string t4.1), (8, .string t12.1)] ∧ St [] w (fun _ => 0) w_ o32 ∧ Ft (GInt 1) w_ o32 0 ∧ line_split_j1 t4 t12 = some r) ?_ ?_
  rotate_left
  · rintro a w33 ⟨o32, hk, hs, fg1, H⟩
    unfold line_split_j1 at H
    refine x_seq ?_
    refine x_seq ?_
    refine wpIn_region_lit ?_
    refine x_run tab hk (k := 2) (lv := []) (ks := [5, 8, 28]) (e' := [(5, .string t4.1), (8, .string t12.1), (28, .bool (ByteArray.toList t12.1 == ByteArray.toList (⟨#[]⟩ : ByteArray)))]) rfl trivial fun a hk => ?_
    refine wpListIn_nil ?_
    refine then_n ?_
    cases b34 : (ByteArray.toList t12.1 == ByteArray.toList (⟨#[]⟩ : ByteArray))
    · rw [b34] at hk H
      replace H := bifF H
      refine x_if hk (b := false) rfl ?_
      refine (show Code.wpIn _ _ _ _ _ _ _ from ?_)
      refine wpIn_skip ?_
      refine then_n ?_
      refine x_seq ?_
      refine wpIn_region_lit ?_
      refine x_run tab hk (k := 2) (lv := []) (ks := [30, 31]) (e' := [(30, .string t4.1), (31, .string t12.1)]) rfl trivial fun a hk => ?_
      refine x_op hk rfl ?_
      obtain ⟨t38, hc39, H⟩ := bindS H
      refine op_call hk ent_29 (vs := [.string t12.1, .string (⟨#[44]⟩ : ByteArray)]) rfl (strings_Split_calls t12.1 (⟨#[44]⟩ : ByteArray) _ o32 0 fg1 1  _ hc39) ?_
      rintro _ w40 ⟨o41, A43, c44, rfl, st42, f45, hc46⟩
      replace fg1 := fg1.st st42 (by decide)
      replace hs := hs.loc0 st42 (by decide)
      have hk := hk.put 32 (.slice A43 (t38).length c44) rfl
      refine x_run tab hk (k := 3) (lv := []) (ks := [2, 3, 4]) (e' := [(2, .string t4.1), (3, .slice A43 (t38).length c44), (4, .bool true)]) rfl trivial fun a hk => ?_
      refine wpListIn_nil ?_
      refine then_n ?_
      refine wpIn_ret ?_
      obtain rfl := Option.some.inj H
      exact x_retG hk (rs := [.tmp 2, .tmp 3, .tmp 4]) (vs := [.string t4.1, .slice A43 (t38).length c44, .bool true]) rfl ⟨rfl, rfl, rfl, trivial⟩ ⟨fun b_ => if b_ < w.heap.size then o b_ else (fun _ => R0) (o41 b_), A43, c44, rfl, hs.close0 o (fun _ => R0), hs.close_ft (o := o) (ρ := fun _ => R0) f45 (by decide) rfl, hc46⟩
    · rw [b34] at hk H
      replace H := bifT H
      refine x_if hk (b := true) rfl ?_
      refine (show Code.wpIn _ _ _ _ _ _ _ from ?_)
      refine x_seq ?_
      refine wpIn_region_lit ?_
      refine x_run tab hk (k := 4) (lv := []) (ks := [2, 3, 4]) (e' := [(2, .string t4.1), (3, .slice none 0 0), (4, .bool true)]) rfl trivial fun a hk => ?_
      refine wpListIn_nil ?_
      refine then_n ?_
      refine wpIn_ret ?_
      refine then_r ?_
      obtain rfl := Option.some.inj H
      exact x_retG hk (rs := [.tmp 2, .tmp 3, .tmp 4]) (vs := [.string t4.1, .slice none 0 0, .bool true]) rfl ⟨rfl, rfl, rfl, trivial⟩ ⟨fun b_ => if b_ < w.heap.size then o b_ else (fun _ => 0) (o32 b_), none, 0, rfl, hs.close0 o (fun _ => 0), (Ft.of_all (fun _ => Own.nil _ _ _) _ _ _), (by simp)⟩
  refine x_mid (fun a_ w_ => ∃ o54 : Nat → Nat, ∃ x55 : Bool, Kn 33 a_ [(5, .string t4.1), (8, .string t12.1), (26, .bool x55)] ∧ St [] w (fun _ => 0) w_ o54 ∧ Ft (GInt 1) w_ o54 0 ∧ line_split_j2 t4 t12 x55 = some r) ?_ ?_
  rotate_left
  · rintro a w56 ⟨o54, x55, hk, hs, fg1, H⟩
    unfold line_split_j2 at H
    cases b57 : x55
    · rw [b57] at hk H
      replace H := bifF H
      refine x_if hk (b := false) rfl ?_
      refine (show Code.wpIn _ _ _ _ _ _ _ from ?_)
      refine wpIn_skip ?_
      refine then_n ?_
      exact ⟨o54, (by exact Kn.pick (ks := [5, 8]) hk rfl), hs, fg1, H⟩
    · rw [b57] at hk H
      replace H := bifT H
      refine x_if hk (b := true) rfl ?_
      refine (show Code.wpIn _ _ _ _ _ _ _ from ?_)
      refine x_seq ?_
      refine wpIn_region_lit ?_
      refine x_run tab hk (k := 3) (lv := []) (ks := [2, 3, 4]) (e' := [(2, .string (⟨#[]⟩ : ByteArray)), (3, .slice none 0 0), (4, .bool false)]) rfl trivial fun a hk => ?_
      refine wpListIn_nil ?_
      refine then_n ?_
      refine wpIn_ret ?_
      refine then_r ?_
      obtain rfl := Option.some.inj H
      exact x_retG hk (rs := [.tmp 2, .tmp 3, .tmp 4]) (vs := [.string (⟨#[]⟩ : ByteArray), .slice none 0 0, .bool false]) rfl ⟨rfl, rfl, rfl, trivial⟩ ⟨fun b_ => if b_ < w.heap.size then o b_ else (fun _ => 0) (o54 b_), none, 0, rfl, hs.close0 o (fun _ => 0), (Ft.of_all (fun _ => Own.nil _ _ _) _ _ _), (by simp)⟩
  refine wpIn_region_lit ?_
  refine x_run tab hk (k := 3) (lv := []) (ks := [5, 8, 9, 23]) (e' := [(5, .string t4.1), (8, .string t12.1), (9, .bool t12.2), (23, .bool (!t4.2.2))]) rfl trivial fun a hk => ?_
  cases b58 : (!t4.2.2)
  · rw [b58] at hk H
    replace H := bifF H
    refine x_run tab hk (k := 3) (lv := []) (ks := [5, 8, 26]) (e' := [(5, .string t4.1), (8, .string t12.1), (26, .bool (!t12.2))]) rfl trivial fun a hk => ?_
    refine wpListIn_nil ?_
    refine then_n ?_
    exact ⟨o15, (!t12.2), (by exact Kn.pick (ks := [5, 8, 26]) hk rfl), hs, fg1, H⟩
  · rw [b58] at hk H
    replace H := bifT H
    refine x_run tab hk (k := 3) (lv := []) (ks := [5, 8, 26]) (e' := [(5, .string t4.1), (8, .string t12.1), (26, .bool true)]) rfl trivial fun a hk => ?_
    refine wpListIn_nil ?_
    refine then_n ?_
    exact ⟨o15, true, (by exact Kn.pick (ks := [5, 8, 26]) hk rfl), hs, fg1, H⟩

/-! tidewrack/line.find -/
set_option maxHeartbeats 4000000 in
set_option maxRecDepth 20000 in
theorem line_find_calls (K : Nat) (p0 : ByteArray) (w : World) (o : Nat → Nat) (Lg0 : Nat) (hg0 : Ft (RdC ET47 (some ⟨0, 0, none⟩) glob0) w o Lg0)   (r : T47 × Bool) (H : line_find K p0 = some r) :
    Calls Tryd.prog 18 #[.string p0] w (Ret fun v_ w' => ∃ o' : Nat → Nat, v_ = .tuple #[.agg #[.string r.1.word, .int .i64 r.1.nums, .bool r.1.text], .bool r.2] ∧ St [] w o w' o') := by
  refine x_enter (vs := [.string p0]) Tryd.func18 rfl rfl rfl fun a hk => ?_
  obtain ⟨o0, hs, h0⟩ := St.start w o
  have fg0 := h0 _ _ hg0
  clear h0
  rw [line_find] at H
  refine x_seq ?_
  refine wpIn_region_lit ?_
  refine x_op hk rfl ?_
  refine op_alloc (o := o0) tab (t := 48) (cs := [.string (⟨#[]⟩ : ByteArray), .int .i64 0, .bool false]) rfl rfl 1 fun bx4 w1 o2 st3 f5 => ?_
  replace fg0 := fg0.st st3 (by decide)
  replace hs := hs.loc0 st3 (by decide)
  have hk := hk.put 2 (.pointer (some ⟨bx4, 0, none⟩)) rfl
  refine x_run tab hk (k := 1) (lv := []) (ks := [0, 2]) (e' := [(0, .string p0), (2, .pointer (some ⟨bx4, 0, none⟩))]) rfl trivial fun a hk => ?_
  refine wpListIn_nil ?_
  refine then_n ?_
  refine x_mid (fun a_ w_ => ∃ o60 : Nat → Nat, Kn 17 a_ [(2, .pointer (some ⟨bx4, 0, none⟩))] ∧ St [] w (fun _ => 0) w_ o60 ∧ Ft (Bx bx4 48 [.string (⟨#[]⟩ : ByteArray), .int .i64 0, .bool false]) w_ o60 7 ∧ Ft (RdC ET47 (some ⟨0, 0, none⟩) glob0) w_ o60 0 ∧ line_find_j1 = some r) ?_ ?_
  rotate_left
  · rintro a w61 ⟨o60, hk, hs, f5, fg0, H⟩
    unfold line_find_j1 at H
    refine x_seq ?_
    refine wpIn_region_lit ?_
    refine x_run tab hk (k := 1) (lv := []) (ks := [2, 16]) (e' := [(2, .pointer (some ⟨bx4, 0, none⟩)), (16, .agg #[.string (⟨#[]⟩ : ByteArray), .int .i64 0, .bool false])]) rfl trivial fun a hk => ?_
    refine x_op hk rfl ?_
    refine op_store tab hk (t := 48) (v := .agg #[.string (⟨#[]⟩ : ByteArray), .int .i64 0, .bool false]) (b := bx4) (k := 0) (cs' := [.string (⟨#[]⟩ : ByteArray), .int .i64 0, .bool false]) rfl rfl rfl rfl rfl rfl f5 rfl rfl fun w62 o63 st64 f5_ => ?_
    replace fg0 := fg0.st st64 (by decide)
    replace hs := hs.loc0 st64 (by decide)
    replace f5 := f5_
    refine x_run tab hk (k := 1) (lv := []) (ks := [2, 3]) (e' := [(2, .pointer (some ⟨bx4, 0, none⟩)), (3, .bool false)]) rfl trivial fun a hk => ?_
    refine wpListIn_nil ?_
    refine then_n ?_
    refine wpIn_ret ?_
    obtain rfl := Option.some.inj H
    exact x_retG hk (rs := [.cell 2 48, .tmp 3]) (vs := [.agg #[.string (⟨#[]⟩ : ByteArray), .int .i64 0, .bool false], .bool false]) rfl ⟨⟨_, rfl, load_box tab rfl rfl f5.now (k := 0) rfl rfl⟩, rfl, trivial⟩ ⟨fun b_ => if b_ < w.heap.size then o b_ else (fun _ => 0) (o63 b_), rfl, hs.close0 o (fun _ => 0)⟩
  refine x_seq ?_
  refine wpIn_region_lit ?_
  refine x_run tab hk (k := 2) (lv := [.agg (List.flatMap (Enc.f ET47) glob0).toArray]) (ks := [0, 2, 6, 7]) (e' := [(0, .string p0), (2, .pointer (some ⟨bx4, 0, none⟩)), (6, .agg (List.flatMap (Enc.f ET47) glob0).toArray), (7, .int .i64 0)]) rfl ⟨(load_arr (E := ET47) (xs := glob0) tab rfl rfl fg0.now rfl), trivial⟩ fun a hk => ?_
  refine wpListIn_nil ?_
  refine then_n ?_
  refine wpIn_block ?_
  refine x_loop (fun j_ a_ w_ => ∃ o82 : Nat → Nat, ∃ x83 : Int, Kn 17 a_ [(0, .string p0), (2, .pointer (some ⟨bx4, 0, none⟩)), (6, .agg (List.flatMap (Enc.f ET47) glob0).toArray), (7, .int .i64 x83)] ∧ St [] w (fun _ => 0) w_ o82 ∧ Ft (Bx bx4 48 [.string (⟨#[]⟩ : ByteArray), .int .i64 0, .bool false]) w_ o82 10 ∧ Ft (RdC ET47 (some ⟨0, 0, none⟩) glob0) w_ o82 0 ∧ line_find_l2 p0 j_ x83 = some r) (k := K) ⟨(fun b_ => (fun l_ => if l_ = 1 then 10 else l_) (o2 b_)), 0, (by exact Kn.pick (ks := [0, 2, 6, 7]) hk rfl), (hs.relab0 (fun l_ => if l_ = 1 then 10 else l_) rfl), (f5.relab (fun l_ => if l_ = 1 then 10 else l_) rfl), (fg0.relab (fun l_ => if l_ = 1 then 10 else l_) rfl), H⟩ (by rintro _ _ ⟨_, _, _, _, _, _, H_⟩; exact absurd (show (none : Option (T47 × Bool)) = some r from H_) (by simp)) ?_
  rintro k99 a w98 ⟨o82, x83, hk, hs, f5, fg0, H⟩
  rw [line_find_l2] at H
  obtain ⟨lp100, hlp101⟩ : ∃ lp_, lp_ = line_find_l2 p0 k99 := ⟨_, rfl⟩
  rw [← hlp101] at H
  refine x_seq ?_
  refine wpIn_region_lit ?_
  refine x_run tab hk (k := 1) (lv := []) (ks := [0, 2, 6, 7, 8]) (e' := [(0, .string p0), (2, .pointer (some ⟨bx4, 0, none⟩)), (6, .agg (List.flatMap (Enc.f ET47) glob0).toArray), (7, .int .i64 x83), (8, .bool (decide (x83 < (20 : Int))))]) rfl trivial fun a hk => ?_
  refine wpListIn_nil ?_
  refine then_n ?_
  refine x_seq ?_
  cases b102 : (decide (x83 < (20 : Int)))
  · rw [b102] at hk H
    replace H := bifF H
    refine x_if hk (b := false) rfl ?_
    refine (show Code.wpIn _ _ _ _ _ _ _ from ?_)
    refine wpIn_exit ?_
    refine then_x ?_
    refine then_x ?_
    refine blk_x ?_
    refine then_n ?_
    exact ⟨(fun b_ => (fun l_ => if l_ = 10 then 7 else l_) (o82 b_)), (by exact Kn.pick (ks := [2]) hk rfl), (hs.relab0 (fun l_ => if l_ = 10 then 7 else l_) rfl), (f5.relab (fun l_ => if l_ = 10 then 7 else l_) rfl), (fg0.relab (fun l_ => if l_ = 10 then 7 else l_) rfl), H⟩
  · rw [b102] at hk H
    replace H := bifT H
    refine x_if hk (b := true) rfl ?_
    refine (show Code.wpIn _ _ _ _ _ _ _ from ?_)
    refine wpIn_skip ?_
    refine then_n ?_
    refine x_seq ?_
    refine wpIn_block ?_
    refine x_seq ?_
    refine wpIn_region_lit ?_
    obtain ⟨q103, H⟩ := ifS H
    refine x_run tab hk (k := 1) (lv := [.agg #[.string ((rdD zT47 glob0 x83).word), .int .i64 ((rdD zT47 glob0 x83).nums), .bool ((rdD zT47 glob0 x83).text)]]) (ks := [0, 2, 6, 7, 9]) (e' := [(0, .string p0), (2, .pointer (some ⟨bx4, 0, none⟩)), (6, .agg (List.flatMap (Enc.f ET47) glob0).toArray), (7, .int .i64 x83), (9, .agg #[.string ((rdD zT47 glob0 x83).word), .int .i64 ((rdD zT47 glob0 x83).nums), .bool ((rdD zT47 glob0 x83).text)])]) rfl ⟨(ask_ixS (E := ET47) (dx := zT47) tab rfl rfl rfl rfl rfl rfl q103), trivial⟩ fun a hk => ?_
    refine x_op hk rfl ?_
    refine op_alloc (o := o82) tab (t := 48) (cs := [.string (⟨#[]⟩ : ByteArray), .int .i64 0, .bool false]) rfl rfl 12 fun bx107 w104 o105 st106 f108 => ?_
    replace f5 := f5.st st106 (by decide)
    replace fg0 := fg0.st st106 (by decide)
    replace hs := hs.loc0 st106 (by decide)
    have hk := hk.put 5 (.pointer (some ⟨bx107, 0, none⟩)) rfl
    refine x_op hk rfl ?_
    refine op_store tab hk (t := 48) (v := .agg #[.string ((rdD zT47 glob0 x83).word), .int .i64 ((rdD zT47 glob0 x83).nums), .bool ((rdD zT47 glob0 x83).text)]) (b := bx107) (k := 0) (cs' := [.string ((rdD zT47 glob0 x83).word), .int .i64 ((rdD zT47 glob0 x83).nums), .bool ((rdD zT47 glob0 x83).text)]) rfl rfl rfl rfl rfl rfl f108 rfl rfl fun w109 o110 st111 f108_ => ?_
    replace f5 := f5.st st111 (by decide)
    replace fg0 := fg0.st st111 (by decide)
    replace hs := hs.loc0 st111 (by decide)
    replace f108 := f108_
    refine wpListIn_nil ?_
    refine then_n ?_
    refine x_seq ?_
    refine wpIn_region_lit ?_
    refine x_run tab hk (k := 4) (lv := [.string ((rdD zT47 glob0 x83).word)]) (ks := [0, 2, 5, 6, 7, 13]) (e' := [(0, .string p0), (2, .pointer (some ⟨bx4, 0, none⟩)), (5, .pointer (some ⟨bx107, 0, none⟩)), (6, .agg (List.flatMap (Enc.f ET47) glob0).toArray), (7, .int .i64 x83), (13, .bool (ByteArray.toList ((rdD zT47 glob0 x83).word) == ByteArray.toList p0))]) rfl ⟨(load1 tab rfl ((Bx.cell f108.now 0).trans rfl)), trivial⟩ fun a hk => ?_
    refine wpListIn_nil ?_
    refine then_n ?_
    cases b112 : (ByteArray.toList ((rdD zT47 glob0 x83).word) == ByteArray.toList p0)
    · rw [b112] at hk H
      replace H := bifF H
      refine x_if hk (b := false) rfl ?_
      refine (show Code.wpIn _ _ _ _ _ _ _ from ?_)
      refine wpIn_skip ?_
      refine blk_n ?_
      refine then_n ?_
      refine wpIn_region_lit ?_
      refine x_run tab hk (k := 2) (lv := []) (ks := [0, 2, 6, 7]) (e' := [(0, .string p0), (2, .pointer (some ⟨bx4, 0, none⟩)), (6, .agg (List.flatMap (Enc.f ET47) glob0).toArray), (7, .int .i64 (IntKind.wrap .i64 (x83 + 1)))]) rfl trivial fun a hk => ?_
      refine wpListIn_nil ?_
      refine then_n ?_
      exact ⟨k99, Nat.le_refl _, o110, (IntKind.wrap .i64 (x83 + 1)), (by exact Kn.pick (ks := [0, 2, 6, 7]) hk rfl), hs, f5, fg0, (hlp101 ▸ H)⟩
    · rw [b112] at hk H
      replace H := bifT H
      refine x_if hk (b := true) rfl ?_
      refine (show Code.wpIn _ _ _ _ _ _ _ from ?_)
      refine x_seq ?_
      refine wpIn_region_lit ?_
      refine x_run tab hk (k := 1) (lv := [.agg #[.string ((rdD zT47 glob0 x83).word), .int .i64 ((rdD zT47 glob0 x83).nums), .bool ((rdD zT47 glob0 x83).text)]]) (ks := [2, 14]) (e' := [(2, .pointer (some ⟨bx4, 0, none⟩)), (14, .agg #[.string ((rdD zT47 glob0 x83).word), .int .i64 ((rdD zT47 glob0 x83).nums), .bool ((rdD zT47 glob0 x83).text)])]) rfl ⟨(load_box tab rfl rfl f108.now (k := 0) rfl rfl), trivial⟩ fun a hk => ?_
      refine x_op hk rfl ?_
      refine op_store tab hk (t := 48) (v := .agg #[.string ((rdD zT47 glob0 x83).word), .int .i64 ((rdD zT47 glob0 x83).nums), .bool ((rdD zT47 glob0 x83).text)]) (b := bx4) (k := 0) (cs' := [.string ((rdD zT47 glob0 x83).word), .int .i64 ((rdD zT47 glob0 x83).nums), .bool ((rdD zT47 glob0 x83).text)]) rfl rfl rfl rfl rfl rfl f5 rfl rfl fun w113 o114 st115 f5_ => ?_
      replace fg0 := fg0.st st115 (by decide)
      replace hs := hs.loc0 st115 (by decide)
      replace f5 := f5_
      refine x_run tab hk (k := 1) (lv := []) (ks := [2, 3]) (e' := [(2, .pointer (some ⟨bx4, 0, none⟩)), (3, .bool true)]) rfl trivial fun a hk => ?_
      refine wpListIn_nil ?_
      refine then_n ?_
      refine wpIn_ret ?_
      refine blk_r ?_
      refine then_r ?_
      refine then_r ?_
      refine blk_r ?_
      refine then_r ?_
      obtain rfl := Option.some.inj H
      exact x_retG hk (rs := [.cell 2 48, .tmp 3]) (vs := [.agg #[.string ((rdD zT47 glob0 x83).word), .int .i64 ((rdD zT47 glob0 x83).nums), .bool ((rdD zT47 glob0 x83).text)], .bool true]) rfl ⟨⟨_, rfl, load_box tab rfl rfl f5.now (k := 0) rfl rfl⟩, rfl, trivial⟩ ⟨fun b_ => if b_ < w.heap.size then o b_ else (fun _ => 0) (o114 b_), rfl, hs.close0 o (fun _ => 0)⟩

/-! strconv.Atoi -/
theorem strconv_Atoi_calls (p0 : ByteArray) (w : World) (o : Nat → Nat) (Lg2 : Nat) (hg2 : Ft (GIface 2) w o Lg2) (Lg3 : Nat) (hg3 : Ft (GIface 3) w o Lg3)   (r : Int × Bool) (H : strconv_Atoi p0 = some r) :
    Calls Tryd.prog 30 #[.string p0] w (Ret fun v_ w' => ∃ o' : Nat → Nat, ∃ N0 : Nat, v_ = .tuple #[.int .i64 r.1, errV 87 r.2 N0] ∧ St [] w o w' o') := by
  unfold strconv_Atoi at H; split at H
  · rename_i h; cases H; unfold atoiX
    cases ha : Lib.atoiAll p0.data.toList with
    | ok v =>
      refine (Tryd.strconv_Atoi_ok p0 (by omega) v ha w).mono ?_
      rintro e w' ⟨rfl, h_⟩
      refine ⟨_, rfl, o, 0, rfl, ?_⟩
      rcases h_ with rfl | ⟨t, rfl⟩
      · exact St.refl _ _ _
      · exact St.bytes _ _
    | range =>
      obtain ⟨te_, pe_, hv_⟩ := hg3.now
      refine (Tryd.strconv_Atoi_range p0 h ha _ w hv_ (.inr ⟨_, _, rfl⟩)).mono ?_
      rintro e w' ⟨N, rfl, -, -, h_⟩
      exact ⟨_, rfl, o, N, rfl, St.below h_⟩
    | _ =>
      obtain ⟨te_, pe_, hv_⟩ := hg2.now
      refine (Tryd.strconv_Atoi_syntax p0 h (fun v e => by rw [ha] at e; cases e) (fun e => by rw [ha] at e; cases e) _ w hv_ (.inr ⟨_, _, rfl⟩)).mono ?_
      rintro e w' ⟨N, rfl, -, -, h_⟩
      exact ⟨_, rfl, o, N, rfl, St.below h_⟩
  · cases H

/-! strconv.Itoa -/
theorem strconv_Itoa_calls (p0 : Int) (w : World) (o : Nat → Nat) (Lg4 : Nat) (hg4 : Ft (GTab Tryd.prog "internal/strconv.uint64pow10" .u64 Lib.pow10Tab) w o Lg4)   (r : ByteArray) (H : strconv_Itoa p0 = some r) :
    Calls Tryd.prog 22 #[.int .i64 p0] w (Ret fun v_ w' => ∃ o' : Nat → Nat, v_ = .string r ∧ St [] w o w' o') := by
  unfold strconv_Itoa at H; split at H
  · rename_i h; cases H; refine (Tryd.strconv_Itoa p0 h.1 h.2 w hg4.now).mono ?_
    rintro e w' ⟨rfl, k_, os_, rfl⟩
    exact ⟨_, rfl, o, rfl, St.grow k_ os_⟩
  · cases H

/-! tidewrack/line.number -/
theorem line_number_calls (p0 : ByteArray) (w : World) (o : Nat → Nat) (Lg2 : Nat) (hg2 : Ft (GIface 2) w o Lg2) (Lg3 : Nat) (hg3 : Ft (GIface 3) w o Lg3) (Lg4 : Nat) (hg4 : Ft (GTab Tryd.prog "internal/strconv.uint64pow10" .u64 Lib.pow10Tab) w o Lg4)   (r : Int × Bool) (H : line_number p0 = some r) :
    Calls Tryd.prog 19 #[.string p0] w (Ret fun v_ w' => ∃ o' : Nat → Nat, v_ = .tuple #[.int .i64 r.1, .bool r.2] ∧ St [] w o w' o') := by
  refine x_enter (vs := [.string p0]) Tryd.func19 rfl rfl rfl fun a hk => ?_
  obtain ⟨o0, hs, h0⟩ := St.start w o
  have fg2 := h0 _ _ hg2
  have fg3 := h0 _ _ hg3
  have fg4 := h0 _ _ hg4
  clear h0
  rw [line_number] at H
  refine x_seq ?_
  refine wpIn_region_lit ?_
  refine x_run tab hk (k := 2) (lv := []) (ks := [0]) (e' := [(0, .string p0)]) rfl trivial fun a hk => ?_
  refine wpListIn_nil ?_
  refine then_n ?_
  refine x_seq ?_
  refine wpIn_region_lit ?_
  refine x_run tab hk (k := 1) (lv := []) (ks := [0, 7]) (e' := [(0, .string p0), (7, .string p0)]) rfl trivial fun a hk => ?_
  refine x_op hk rfl ?_
  obtain ⟨t4, hc5, H⟩ := bindS H
  refine op_call hk ent_30 (vs := [.string p0]) rfl (strconv_Atoi_calls p0 _ o0 0 fg2 0 fg3   _ hc5) ?_
  rintro _ w6 ⟨o7, N9, rfl, st8⟩
  replace fg2 := fg2.st st8 (by decide)
  replace fg3 := fg3.st st8 (by decide)
  replace fg4 := fg4.st st8 (by decide)
  replace hs := hs.loc0 st8 (by decide)
  have hk := hk.put 8 (.tuple #[.int .i64 t4.1, errV 87 t4.2 N9]) rfl
  refine x_run tab hk (k := 5) (lv := []) (ks := [0, 4, 5]) (e' := [(0, .string p0), (4, .int .i64 t4.1), (5, errV 87 t4.2 N9)]) rfl trivial fun a hk => ?_
  refine wpListIn_nil ?_
  refine then_n ?_
  refine x_seq ?_
  refine wpIn_region_lit ?_
  refine x_run tab hk (k := 4) (lv := [.bool t4.2]) (ks := [0, 4, 11, 14]) (e' := [(0, .string p0), (4, .int .i64 t4.1), (11, .int .i64 t4.1), (14, .bool t4.2)]) rfl ⟨(ask_errnil tab rfl rfl), trivial⟩ fun a hk => ?_
  cases b10 : t4.2
  · rw [b10] at hk H
    replace H := bifF H
    refine x_run tab hk (k := 12) (lv := []) (ks := [11, 22, 26]) (e' := [(11, .int .i64 t4.1), (22, .bool false), (26, undef)]) rfl trivial fun a hk => ?_
    refine x_run tab hk (k := 3) (lv := []) (ks := [2, 3]) (e' := [(2, .int .i64 t4.1), (3, .bool false)]) rfl trivial fun a hk => ?_
    refine wpListIn_nil ?_
    refine then_n ?_
    refine wpIn_ret ?_
    obtain rfl := Option.some.inj H
    exact x_retG hk (rs := [.tmp 2, .tmp 3]) (vs := [.int .i64 t4.1, .bool false]) rfl ⟨rfl, rfl, trivial⟩ ⟨fun b_ => if b_ < w.heap.size then o b_ else (fun _ => 0) (o7 b_), rfl, hs.close0 o (fun _ => 0)⟩
  · rw [b10] at hk H
    replace H := bifT H
    refine x_run tab hk (k := 4) (lv := []) (ks := [0, 4, 11, 18]) (e' := [(0, .string p0), (4, .int .i64 t4.1), (11, .int .i64 t4.1), (18, .bool (decide (t4.1 ≥ (0 : Int))))]) rfl trivial fun a hk => ?_
    cases b11 : (decide (t4.1 ≥ (0 : Int)))
    · rw [b11] at hk H
      replace H := bifF H
      refine x_run tab hk (k := 10) (lv := []) (ks := [2, 27]) (e' := [(2, .int .i64 t4.1), (27, .bool false)]) rfl trivial fun a hk => ?_
      refine x_run tab hk (k := 1) (lv := []) (ks := [2, 3]) (e' := [(2, .int .i64 t4.1), (3, .bool false)]) rfl trivial fun a hk => ?_
      refine wpListIn_nil ?_
      refine then_n ?_
      refine wpIn_ret ?_
      obtain rfl := Option.some.inj H
      exact x_retG hk (rs := [.tmp 2, .tmp 3]) (vs := [.int .i64 t4.1, .bool false]) rfl ⟨rfl, rfl, trivial⟩ ⟨fun b_ => if b_ < w.heap.size then o b_ else (fun _ => 0) (o7 b_), rfl, hs.close0 o (fun _ => 0)⟩
    · rw [b11] at hk H
      replace H := bifT H
      refine x_run tab hk (k := 4) (lv := []) (ks := [0, 4, 11, 22]) (e' := [(0, .string p0), (4, .int .i64 t4.1), (11, .int .i64 t4.1), (22, .bool (decide (t4.1 ≤ (4294967295 : Int))))]) rfl trivial fun a hk => ?_
      cases b12 : (decide (t4.1 ≤ (4294967295 : Int)))
      · rw [b12] at hk H
        replace H := bifF H
        refine x_run tab hk (k := 7) (lv := []) (ks := [2, 3]) (e' := [(2, .int .i64 t4.1), (3, .bool false)]) rfl trivial fun a hk => ?_
        refine wpListIn_nil ?_
        refine then_n ?_
        refine wpIn_ret ?_
        obtain rfl := Option.some.inj H
        exact x_retG hk (rs := [.tmp 2, .tmp 3]) (vs := [.int .i64 t4.1, .bool false]) rfl ⟨rfl, rfl, trivial⟩ ⟨fun b_ => if b_ < w.heap.size then o b_ else (fun _ => 0) (o7 b_), rfl, hs.close0 o (fun _ => 0)⟩
      · rw [b12] at hk H
        replace H := bifT H
        refine x_run tab hk (k := 1) (lv := []) (ks := [0, 11, 22, 23]) (e' := [(0, .string p0), (11, .int .i64 t4.1), (22, .bool true), (23, .int .i64 t4.1)]) rfl trivial fun a hk => ?_
        refine x_op hk rfl ?_
        obtain ⟨t16, hc17, H⟩ := bindS H
        refine op_call hk ent_22 (vs := [.int .i64 t4.1]) rfl (strconv_Itoa_calls t4.1 _ o7 0 fg4   _ hc17) ?_
        rintro _ w18 ⟨o19, rfl, st20⟩
        replace fg2 := fg2.st st20 (by decide)
        replace fg3 := fg3.st st20 (by decide)
        replace fg4 := fg4.st st20 (by decide)
        replace hs := hs.loc0 st20 (by decide)
        have hk := hk.put 24 (.string t16) rfl
        refine x_run tab hk (k := 5) (lv := []) (ks := [2, 3]) (e' := [(2, .int .i64 t4.1), (3, .bool (ByteArray.toList t16 == ByteArray.toList p0))]) rfl trivial fun a hk => ?_
        refine wpListIn_nil ?_
        refine then_n ?_
        refine wpIn_ret ?_
        obtain rfl := Option.some.inj H
        exact x_retG hk (rs := [.tmp 2, .tmp 3]) (vs := [.int .i64 t4.1, .bool (ByteArray.toList t16 == ByteArray.toList p0)]) rfl ⟨rfl, rfl, trivial⟩ ⟨fun b_ => if b_ < w.heap.size then o b_ else (fun _ => 0) (o19 b_), rfl, hs.close0 o (fun _ => 0)⟩

/-! strings.IndexByte -/
theorem strings_IndexByte_calls (p0 : ByteArray) (p1 : Int) (w : World) (o : Nat → Nat)   (r : Int) (H : strings_IndexByte p0 p1 = some r) :
    Calls Tryd.prog 31 #[.string p0, .int .u8 p1] w (Ret fun v_ w' => ∃ o' : Nat → Nat, v_ = .int .i64 r ∧ St [] w o w' o') := by
  unfold strings_IndexByte at H; cases H
  refine (Tryd.strings_IndexByte p0 p1 w).mono ?_
  rintro e w' ⟨rfl, rfl⟩
  exact ⟨_, rfl, o, rfl, St.refl _ _ _⟩

/-! strings.ContainsRune -/
theorem strings_ContainsRune_calls (p0 : ByteArray) (p1 : Int) (w : World) (o : Nat → Nat)   (r : Bool) (H : strings_ContainsRune p0 p1 = some r) :
    Calls Tryd.prog 45 #[.string p0, .int .i32 p1] w (Ret fun v_ w' => ∃ o' : Nat → Nat, v_ = .bool r ∧ St [] w o w' o') := by
  unfold strings_ContainsRune at H; split at H
  · rename_i h; cases H; refine (Tryd.strings_ContainsRune_ascii p0 p1 w h.1 h.2).mono ?_
    rintro e w' ⟨rfl, rfl⟩
    exact ⟨_, rfl, o, rfl, St.refl _ _ _⟩
  · cases H

/-! tidewrack/line.plain -/
theorem line_plain_calls (p0 : Int) (w : World) (o : Nat → Nat)   (r : Bool) (H : line_plain p0 = some r) :
    Calls Tryd.prog 33 #[.int .u8 p0] w (Ret fun v_ w' => ∃ o' : Nat → Nat, v_ = .bool r ∧ St [] w o w' o') := by
  refine x_enter (vs := [.int .u8 p0]) Tryd.func33 rfl rfl rfl fun a hk => ?_
  obtain ⟨o0, hs, h0⟩ := St.start w o
  clear h0
  rw [line_plain] at H
  refine x_seq ?_
  refine wpIn_region_lit ?_
  refine x_run tab hk (k := 1) (lv := []) (ks := [0]) (e' := [(0, .int .u8 p0)]) rfl trivial fun a hk => ?_
  refine wpListIn_nil ?_
  refine then_n ?_
  refine x_seq ?_
  refine wpIn_region_lit ?_
  refine x_run tab hk (k := 3) (lv := []) (ks := [0, 5]) (e' := [(0, .int .u8 p0), (5, .bool (decide (p0 ≥ (33 : Int))))]) rfl trivial fun a hk => ?_
  cases b1 : (decide (p0 ≥ (33 : Int)))
  · rw [b1] at hk H
    replace H := bifF H
    refine x_run tab hk (k := 10) (lv := []) (ks := [2]) (e' := [(2, .bool false)]) rfl trivial fun a hk => ?_
    refine wpListIn_nil ?_
    refine then_n ?_
    refine wpIn_ret ?_
    obtain rfl := Option.some.inj H
    exact x_retG hk (rs := [.tmp 2]) (vs := [.bool false]) rfl ⟨rfl, trivial⟩ ⟨fun b_ => if b_ < w.heap.size then o b_ else (fun _ => 0) (o0 b_), rfl, hs.close0 o (fun _ => 0)⟩
  · rw [b1] at hk H
    replace H := bifT H
    refine x_run tab hk (k := 4) (lv := []) (ks := [0, 9]) (e' := [(0, .int .u8 p0), (9, .bool (decide (p0 ≤ (126 : Int))))]) rfl trivial fun a hk => ?_
    cases b2 : (decide (p0 ≤ (126 : Int)))
    · rw [b2] at hk H
      replace H := bifF H
      refine x_run tab hk (k := 6) (lv := []) (ks := [2]) (e' := [(2, .bool false)]) rfl trivial fun a hk => ?_
      refine wpListIn_nil ?_
      refine then_n ?_
      refine wpIn_ret ?_
      obtain rfl := Option.some.inj H
      exact x_retG hk (rs := [.tmp 2]) (vs := [.bool false]) rfl ⟨rfl, trivial⟩ ⟨fun b_ => if b_ < w.heap.size then o b_ else (fun _ => 0) (o0 b_), rfl, hs.close0 o (fun _ => 0)⟩
    · rw [b2] at hk H
      replace H := bifT H
      refine x_run tab hk (k := 2) (lv := []) (ks := [9, 11]) (e' := [(9, .bool true), (11, .int .i32 (IntKind.wrap .i32 p0))]) rfl trivial fun a hk => ?_
      refine x_op hk rfl ?_
      obtain ⟨t6, hc7, H⟩ := bindS H
      refine op_call hk ent_45 (vs := [.string (⟨#[37, 40, 41, 44]⟩ : ByteArray), .int .i32 (IntKind.wrap .i32 p0)]) rfl (strings_ContainsRune_calls (⟨#[37, 40, 41, 44]⟩ : ByteArray) (IntKind.wrap .i32 p0) _ o0    _ hc7) ?_
      rintro _ w8 ⟨o9, rfl, st10⟩
      replace hs := hs.loc0 st10 (by decide)
      have hk := hk.put 12 (.bool t6) rfl
      refine x_run tab hk (k := 3) (lv := []) (ks := [2]) (e' := [(2, .bool (!t6))]) rfl trivial fun a hk => ?_
      refine wpListIn_nil ?_
      refine then_n ?_
      refine wpIn_ret ?_
      obtain rfl := Option.some.inj H
      exact x_retG hk (rs := [.tmp 2]) (vs := [.bool (!t6)]) rfl ⟨rfl, trivial⟩ ⟨fun b_ => if b_ < w.heap.size then o b_ else (fun _ => 0) (o9 b_), rfl, hs.close0 o (fun _ => 0)⟩

/-! (*strings.Builder).copyCheck -/
theorem strings_Builder_copyCheck_calls (bp0 : Nat) (Ap0_0 : Option Addr) (cp0_0 : Nat) (p0 : T71) (w : World) (o : Nat → Nat) (Lp0 : Nat) (hp0 : Ft (Bl bp0 72 (.slice Ap0_0 (p0.buf).length cp0_0)) w o Lp0) (Lp0_0 : Nat) (hp0_0 : Ft (Own (encInt .u8) 5 (.slice Ap0_0 (p0.buf).length cp0_0) p0.buf) w o Lp0_0) (hcp0_0 : (p0.buf).length ≤ cp0_0) (hd0 : ([Lp0, Lp0_0] : List Nat).Nodup) (r : T71) (H : strings_Builder_copyCheck p0 = some r) :
    Calls Tryd.prog 46 #[.pointer (some ⟨bp0, 0, none⟩)] w (Ret fun v_ w' => ∃ o' : Nat → Nat, ∃ A0 : Option Addr, ∃ c0 : Nat, v_ = .tuple #[] ∧ St [Lp0, Lp0_0] w o w' o' ∧ Ft (Bl bp0 72 (.slice A0 (r.buf).length c0)) w' o' Lp0 ∧ Ft (Own (encInt .u8) 5 (.slice A0 (r.buf).length c0) r.buf) w' o' Lp0_0 ∧ (r.buf).length ≤ c0) := by
  refine x_enter (vs := [.pointer (some ⟨bp0, 0, none⟩)]) Tryd.func46 rfl rfl rfl fun a hk => ?_
  obtain ⟨oi, hs0, h0, h1, hob, hoz, hoa⟩ := St.startM2 w o (m := 2) hd0 rfl
  have hs := hs0 [1, 2]
  have hom := lab_in hob (MM := [1, 2]) (by decide)
  have f900000 := h1 1 2 hp0_0 rfl rfl
  have f900019 := h1 0 1 hp0 rfl rfl
  clear h0 h1 hs0
  rw [strings_Builder_copyCheck] at H
  obtain ⟨pb_, hpb_, f900019⟩ := Bl.open f900019
  rcases hpb_ with rfl | rfl
  · skip
    refine x_seq ?_
    refine wpIn_region_lit ?_
    refine x_run tab hk (k := 5) (lv := [.pointer none]) (ks := [0, 6]) (e' := [(0, .pointer (some ⟨bp0, 0, none⟩)), (6, .bool true)]) rfl ⟨(load1 tab rfl ((Bx.cell f900019.now 0).trans rfl)), trivial⟩ fun a hk => ?_
    refine wpListIn_nil ?_
    refine then_n ?_
    refine x_if hk (b := true) rfl ?_
    refine (show Code.wpIn _ _ _ _ _ _ _ from ?_)
    refine wpIn_region_lit ?_
    refine x_run tab hk (k := 7) (lv := [.pointer (some ⟨bp0, 0, none⟩), .pointer (some ⟨bp0, 0, none⟩), .pointer (some ⟨bp0, 0, none⟩)]) (ks := [11, 13]) (e' := [(11, .pointer (some ⟨bp0, 0, none⟩)), (13, .pointer (some ⟨bp0, 0, none⟩))]) rfl ⟨(ask_toU tab rfl rfl rfl rfl f900019.now rfl), (ask_noesc Tryd.func64 (by kernel_rfl) (by kernel_rfl) (by kernel_rfl) (by kernel_rfl) rfl _), (ask_ofU tab rfl rfl rfl (by kernel_rfl) f900019.now rfl), trivial⟩ fun a hk => ?_
    refine x_op hk rfl ?_
    refine op_store tab hk (t := 70) (v := .pointer (some ⟨bp0, 0, none⟩)) (b := bp0) (k := 0) (cs' := [.pointer (some ⟨bp0, 0, none⟩), .slice Ap0_0 (p0.buf).length cp0_0]) rfl rfl rfl rfl rfl rfl f900019 rfl rfl fun w1 o2 st3 f900019_ => ?_
    replace f900000 := f900000.st st3 (by decide)
    replace hs := hs.locM st3 (by decide) hom
    replace f900019 := f900019_
    refine wpListIn_nil ?_
    obtain rfl := Option.some.inj H
    exact x_endG hk (rs := []) (vs := []) rfl trivial ⟨cl w oi o [1, 2] (fun l_ => if l_ = 1 then Lp0 else if l_ = 2 then Lp0_0 else 0) o2, Ap0_0, cp0_0, rfl, hs.closeM hoz (by decide) (fun l_ => if l_ = 1 then Lp0 else if l_ = 2 then Lp0_0 else 0), ((hs.closeM_ft (o := o) (ρ := fun l_ => if l_ = 1 then Lp0 else if l_ = 2 then Lp0_0 else 0) f900019 (lab_at hoa (i := 0) rfl) rfl).imp fun _ h_ => Bl.of h_ (.inr rfl)), hs.closeM_ft (o := o) (ρ := fun l_ => if l_ = 1 then Lp0 else if l_ = 2 then Lp0_0 else 0) f900000 (lab_at hoa (i := 1) rfl) rfl, hcp0_0⟩
  · skip
    refine x_seq ?_
    refine wpIn_region_lit ?_
    refine x_run tab hk (k := 5) (lv := [.pointer (some ⟨bp0, 0, none⟩)]) (ks := [0, 6]) (e' := [(0, .pointer (some ⟨bp0, 0, none⟩)), (6, .bool false)]) rfl ⟨(load1 tab rfl ((Bx.cell f900019.now 0).trans rfl)), trivial⟩ fun a hk => ?_
    refine wpListIn_nil ?_
    refine then_n ?_
    refine x_if hk (b := false) rfl ?_
    refine (show Code.wpIn _ _ _ _ _ _ _ from ?_)
    refine x_seq ?_
    refine wpIn_region_lit ?_
    refine x_run tab hk (k := 6) (lv := [.pointer (some ⟨bp0, 0, none⟩), .bool false]) (ks := [19]) (e' := [(19, .bool false)]) rfl ⟨(load1 tab rfl ((Bx.cell f900019.now 0).trans rfl)), (ask_pne tab rfl rfl rfl rfl rfl), trivial⟩ fun a hk => ?_
    refine wpListIn_nil ?_
    refine then_n ?_
    refine x_if hk (b := false) rfl ?_
    refine (show Code.wpIn _ _ _ _ _ _ _ from ?_)
    refine wpIn_skip ?_
    obtain rfl := Option.some.inj H
    exact x_endG hk (rs := []) (vs := []) rfl trivial ⟨cl w oi o [1, 2] (fun l_ => if l_ = 1 then Lp0 else if l_ = 2 then Lp0_0 else 0) oi, Ap0_0, cp0_0, rfl, hs.closeM hoz (by decide) (fun l_ => if l_ = 1 then Lp0 else if l_ = 2 then Lp0_0 else 0), ((hs.closeM_ft (o := o) (ρ := fun l_ => if l_ = 1 then Lp0 else if l_ = 2 then Lp0_0 else 0) f900019 (lab_at hoa (i := 0) rfl) rfl).imp fun _ h_ => Bl.of h_ (.inr rfl)), hs.closeM_ft (o := o) (ρ := fun l_ => if l_ = 1 then Lp0 else if l_ = 2 then Lp0_0 else 0) f900000 (lab_at hoa (i := 1) rfl) rfl, hcp0_0⟩

/-! (*strings.Builder).WriteByte -/
set_option maxHeartbeats 4000000 in
set_option maxRecDepth 20000 in
theorem strings_Builder_WriteByte_calls (bp0 : Nat) (Ap0_0 : Option Addr) (cp0_0 : Nat) (p0 : T71) (p1 : Int) (w : World) (o : Nat → Nat) (Lp0 : Nat) (hp0 : Ft (Bl bp0 72 (.slice Ap0_0 (p0.buf).length cp0_0)) w o Lp0) (Lp0_0 : Nat) (hp0_0 : Ft (Own (encInt .u8) 5 (.slice Ap0_0 (p0.buf).length cp0_0) p0.buf) w o Lp0_0) (hcp0_0 : (p0.buf).length ≤ cp0_0) (hd0 : ([Lp0, Lp0_0] : List Nat).Nodup) (r : T71) (H : strings_Builder_WriteByte p0 p1 = some r) :
    Calls Tryd.prog 34 #[.pointer (some ⟨bp0, 0, none⟩), .int .u8 p1] w (Ret fun v_ w' => ∃ o' : Nat → Nat, ∃ A0 : Option Addr, ∃ c0 : Nat, v_ = .nilIface ∧ St [Lp0, Lp0_0] w o w' o' ∧ Ft (Bl bp0 72 (.slice A0 (r.buf).length c0)) w' o' Lp0 ∧ Ft (Own (encInt .u8) 5 (.slice A0 (r.buf).length c0) r.buf) w' o' Lp0_0 ∧ (r.buf).length ≤ c0) := by
  refine x_enter (vs := [.pointer (some ⟨bp0, 0, none⟩), .int .u8 p1]) Tryd.func34 rfl rfl rfl fun a hk => ?_
  obtain ⟨oi, hs0, h0, h1, hob, hoz, hoa⟩ := St.startM2 w o (m := 2) hd0 rfl
  have hs := hs0 [1, 2]
  have hom := lab_in hob (MM := [1, 2]) (by decide)
  have f900000 := h1 1 2 hp0_0 rfl rfl
  have f900019 := h1 0 1 hp0 rfl rfl
  clear h0 h1 hs0
  rw [strings_Builder_WriteByte] at H
  obtain ⟨pb_, hpb_, f900019⟩ := Bl.open f900019
  rcases hpb_ with rfl | rfl
  · skip
    refine x_seq ?_
    refine wpIn_region_lit ?_
    refine x_run tab hk (k := 1) (lv := []) (ks := [0, 1]) (e' := [(0, .pointer (some ⟨bp0, 0, none⟩)), (1, .int .u8 p1)]) rfl trivial fun a hk => ?_
    refine wpListIn_nil ?_
    refine then_n ?_
    refine x_seq ?_
    refine wpIn_region_lit ?_
    refine x_run tab hk (k := 1) (lv := []) (ks := [0, 1, 5]) (e' := [(0, .pointer (some ⟨bp0, 0, none⟩)), (1, .int .u8 p1), (5, .pointer (some ⟨bp0, 0, none⟩))]) rfl trivial fun a hk => ?_
    refine x_op hk rfl ?_
    obtain ⟨t4, hc5, H⟩ := bindS H
    refine op_call hk ent_46 (vs := [.pointer (some ⟨bp0, 0, none⟩)]) rfl (strings_Builder_copyCheck_calls bp0 Ap0_0 cp0_0 p0 _ oi 1 ((f900019).imp fun _ h_ => Bl.of h_ (.inl rfl)) 2 f900000 hcp0_0 (by decide)   _ hc5) ?_
    rintro _ w6 ⟨o7, A10, c11, rfl, st8, f9, f12, hc13⟩
    replace hs := hs.locM st8 (by decide) hom
    obtain ⟨pb14, hb15, f9⟩ := Bl.open f9
    have hk := hk.put 6 (.tuple #[]) rfl
    refine wpListIn_nil ?_
    refine then_n ?_
    refine x_seq ?_
    refine wpIn_region_lit ?_
    refine x_run tab hk (k := 6) (lv := [.slice A10 (t4.buf).length c11]) (ks := [7, 11, 12]) (e' := [(7, .pointer (some ⟨bp0, 0, none⟩)), (11, .slice A10 (t4.buf).length c11), (12, .int .u8 p1)]) rfl ⟨(load1 tab rfl ((Bx.cell f9.now 1).trans rfl)), trivial⟩ fun a hk => ?_
    refine x_op hk rfl ?_
    refine op_slice (o := o7) tab hk (vs := [.int .u8 p1]) (cs := [.int .u8 p1]) rfl rfl rfl rfl rfl rfl rfl rfl rfl 3 fun bx19 w16 o17 st18 f20 => ?_
    replace f12 := f12.st st18 (by decide)
    replace f9 := f9.st st18 (by decide)
    replace hs := hs.locM st18 (by decide) hom
    have f21 : Ft (Own (encInt .u8) 5 (.slice (some ⟨bx19, 0, none⟩) (([p1] : List Int)).length 1) ([p1] : List Int)) w16 o17 3 := f20.imp fun _ h_ => Own.of_box h_ rfl (by simp)
    have hk := hk.put 13 (.slice (some ⟨bx19, 0, none⟩) (([p1] : List Int)).length 1) rfl
    refine x_op hk rfl ?_
    obtain ⟨q25, H⟩ := ifS H
    refine op_append (o := o17) (E := (encInt .u8)) (xs := t4.buf) (ys := ([p1] : List Int)) tab hk rfl rfl rfl rfl rfl rfl rfl f12 (Own.rd f21.now) q25 fun A26 c27 w22 o23 st24 f28 hc29 => ?_
    replace f21 := f21.st st24 (by decide)
    replace f9 := f9.st st24 (by decide)
    replace hs := hs.locM st24 (by decide) hom
    have hk := hk.put 14 (.slice A26 ((t4.buf ++ ([p1] : List Int))).length c27) rfl
    refine x_run tab hk (k := 2) (lv := []) (ks := [14, 16]) (e' := [(14, .slice A26 ((t4.buf ++ ([p1] : List Int))).length c27), (16, .pointer (some ((⟨bp0, 0, none⟩ : Addr).add 1)))]) rfl trivial fun a hk => ?_
    refine x_op hk rfl ?_
    refine op_store tab hk (t := 53) (v := .slice A26 ((t4.buf ++ ([p1] : List Int))).length c27) (b := bp0) (k := 1) (cs' := [.pointer pb14, .slice A26 ((t4.buf ++ ([p1] : List Int))).length c27]) rfl rfl rfl rfl rfl rfl f9 rfl rfl fun w30 o31 st32 f9_ => ?_
    replace f28 := f28.st st32 (by decide)
    replace hs := hs.locM st32 (by decide) hom
    replace f9 := f9_
    refine wpListIn_nil ?_
    refine then_n ?_
    refine x_seq ?_
    refine wpIn_region_lit ?_
    refine x_run tab hk (k := 1) (lv := []) (ks := [4]) (e' := [(4, .nilIface)]) rfl trivial fun a hk => ?_
    refine wpListIn_nil ?_
    refine then_n ?_
    refine wpIn_ret ?_
    obtain rfl := Option.some.inj H
    exact x_retG hk (rs := [.tmp 4]) (vs := [.nilIface]) rfl ⟨rfl, trivial⟩ ⟨cl w oi o [1, 2] (fun l_ => if l_ = 1 then Lp0 else if l_ = 2 then Lp0_0 else 0) o31, A26, c27, rfl, hs.closeM hoz (by decide) (fun l_ => if l_ = 1 then Lp0 else if l_ = 2 then Lp0_0 else 0), ((hs.closeM_ft (o := o) (ρ := fun l_ => if l_ = 1 then Lp0 else if l_ = 2 then Lp0_0 else 0) f9 (lab_at hoa (i := 0) rfl) rfl).imp fun _ h_ => Bl.of h_ hb15), hs.closeM_ft (o := o) (ρ := fun l_ => if l_ = 1 then Lp0 else if l_ = 2 then Lp0_0 else 0) f28 (lab_at hoa (i := 1) rfl) rfl, hc29⟩
  · skip
    refine x_seq ?_
    refine wpIn_region_lit ?_
    refine x_run tab hk (k := 1) (lv := []) (ks := [0, 1]) (e' := [(0, .pointer (some ⟨bp0, 0, none⟩)), (1, .int .u8 p1)]) rfl trivial fun a hk => ?_
    refine wpListIn_nil ?_
    refine then_n ?_
    refine x_seq ?_
    refine wpIn_region_lit ?_
    refine x_run tab hk (k := 1) (lv := []) (ks := [0, 1, 5]) (e' := [(0, .pointer (some ⟨bp0, 0, none⟩)), (1, .int .u8 p1), (5, .pointer (some ⟨bp0, 0, none⟩))]) rfl trivial fun a hk => ?_
    refine x_op hk rfl ?_
    obtain ⟨t36, hc37, H⟩ := bindS H
    refine op_call hk ent_46 (vs := [.pointer (some ⟨bp0, 0, none⟩)]) rfl (strings_Builder_copyCheck_calls bp0 Ap0_0 cp0_0 p0 _ oi 1 ((f900019).imp fun _ h_ => Bl.of h_ (.inr rfl)) 2 f900000 hcp0_0 (by decide)   _ hc37) ?_
    rintro _ w38 ⟨o39, A42, c43, rfl, st40, f41, f44, hc45⟩
    replace hs := hs.locM st40 (by decide) hom
    obtain ⟨pb46, hb47, f41⟩ := Bl.open f41
    have hk := hk.put 6 (.tuple #[]) rfl
    refine wpListIn_nil ?_
    refine then_n ?_
    refine x_seq ?_
    refine wpIn_region_lit ?_
    refine x_run tab hk (k := 6) (lv := [.slice A42 (t36.buf).length c43]) (ks := [7, 11, 12]) (e' := [(7, .pointer (some ⟨bp0, 0, none⟩)), (11, .slice A42 (t36.buf).length c43), (12, .int .u8 p1)]) rfl ⟨(load1 tab rfl ((Bx.cell f41.now 1).trans rfl)), trivial⟩ fun a hk => ?_
    refine x_op hk rfl ?_
    refine op_slice (o := o39) tab hk (vs := [.int .u8 p1]) (cs := [.int .u8 p1]) rfl rfl rfl rfl rfl rfl rfl rfl rfl 4 fun bx51 w48 o49 st50 f52 => ?_
    replace f41 := f41.st st50 (by decide)
    replace f44 := f44.st st50 (by decide)
    replace hs := hs.locM st50 (by decide) hom
    have f53 : Ft (Own (encInt .u8) 5 (.slice (some ⟨bx51, 0, none⟩) (([p1] : List Int)).length 1) ([p1] : List Int)) w48 o49 4 := f52.imp fun _ h_ => Own.of_box h_ rfl (by simp)
    have hk := hk.put 13 (.slice (some ⟨bx51, 0, none⟩) (([p1] : List Int)).length 1) rfl
    refine x_op hk rfl ?_
    obtain ⟨q57, H⟩ := ifS H
    refine op_append (o := o49) (E := (encInt .u8)) (xs := t36.buf) (ys := ([p1] : List Int)) tab hk rfl rfl rfl rfl rfl rfl rfl f44 (Own.rd f53.now) q57 fun A58 c59 w54 o55 st56 f60 hc61 => ?_
    replace f41 := f41.st st56 (by decide)
    replace f53 := f53.st st56 (by decide)
    replace hs := hs.locM st56 (by decide) hom
    have hk := hk.put 14 (.slice A58 ((t36.buf ++ ([p1] : List Int))).length c59) rfl
    refine x_run tab hk (k := 2) (lv := []) (ks := [14, 16]) (e' := [(14, .slice A58 ((t36.buf ++ ([p1] : List Int))).length c59), (16, .pointer (some ((⟨bp0, 0, none⟩ : Addr).add 1)))]) rfl trivial fun a hk => ?_
    refine x_op hk rfl ?_
    refine op_store tab hk (t := 53) (v := .slice A58 ((t36.buf ++ ([p1] : List Int))).length c59) (b := bp0) (k := 1) (cs' := [.pointer pb46, .slice A58 ((t36.buf ++ ([p1] : List Int))).length c59]) rfl rfl rfl rfl rfl rfl f41 rfl rfl fun w62 o63 st64 f41_ => ?_
    replace f60 := f60.st st64 (by decide)
    replace hs := hs.locM st64 (by decide) hom
    replace f41 := f41_
    refine wpListIn_nil ?_
    refine then_n ?_
    refine x_seq ?_
    refine wpIn_region_lit ?_
    refine x_run tab hk (k := 1) (lv := []) (ks := [4]) (e' := [(4, .nilIface)]) rfl trivial fun a hk => ?_
    refine wpListIn_nil ?_
    refine then_n ?_
    refine wpIn_ret ?_
    obtain rfl := Option.some.inj H
    exact x_retG hk (rs := [.tmp 4]) (vs := [.nilIface]) rfl ⟨rfl, trivial⟩ ⟨cl w oi o [1, 2] (fun l_ => if l_ = 1 then Lp0 else if l_ = 2 then Lp0_0 else 0) o63, A58, c59, rfl, hs.closeM hoz (by decide) (fun l_ => if l_ = 1 then Lp0 else if l_ = 2 then Lp0_0 else 0), ((hs.closeM_ft (o := o) (ρ := fun l_ => if l_ = 1 then Lp0 else if l_ = 2 then Lp0_0 else 0) f41 (lab_at hoa (i := 0) rfl) rfl).imp fun _ h_ => Bl.of h_ hb47), hs.closeM_ft (o := o) (ρ := fun l_ => if l_ = 1 then Lp0 else if l_ = 2 then Lp0_0 else 0) f60 (lab_at hoa (i := 1) rfl) rfl, hc61⟩

/-! (*strings.Builder).WriteString -/
theorem strings_Builder_WriteString_calls (bp0 : Nat) (Ap0_0 : Option Addr) (cp0_0 : Nat) (p0 : T71) (p1 : ByteArray) (w : World) (o : Nat → Nat) (Lp0 : Nat) (hp0 : Ft (Bl bp0 72 (.slice Ap0_0 (p0.buf).length cp0_0)) w o Lp0) (Lp0_0 : Nat) (hp0_0 : Ft (Own (encInt .u8) 5 (.slice Ap0_0 (p0.buf).length cp0_0) p0.buf) w o Lp0_0) (hcp0_0 : (p0.buf).length ≤ cp0_0) (hd0 : ([Lp0, Lp0_0] : List Nat).Nodup) (r : Int × T71) (H : strings_Builder_WriteString p0 p1 = some r) :
    Calls Tryd.prog 35 #[.pointer (some ⟨bp0, 0, none⟩), .string p1] w (Ret fun v_ w' => ∃ o' : Nat → Nat, ∃ A0 : Option Addr, ∃ c0 : Nat, v_ = .tuple #[.int .i64 r.1, .nilIface] ∧ St [Lp0, Lp0_0] w o w' o' ∧ Ft (Bl bp0 72 (.slice A0 (r.2.buf).length c0)) w' o' Lp0 ∧ Ft (Own (encInt .u8) 5 (.slice A0 (r.2.buf).length c0) r.2.buf) w' o' Lp0_0 ∧ (r.2.buf).length ≤ c0) := by
  refine x_enter (vs := [.pointer (some ⟨bp0, 0, none⟩), .string p1]) Tryd.func35 rfl rfl rfl fun a hk => ?_
  obtain ⟨oi, hs0, h0, h1, hob, hoz, hoa⟩ := St.startM2 w o (m := 2) hd0 rfl
  have hs := hs0 [1, 2]
  have hom := lab_in hob (MM := [1, 2]) (by decide)
  have f900000 := h1 1 2 hp0_0 rfl rfl
  have f900019 := h1 0 1 hp0 rfl rfl
  clear h0 h1 hs0
  rw [strings_Builder_WriteString] at H
  obtain ⟨pb_, hpb_, f900019⟩ := Bl.open f900019
  rcases hpb_ with rfl | rfl
  · skip
    refine x_seq ?_
    refine wpIn_region_lit ?_
    refine x_run tab hk (k := 2) (lv := []) (ks := [0, 1]) (e' := [(0, .pointer (some ⟨bp0, 0, none⟩)), (1, .string p1)]) rfl trivial fun a hk => ?_
    refine wpListIn_nil ?_
    refine then_n ?_
    refine x_seq ?_
    refine wpIn_region_lit ?_
    refine x_run tab hk (k := 1) (lv := []) (ks := [0, 1, 6]) (e' := [(0, .pointer (some ⟨bp0, 0, none⟩)), (1, .string p1), (6, .pointer (some ⟨bp0, 0, none⟩))]) rfl trivial fun a hk => ?_
    refine x_op hk rfl ?_
    obtain ⟨t4, hc5, H⟩ := bindS H
    refine op_call hk ent_46 (vs := [.pointer (some ⟨bp0, 0, none⟩)]) rfl (strings_Builder_copyCheck_calls bp0 Ap0_0 cp0_0 p0 _ oi 1 ((f900019).imp fun _ h_ => Bl.of h_ (.inl rfl)) 2 f900000 hcp0_0 (by decide)   _ hc5) ?_
    rintro _ w6 ⟨o7, A10, c11, rfl, st8, f9, f12, hc13⟩
    replace hs := hs.locM st8 (by decide) hom
    obtain ⟨pb14, hb15, f9⟩ := Bl.open f9
    have hk := hk.put 7 (.tuple #[]) rfl
    refine wpListIn_nil ?_
    refine then_n ?_
    refine x_seq ?_
    refine wpIn_region_lit ?_
    refine x_run tab hk (k := 6) (lv := [.slice A10 (t4.buf).length c11]) (ks := [1, 8, 12, 13]) (e' := [(1, .string p1), (8, .pointer (some ⟨bp0, 0, none⟩)), (12, .slice A10 (t4.buf).length c11), (13, .string p1)]) rfl ⟨(load1 tab rfl ((Bx.cell f9.now 1).trans rfl)), trivial⟩ fun a hk => ?_
    refine x_op hk rfl ?_
    obtain ⟨q19, H⟩ := ifS H
    refine op_appendS (o := o7) (xs := t4.buf) (y := p1) tab hk rfl rfl rfl rfl rfl f12 q19 fun A20 c21 w16 o17 st18 f22 hc23 => ?_
    replace f9 := f9.st st18 (by decide)
    replace hs := hs.locM st18 (by decide) hom
    have hk := hk.put 14 (.slice A20 ((t4.buf ++ numsOf p1)).length c21) rfl
    refine x_run tab hk (k := 2) (lv := []) (ks := [1, 14, 16]) (e' := [(1, .string p1), (14, .slice A20 ((t4.buf ++ numsOf p1)).length c21), (16, .pointer (some ((⟨bp0, 0, none⟩ : Addr).add 1)))]) rfl trivial fun a hk => ?_
    refine x_op hk rfl ?_
    refine op_store tab hk (t := 53) (v := .slice A20 ((t4.buf ++ numsOf p1)).length c21) (b := bp0) (k := 1) (cs' := [.pointer pb14, .slice A20 ((t4.buf ++ numsOf p1)).length c21]) rfl rfl rfl rfl rfl rfl f9 rfl rfl fun w24 o25 st26 f9_ => ?_
    replace f22 := f22.st st26 (by decide)
    replace hs := hs.locM st26 (by decide) hom
    replace f9 := f9_
    refine wpListIn_nil ?_
    refine then_n ?_
    refine x_seq ?_
    refine wpIn_region_lit ?_
    refine x_run tab hk (k := 4) (lv := []) (ks := [4, 5]) (e' := [(4, .int .i64 ((p1).size : Int)), (5, .nilIface)]) rfl trivial fun a hk => ?_
    refine wpListIn_nil ?_
    refine then_n ?_
    refine wpIn_ret ?_
    obtain rfl := Option.some.inj H
    exact x_retG hk (rs := [.tmp 4, .tmp 5]) (vs := [.int .i64 ((p1).size : Int), .nilIface]) rfl ⟨rfl, rfl, trivial⟩ ⟨cl w oi o [1, 2] (fun l_ => if l_ = 1 then Lp0 else if l_ = 2 then Lp0_0 else 0) o25, A20, c21, rfl, hs.closeM hoz (by decide) (fun l_ => if l_ = 1 then Lp0 else if l_ = 2 then Lp0_0 else 0), ((hs.closeM_ft (o := o) (ρ := fun l_ => if l_ = 1 then Lp0 else if l_ = 2 then Lp0_0 else 0) f9 (lab_at hoa (i := 0) rfl) rfl).imp fun _ h_ => Bl.of h_ hb15), hs.closeM_ft (o := o) (ρ := fun l_ => if l_ = 1 then Lp0 else if l_ = 2 then Lp0_0 else 0) f22 (lab_at hoa (i := 1) rfl) rfl, hc23⟩
  · skip
    refine x_seq ?_
    refine wpIn_region_lit ?_
    refine x_run tab hk (k := 2) (lv := []) (ks := [0, 1]) (e' := [(0, .pointer (some ⟨bp0, 0, none⟩)), (1, .string p1)]) rfl trivial fun a hk => ?_
    refine wpListIn_nil ?_
    refine then_n ?_
    refine x_seq ?_
    refine wpIn_region_lit ?_
    refine x_run tab hk (k := 1) (lv := []) (ks := [0, 1, 6]) (e' := [(0, .pointer (some ⟨bp0, 0, none⟩)), (1, .string p1), (6, .pointer (some ⟨bp0, 0, none⟩))]) rfl trivial fun a hk => ?_
    refine x_op hk rfl ?_
    obtain ⟨t30, hc31, H⟩ := bindS H
    refine op_call hk ent_46 (vs := [.pointer (some ⟨bp0, 0, none⟩)]) rfl (strings_Builder_copyCheck_calls bp0 Ap0_0 cp0_0 p0 _ oi 1 ((f900019).imp fun _ h_ => Bl.of h_ (.inr rfl)) 2 f900000 hcp0_0 (by decide)   _ hc31) ?_
    rintro _ w32 ⟨o33, A36, c37, rfl, st34, f35, f38, hc39⟩
    replace hs := hs.locM st34 (by decide) hom
    obtain ⟨pb40, hb41, f35⟩ := Bl.open f35
    have hk := hk.put 7 (.tuple #[]) rfl
    refine wpListIn_nil ?_
    refine then_n ?_
    refine x_seq ?_
    refine wpIn_region_lit ?_
    refine x_run tab hk (k := 6) (lv := [.slice A36 (t30.buf).length c37]) (ks := [1, 8, 12, 13]) (e' := [(1, .string p1), (8, .pointer (some ⟨bp0, 0, none⟩)), (12, .slice A36 (t30.buf).length c37), (13, .string p1)]) rfl ⟨(load1 tab rfl ((Bx.cell f35.now 1).trans rfl)), trivial⟩ fun a hk => ?_
    refine x_op hk rfl ?_
    obtain ⟨q45, H⟩ := ifS H
    refine op_appendS (o := o33) (xs := t30.buf) (y := p1) tab hk rfl rfl rfl rfl rfl f38 q45 fun A46 c47 w42 o43 st44 f48 hc49 => ?_
    replace f35 := f35.st st44 (by decide)
    replace hs := hs.locM st44 (by decide) hom
    have hk := hk.put 14 (.slice A46 ((t30.buf ++ numsOf p1)).length c47) rfl
    refine x_run tab hk (k := 2) (lv := []) (ks := [1, 14, 16]) (e' := [(1, .string p1), (14, .slice A46 ((t30.buf ++ numsOf p1)).length c47), (16, .pointer (some ((⟨bp0, 0, none⟩ : Addr).add 1)))]) rfl trivial fun a hk => ?_
    refine x_op hk rfl ?_
    refine op_store tab hk (t := 53) (v := .slice A46 ((t30.buf ++ numsOf p1)).length c47) (b := bp0) (k := 1) (cs' := [.pointer pb40, .slice A46 ((t30.buf ++ numsOf p1)).length c47]) rfl rfl rfl rfl rfl rfl f35 rfl rfl fun w50 o51 st52 f35_ => ?_
    replace f48 := f48.st st52 (by decide)
    replace hs := hs.locM st52 (by decide) hom
    replace f35 := f35_
    refine wpListIn_nil ?_
    refine then_n ?_
    refine x_seq ?_
    refine wpIn_region_lit ?_
    refine x_run tab hk (k := 4) (lv := []) (ks := [4, 5]) (e' := [(4, .int .i64 ((p1).size : Int)), (5, .nilIface)]) rfl trivial fun a hk => ?_
    refine wpListIn_nil ?_
    refine then_n ?_
    refine wpIn_ret ?_
    obtain rfl := Option.some.inj H
    exact x_retG hk (rs := [.tmp 4, .tmp 5]) (vs := [.int .i64 ((p1).size : Int), .nilIface]) rfl ⟨rfl, rfl, trivial⟩ ⟨cl w oi o [1, 2] (fun l_ => if l_ = 1 then Lp0 else if l_ = 2 then Lp0_0 else 0) o51, A46, c47, rfl, hs.closeM hoz (by decide) (fun l_ => if l_ = 1 then Lp0 else if l_ = 2 then Lp0_0 else 0), ((hs.closeM_ft (o := o) (ρ := fun l_ => if l_ = 1 then Lp0 else if l_ = 2 then Lp0_0 else 0) f35 (lab_at hoa (i := 0) rfl) rfl).imp fun _ h_ => Bl.of h_ hb41), hs.closeM_ft (o := o) (ρ := fun l_ => if l_ = 1 then Lp0 else if l_ = 2 then Lp0_0 else 0) f48 (lab_at hoa (i := 1) rfl) rfl, hc49⟩

/-! (*strings.Builder).String -/
theorem strings_Builder_String_calls (bp0 : Nat) (Ap0_0 : Option Addr) (cp0_0 : Nat) (p0 : T71) (w : World) (o : Nat → Nat) (Lp0 : Nat) (hp0 : Ft (Bl bp0 72 (.slice Ap0_0 (p0.buf).length cp0_0)) w o Lp0) (Lp0_0 : Nat) (hp0_0 : Ft (Own (encInt .u8) 5 (.slice Ap0_0 (p0.buf).length cp0_0) p0.buf) w o Lp0_0) (hcp0_0 : (p0.buf).length ≤ cp0_0) (hd0 : ([Lp0, Lp0_0] : List Nat).Nodup) (r : ByteArray) (H : strings_Builder_String p0 = some r) :
    Calls Tryd.prog 36 #[.pointer (some ⟨bp0, 0, none⟩)] w (Ret fun v_ w' => ∃ o' : Nat → Nat, v_ = .string r ∧ St [Lp0, Lp0_0] w o w' o') := by
  refine x_enter (vs := [.pointer (some ⟨bp0, 0, none⟩)]) Tryd.func36 rfl rfl rfl fun a hk => ?_
  obtain ⟨oi, hs0, h0, h1, hob, hoz, hoa⟩ := St.startM2 w o (m := 2) hd0 rfl
  have hs := hs0 [1, 2]
  have hom := lab_in hob (MM := [1, 2]) (by decide)
  have f900000 := h1 1 2 hp0_0 rfl rfl
  have f900019 := h1 0 1 hp0 rfl rfl
  clear h0 h1 hs0
  rw [strings_Builder_String] at H
  obtain ⟨pb_, hpb_, f900019⟩ := Bl.open f900019
  rcases hpb_ with rfl | rfl
  · skip
    refine x_seq ?_
    refine wpIn_region_lit ?_
    refine x_run tab hk (k := 1) (lv := []) (ks := [0]) (e' := [(0, .pointer (some ⟨bp0, 0, none⟩))]) rfl trivial fun a hk => ?_
    refine wpListIn_nil ?_
    refine then_n ?_
    refine x_seq ?_
    refine xd_begin (o := oi) (fun W_ => (Bx bp0 72 [.pointer none, .slice Ap0_0 (p0.buf).length cp0_0]) W_ ∧ True) mixed rfl rfl fun w17 st18 => ?_
    replace f900000 := f900000.st st18 (by decide)
    replace f900019 := f900019.st st18 (by decide)
    replace hs := hs.locM st18 (by decide) hom
    refine xd_take tab hk (k := 6) (is := [0, 1, 2, 3, 5, 6]) (ls' := #[true, true, true, true, false, true, true, false, false, false, false, false]) (lv := [.slice Ap0_0 (p0.buf).length cp0_0]) (ks := [6, 9]) (e' := [(6, .slice Ap0_0 (p0.buf).length cp0_0), (9, .pointer (some ⟨bp0, 0, none⟩))]) (by kernel_rfl) rfl rfl (by kernel_rfl) (np_then np_body) ⟨f900019.now, trivial⟩ (fun W_ hS => ⟨(load1 tab rfl ((Bx.cell hS.1 1).trans rfl)), trivial⟩) fun a hk => ?_
    refine xd_take tab hk (k := 3) (is := [7, 8, 9]) (ls' := #[true, true, true, true, false, true, true, true, true, true, false, false]) (lv := [.slice Ap0_0 (p0.buf).length cp0_0]) (ks := [6, 12]) (e' := [(6, .slice Ap0_0 (p0.buf).length cp0_0), (12, .int .i64 ((p0.buf).length : Int))]) (by kernel_rfl) rfl rfl (by kernel_rfl) (np_then np_body) ⟨f900019.now, trivial⟩ (fun W_ hS => ⟨(load1 tab rfl ((Bx.cell hS.1 1).trans rfl)), trivial⟩) fun a hk => ?_
    refine xd_op hk (i := 4) (by kernel_rfl) rfl rfl ?_
    refine op_sdata (o := oi) hk tab (xs := p0.buf) rfl rfl f900000 fun p22 w19 o20 st21 hp23 => ?_
    replace f900000 := f900000.st st21 (by decide)
    replace f900019 := f900019.st st21 (by decide)
    replace hs := hs.locM st21 (by decide) hom
    have hk := hk.put 7 (.pointer p22) rfl
    refine ⟨.inr ⟨f900019.now, trivial⟩, ?_⟩
    refine xd_op hk (i := 10) (by kernel_rfl) rfl rfl ?_
    refine op_ustr hk tab (xs := p0.buf) rfl rfl rfl rfl hp23 f900000 fun w24 st26 => ?_
    replace f900019 := f900019.st st26 (by decide)
    replace hs := hs.locM st26 (by decide) hom
    have hk := hk.put 13 (.string (strOfNums p0.buf)) rfl
    refine ⟨.inr ⟨f900019.now, trivial⟩, ?_⟩
    refine xd_take tab hk (k := 0) (is := [11]) (ls' := #[true, true, true, true, true, true, true, true, true, true, true, true]) (lv := []) (ks := [2]) (e' := [(2, .string (strOfNums p0.buf))]) (by kernel_rfl) rfl rfl (by kernel_rfl) (np_then np_body) ⟨f900019.now, trivial⟩ (fun W_ hS => trivial) fun a hk => ?_
    refine xd_done (by kernel_rfl) ?_
    refine then_n ?_
    refine wpIn_ret ?_
    obtain rfl := Option.some.inj H
    exact x_retG hk (rs := [.tmp 2]) (vs := [.string (strOfNums p0.buf)]) rfl ⟨rfl, trivial⟩ ⟨cl w oi o [1, 2] (fun _ => 0) o20, rfl, hs.closeM hoz (by decide) (fun _ => 0)⟩
  · skip
    refine x_seq ?_
    refine wpIn_region_lit ?_
    refine x_run tab hk (k := 1) (lv := []) (ks := [0]) (e' := [(0, .pointer (some ⟨bp0, 0, none⟩))]) rfl trivial fun a hk => ?_
    refine wpListIn_nil ?_
    refine then_n ?_
    refine x_seq ?_
    refine xd_begin (o := oi) (fun W_ => (Bx bp0 72 [.pointer (some ⟨bp0, 0, none⟩), .slice Ap0_0 (p0.buf).length cp0_0]) W_ ∧ True) mixed rfl rfl fun w43 st44 => ?_
    replace f900000 := f900000.st st44 (by decide)
    replace f900019 := f900019.st st44 (by decide)
    replace hs := hs.locM st44 (by decide) hom
    refine xd_take tab hk (k := 6) (is := [0, 1, 2, 3, 5, 6]) (ls' := #[true, true, true, true, false, true, true, false, false, false, false, false]) (lv := [.slice Ap0_0 (p0.buf).length cp0_0]) (ks := [6, 9]) (e' := [(6, .slice Ap0_0 (p0.buf).length cp0_0), (9, .pointer (some ⟨bp0, 0, none⟩))]) (by kernel_rfl) rfl rfl (by kernel_rfl) (np_then np_body) ⟨f900019.now, trivial⟩ (fun W_ hS => ⟨(load1 tab rfl ((Bx.cell hS.1 1).trans rfl)), trivial⟩) fun a hk => ?_
    refine xd_take tab hk (k := 3) (is := [7, 8, 9]) (ls' := #[true, true, true, true, false, true, true, true, true, true, false, false]) (lv := [.slice Ap0_0 (p0.buf).length cp0_0]) (ks := [6, 12]) (e' := [(6, .slice Ap0_0 (p0.buf).length cp0_0), (12, .int .i64 ((p0.buf).length : Int))]) (by kernel_rfl) rfl rfl (by kernel_rfl) (np_then np_body) ⟨f900019.now, trivial⟩ (fun W_ hS => ⟨(load1 tab rfl ((Bx.cell hS.1 1).trans rfl)), trivial⟩) fun a hk => ?_
    refine xd_op hk (i := 4) (by kernel_rfl) rfl rfl ?_
    refine op_sdata (o := oi) hk tab (xs := p0.buf) rfl rfl f900000 fun p48 w45 o46 st47 hp49 => ?_
    replace f900000 := f900000.st st47 (by decide)
    replace f900019 := f900019.st st47 (by decide)
    replace hs := hs.locM st47 (by decide) hom
    have hk := hk.put 7 (.pointer p48) rfl
    refine ⟨.inr ⟨f900019.now, trivial⟩, ?_⟩
    refine xd_op hk (i := 10) (by kernel_rfl) rfl rfl ?_
    refine op_ustr hk tab (xs := p0.buf) rfl rfl rfl rfl hp49 f900000 fun w50 st52 => ?_
    replace f900019 := f900019.st st52 (by decide)
    replace hs := hs.locM st52 (by decide) hom
    have hk := hk.put 13 (.string (strOfNums p0.buf)) rfl
    refine ⟨.inr ⟨f900019.now, trivial⟩, ?_⟩
    refine xd_take tab hk (k := 0) (is := [11]) (ls' := #[true, true, true, true, true, true, true, true, true, true, true, true]) (lv := []) (ks := [2]) (e' := [(2, .string (strOfNums p0.buf))]) (by kernel_rfl) rfl rfl (by kernel_rfl) (np_then np_body) ⟨f900019.now, trivial⟩ (fun W_ hS => trivial) fun a hk => ?_
    refine xd_done (by kernel_rfl) ?_
    refine then_n ?_
    refine wpIn_ret ?_
    obtain rfl := Option.some.inj H
    exact x_retG hk (rs := [.tmp 2]) (vs := [.string (strOfNums p0.buf)]) rfl ⟨rfl, trivial⟩ ⟨cl w oi o [1, 2] (fun _ => 0) o46, rfl, hs.closeM hoz (by decide) (fun _ => 0)⟩

/-! tidewrack/line.write -/
set_option maxHeartbeats 4000000 in
set_option maxRecDepth 20000 in
theorem line_write_calls (K : Nat) (p0 : ByteArray) (w : World) (o : Nat → Nat)   (r : ByteArray) (H : line_write K p0 = some r) :
    Calls Tryd.prog 23 #[.string p0] w (Ret fun v_ w' => ∃ o' : Nat → Nat, v_ = .string r ∧ St [] w o w' o') := by
  refine x_enter (vs := [.string p0]) Tryd.func23 rfl rfl rfl fun a hk => ?_
  obtain ⟨o0, hs, h0⟩ := St.start w o
  clear h0
  rw [line_write] at H
  refine x_seq ?_
  refine wpIn_region_lit ?_
  refine x_run tab hk (k := 1) (lv := []) (ks := [0]) (e' := [(0, .string p0)]) rfl trivial fun a hk => ?_
  refine wpListIn_nil ?_
  refine then_n ?_
  refine x_seq ?_
  refine wpIn_region_lit ?_
  refine x_op hk rfl ?_
  refine op_alloc (o := o0) tab (t := 72) (cs := [.pointer none, .slice none 0 0]) rfl rfl 1 fun bx4 w1 o2 st3 f5 => ?_
  replace hs := hs.loc0 st3 (by decide)
  have hk := hk.put 3 (.pointer (some ⟨bx4, 0, none⟩)) rfl
  replace f5 := f5.imp fun _ h_ => Bl.of h_ (.inl rfl)
  refine wpListIn_nil ?_
  refine then_n ?_
  refine x_mid (fun a_ w_ => ∃ o315 : Nat → Nat, ∃ A316 : Option Addr, ∃ c317 : Nat, ∃ l318 : List Int, Kn 43 a_ [(3, .pointer (some ⟨bx4, 0, none⟩))] ∧ St [] w (fun _ => 0) w_ o315 ∧ Ft (Own (encInt .u8) 5 (.slice A316 (l318).length c317) l318) w_ o315 10 ∧ Ft (Bl bx4 72 (.slice A316 (l318).length c317)) w_ o315 11 ∧ (l318).length ≤ c317 ∧ line_write_j1 l318 = some r) ?_ ?_
  rotate_left
  · rintro a w321 ⟨o315, A316, c317, l318, hk, hs, f319, f5, hc320, H⟩
    unfold line_write_j1 at H
    refine x_seq ?_
    refine wpIn_region_lit ?_
    refine x_op hk rfl ?_
    obtain ⟨t325, hc326, H⟩ := bindS H
    refine op_call hk ent_36 (vs := [.pointer (some ⟨bx4, 0, none⟩)]) rfl (strings_Builder_String_calls bx4 A316 c317 (⟨l318⟩ : T71) _ o315 11 f5 10 f319 hc320 (by decide)   _ hc326) ?_
    rintro _ w327 ⟨o328, rfl, st329⟩
    replace hs := hs.loc0 st329 (by decide)
    have hk := hk.put 42 (.string t325) rfl
    refine x_run tab hk (k := 1) (lv := []) (ks := [2]) (e' := [(2, .string t325)]) rfl trivial fun a hk => ?_
    refine wpListIn_nil ?_
    refine then_n ?_
    refine wpIn_ret ?_
    obtain rfl := Option.some.inj H
    exact x_retG hk (rs := [.tmp 2]) (vs := [.string t325]) rfl ⟨rfl, trivial⟩ ⟨fun b_ => if b_ < w.heap.size then o b_ else (fun _ => 0) (o328 b_), rfl, hs.close0 o (fun _ => 0)⟩
  refine x_seq ?_
  refine wpIn_region_lit ?_
  refine x_run tab hk (k := 3) (lv := []) (ks := [0, 3, 6, 7]) (e' := [(0, .string p0), (3, .pointer (some ⟨bx4, 0, none⟩)), (6, .int .i64 ((p0).size : Int)), (7, .int .i64 0)]) rfl trivial fun a hk => ?_
  refine wpListIn_nil ?_
  refine then_n ?_
  refine wpIn_block ?_
  refine x_loop (fun j_ a_ w_ => ∃ o428 : Nat → Nat, ∃ A429 : Option Addr, ∃ c430 : Nat, ∃ l431 : List Int, ∃ x434 : Int, Kn 43 a_ [(0, .string p0), (3, .pointer (some ⟨bx4, 0, none⟩)), (6, .int .i64 ((p0).size : Int)), (7, .int .i64 x434)] ∧ St [] w (fun _ => 0) w_ o428 ∧ Ft (Own (encInt .u8) 5 (.slice A429 (l431).length c430) l431) w_ o428 17 ∧ Ft (Bl bx4 72 (.slice A429 (l431).length c430)) w_ o428 18 ∧ (l431).length ≤ c430 ∧ line_write_l2 p0 j_ l431 x434 = some r) (k := K) ⟨(fun b_ => (fun l_ => if l_ = 1 then 18 else l_) (o2 b_)), none, 0, ([] : List Int), 0, (by exact Kn.pick (ks := [0, 3, 6, 7]) hk rfl), (hs.relab0 (fun l_ => if l_ = 1 then 18 else l_) rfl), (Ft.of_all (fun _ => Own.nil _ _ _) _ _ _), (f5.relab (fun l_ => if l_ = 1 then 18 else l_) rfl), (by simp), H⟩ (by rintro _ _ ⟨_, _, _, _, _, _, _, _, _, _, H_⟩; exact absurd (show (none : Option ByteArray) = some r from H_) (by simp)) ?_
  rintro k531 a w530 ⟨o428, A429, c430, l431, x434, hk, hs, f432, f5, hc433, H⟩
  rw [line_write_l2] at H
  obtain ⟨lp532, hlp533⟩ : ∃ lp_, lp_ = line_write_l2 p0 k531 := ⟨_, rfl⟩
  rw [← hlp533] at H
  refine x_seq ?_
  refine wpIn_region_lit ?_
  refine x_run tab hk (k := 1) (lv := []) (ks := [0, 3, 6, 7, 8]) (e' := [(0, .string p0), (3, .pointer (some ⟨bx4, 0, none⟩)), (6, .int .i64 ((p0).size : Int)), (7, .int .i64 x434), (8, .bool (decide (x434 < ((p0).size : Int))))]) rfl trivial fun a hk => ?_
  refine wpListIn_nil ?_
  refine then_n ?_
  refine x_seq ?_
  cases b534 : (decide (x434 < ((p0).size : Int)))
  · rw [b534] at hk H
    replace H := bifF H
    refine x_if hk (b := false) rfl ?_
    refine (show Code.wpIn _ _ _ _ _ _ _ from ?_)
    refine wpIn_exit ?_
    refine then_x ?_
    refine then_x ?_
    refine blk_x ?_
    refine then_n ?_
    exact ⟨(fun b_ => (fun l_ => if l_ = 17 then 10 else if l_ = 18 then 11 else l_) (o428 b_)), A429, c430, l431, (by exact Kn.pick (ks := [3]) hk rfl), (hs.relab0 (fun l_ => if l_ = 17 then 10 else if l_ = 18 then 11 else l_) rfl), (f432.relab (fun l_ => if l_ = 17 then 10 else if l_ = 18 then 11 else l_) rfl), (f5.relab (fun l_ => if l_ = 17 then 10 else if l_ = 18 then 11 else l_) rfl), hc433, H⟩
  · rw [b534] at hk H
    replace H := bifT H
    refine x_if hk (b := true) rfl ?_
    refine (show Code.wpIn _ _ _ _ _ _ _ from ?_)
    refine wpIn_skip ?_
    refine then_n ?_
    refine x_seq ?_
    refine wpIn_block ?_
    refine x_seq ?_
    refine wpIn_region_lit ?_
    refine x_run tab hk (k := 2) (lv := []) (ks := [0, 3, 4, 6, 7]) (e' := [(0, .string p0), (3, .pointer (some ⟨bx4, 0, none⟩)), (4, .int .i64 x434), (6, .int .i64 ((p0).size : Int)), (7, .int .i64 x434)]) rfl trivial fun a hk => ?_
    refine wpListIn_nil ?_
    refine then_n ?_
    refine x_seq ?_
    refine wpIn_region_lit ?_
    obtain ⟨q535, H⟩ := ifS H
    refine x_run tab hk (k := 3) (lv := []) (ks := [0, 3, 4, 6, 7, 12]) (e' := [(0, .string p0), (3, .pointer (some ⟨bx4, 0, none⟩)), (4, .int .i64 x434), (6, .int .i64 ((p0).size : Int)), (7, .int .i64 x434), (12, .int .u8 (bt p0 x434))]) rfl ⟨q535, trivial⟩ fun a hk => ?_
    refine x_op hk rfl ?_
    obtain ⟨t539, hc540, H⟩ := bindS H
    refine op_call hk ent_33 (vs := [.int .u8 (bt p0 x434)]) rfl (line_plain_calls (bt p0 x434) _ o428    _ hc540) ?_
    rintro _ w541 ⟨o542, rfl, st543⟩
    replace f432 := f432.st st543 (by decide)
    replace f5 := f5.st st543 (by decide)
    replace hs := hs.loc0 st543 (by decide)
    have hk := hk.put 13 (.bool t539) rfl
    refine wpListIn_nil ?_
    refine then_n ?_
    cases b544 : t539
    · rw [b544] at hk H
      replace H := bifF H
      refine x_if hk (b := false) rfl ?_
      refine (show Code.wpIn _ _ _ _ _ _ _ from ?_)
      refine xd_begin (o := o542) (fun W_ => True) mixed rfl rfl fun w591 st592 => ?_
      replace f432 := f432.st st592 (by decide)
      replace f5 := f5.st st592 (by decide)
      replace hs := hs.loc0 st592 (by decide)
      refine xd_take tab hk (k := 17) (is := [0, 1, 2, 3, 4, 5]) (ls' := #[true, true, true, true, true, true, false, false, false, false, false, false, false, false, false, false, false, false, false, false, false, false, false]) (lv := []) (ks := [0, 3, 4, 6, 7, 21, 22, 23]) (e' := [(0, .string p0), (3, .pointer (some ⟨bx4, 0, none⟩)), (4, .int .i64 x434), (6, .int .i64 ((p0).size : Int)), (7, .int .i64 x434), (21, .int .u8 (Int.fdiv (bt p0 x434) (2 ^ min (Int.toNat 4) 8))), (22, .string p0), (23, .int .i64 x434)]) (by kernel_rfl) rfl rfl (by kernel_rfl) (np_blk (np_then (np_then (np_blk (np_then np_body))))) trivial (fun W_ hS => ⟨q535, (show 0 ≤ (4 : Int) from by decide), trivial⟩) fun a hk => ?_
      obtain ⟨q593, H⟩ := ifS H
      obtain ⟨q594, H⟩ := ifS H
      obtain ⟨q595, H⟩ := ifS H
      obtain ⟨q596, H⟩ := ifS H
      obtain ⟨q597, H⟩ := ifS H
      refine xd_take tab hk (k := 11) (is := [6, 7, 8, 9, 10, 11]) (ls' := #[true, true, true, true, true, true, true, true, true, true, true, true, false, false, false, false, false, false, false, false, false, false, false]) (lv := []) (ks := [0, 3, 4, 6, 7, 28, 29]) (e' := [(0, .string p0), (3, .pointer (some ⟨bx4, 0, none⟩)), (4, .int .i64 x434), (6, .int .i64 ((p0).size : Int)), (7, .int .i64 x434), (28, .string ((⟨#[37]⟩ : ByteArray) ++ (ByteArray.extract (⟨#[48, 49, 50, 51, 52, 53, 54, 55, 56, 57, 65, 66, 67, 68, 69, 70]⟩ : ByteArray) (Int.toNat (Int.fdiv (bt p0 x434) (2 ^ min (Int.toNat 4) 8))) (Int.toNat (IntKind.wrap .u8 ((Int.fdiv (bt p0 x434) (2 ^ min (Int.toNat 4) 8)) + 1)))))), (29, .string p0)]) (by kernel_rfl) rfl rfl (by kernel_rfl) (np_blk (np_then (np_then (np_blk (np_then np_body))))) trivial (fun W_ hS => ⟨q535, (show 0 ≤ (4 : Int) from by decide), q593, q594, q595, q596, q597, trivial⟩) fun a hk => ?_
      refine xd_take tab hk (k := 5) (is := [12, 13, 14, 15, 16, 17]) (ls' := #[true, true, true, true, true, true, true, true, true, true, true, true, true, true, true, true, true, true, false, false, false, false, false]) (lv := []) (ks := [0, 3, 6, 7, 28, 32, 35]) (e' := [(0, .string p0), (3, .pointer (some ⟨bx4, 0, none⟩)), (6, .int .i64 ((p0).size : Int)), (7, .int .i64 x434), (28, .string ((⟨#[37]⟩ : ByteArray) ++ (ByteArray.extract (⟨#[48, 49, 50, 51, 52, 53, 54, 55, 56, 57, 65, 66, 67, 68, 69, 70]⟩ : ByteArray) (Int.toNat (Int.fdiv (bt p0 x434) (2 ^ min (Int.toNat 4) 8))) (Int.toNat (IntKind.wrap .u8 ((Int.fdiv (bt p0 x434) (2 ^ min (Int.toNat 4) 8)) + 1)))))), (32, .int .u8 (bits .and .u8 (bt p0 x434) 15)), (35, .int .u8 (bt p0 x434))]) (by kernel_rfl) rfl rfl (by kernel_rfl) (np_blk (np_then (np_then (np_blk (np_then np_body))))) trivial (fun W_ hS => ⟨q535, q535, trivial⟩) fun a hk => ?_
      obtain ⟨q598, H⟩ := ifS H
      obtain ⟨q599, H⟩ := ifS H
      obtain ⟨q600, H⟩ := ifS H
      obtain ⟨q601, H⟩ := ifS H
      obtain ⟨q602, H⟩ := ifS H
      refine xd_take tab hk (k := 1) (is := [18, 19, 20, 21]) (ls' := #[true, true, true, true, true, true, true, true, true, true, true, true, true, true, true, true, true, true, true, true, true, true, false]) (lv := []) (ks := [0, 3, 6, 7, 39]) (e' := [(0, .string p0), (3, .pointer (some ⟨bx4, 0, none⟩)), (6, .int .i64 ((p0).size : Int)), (7, .int .i64 x434), (39, .string (((⟨#[37]⟩ : ByteArray) ++ (ByteArray.extract (⟨#[48, 49, 50, 51, 52, 53, 54, 55, 56, 57, 65, 66, 67, 68, 69, 70]⟩ : ByteArray) (Int.toNat (Int.fdiv (bt p0 x434) (2 ^ min (Int.toNat 4) 8))) (Int.toNat (IntKind.wrap .u8 ((Int.fdiv (bt p0 x434) (2 ^ min (Int.toNat 4) 8)) + 1))))) ++ (ByteArray.extract (⟨#[48, 49, 50, 51, 52, 53, 54, 55, 56, 57, 65, 66, 67, 68, 69, 70]⟩ : ByteArray) (Int.toNat (bits .and .u8 (bt p0 x434) 15)) (Int.toNat (IntKind.wrap .u8 ((bits .and .u8 (bt p0 x434) 15) + 1))))))]) (by kernel_rfl) rfl rfl (by kernel_rfl) (np_blk (np_then (np_then (np_blk (np_then np_body))))) trivial (fun W_ hS => ⟨q598, q599, q600, q601, q602, trivial⟩) fun a hk => ?_
      refine xd_op hk (i := 22) (by kernel_rfl) rfl rfl ?_
      obtain ⟨t606, hc607, H⟩ := bindS H
      refine op_call hk ent_35 (vs := [.pointer (some ⟨bx4, 0, none⟩), .string (((⟨#[37]⟩ : ByteArray) ++ (ByteArray.extract (⟨#[48, 49, 50, 51, 52, 53, 54, 55, 56, 57, 65, 66, 67, 68, 69, 70]⟩ : ByteArray) (Int.toNat (Int.fdiv (bt p0 x434) (2 ^ min (Int.toNat 4) 8))) (Int.toNat (IntKind.wrap .u8 ((Int.fdiv (bt p0 x434) (2 ^ min (Int.toNat 4) 8)) + 1))))) ++ (ByteArray.extract (⟨#[48, 49, 50, 51, 52, 53, 54, 55, 56, 57, 65, 66, 67, 68, 69, 70]⟩ : ByteArray) (Int.toNat (bits .and .u8 (bt p0 x434) 15)) (Int.toNat (IntKind.wrap .u8 ((bits .and .u8 (bt p0 x434) 15) + 1)))))]) rfl (strings_Builder_WriteString_calls bx4 A429 c430 (⟨l431⟩ : T71) (((⟨#[37]⟩ : ByteArray) ++ (ByteArray.extract (⟨#[48, 49, 50, 51, 52, 53, 54, 55, 56, 57, 65, 66, 67, 68, 69, 70]⟩ : ByteArray) (Int.toNat (Int.fdiv (bt p0 x434) (2 ^ min (Int.toNat 4) 8))) (Int.toNat (IntKind.wrap .u8 ((Int.fdiv (bt p0 x434) (2 ^ min (Int.toNat 4) 8)) + 1))))) ++ (ByteArray.extract (⟨#[48, 49, 50, 51, 52, 53, 54, 55, 56, 57, 65, 66, 67, 68, 69, 70]⟩ : ByteArray) (Int.toNat (bits .and .u8 (bt p0 x434) 15)) (Int.toNat (IntKind.wrap .u8 ((bits .and .u8 (bt p0 x434) 15) + 1))))) _ o542 18 f5 17 f432 hc433 (by decide)   _ hc607) ?_
      rintro _ w608 ⟨o609, A612, c613, rfl, st610, f611, f614, hc615⟩
      replace hs := hs.loc0 st610 (by decide)
      have hk := hk.put 40 (.tuple #[.int .i64 t606.1, .nilIface]) rfl
      refine ⟨.inr trivial, ?_⟩
      refine xd_done (by kernel_rfl) ?_
      refine blk_n ?_
      refine then_n ?_
      refine wpIn_region_lit ?_
      refine x_run tab hk (k := 2) (lv := []) (ks := [0, 3, 6, 7]) (e' := [(0, .string p0), (3, .pointer (some ⟨bx4, 0, none⟩)), (6, .int .i64 ((p0).size : Int)), (7, .int .i64 (IntKind.wrap .i64 (x434 + 1)))]) rfl trivial fun a hk => ?_
      refine wpListIn_nil ?_
      refine then_n ?_
      exact ⟨k531, Nat.le_refl _, o609, A612, c613, t606.2.buf, (IntKind.wrap .i64 (x434 + 1)), (by exact Kn.pick (ks := [0, 3, 6, 7]) hk rfl), hs, f614, f611, hc615, (hlp533 ▸ H)⟩
    · rw [b544] at hk H
      replace H := bifT H
      refine x_if hk (b := true) rfl ?_
      refine (show Code.wpIn _ _ _ _ _ _ _ from ?_)
      refine wpIn_region_lit ?_
      refine x_run tab hk (k := 3) (lv := []) (ks := [0, 3, 6, 7, 16]) (e' := [(0, .string p0), (3, .pointer (some ⟨bx4, 0, none⟩)), (6, .int .i64 ((p0).size : Int)), (7, .int .i64 x434), (16, .int .u8 (bt p0 x434))]) rfl ⟨q535, trivial⟩ fun a hk => ?_
      refine x_op hk rfl ?_
      obtain ⟨t619, hc620, H⟩ := bindS H
      refine op_call hk ent_34 (vs := [.pointer (some ⟨bx4, 0, none⟩), .int .u8 (bt p0 x434)]) rfl (strings_Builder_WriteByte_calls bx4 A429 c430 (⟨l431⟩ : T71) (bt p0 x434) _ o542 18 f5 17 f432 hc433 (by decide)   _ hc620) ?_
      rintro _ w621 ⟨o622, A625, c626, rfl, st623, f624, f627, hc628⟩
      replace hs := hs.loc0 st623 (by decide)
      have hk := hk.put 17 (.nilIface) rfl
      refine wpListIn_nil ?_
      refine blk_n ?_
      refine then_n ?_
      refine wpIn_region_lit ?_
      refine x_run tab hk (k := 2) (lv := []) (ks := [0, 3, 6, 7]) (e' := [(0, .string p0), (3, .pointer (some ⟨bx4, 0, none⟩)), (6, .int .i64 ((p0).size : Int)), (7, .int .i64 (IntKind.wrap .i64 (x434 + 1)))]) rfl trivial fun a hk => ?_
      refine wpListIn_nil ?_
      refine then_n ?_
      exact ⟨k531, Nat.le_refl _, o622, A625, c626, t619.buf, (IntKind.wrap .i64 (x434 + 1)), (by exact Kn.pick (ks := [0, 3, 6, 7]) hk rfl), hs, f627, f624, hc628, (hlp533 ▸ H)⟩

/-! tidewrack/line.read -/
set_option maxHeartbeats 4000000 in
set_option maxRecDepth 20000 in
theorem line_read_calls (K : Nat) (p0 : ByteArray) (w : World) (o : Nat → Nat)   (r : ByteArray × Bool) (H : line_read K p0 = some r) :
    Calls Tryd.prog 20 #[.string p0] w (Ret fun v_ w' => ∃ o' : Nat → Nat, v_ = .tuple #[.string r.1, .bool r.2] ∧ St [] w o w' o') := by
  refine x_enter (vs := [.string p0]) Tryd.func20 rfl rfl rfl fun a hk => ?_
  obtain ⟨o0, hs, h0⟩ := St.start w o
  clear h0
  rw [line_read] at H
  refine x_seq ?_
  refine wpIn_region_lit ?_
  refine x_run tab hk (k := 2) (lv := []) (ks := [0]) (e' := [(0, .string p0)]) rfl trivial fun a hk => ?_
  refine wpListIn_nil ?_
  refine then_n ?_
  refine x_seq ?_
  refine wpIn_region_lit ?_
  refine x_run tab hk (k := 1) (lv := []) (ks := [0, 4]) (e' := [(0, .string p0), (4, .slice none 0 0)]) rfl trivial fun a hk => ?_
  refine wpListIn_nil ?_
  refine then_n ?_
  refine x_mid (fun a_ w_ => ∃ o376 : Nat → Nat, ∃ A377 : Option Addr, ∃ c378 : Nat, ∃ l379 : List Int, Kn 63 a_ [(0, .string p0), (4, .slice A377 (l379).length c378)] ∧ St [] w (fun _ => 0) w_ o376 ∧ Ft (Own (encInt .u8) 5 (.slice A377 (l379).length c378) l379) w_ o376 17 ∧ (l379).length ≤ c378 ∧ line_read_j1 K p0 l379 = some r) ?_ ?_
  rotate_left
  · rintro a w382 ⟨o376, A377, c378, l379, hk, hs, f380, hc381, H⟩
    unfold line_read_j1 at H
    refine x_seq ?_
    refine wpIn_region_lit ?_
    refine x_run tab hk (k := 3) (lv := [.string (strOfNums l379)]) (ks := [0, 8]) (e' := [(0, .string p0), (8, .string (strOfNums l379))]) rfl ⟨(ask_str tab rfl rfl rfl rfl (Own.rd f380.now) (Own.plain f380.now _ _ _ rfl)), trivial⟩ fun a hk => ?_
    refine wpListIn_nil ?_
    refine then_n ?_
    refine x_seq ?_
    refine wpIn_region_lit ?_
    refine x_run tab hk (k := 2) (lv := []) (ks := [0, 58, 59]) (e' := [(0, .string p0), (58, .string (strOfNums l379)), (59, .string (strOfNums l379))]) rfl trivial fun a hk => ?_
    refine x_op hk rfl ?_
    obtain ⟨t386, hc387, H⟩ := bindS H
    refine op_call hk ent_23 (vs := [.string (strOfNums l379)]) rfl (line_write_calls K (strOfNums l379) _ o376    _ hc387) ?_
    rintro _ w388 ⟨o389, rfl, st390⟩
    replace hs := hs.loc0 st390 (by decide)
    have hk := hk.put 60 (.string t386) rfl
    refine x_run tab hk (k := 4) (lv := []) (ks := [2, 3]) (e' := [(2, .string (strOfNums l379)), (3, .bool (ByteArray.toList t386 == ByteArray.toList p0))]) rfl trivial fun a hk => ?_
    refine wpListIn_nil ?_
    refine then_n ?_
    refine wpIn_ret ?_
    obtain rfl := Option.some.inj H
    exact x_retG hk (rs := [.tmp 2, .tmp 3]) (vs := [.string (strOfNums l379), .bool (ByteArray.toList t386 == ByteArray.toList p0)]) rfl ⟨rfl, rfl, trivial⟩ ⟨fun b_ => if b_ < w.heap.size then o b_ else (fun _ => 0) (o389 b_), rfl, hs.close0 o (fun _ => 0)⟩
  refine x_seq ?_
  refine wpIn_region_lit ?_
  refine x_run tab hk (k := 1) (lv := []) (ks := [0, 4, 5]) (e' := [(0, .string p0), (4, .slice none 0 0), (5, .int .i64 0)]) rfl trivial fun a hk => ?_
  refine wpListIn_nil ?_
  refine then_n ?_
  refine wpIn_block ?_
  refine x_loop (fun j_ a_ w_ => ∃ o511 : Nat → Nat, ∃ A512 : Option Addr, ∃ c513 : Nat, ∃ l514 : List Int, ∃ x517 : Int, Kn 63 a_ [(0, .string p0), (4, .slice A512 (l514).length c513), (5, .int .i64 x517)] ∧ St [] w (fun _ => 0) w_ o511 ∧ Ft (Own (encInt .u8) 5 (.slice A512 (l514).length c513) l514) w_ o511 22 ∧ (l514).length ≤ c513 ∧ line_read_l2 K p0 j_ l514 x517 = some r) (k := K) ⟨o0, none, 0, ([] : List Int), 0, (by exact Kn.pick (ks := [0, 4, 5]) hk rfl), hs, (Ft.of_all (fun _ => Own.nil _ _ _) _ _ _), (by simp), H⟩ (by rintro _ _ ⟨_, _, _, _, _, _, _, _, _, H_⟩; exact absurd (show (none : Option (ByteArray × Bool)) = some r from H_) (by simp)) ?_
  rintro k636 a w635 ⟨o511, A512, c513, l514, x517, hk, hs, f515, hc516, H⟩
  rw [line_read_l2] at H
  obtain ⟨lp637, hlp638⟩ : ∃ lp_, lp_ = line_read_l2 K p0 k636 := ⟨_, rfl⟩
  rw [← hlp638] at H
  refine x_seq ?_
  refine x_seq ?_
  refine wpIn_region_lit ?_
  refine x_run tab hk (k := 4) (lv := []) (ks := [0, 4, 5, 12]) (e' := [(0, .string p0), (4, .slice A512 (l514).length c513), (5, .int .i64 x517), (12, .bool (decide (x517 < ((p0).size : Int))))]) rfl trivial fun a hk => ?_
  refine wpListIn_nil ?_
  refine then_n ?_
  cases b639 : (decide (x517 < ((p0).size : Int)))
  · rw [b639] at hk H
    replace H := bifF H
    refine x_if hk (b := false) rfl ?_
    refine (show Code.wpIn _ _ _ _ _ _ _ from ?_)
    refine wpIn_exit ?_
    refine then_x ?_
    refine then_x ?_
    refine blk_x ?_
    refine then_n ?_
    exact ⟨(fun b_ => (fun l_ => if l_ = 22 then 17 else l_) (o511 b_)), A512, c513, l514, (by exact Kn.pick (ks := [0, 4]) hk rfl), (hs.relab0 (fun l_ => if l_ = 22 then 17 else l_) rfl), (f515.relab (fun l_ => if l_ = 22 then 17 else l_) rfl), hc516, H⟩
  · rw [b639] at hk H
    replace H := bifT H
    refine x_if hk (b := true) rfl ?_
    refine (show Code.wpIn _ _ _ _ _ _ _ from ?_)
    refine wpIn_skip ?_
    refine then_n ?_
    refine x_seq ?_
    refine wpIn_block ?_
    refine x_seq ?_
    refine x_seq ?_
    refine wpIn_region_lit ?_
    obtain ⟨q640, H⟩ := ifS H
    refine x_run tab hk (k := 4) (lv := []) (ks := [0, 4, 5, 18]) (e' := [(0, .string p0), (4, .slice A512 (l514).length c513), (5, .int .i64 x517), (18, .bool ((bt p0 x517) != (37 : Int)))]) rfl ⟨q640, trivial⟩ fun a hk => ?_
    refine wpListIn_nil ?_
    refine then_n ?_
    cases b641 : ((bt p0 x517) != (37 : Int))
    · rw [b641] at hk H
      replace H := bifF H
      refine x_if hk (b := false) rfl ?_
      refine (show Code.wpIn _ _ _ _ _ _ _ from ?_)
      refine wpIn_skip ?_
      refine then_n ?_
      refine x_seq ?_
      refine x_seq ?_
      refine wpIn_region_lit ?_
      refine x_run tab hk (k := 5) (lv := []) (ks := [0, 4, 5, 29]) (e' := [(0, .string p0), (4, .slice A512 (l514).length c513), (5, .int .i64 x517), (29, .bool (decide ((IntKind.wrap .i64 (x517 + 2)) ≥ ((p0).size : Int))))]) rfl trivial fun a hk => ?_
      refine wpListIn_nil ?_
      refine then_n ?_
      cases b642 : (decide ((IntKind.wrap .i64 (x517 + 2)) ≥ ((p0).size : Int)))
      · rw [b642] at hk H
        replace H := bifF H
        refine x_if hk (b := false) rfl ?_
        refine (show Code.wpIn _ _ _ _ _ _ _ from ?_)
        refine wpIn_skip ?_
        refine then_n ?_
        refine x_seq ?_
        refine xd_begin (o := o511) (fun W_ => True) mixed rfl rfl fun w679 st680 => ?_
        replace f515 := f515.st st680 (by decide)
        replace hs := hs.loc0 st680 (by decide)
        obtain ⟨q681, H⟩ := ifS H
        refine xd_take tab hk (k := 6) (is := [0, 1, 2, 3, 5, 6]) (ls' := #[true, true, true, true, false, true, true, false, false, false, false, false]) (lv := []) (ks := [0, 4, 5, 33, 35, 36]) (e' := [(0, .string p0), (4, .slice A512 (l514).length c513), (5, .int .i64 x517), (33, .int .u8 (bt p0 (IntKind.wrap .i64 (x517 + 1)))), (35, .string p0), (36, .int .i64 x517)]) (by kernel_rfl) rfl rfl (by kernel_rfl) (np_then (np_blk (np_then (np_then (np_blk (np_then np_body)))))) trivial (fun W_ hS => ⟨q681, trivial⟩) fun a hk => ?_
        obtain ⟨q682, H⟩ := ifS H
        refine xd_take tab hk (k := 4) (is := [7, 8]) (ls' := #[true, true, true, true, false, true, true, true, true, false, false, false]) (lv := []) (ks := [0, 4, 5, 33, 38]) (e' := [(0, .string p0), (4, .slice A512 (l514).length c513), (5, .int .i64 x517), (33, .int .u8 (bt p0 (IntKind.wrap .i64 (x517 + 1)))), (38, .int .u8 (bt p0 (IntKind.wrap .i64 (x517 + 2))))]) (by kernel_rfl) rfl rfl (by kernel_rfl) (np_then (np_blk (np_then (np_then (np_blk (np_then np_body)))))) trivial (fun W_ hS => ⟨q682, trivial⟩) fun a hk => ?_
        refine xd_op hk (i := 4) (by kernel_rfl) rfl rfl ?_
        obtain ⟨t686, hc687, H⟩ := bindS H
        refine op_call hk ent_31 (vs := [.string (⟨#[48, 49, 50, 51, 52, 53, 54, 55, 56, 57, 65, 66, 67, 68, 69, 70]⟩ : ByteArray), .int .u8 (bt p0 (IntKind.wrap .i64 (x517 + 1)))]) rfl (strings_IndexByte_calls (⟨#[48, 49, 50, 51, 52, 53, 54, 55, 56, 57, 65, 66, 67, 68, 69, 70]⟩ : ByteArray) (bt p0 (IntKind.wrap .i64 (x517 + 1))) _ o511    _ hc687) ?_
        rintro _ w688 ⟨o689, rfl, st690⟩
        replace f515 := f515.st st690 (by decide)
        replace hs := hs.loc0 st690 (by decide)
        have hk := hk.put 34 (.int .i64 t686) rfl
        refine ⟨.inr trivial, ?_⟩
        refine xd_op hk (i := 9) (by kernel_rfl) rfl rfl ?_
        obtain ⟨t694, hc695, H⟩ := bindS H
        refine op_call hk ent_31 (vs := [.string (⟨#[48, 49, 50, 51, 52, 53, 54, 55, 56, 57, 65, 66, 67, 68, 69, 70]⟩ : ByteArray), .int .u8 (bt p0 (IntKind.wrap .i64 (x517 + 2)))]) rfl (strings_IndexByte_calls (⟨#[48, 49, 50, 51, 52, 53, 54, 55, 56, 57, 65, 66, 67, 68, 69, 70]⟩ : ByteArray) (bt p0 (IntKind.wrap .i64 (x517 + 2))) _ o689    _ hc695) ?_
        rintro _ w696 ⟨o697, rfl, st698⟩
        replace f515 := f515.st st698 (by decide)
        replace hs := hs.loc0 st698 (by decide)
        have hk := hk.put 39 (.int .i64 t694) rfl
        refine ⟨.inr trivial, ?_⟩
        refine xd_take tab hk (k := 0) (is := [10, 11]) (ls' := #[true, true, true, true, true, true, true, true, true, true, true, true]) (lv := []) (ks := [0, 4, 5, 6, 7]) (e' := [(0, .string p0), (4, .slice A512 (l514).length c513), (5, .int .i64 x517), (6, .int .i64 t686), (7, .int .i64 t694)]) (by kernel_rfl) rfl rfl (by kernel_rfl) (np_then (np_blk (np_then (np_then (np_blk (np_then np_body)))))) trivial (fun W_ hS => trivial) fun a hk => ?_
        refine xd_done (by kernel_rfl) ?_
        refine then_n ?_
        refine x_mid (fun a_ w_ => ∃ o714 : Nat → Nat, Kn 63 a_ [(0, .string p0), (4, .slice A512 (l514).length c513), (5, .int .i64 x517), (6, .int .i64 t686), (7, .int .i64 t694)] ∧ St [] w (fun _ => 0) w_ o714 ∧ Ft (Own (encInt .u8) 5 (.slice A512 (l514).length c513) l514) w_ o714 29 ∧ line_read_j3 l514 x517 lp637 t686 t694 = some r) ?_ ?_
        rotate_left
        · rintro a w715 ⟨o714, hk, hs, f515, H⟩
          unfold line_read_j3 at H
          refine x_seq ?_
          refine wpIn_region_lit ?_
          refine x_run tab hk (k := 6) (lv := []) (ks := [0, 5, 46, 51]) (e' := [(0, .string p0), (5, .int .i64 x517), (46, .slice A512 (l514).length c513), (51, .int .u8 (IntKind.wrap .u8 (bits .or .i64 (IntKind.wrap .i64 (t686 * 2 ^ min (Int.toNat 4) 64)) t694)))]) rfl ⟨(show 0 ≤ (4 : Int) from by decide), trivial⟩ fun a hk => ?_
          refine x_op hk rfl ?_
          refine op_slice (o := o714) tab hk (vs := [.int .u8 (IntKind.wrap .u8 (bits .or .i64 (IntKind.wrap .i64 (t686 * 2 ^ min (Int.toNat 4) 64)) t694))]) (cs := [.int .u8 (IntKind.wrap .u8 (bits .or .i64 (IntKind.wrap .i64 (t686 * 2 ^ min (Int.toNat 4) 64)) t694))]) rfl rfl rfl rfl rfl rfl rfl rfl rfl 30 fun bx719 w716 o717 st718 f720 => ?_
          replace f515 := f515.st st718 (by decide)
          replace hs := hs.loc0 st718 (by decide)
          have f721 : Ft (Own (encInt .u8) 5 (.slice (some ⟨bx719, 0, none⟩) (([(IntKind.wrap .u8 (bits .or .i64 (IntKind.wrap .i64 (t686 * 2 ^ min (Int.toNat 4) 64)) t694))] : List Int)).length 1) ([(IntKind.wrap .u8 (bits .or .i64 (IntKind.wrap .i64 (t686 * 2 ^ min (Int.toNat 4) 64)) t694))] : List Int)) w716 o717 30 := f720.imp fun _ h_ => Own.of_box h_ rfl (by simp)
          have hk := hk.put 52 (.slice (some ⟨bx719, 0, none⟩) (([(IntKind.wrap .u8 (bits .or .i64 (IntKind.wrap .i64 (t686 * 2 ^ min (Int.toNat 4) 64)) t694))] : List Int)).length 1) rfl
          refine x_op hk rfl ?_
          obtain ⟨q725, H⟩ := ifS H
          refine op_append (o := o717) (E := (encInt .u8)) (xs := l514) (ys := ([(IntKind.wrap .u8 (bits .or .i64 (IntKind.wrap .i64 (t686 * 2 ^ min (Int.toNat 4) 64)) t694))] : List Int)) tab hk rfl rfl rfl rfl rfl rfl rfl f515 (Own.rd f721.now) q725 fun A726 c727 w722 o723 st724 f728 hc729 => ?_
          replace f721 := f721.st st724 (by decide)
          replace hs := hs.loc0 st724 (by decide)
          have hk := hk.put 53 (.slice A726 ((l514 ++ ([(IntKind.wrap .u8 (bits .or .i64 (IntKind.wrap .i64 (t686 * 2 ^ min (Int.toNat 4) 64)) t694))] : List Int))).length c727) rfl
          refine x_run tab hk (k := 1) (lv := []) (ks := [0, 4, 5]) (e' := [(0, .string p0), (4, .slice A726 ((l514 ++ ([(IntKind.wrap .u8 (bits .or .i64 (IntKind.wrap .i64 (t686 * 2 ^ min (Int.toNat 4) 64)) t694))] : List Int))).length c727), (5, .int .i64 x517)]) rfl trivial fun a hk => ?_
          refine wpListIn_nil ?_
          refine then_n ?_
          refine wpIn_region_lit ?_
          refine x_run tab hk (k := 3) (lv := []) (ks := [0, 4, 5]) (e' := [(0, .string p0), (4, .slice A726 ((l514 ++ ([(IntKind.wrap .u8 (bits .or .i64 (IntKind.wrap .i64 (t686 * 2 ^ min (Int.toNat 4) 64)) t694))] : List Int))).length c727), (5, .int .i64 (IntKind.wrap .i64 (x517 + 2)))]) rfl trivial fun a hk => ?_
          refine wpListIn_nil ?_
          refine blk_n ?_
          refine then_n ?_
          refine wpIn_region_lit ?_
          refine x_run tab hk (k := 3) (lv := []) (ks := [0, 4, 5]) (e' := [(0, .string p0), (4, .slice A726 ((l514 ++ ([(IntKind.wrap .u8 (bits .or .i64 (IntKind.wrap .i64 (t686 * 2 ^ min (Int.toNat 4) 64)) t694))] : List Int))).length c727), (5, .int .i64 (IntKind.wrap .i64 ((IntKind.wrap .i64 (x517 + 2)) + 1)))]) rfl trivial fun a hk => ?_
          refine wpListIn_nil ?_
          refine then_n ?_
          exact ⟨k636, Nat.le_refl _, (fun b_ => (fun l_ => if l_ = 29 then 22 else l_) (o723 b_)), A726, c727, (l514 ++ ([(IntKind.wrap .u8 (bits .or .i64 (IntKind.wrap .i64 (t686 * 2 ^ min (Int.toNat 4) 64)) t694))] : List Int)), (IntKind.wrap .i64 ((IntKind.wrap .i64 (x517 + 2)) + 1)), (by exact Kn.pick (ks := [0, 4, 5]) hk rfl), (hs.relab0 (fun l_ => if l_ = 29 then 22 else l_) rfl), (f728.relab (fun l_ => if l_ = 29 then 22 else l_) rfl), hc729, (hlp638 ▸ H)⟩
        refine x_mid (fun a_ w_ => ∃ o737 : Nat → Nat, ∃ x738 : Bool, Kn 63 a_ [(0, .string p0), (4, .slice A512 (l514).length c513), (5, .int .i64 x517), (6, .int .i64 t686), (7, .int .i64 t694), (45, .bool x738)] ∧ St [] w (fun _ => 0) w_ o737 ∧ Ft (Own (encInt .u8) 5 (.slice A512 (l514).length c513) l514) w_ o737 31 ∧ line_read_j4 l514 x517 lp637 t686 t694 x738 = some r) ?_ ?_
        rotate_left
        · rintro a w739 ⟨o737, x738, hk, hs, f515, H⟩
          unfold line_read_j4 at H
          cases b740 : x738
          · rw [b740] at hk H
            replace H := bifF H
            refine x_if hk (b := false) rfl ?_
            refine (show Code.wpIn _ _ _ _ _ _ _ from ?_)
            refine wpIn_skip ?_
            refine then_n ?_
            exact ⟨(fun b_ => (fun l_ => if l_ = 31 then 29 else l_) (o737 b_)), (by exact Kn.pick (ks := [0, 4, 5, 6, 7]) hk rfl), (hs.relab0 (fun l_ => if l_ = 31 then 29 else l_) rfl), (f515.relab (fun l_ => if l_ = 31 then 29 else l_) rfl), H⟩
          · rw [b740] at hk H
            replace H := bifT H
            refine x_if hk (b := true) rfl ?_
            refine (show Code.wpIn _ _ _ _ _ _ _ from ?_)
            refine x_seq ?_
            refine wpIn_region_lit ?_
            refine x_run tab hk (k := 2) (lv := []) (ks := [2, 3]) (e' := [(2, .string (⟨#[]⟩ : ByteArray)), (3, .bool false)]) rfl trivial fun a hk => ?_
            refine wpListIn_nil ?_
            refine then_n ?_
            refine wpIn_ret ?_
            refine then_r ?_
            refine blk_r ?_
            refine then_r ?_
            refine then_r ?_
            refine blk_r ?_
            refine then_r ?_
            obtain rfl := Option.some.inj H
            exact x_retG hk (rs := [.tmp 2, .tmp 3]) (vs := [.string (⟨#[]⟩ : ByteArray), .bool false]) rfl ⟨rfl, rfl, trivial⟩ ⟨fun b_ => if b_ < w.heap.size then o b_ else (fun _ => 0) (o737 b_), rfl, hs.close0 o (fun _ => 0)⟩
        refine wpIn_region_lit ?_
        refine x_run tab hk (k := 3) (lv := []) (ks := [0, 4, 5, 6, 7, 42]) (e' := [(0, .string p0), (4, .slice A512 (l514).length c513), (5, .int .i64 x517), (6, .int .i64 t686), (7, .int .i64 t694), (42, .bool (decide (t686 < (0 : Int))))]) rfl trivial fun a hk => ?_
        cases b741 : (decide (t686 < (0 : Int)))
        · rw [b741] at hk H
          replace H := bifF H
          refine x_run tab hk (k := 3) (lv := []) (ks := [0, 4, 5, 6, 7, 45]) (e' := [(0, .string p0), (4, .slice A512 (l514).length c513), (5, .int .i64 x517), (6, .int .i64 t686), (7, .int .i64 t694), (45, .bool (decide (t694 < (0 : Int))))]) rfl trivial fun a hk => ?_
          refine wpListIn_nil ?_
          refine then_n ?_
          exact ⟨(fun b_ => (fun l_ => if l_ = 22 then 31 else l_) (o697 b_)), (decide (t694 < (0 : Int))), (by exact Kn.pick (ks := [0, 4, 5, 6, 7, 45]) hk rfl), (hs.relab0 (fun l_ => if l_ = 22 then 31 else l_) rfl), (f515.relab (fun l_ => if l_ = 22 then 31 else l_) rfl), H⟩
        · rw [b741] at hk H
          replace H := bifT H
          refine x_run tab hk (k := 3) (lv := []) (ks := [0, 4, 5, 6, 7, 45]) (e' := [(0, .string p0), (4, .slice A512 (l514).length c513), (5, .int .i64 x517), (6, .int .i64 t686), (7, .int .i64 t694), (45, .bool true)]) rfl trivial fun a hk => ?_
          refine wpListIn_nil ?_
          refine then_n ?_
          exact ⟨(fun b_ => (fun l_ => if l_ = 22 then 31 else l_) (o697 b_)), true, (by exact Kn.pick (ks := [0, 4, 5, 6, 7, 45]) hk rfl), (hs.relab0 (fun l_ => if l_ = 22 then 31 else l_) rfl), (f515.relab (fun l_ => if l_ = 22 then 31 else l_) rfl), H⟩
      · rw [b642] at hk H
        replace H := bifT H
        refine x_if hk (b := true) rfl ?_
        refine (show Code.wpIn _ _ _ _ _ _ _ from ?_)
        refine x_seq ?_
        refine wpIn_region_lit ?_
        refine x_run tab hk (k := 2) (lv := []) (ks := [2, 3]) (e' := [(2, .string (⟨#[]⟩ : ByteArray)), (3, .bool false)]) rfl trivial fun a hk => ?_
        refine wpListIn_nil ?_
        refine then_n ?_
        refine wpIn_ret ?_
        refine then_r ?_
        refine blk_r ?_
        refine then_r ?_
        refine then_r ?_
        refine blk_r ?_
        refine then_r ?_
        obtain rfl := Option.some.inj H
        exact x_retG hk (rs := [.tmp 2, .tmp 3]) (vs := [.string (⟨#[]⟩ : ByteArray), .bool false]) rfl ⟨rfl, rfl, trivial⟩ ⟨fun b_ => if b_ < w.heap.size then o b_ else (fun _ => 0) (o511 b_), rfl, hs.close0 o (fun _ => 0)⟩
    · rw [b641] at hk H
      replace H := bifT H
      refine x_if hk (b := true) rfl ?_
      refine (show Code.wpIn _ _ _ _ _ _ _ from ?_)
      refine x_seq ?_
      refine wpIn_region_lit ?_
      refine x_run tab hk (k := 4) (lv := []) (ks := [0, 5, 19, 22]) (e' := [(0, .string p0), (5, .int .i64 x517), (19, .slice A512 (l514).length c513), (22, .int .u8 (bt p0 x517))]) rfl ⟨q640, trivial⟩ fun a hk => ?_
      refine x_op hk rfl ?_
      refine op_slice (o := o511) tab hk (vs := [.int .u8 (bt p0 x517)]) (cs := [.int .u8 (bt p0 x517)]) rfl rfl rfl rfl rfl rfl rfl rfl rfl 32 fun bx745 w742 o743 st744 f746 => ?_
      replace f515 := f515.st st744 (by decide)
      replace hs := hs.loc0 st744 (by decide)
      have f747 : Ft (Own (encInt .u8) 5 (.slice (some ⟨bx745, 0, none⟩) (([(bt p0 x517)] : List Int)).length 1) ([(bt p0 x517)] : List Int)) w742 o743 32 := f746.imp fun _ h_ => Own.of_box h_ rfl (by simp)
      have hk := hk.put 23 (.slice (some ⟨bx745, 0, none⟩) (([(bt p0 x517)] : List Int)).length 1) rfl
      refine x_op hk rfl ?_
      obtain ⟨q751, H⟩ := ifS H
      refine op_append (o := o743) (E := (encInt .u8)) (xs := l514) (ys := ([(bt p0 x517)] : List Int)) tab hk rfl rfl rfl rfl rfl rfl rfl f515 (Own.rd f747.now) q751 fun A752 c753 w748 o749 st750 f754 hc755 => ?_
      replace f747 := f747.st st750 (by decide)
      replace hs := hs.loc0 st750 (by decide)
      have hk := hk.put 24 (.slice A752 ((l514 ++ ([(bt p0 x517)] : List Int))).length c753) rfl
      refine x_run tab hk (k := 1) (lv := []) (ks := [0, 4, 5]) (e' := [(0, .string p0), (4, .slice A752 ((l514 ++ ([(bt p0 x517)] : List Int))).length c753), (5, .int .i64 x517)]) rfl trivial fun a hk => ?_
      refine wpListIn_nil ?_
      refine then_n ?_
      refine wpIn_exit ?_
      refine then_x ?_
      refine blk_x ?_
      refine then_n ?_
      refine wpIn_region_lit ?_
      refine x_run tab hk (k := 3) (lv := []) (ks := [0, 4, 5]) (e' := [(0, .string p0), (4, .slice A752 ((l514 ++ ([(bt p0 x517)] : List Int))).length c753), (5, .int .i64 (IntKind.wrap .i64 (x517 + 1)))]) rfl trivial fun a hk => ?_
      refine wpListIn_nil ?_
      refine then_n ?_
      exact ⟨k636, Nat.le_refl _, o749, A752, c753, (l514 ++ ([(bt p0 x517)] : List Int)), (IntKind.wrap .i64 (x517 + 1)), (by exact Kn.pick (ks := [0, 4, 5]) hk rfl), hs, f754, hc755, (hlp638 ▸ H)⟩

/-! strings.Join -/
theorem strings_Join_calls (Ap0 : Option Addr) (cp0 : Nat) (p0 : List ByteArray) (p1 : ByteArray) (w : World) (o : Nat → Nat) (Lp0 : Nat) (hp0 : Ft (RdC encStr Ap0 p0) w o Lp0) (hcp0 : (p0).length ≤ cp0)  (r : ByteArray) (H : strings_Join p0 p1 = some r) :
    Calls Tryd.prog 24 #[.slice Ap0 (p0).length cp0, .string p1] w (Ret fun v_ w' => ∃ o' : Nat → Nat, v_ = .string r ∧ St [] w o w' o') := by
  unfold strings_Join at H; split at H
  · rename_i h; cases H
    refine join_calls hp0.now hcp0 (fun a c => Tryd.strings_Join_none a c p1 w) (fun bk o_ h1 h2 => Tryd.strings_Join bk o_ cp0 p0 p1 w h1 h2 h.1 hcp0 h.2)
  · cases H

/-! (tidewrack/line.Step).Line -/
set_option maxHeartbeats 4000000 in
set_option maxRecDepth 20000 in
theorem line_Step_Line_calls (K : Nat) (Ap0_0 : Option Addr) (cp0_0 : Nat) (p0 : T25) (w : World) (o : Nat → Nat) (Lg0 : Nat) (hg0 : Ft (RdC ET47 (some ⟨0, 0, none⟩) glob0) w o Lg0) (Lg4 : Nat) (hg4 : Ft (GTab Tryd.prog "internal/strconv.uint64pow10" .u64 Lib.pow10Tab) w o Lg4) (Lp0_0 : Nat) (hp0_0 : Ft (RdC (encInt .i64) Ap0_0 p0.Nums) w o Lp0_0) (hcp0_0 : (p0.Nums).length ≤ cp0_0)  (r : ByteArray) (H : line_Step_Line K p0 = some r) :
    Calls Tryd.prog 12 #[.agg #[.string p0.Word, .slice Ap0_0 (p0.Nums).length cp0_0, .string p0.Text]] w (Ret fun v_ w' => ∃ o' : Nat → Nat, v_ = .string r ∧ St [] w o w' o') := by
  refine x_enter (vs := [.agg #[.string p0.Word, .slice Ap0_0 (p0.Nums).length cp0_0, .string p0.Text]]) Tryd.func12 rfl rfl rfl fun a hk => ?_
  obtain ⟨o0, hs, h0⟩ := St.start w o
  have fg0 := h0 _ _ hg0
  have fg4 := h0 _ _ hg4
  have f900000 := h0 _ _ hp0_0
  clear h0
  rw [line_Step_Line] at H
  refine x_seq ?_
  refine wpIn_region_lit ?_
  refine x_op hk rfl ?_
  refine op_box (o := o0) (t := 26) (v := .agg #[.string p0.Word, .slice Ap0_0 (p0.Nums).length cp0_0, .string p0.Text]) (cs := [.string p0.Word, .slice Ap0_0 (p0.Nums).length cp0_0, .string p0.Text]) hk rfl rfl 1 fun bx4 w1 o2 st3 f5 => ?_
  replace f900000 := f900000.st st3 (by decide)
  replace fg0 := fg0.st st3 (by decide)
  replace fg4 := fg4.st st3 (by decide)
  replace hs := hs.loc0 st3 (by decide)
  have hk := hk.put 1 (.pointer (some ⟨bx4, 0, none⟩)) rfl
  refine x_run tab hk (k := 1) (lv := []) (ks := [1]) (e' := [(1, .pointer (some ⟨bx4, 0, none⟩))]) rfl trivial fun a hk => ?_
  refine wpListIn_nil ?_
  refine then_n ?_
  refine x_seq ?_
  refine wpIn_region_lit ?_
  refine x_run tab hk (k := 2) (lv := [.string p0.Word]) (ks := [1, 11]) (e' := [(1, .pointer (some ⟨bx4, 0, none⟩)), (11, .string p0.Word)]) rfl ⟨(load1 tab rfl ((Bx.cell f5.now 0).trans rfl)), trivial⟩ fun a hk => ?_
  refine x_op hk rfl ?_
  obtain ⟨t9, hc10, H⟩ := bindS H
  refine op_call hk ent_18 (vs := [.string p0.Word]) rfl (line_find_calls K p0.Word _ o2 0 fg0   _ hc10) ?_
  rintro _ w11 ⟨o12, rfl, st13⟩
  replace f5 := f5.st st13 (by decide)
  replace f900000 := f900000.st st13 (by decide)
  replace fg0 := fg0.st st13 (by decide)
  replace fg4 := fg4.st st13 (by decide)
  replace hs := hs.loc0 st13 (by decide)
  have hk := hk.put 12 (.tuple #[.agg #[.string t9.1.word, .int .i64 t9.1.nums, .bool t9.1.text], .bool t9.2]) rfl
  refine x_run tab hk (k := 3) (lv := []) (ks := [1, 13, 14]) (e' := [(1, .pointer (some ⟨bx4, 0, none⟩)), (13, .agg #[.string t9.1.word, .int .i64 t9.1.nums, .bool t9.1.text]), (14, .bool t9.2)]) rfl trivial fun a hk => ?_
  refine x_op hk rfl ?_
  refine op_alloc (o := o12) tab (t := 48) (cs := [.string (⟨#[]⟩ : ByteArray), .int .i64 0, .bool false]) rfl rfl 2 fun bx17 w14 o15 st16 f18 => ?_
  replace f5 := f5.st st16 (by decide)
  replace f900000 := f900000.st st16 (by decide)
  replace fg0 := fg0.st st16 (by decide)
  replace fg4 := fg4.st st16 (by decide)
  replace hs := hs.loc0 st16 (by decide)
  have hk := hk.put 3 (.pointer (some ⟨bx17, 0, none⟩)) rfl
  refine x_op hk rfl ?_
  refine op_store tab hk (t := 48) (v := .agg #[.string t9.1.word, .int .i64 t9.1.nums, .bool t9.1.text]) (b := bx17) (k := 0) (cs' := [.string t9.1.word, .int .i64 t9.1.nums, .bool t9.1.text]) rfl rfl rfl rfl rfl rfl f18 rfl rfl fun w19 o20 st21 f18_ => ?_
  replace f5 := f5.st st21 (by decide)
  replace f900000 := f900000.st st21 (by decide)
  replace fg0 := fg0.st st21 (by decide)
  replace fg4 := fg4.st st21 (by decide)
  replace hs := hs.loc0 st21 (by decide)
  replace f18 := f18_
  refine x_run tab hk (k := 1) (lv := []) (ks := [1, 3, 4]) (e' := [(1, .pointer (some ⟨bx4, 0, none⟩)), (3, .pointer (some ⟨bx17, 0, none⟩)), (4, .bool t9.2)]) rfl trivial fun a hk => ?_
  refine wpListIn_nil ?_
  refine then_n ?_
  refine x_mid (fun a_ w_ => ∃ o29 : Nat → Nat, Kn 73 a_ [(1, .pointer (some ⟨bx4, 0, none⟩)), (3, .pointer (some ⟨bx17, 0, none⟩))] ∧ St [] w (fun _ => 0) w_ o29 ∧ Ft (Bx bx17 48 [.string t9.1.word, .int .i64 t9.1.nums, .bool t9.1.text]) w_ o29 4 ∧ Ft (Bx bx4 26 [.string p0.Word, .slice Ap0_0 (p0.Nums).length cp0_0, .string p0.Text]) w_ o29 3 ∧ Ft (RdC (encInt .i64) Ap0_0 p0.Nums) w_ o29 0 ∧ Ft (RdC ET47 (some ⟨0, 0, none⟩) glob0) w_ o29 0 ∧ Ft (GTab Tryd.prog "internal/strconv.uint64pow10" .u64 Lib.pow10Tab) w_ o29 0 ∧ line_Step_Line_j1 K p0 t9 = some r) ?_ ?_
  rotate_left
  · rintro a w30 ⟨o29, hk, hs, f18, f5, f900000, fg0, fg4, H⟩
    unfold line_Step_Line_j1 at H
    refine x_seq ?_
    refine wpIn_region_lit ?_
    refine x_run tab hk (k := 1) (lv := []) (ks := [1, 3, 5]) (e' := [(1, .pointer (some ⟨bx4, 0, none⟩)), (3, .pointer (some ⟨bx17, 0, none⟩)), (5, .slice none 0 0)]) rfl trivial fun a hk => ?_
    refine wpListIn_nil ?_
    refine then_n ?_
    refine x_mid (fun a_ w_ => ∃ o136 : Nat → Nat, ∃ A137 : Option Addr, ∃ c138 : Nat, ∃ l139 : List ByteArray, Kn 73 a_ [(1, .pointer (some ⟨bx4, 0, none⟩)), (3, .pointer (some ⟨bx17, 0, none⟩)), (5, .slice A137 (l139).length c138)] ∧ St [] w (fun _ => 0) w_ o136 ∧ Ft (Own encStr 9 (.slice A137 (l139).length c138) l139) w_ o136 17 ∧ Ft (Bx bx17 48 [.string t9.1.word, .int .i64 t9.1.nums, .bool t9.1.text]) w_ o136 16 ∧ Ft (Bx bx4 26 [.string p0.Word, .slice Ap0_0 (p0.Nums).length cp0_0, .string p0.Text]) w_ o136 15 ∧ Ft (RdC (encInt .i64) Ap0_0 p0.Nums) w_ o136 0 ∧ Ft (RdC ET47 (some ⟨0, 0, none⟩) glob0) w_ o136 0 ∧ Ft (GTab Tryd.prog "internal/strconv.uint64pow10" .u64 Lib.pow10Tab) w_ o136 0 ∧ (l139).length ≤ c138 ∧ line_Step_Line_j2 K p0 t9 l139 = some r) ?_ ?_
    rotate_left
    · rintro a w142 ⟨o136, A137, c138, l139, hk, hs, f140, f18, f5, f900000, fg0, fg4, hc141, H⟩
      unfold line_Step_Line_j2 at H
      refine x_mid (fun a_ w_ => ∃ o176 : Nat → Nat, ∃ A177 : Option Addr, ∃ c178 : Nat, ∃ l179 : List ByteArray, Kn 73 a_ [(1, .pointer (some ⟨bx4, 0, none⟩)), (5, .slice A177 (l179).length c178)] ∧ St [] w (fun _ => 0) w_ o176 ∧ Ft (Own encStr 9 (.slice A177 (l179).length c178) l179) w_ o176 20 ∧ Ft (Bx bx4 26 [.string p0.Word, .slice Ap0_0 (p0.Nums).length cp0_0, .string p0.Text]) w_ o176 19 ∧ Ft (RdC (encInt .i64) Ap0_0 p0.Nums) w_ o176 0 ∧ Ft (RdC ET47 (some ⟨0, 0, none⟩) glob0) w_ o176 0 ∧ Ft (GTab Tryd.prog "internal/strconv.uint64pow10" .u64 Lib.pow10Tab) w_ o176 0 ∧ (l179).length ≤ c178 ∧ line_Step_Line_j3 p0 l179 = some r) ?_ ?_
      rotate_left
      · rintro a w182 ⟨o176, A177, c178, l179, hk, hs, f180, f5, f900000, fg0, fg4, hc181, H⟩
        unfold line_Step_Line_j3 at H
        refine x_seq ?_
        refine xd_begin (o := o176) (fun W_ => (Bx bx4 26 [.string p0.Word, .slice Ap0_0 (p0.Nums).length cp0_0, .string p0.Text]) W_ ∧ True) mixed rfl rfl fun w205 st206 => ?_
        replace f180 := f180.st st206 (by decide)
        replace f5 := f5.st st206 (by decide)
        replace f900000 := f900000.st st206 (by decide)
        replace fg0 := fg0.st st206 (by decide)
        replace fg4 := fg4.st st206 (by decide)
        replace hs := hs.loc0 st206 (by decide)
        obtain ⟨q207, H⟩ := ifS H
        refine xd_take tab hk (k := 4) (is := [0, 1, 2, 3]) (ls' := #[true, true, true, true, false, false, false, false]) (lv := [.string p0.Word]) (ks := [64, 65]) (e' := [(64, .string (p0.Word ++ (⟨#[40]⟩ : ByteArray))), (65, .slice A177 (l179).length c178)]) (by kernel_rfl) rfl rfl (by kernel_rfl) (np_then np_body) ⟨f5.now, trivial⟩ (fun W_ hS => ⟨(load1 tab rfl ((Bx.cell hS.1 0).trans rfl)), q207, trivial⟩) fun a hk => ?_
        refine xd_op hk (i := 4) (by kernel_rfl) rfl rfl ?_
        obtain ⟨t211, hc212, H⟩ := bindS H
        refine op_call hk ent_24 (vs := [.slice A177 (l179).length c178, .string (⟨#[44]⟩ : ByteArray)]) rfl (strings_Join_calls A177 c178 l179 (⟨#[44]⟩ : ByteArray) _ o176 _ (f180.imp fun _ h_ => Own.rd h_) hc181   _ hc212) ?_
        rintro _ w213 ⟨o214, rfl, st215⟩
        replace f180 := f180.st st215 (by decide)
        replace f5 := f5.st st215 (by decide)
        replace f900000 := f900000.st st215 (by decide)
        replace fg0 := fg0.st st215 (by decide)
        replace fg4 := fg4.st st215 (by decide)
        replace hs := hs.loc0 st215 (by decide)
        have hk := hk.put 66 (.string t211) rfl
        refine ⟨.inr ⟨f5.now, trivial⟩, ?_⟩
        obtain ⟨q216, H⟩ := ifS H
        obtain ⟨q217, H⟩ := ifS H
        refine xd_take tab hk (k := 0) (is := [5, 6, 7]) (ls' := #[true, true, true, true, true, true, true, true]) (lv := []) (ks := [8]) (e' := [(8, .string (((p0.Word ++ (⟨#[40]⟩ : ByteArray)) ++ t211) ++ (⟨#[41]⟩ : ByteArray)))]) (by kernel_rfl) rfl rfl (by kernel_rfl) (np_then np_body) ⟨f5.now, trivial⟩ (fun W_ hS => ⟨q216, q217, trivial⟩) fun a hk => ?_
        refine xd_done (by kernel_rfl) ?_
        refine then_n ?_
        refine x_seq ?_
        refine x_seq ?_
        refine wpIn_region_lit ?_
        refine x_run tab hk (k := 3) (lv := []) (ks := [8, 71]) (e' := [(8, .string (((p0.Word ++ (⟨#[40]⟩ : ByteArray)) ++ t211) ++ (⟨#[41]⟩ : ByteArray))), (71, .bool (decide ((((((p0.Word ++ (⟨#[40]⟩ : ByteArray)) ++ t211) ++ (⟨#[41]⟩ : ByteArray))).size : Int) > (4000 : Int))))]) rfl trivial fun a hk => ?_
        refine wpListIn_nil ?_
        refine then_n ?_
        cases b218 : (decide ((((((p0.Word ++ (⟨#[40]⟩ : ByteArray)) ++ t211) ++ (⟨#[41]⟩ : ByteArray))).size : Int) > (4000 : Int)))
        · rw [b218] at hk H
          replace H := bifF H
          refine x_if hk (b := false) rfl ?_
          refine (show Code.wpIn _ _ _ _ _ _ _ from ?_)
          refine wpIn_skip ?_
          refine then_n ?_
          refine x_seq ?_
          refine wpIn_region_lit ?_
          refine x_run tab hk (k := 2) (lv := []) (ks := [2]) (e' := [(2, .string (((p0.Word ++ (⟨#[40]⟩ : ByteArray)) ++ t211) ++ (⟨#[41]⟩ : ByteArray)))]) rfl trivial fun a hk => ?_
          refine wpListIn_nil ?_
          refine then_n ?_
          refine wpIn_ret ?_
          obtain rfl := Option.some.inj H
          exact x_retG hk (rs := [.tmp 2]) (vs := [.string (((p0.Word ++ (⟨#[40]⟩ : ByteArray)) ++ t211) ++ (⟨#[41]⟩ : ByteArray))]) rfl ⟨rfl, trivial⟩ ⟨fun b_ => if b_ < w.heap.size then o b_ else (fun _ => 0) (o214 b_), rfl, hs.close0 o (fun _ => 0)⟩
        · rw [b218] at hk H
          replace H := bifT H
          refine x_if hk (b := true) rfl ?_
          refine (show Code.wpIn _ _ _ _ _ _ _ from ?_)
          refine x_seq ?_
          refine wpIn_region_lit ?_
          refine x_run tab hk (k := 1) (lv := []) (ks := [2]) (e' := [(2, .string (⟨#[]⟩ : ByteArray))]) rfl trivial fun a hk => ?_
          refine wpListIn_nil ?_
          refine then_n ?_
          refine wpIn_ret ?_
          refine then_r ?_
          obtain rfl := Option.some.inj H
          exact x_retG hk (rs := [.tmp 2]) (vs := [.string (⟨#[]⟩ : ByteArray)]) rfl ⟨rfl, trivial⟩ ⟨fun b_ => if b_ < w.heap.size then o b_ else (fun _ => 0) (o214 b_), rfl, hs.close0 o (fun _ => 0)⟩
      refine x_seq ?_
      refine wpIn_region_lit ?_
      refine x_run tab hk (k := 2) (lv := [.bool t9.1.text]) (ks := [1, 5, 55]) (e' := [(1, .pointer (some ⟨bx4, 0, none⟩)), (5, .slice A137 (l139).length c138), (55, .bool t9.1.text)]) rfl ⟨(load1 tab rfl ((Bx.cell f18.now 2).trans rfl)), trivial⟩ fun a hk => ?_
      refine wpListIn_nil ?_
      refine then_n ?_
      cases b219 : t9.1.text
      · rw [b219] at hk H
        replace H := bifF H
        refine x_if hk (b := false) rfl ?_
        refine (show Code.wpIn _ _ _ _ _ _ _ from ?_)
        refine wpIn_skip ?_
        refine then_n ?_
        exact ⟨(fun b_ => (fun l_ => if l_ = 15 then 19 else if l_ = 17 then 20 else l_) (o136 b_)), A137, c138, l139, (by exact Kn.pick (ks := [1, 5]) hk rfl), (hs.relab0 (fun l_ => if l_ = 15 then 19 else if l_ = 17 then 20 else l_) rfl), (f140.relab (fun l_ => if l_ = 15 then 19 else if l_ = 17 then 20 else l_) rfl), (f5.relab (fun l_ => if l_ = 15 then 19 else if l_ = 17 then 20 else l_) rfl), (f900000.relab (fun l_ => if l_ = 15 then 19 else if l_ = 17 then 20 else l_) rfl), (fg0.relab (fun l_ => if l_ = 15 then 19 else if l_ = 17 then 20 else l_) rfl), (fg4.relab (fun l_ => if l_ = 15 then 19 else if l_ = 17 then 20 else l_) rfl), hc141, H⟩
      · rw [b219] at hk H
        replace H := bifT H
        refine x_if hk (b := true) rfl ?_
        refine (show Code.wpIn _ _ _ _ _ _ _ from ?_)
        refine wpIn_region_lit ?_
        refine x_run tab hk (k := 3) (lv := [.string p0.Text]) (ks := [1, 56, 58]) (e' := [(1, .pointer (some ⟨bx4, 0, none⟩)), (56, .slice A137 (l139).length c138), (58, .string p0.Text)]) rfl ⟨(load1 tab rfl ((Bx.cell f5.now 2).trans rfl)), trivial⟩ fun a hk => ?_
        refine x_op hk rfl ?_
        obtain ⟨t223, hc224, H⟩ := bindS H
        refine op_call hk ent_23 (vs := [.string p0.Text]) rfl (line_write_calls K p0.Text _ o136    _ hc224) ?_
        rintro _ w225 ⟨o226, rfl, st227⟩
        replace f140 := f140.st st227 (by decide)
        replace f5 := f5.st st227 (by decide)
        replace f900000 := f900000.st st227 (by decide)
        replace fg0 := fg0.st st227 (by decide)
        replace fg4 := fg4.st st227 (by decide)
        replace hs := hs.loc0 st227 (by decide)
        have hk := hk.put 59 (.string t223) rfl
        refine x_op hk rfl ?_
        refine op_slice (o := o226) tab hk (vs := [.string t223]) (cs := [.string t223]) rfl rfl rfl rfl rfl rfl rfl rfl rfl 21 fun bx231 w228 o229 st230 f232 => ?_
        replace f140 := f140.st st230 (by decide)
        replace f5 := f5.st st230 (by decide)
        replace f900000 := f900000.st st230 (by decide)
        replace fg0 := fg0.st st230 (by decide)
        replace fg4 := fg4.st st230 (by decide)
        replace hs := hs.loc0 st230 (by decide)
        have f233 : Ft (Own encStr 9 (.slice (some ⟨bx231, 0, none⟩) (([t223] : List ByteArray)).length 1) ([t223] : List ByteArray)) w228 o229 21 := f232.imp fun _ h_ => Own.of_box h_ rfl (by simp)
        have hk := hk.put 60 (.slice (some ⟨bx231, 0, none⟩) (([t223] : List ByteArray)).length 1) rfl
        refine x_op hk rfl ?_
        obtain ⟨q237, H⟩ := ifS H
        refine op_append (o := o229) (E := encStr) (xs := l139) (ys := ([t223] : List ByteArray)) tab hk rfl rfl rfl rfl rfl rfl rfl f140 (Own.rd f233.now) q237 fun A238 c239 w234 o235 st236 f240 hc241 => ?_
        replace f233 := f233.st st236 (by decide)
        replace f5 := f5.st st236 (by decide)
        replace f900000 := f900000.st st236 (by decide)
        replace fg0 := fg0.st st236 (by decide)
        replace fg4 := fg4.st st236 (by decide)
        replace hs := hs.loc0 st236 (by decide)
        have hk := hk.put 61 (.slice A238 ((l139 ++ ([t223] : List ByteArray))).length c239) rfl
        refine x_run tab hk (k := 1) (lv := []) (ks := [1, 5]) (e' := [(1, .pointer (some ⟨bx4, 0, none⟩)), (5, .slice A238 ((l139 ++ ([t223] : List ByteArray))).length c239)]) rfl trivial fun a hk => ?_
        refine wpListIn_nil ?_
        refine then_n ?_
        exact ⟨(fun b_ => (fun l_ => if l_ = 15 then 19 else if l_ = 17 then 20 else l_) (o235 b_)), A238, c239, (l139 ++ ([t223] : List ByteArray)), (by exact Kn.pick (ks := [1, 5]) hk rfl), (hs.relab0 (fun l_ => if l_ = 15 then 19 else if l_ = 17 then 20 else l_) rfl), (f240.relab (fun l_ => if l_ = 15 then 19 else if l_ = 17 then 20 else l_) rfl), (f5.relab (fun l_ => if l_ = 15 then 19 else if l_ = 17 then 20 else l_) rfl), (f900000.relab (fun l_ => if l_ = 15 then 19 else if l_ = 17 then 20 else l_) rfl), (fg0.relab (fun l_ => if l_ = 15 then 19 else if l_ = 17 then 20 else l_) rfl), (fg4.relab (fun l_ => if l_ = 15 then 19 else if l_ = 17 then 20 else l_) rfl), hc241, H⟩
    refine x_seq ?_
    refine wpIn_region_lit ?_
    refine x_run tab hk (k := 4) (lv := [.slice Ap0_0 (p0.Nums).length cp0_0]) (ks := [1, 3, 5, 36, 37, 38]) (e' := [(1, .pointer (some ⟨bx4, 0, none⟩)), (3, .pointer (some ⟨bx17, 0, none⟩)), (5, .slice none 0 0), (36, .slice Ap0_0 (p0.Nums).length cp0_0), (37, .int .i64 ((p0.Nums).length : Int)), (38, .int .i64 0)]) rfl ⟨(load1 tab rfl ((Bx.cell f5.now 1).trans rfl)), trivial⟩ fun a hk => ?_
    refine wpListIn_nil ?_
    refine then_n ?_
    refine wpIn_block ?_
    refine x_loop (fun j_ a_ w_ => ∃ o272 : Nat → Nat, ∃ A273 : Option Addr, ∃ c274 : Nat, ∃ l275 : List ByteArray, ∃ x278 : Int, Kn 73 a_ [(1, .pointer (some ⟨bx4, 0, none⟩)), (3, .pointer (some ⟨bx17, 0, none⟩)), (5, .slice A273 (l275).length c274), (36, .slice Ap0_0 (p0.Nums).length cp0_0), (37, .int .i64 ((p0.Nums).length : Int)), (38, .int .i64 x278)] ∧ St [] w (fun _ => 0) w_ o272 ∧ Ft (Bx bx17 48 [.string t9.1.word, .int .i64 t9.1.nums, .bool t9.1.text]) w_ o272 27 ∧ Ft (Own encStr 9 (.slice A273 (l275).length c274) l275) w_ o272 28 ∧ Ft (Bx bx4 26 [.string p0.Word, .slice Ap0_0 (p0.Nums).length cp0_0, .string p0.Text]) w_ o272 26 ∧ Ft (RdC (encInt .i64) Ap0_0 p0.Nums) w_ o272 0 ∧ Ft (RdC ET47 (some ⟨0, 0, none⟩) glob0) w_ o272 0 ∧ Ft (GTab Tryd.prog "internal/strconv.uint64pow10" .u64 Lib.pow10Tab) w_ o272 0 ∧ (l275).length ≤ c274 ∧ line_Step_Line_l4 K p0 t9 j_ l275 x278 = some r) (k := K) ⟨(fun b_ => (fun l_ => if l_ = 3 then 26 else if l_ = 4 then 27 else l_) (o29 b_)), none, 0, ([] : List ByteArray), 0, (by exact Kn.pick (ks := [1, 3, 5, 36, 37, 38]) hk rfl), (hs.relab0 (fun l_ => if l_ = 3 then 26 else if l_ = 4 then 27 else l_) rfl), (f18.relab (fun l_ => if l_ = 3 then 26 else if l_ = 4 then 27 else l_) rfl), (Ft.of_all (fun _ => Own.nil _ _ _) _ _ _), (f5.relab (fun l_ => if l_ = 3 then 26 else if l_ = 4 then 27 else l_) rfl), (f900000.relab (fun l_ => if l_ = 3 then 26 else if l_ = 4 then 27 else l_) rfl), (fg0.relab (fun l_ => if l_ = 3 then 26 else if l_ = 4 then 27 else l_) rfl), (fg4.relab (fun l_ => if l_ = 3 then 26 else if l_ = 4 then 27 else l_) rfl), (by simp), H⟩ (by rintro _ _ ⟨_, _, _, _, _, _, _, _, _, _, _, _, _, _, H_⟩; exact absurd (show (none : Option ByteArray) = some r from H_) (by simp)) ?_
    rintro k307 a w306 ⟨o272, A273, c274, l275, x278, hk, hs, f18, f276, f5, f900000, fg0, fg4, hc277, H⟩
    rw [line_Step_Line_l4] at H
    obtain ⟨lp308, hlp309⟩ : ∃ lp_, lp_ = line_Step_Line_l4 K p0 t9 k307 := ⟨_, rfl⟩
    rw [← hlp309] at H
    refine x_seq ?_
    refine wpIn_region_lit ?_
    refine x_run tab hk (k := 1) (lv := []) (ks := [1, 3, 5, 36, 37, 38, 39]) (e' := [(1, .pointer (some ⟨bx4, 0, none⟩)), (3, .pointer (some ⟨bx17, 0, none⟩)), (5, .slice A273 (l275).length c274), (36, .slice Ap0_0 (p0.Nums).length cp0_0), (37, .int .i64 ((p0.Nums).length : Int)), (38, .int .i64 x278), (39, .bool (decide (x278 < ((p0.Nums).length : Int))))]) rfl trivial fun a hk => ?_
    refine wpListIn_nil ?_
    refine then_n ?_
    refine x_seq ?_
    cases b310 : (decide (x278 < ((p0.Nums).length : Int)))
    · rw [b310] at hk H
      replace H := bifF H
      refine x_if hk (b := false) rfl ?_
      refine (show Code.wpIn _ _ _ _ _ _ _ from ?_)
      refine wpIn_exit ?_
      refine then_x ?_
      refine then_x ?_
      refine blk_x ?_
      refine then_n ?_
      exact ⟨(fun b_ => (fun l_ => if l_ = 26 then 15 else if l_ = 27 then 16 else if l_ = 28 then 17 else l_) (o272 b_)), A273, c274, l275, (by exact Kn.pick (ks := [1, 3, 5]) hk rfl), (hs.relab0 (fun l_ => if l_ = 26 then 15 else if l_ = 27 then 16 else if l_ = 28 then 17 else l_) rfl), (f276.relab (fun l_ => if l_ = 26 then 15 else if l_ = 27 then 16 else if l_ = 28 then 17 else l_) rfl), (f18.relab (fun l_ => if l_ = 26 then 15 else if l_ = 27 then 16 else if l_ = 28 then 17 else l_) rfl), (f5.relab (fun l_ => if l_ = 26 then 15 else if l_ = 27 then 16 else if l_ = 28 then 17 else l_) rfl), (f900000.relab (fun l_ => if l_ = 26 then 15 else if l_ = 27 then 16 else if l_ = 28 then 17 else l_) rfl), (fg0.relab (fun l_ => if l_ = 26 then 15 else if l_ = 27 then 16 else if l_ = 28 then 17 else l_) rfl), (fg4.relab (fun l_ => if l_ = 26 then 15 else if l_ = 27 then 16 else if l_ = 28 then 17 else l_) rfl), hc277, H⟩
    · rw [b310] at hk H
      replace H := bifT H
      refine x_if hk (b := true) rfl ?_
      refine (show Code.wpIn _ _ _ _ _ _ _ from ?_)
      refine wpIn_skip ?_
      refine then_n ?_
      refine x_seq ?_
      refine wpIn_block ?_
      refine x_seq ?_
      refine wpIn_region_lit ?_
      obtain ⟨q311, H⟩ := ifS H
      obtain ⟨ad312, hAad312⟩ := RdC.addr f900000.now q311
      have hk_C := hk
      have f18_C := f18
      have f276_C := f276
      have f5_C := f5
      have f900000_C := f900000
      have fg0_C := fg0
      have fg4_C := fg4
      subst hAad312
      have hk := hk_C
      clear hk_C
      have f18 := f18_C
      clear f18_C
      have f276 := f276_C
      clear f276_C
      have f5 := f5_C
      clear f5_C
      have f900000 := f900000_C
      clear f900000_C
      have fg0 := fg0_C
      clear fg0_C
      have fg4 := fg4_C
      clear fg4_C
      refine x_run tab hk (k := 3) (lv := [.int .i64 (rdD 0 p0.Nums x278)]) (ks := [1, 3, 5, 7, 36, 37, 38]) (e' := [(1, .pointer (some ⟨bx4, 0, none⟩)), (3, .pointer (some ⟨bx17, 0, none⟩)), (5, .slice A273 (l275).length c274), (7, .int .i64 (rdD 0 p0.Nums x278)), (36, .slice (some ad312) (p0.Nums).length cp0_0), (37, .int .i64 ((p0.Nums).length : Int)), (38, .int .i64 x278)]) rfl ⟨q311, (load1 tab rfl (RdC.at0 (E := (encInt .i64)) (d := 0) (i := x278) f900000.now q311 rfl)), trivial⟩ fun a hk => ?_
      refine wpListIn_nil ?_
      refine then_n ?_
      refine x_seq ?_
      refine x_seq ?_
      refine wpIn_region_lit ?_
      refine x_run tab hk (k := 3) (lv := []) (ks := [1, 3, 5, 7, 36, 37, 38, 44]) (e' := [(1, .pointer (some ⟨bx4, 0, none⟩)), (3, .pointer (some ⟨bx17, 0, none⟩)), (5, .slice A273 (l275).length c274), (7, .int .i64 (rdD 0 p0.Nums x278)), (36, .slice (some ad312) (p0.Nums).length cp0_0), (37, .int .i64 ((p0.Nums).length : Int)), (38, .int .i64 x278), (44, .bool (decide ((rdD 0 p0.Nums x278) < (0 : Int))))]) rfl trivial fun a hk => ?_
      cases b313 : (decide ((rdD 0 p0.Nums x278) < (0 : Int)))
      · rw [b313] at hk H
        replace H := bifF H
        refine x_run tab hk (k := 3) (lv := []) (ks := [1, 3, 5, 7, 36, 37, 38, 47]) (e' := [(1, .pointer (some ⟨bx4, 0, none⟩)), (3, .pointer (some ⟨bx17, 0, none⟩)), (5, .slice A273 (l275).length c274), (7, .int .i64 (rdD 0 p0.Nums x278)), (36, .slice (some ad312) (p0.Nums).length cp0_0), (37, .int .i64 ((p0.Nums).length : Int)), (38, .int .i64 x278), (47, .bool (decide ((rdD 0 p0.Nums x278) > (4294967295 : Int))))]) rfl trivial fun a hk => ?_
        refine wpListIn_nil ?_
        refine then_n ?_
        cases b314 : (decide ((rdD 0 p0.Nums x278) > (4294967295 : Int)))
        · rw [b314] at hk H
          replace H := bifF H
          refine x_if hk (b := false) rfl ?_
          refine (show Code.wpIn _ _ _ _ _ _ _ from ?_)
          refine wpIn_skip ?_
          refine then_n ?_
          refine wpIn_region_lit ?_
          refine x_run tab hk (k := 2) (lv := []) (ks := [1, 3, 36, 37, 38, 48, 49]) (e' := [(1, .pointer (some ⟨bx4, 0, none⟩)), (3, .pointer (some ⟨bx17, 0, none⟩)), (36, .slice (some ad312) (p0.Nums).length cp0_0), (37, .int .i64 ((p0.Nums).length : Int)), (38, .int .i64 x278), (48, .slice A273 (l275).length c274), (49, .int .i64 (rdD 0 p0.Nums x278))]) rfl trivial fun a hk => ?_
          refine x_op hk rfl ?_
          obtain ⟨t318, hc319, H⟩ := bindS H
          refine op_call hk ent_22 (vs := [.int .i64 (rdD 0 p0.Nums x278)]) rfl (strconv_Itoa_calls (rdD 0 p0.Nums x278) _ o272 0 fg4   _ hc319) ?_
          rintro _ w320 ⟨o321, rfl, st322⟩
          replace f18 := f18.st st322 (by decide)
          replace f276 := f276.st st322 (by decide)
          replace f5 := f5.st st322 (by decide)
          replace f900000 := f900000.st st322 (by decide)
          replace fg0 := fg0.st st322 (by decide)
          replace fg4 := fg4.st st322 (by decide)
          replace hs := hs.loc0 st322 (by decide)
          have hk := hk.put 50 (.string t318) rfl
          refine x_op hk rfl ?_
          refine op_slice (o := o321) tab hk (vs := [.string t318]) (cs := [.string t318]) rfl rfl rfl rfl rfl rfl rfl rfl rfl 30 fun bx326 w323 o324 st325 f327 => ?_
          replace f18 := f18.st st325 (by decide)
          replace f276 := f276.st st325 (by decide)
          replace f5 := f5.st st325 (by decide)
          replace f900000 := f900000.st st325 (by decide)
          replace fg0 := fg0.st st325 (by decide)
          replace fg4 := fg4.st st325 (by decide)
          replace hs := hs.loc0 st325 (by decide)
          have f328 : Ft (Own encStr 9 (.slice (some ⟨bx326, 0, none⟩) (([t318] : List ByteArray)).length 1) ([t318] : List ByteArray)) w323 o324 30 := f327.imp fun _ h_ => Own.of_box h_ rfl (by simp)
          have hk := hk.put 51 (.slice (some ⟨bx326, 0, none⟩) (([t318] : List ByteArray)).length 1) rfl
          refine x_op hk rfl ?_
          obtain ⟨q332, H⟩ := ifS H
          refine op_append (o := o324) (E := encStr) (xs := l275) (ys := ([t318] : List ByteArray)) tab hk rfl rfl rfl rfl rfl rfl rfl f276 (Own.rd f328.now) q332 fun A333 c334 w329 o330 st331 f335 hc336 => ?_
          replace f18 := f18.st st331 (by decide)
          replace f328 := f328.st st331 (by decide)
          replace f5 := f5.st st331 (by decide)
          replace f900000 := f900000.st st331 (by decide)
          replace fg0 := fg0.st st331 (by decide)
          replace fg4 := fg4.st st331 (by decide)
          replace hs := hs.loc0 st331 (by decide)
          have hk := hk.put 52 (.slice A333 ((l275 ++ ([t318] : List ByteArray))).length c334) rfl
          refine x_run tab hk (k := 1) (lv := []) (ks := [1, 3, 5, 36, 37, 38]) (e' := [(1, .pointer (some ⟨bx4, 0, none⟩)), (3, .pointer (some ⟨bx17, 0, none⟩)), (5, .slice A333 ((l275 ++ ([t318] : List ByteArray))).length c334), (36, .slice (some ad312) (p0.Nums).length cp0_0), (37, .int .i64 ((p0.Nums).length : Int)), (38, .int .i64 x278)]) rfl trivial fun a hk => ?_
          refine wpListIn_nil ?_
          refine blk_n ?_
          refine then_n ?_
          refine wpIn_region_lit ?_
          refine x_run tab hk (k := 2) (lv := []) (ks := [1, 3, 5, 36, 37, 38]) (e' := [(1, .pointer (some ⟨bx4, 0, none⟩)), (3, .pointer (some ⟨bx17, 0, none⟩)), (5, .slice A333 ((l275 ++ ([t318] : List ByteArray))).length c334), (36, .slice (some ad312) (p0.Nums).length cp0_0), (37, .int .i64 ((p0.Nums).length : Int)), (38, .int .i64 (IntKind.wrap .i64 (x278 + 1)))]) rfl trivial fun a hk => ?_
          refine wpListIn_nil ?_
          refine then_n ?_
          exact ⟨k307, Nat.le_refl _, o330, A333, c334, (l275 ++ ([t318] : List ByteArray)), (IntKind.wrap .i64 (x278 + 1)), (by exact Kn.pick (ks := [1, 3, 5, 36, 37, 38]) hk rfl), hs, f18, f335, f5, f900000, fg0, fg4, hc336, (hlp309 ▸ H)⟩
        · rw [b314] at hk H
          replace H := bifT H
          refine x_if hk (b := true) rfl ?_
          refine (show Code.wpIn _ _ _ _ _ _ _ from ?_)
          refine x_seq ?_
          refine wpIn_region_lit ?_
          refine x_run tab hk (k := 1) (lv := []) (ks := [2]) (e' := [(2, .string (⟨#[]⟩ : ByteArray))]) rfl trivial fun a hk => ?_
          refine wpListIn_nil ?_
          refine then_n ?_
          refine wpIn_ret ?_
          refine then_r ?_
          refine blk_r ?_
          refine then_r ?_
          refine then_r ?_
          refine blk_r ?_
          refine then_r ?_
          obtain rfl := Option.some.inj H
          exact x_retG hk (rs := [.tmp 2]) (vs := [.string (⟨#[]⟩ : ByteArray)]) rfl ⟨rfl, trivial⟩ ⟨fun b_ => if b_ < w.heap.size then o b_ else (fun _ => 0) (o272 b_), rfl, hs.close0 o (fun _ => 0)⟩
      · rw [b313] at hk H
        replace H := bifT H
        refine x_run tab hk (k := 3) (lv := []) (ks := [1, 3, 5, 7, 36, 37, 38, 47]) (e' := [(1, .pointer (some ⟨bx4, 0, none⟩)), (3, .pointer (some ⟨bx17, 0, none⟩)), (5, .slice A273 (l275).length c274), (7, .int .i64 (rdD 0 p0.Nums x278)), (36, .slice (some ad312) (p0.Nums).length cp0_0), (37, .int .i64 ((p0.Nums).length : Int)), (38, .int .i64 x278), (47, .bool true)]) rfl trivial fun a hk => ?_
        refine wpListIn_nil ?_
        refine then_n ?_
        refine x_if hk (b := true) rfl ?_
        refine (show Code.wpIn _ _ _ _ _ _ _ from ?_)
        refine x_seq ?_
        refine wpIn_region_lit ?_
        refine x_run tab hk (k := 1) (lv := []) (ks := [2]) (e' := [(2, .string (⟨#[]⟩ : ByteArray))]) rfl trivial fun a hk => ?_
        refine wpListIn_nil ?_
        refine then_n ?_
        refine wpIn_ret ?_
        refine then_r ?_
        refine blk_r ?_
        refine then_r ?_
        refine then_r ?_
        refine blk_r ?_
        refine then_r ?_
        obtain rfl := Option.some.inj H
        exact x_retG hk (rs := [.tmp 2]) (vs := [.string (⟨#[]⟩ : ByteArray)]) rfl ⟨rfl, trivial⟩ ⟨fun b_ => if b_ < w.heap.size then o b_ else (fun _ => 0) (o272 b_), rfl, hs.close0 o (fun _ => 0)⟩
  refine x_seq ?_
  refine wpIn_region_lit ?_
  refine x_run tab hk (k := 3) (lv := []) (ks := [1, 3, 17]) (e' := [(1, .pointer (some ⟨bx4, 0, none⟩)), (3, .pointer (some ⟨bx17, 0, none⟩)), (17, .bool (!t9.2))]) rfl trivial fun a hk => ?_
  cases b337 : (!t9.2)
  · rw [b337] at hk H
    replace H := bifF H
    refine x_run tab hk (k := 8) (lv := [.slice Ap0_0 (p0.Nums).length cp0_0, .int .i64 t9.1.nums]) (ks := [1, 3, 25]) (e' := [(1, .pointer (some ⟨bx4, 0, none⟩)), (3, .pointer (some ⟨bx17, 0, none⟩)), (25, .bool (((p0.Nums).length : Int) != t9.1.nums))]) rfl ⟨(load1 tab rfl ((Bx.cell f5.now 1).trans rfl)), (load1 tab rfl ((Bx.cell f18.now 1).trans rfl)), trivial⟩ fun a hk => ?_
    cases b338 : (((p0.Nums).length : Int) != t9.1.nums)
    · rw [b338] at hk H
      replace H := bifF H
      refine x_run tab hk (k := 4) (lv := [.bool t9.1.text]) (ks := [1, 3, 25, 29]) (e' := [(1, .pointer (some ⟨bx4, 0, none⟩)), (3, .pointer (some ⟨bx17, 0, none⟩)), (25, .bool false), (29, .bool (!t9.1.text))]) rfl ⟨(load1 tab rfl ((Bx.cell f18.now 2).trans rfl)), trivial⟩ fun a hk => ?_
      cases b339 : (!t9.1.text)
      · rw [b339] at hk H
        replace H := bifF H
        refine x_run tab hk (k := 5) (lv := []) (ks := [1, 3, 34]) (e' := [(1, .pointer (some ⟨bx4, 0, none⟩)), (3, .pointer (some ⟨bx17, 0, none⟩)), (34, .bool false)]) rfl trivial fun a hk => ?_
        refine wpListIn_nil ?_
        refine then_n ?_
        refine x_if hk (b := false) rfl ?_
        refine (show Code.wpIn _ _ _ _ _ _ _ from ?_)
        refine wpIn_skip ?_
        refine then_n ?_
        exact ⟨(fun b_ => (fun l_ => if l_ = 1 then 3 else if l_ = 2 then 4 else l_) (o20 b_)), (by exact Kn.pick (ks := [1, 3]) hk rfl), (hs.relab0 (fun l_ => if l_ = 1 then 3 else if l_ = 2 then 4 else l_) rfl), (f18.relab (fun l_ => if l_ = 1 then 3 else if l_ = 2 then 4 else l_) rfl), (f5.relab (fun l_ => if l_ = 1 then 3 else if l_ = 2 then 4 else l_) rfl), (f900000.relab (fun l_ => if l_ = 1 then 3 else if l_ = 2 then 4 else l_) rfl), (fg0.relab (fun l_ => if l_ = 1 then 3 else if l_ = 2 then 4 else l_) rfl), (fg4.relab (fun l_ => if l_ = 1 then 3 else if l_ = 2 then 4 else l_) rfl), H⟩
      · rw [b339] at hk H
        replace H := bifT H
        refine x_run tab hk (k := 5) (lv := [.string p0.Text]) (ks := [1, 3, 34]) (e' := [(1, .pointer (some ⟨bx4, 0, none⟩)), (3, .pointer (some ⟨bx17, 0, none⟩)), (34, .bool (!(ByteArray.toList p0.Text == ByteArray.toList (⟨#[]⟩ : ByteArray))))]) rfl ⟨(load1 tab rfl ((Bx.cell f5.now 2).trans rfl)), trivial⟩ fun a hk => ?_
        refine wpListIn_nil ?_
        refine then_n ?_
        cases b340 : (!(ByteArray.toList p0.Text == ByteArray.toList (⟨#[]⟩ : ByteArray)))
        · rw [b340] at hk H
          replace H := bifF H
          refine x_if hk (b := false) rfl ?_
          refine (show Code.wpIn _ _ _ _ _ _ _ from ?_)
          refine wpIn_skip ?_
          refine then_n ?_
          exact ⟨(fun b_ => (fun l_ => if l_ = 1 then 3 else if l_ = 2 then 4 else l_) (o20 b_)), (by exact Kn.pick (ks := [1, 3]) hk rfl), (hs.relab0 (fun l_ => if l_ = 1 then 3 else if l_ = 2 then 4 else l_) rfl), (f18.relab (fun l_ => if l_ = 1 then 3 else if l_ = 2 then 4 else l_) rfl), (f5.relab (fun l_ => if l_ = 1 then 3 else if l_ = 2 then 4 else l_) rfl), (f900000.relab (fun l_ => if l_ = 1 then 3 else if l_ = 2 then 4 else l_) rfl), (fg0.relab (fun l_ => if l_ = 1 then 3 else if l_ = 2 then 4 else l_) rfl), (fg4.relab (fun l_ => if l_ = 1 then 3 else if l_ = 2 then 4 else l_) rfl), H⟩
        · rw [b340] at hk H
          replace H := bifT H
          refine x_if hk (b := true) rfl ?_
          refine (show Code.wpIn _ _ _ _ _ _ _ from ?_)
          refine x_seq ?_
          refine wpIn_region_lit ?_
          refine x_run tab hk (k := 1) (lv := []) (ks := [2]) (e' := [(2, .string (⟨#[]⟩ : ByteArray))]) rfl trivial fun a hk => ?_
          refine wpListIn_nil ?_
          refine then_n ?_
          refine wpIn_ret ?_
          refine then_r ?_
          obtain rfl := Option.some.inj H
          exact x_retG hk (rs := [.tmp 2]) (vs := [.string (⟨#[]⟩ : ByteArray)]) rfl ⟨rfl, trivial⟩ ⟨fun b_ => if b_ < w.heap.size then o b_ else (fun _ => 0) (o20 b_), rfl, hs.close0 o (fun _ => 0)⟩
    · rw [b338] at hk H
      replace H := bifT H
      refine x_run tab hk (k := 9) (lv := []) (ks := [1, 3, 34]) (e' := [(1, .pointer (some ⟨bx4, 0, none⟩)), (3, .pointer (some ⟨bx17, 0, none⟩)), (34, .bool true)]) rfl trivial fun a hk => ?_
      refine wpListIn_nil ?_
      refine then_n ?_
      refine x_if hk (b := true) rfl ?_
      refine (show Code.wpIn _ _ _ _ _ _ _ from ?_)
      refine x_seq ?_
      refine wpIn_region_lit ?_
      refine x_run tab hk (k := 1) (lv := []) (ks := [2]) (e' := [(2, .string (⟨#[]⟩ : ByteArray))]) rfl trivial fun a hk => ?_
      refine wpListIn_nil ?_
      refine then_n ?_
      refine wpIn_ret ?_
      refine then_r ?_
      obtain rfl := Option.some.inj H
      exact x_retG hk (rs := [.tmp 2]) (vs := [.string (⟨#[]⟩ : ByteArray)]) rfl ⟨rfl, trivial⟩ ⟨fun b_ => if b_ < w.heap.size then o b_ else (fun _ => 0) (o20 b_), rfl, hs.close0 o (fun _ => 0)⟩
  · rw [b337] at hk H
    replace H := bifT H
    refine x_run tab hk (k := 16) (lv := []) (ks := [1, 3, 25, 33]) (e' := [(1, .pointer (some ⟨bx4, 0, none⟩)), (3, .pointer (some ⟨bx17, 0, none⟩)), (25, .bool true), (33, undef)]) rfl trivial fun a hk => ?_
    refine x_run tab hk (k := 1) (lv := []) (ks := [1, 3, 34]) (e' := [(1, .pointer (some ⟨bx4, 0, none⟩)), (3, .pointer (some ⟨bx17, 0, none⟩)), (34, .bool true)]) rfl trivial fun a hk => ?_
    refine wpListIn_nil ?_
    refine then_n ?_
    refine x_if hk (b := true) rfl ?_
    refine (show Code.wpIn _ _ _ _ _ _ _ from ?_)
    refine x_seq ?_
    refine wpIn_region_lit ?_
    refine x_run tab hk (k := 1) (lv := []) (ks := [2]) (e' := [(2, .string (⟨#[]⟩ : ByteArray))]) rfl trivial fun a hk => ?_
    refine wpListIn_nil ?_
    refine then_n ?_
    refine wpIn_ret ?_
    refine then_r ?_
    obtain rfl := Option.some.inj H
    exact x_retG hk (rs := [.tmp 2]) (vs := [.string (⟨#[]⟩ : ByteArray)]) rfl ⟨rfl, trivial⟩ ⟨fun b_ => if b_ < w.heap.size then o b_ else (fun _ => 0) (o20 b_), rfl, hs.close0 o (fun _ => 0)⟩

/-! tidewrack/line.Parse -/
set_option maxHeartbeats 4000000 in
set_option maxRecDepth 20000 in
theorem line_Parse_calls (K : Nat) (p0 : ByteArray) (w : World) (o : Nat → Nat) (Lg0 : Nat) (hg0 : Ft (RdC ET47 (some ⟨0, 0, none⟩) glob0) w o Lg0) (Lg1 : Nat) (hg1 : Ft (GInt 1) w o Lg1) (Lg2 : Nat) (hg2 : Ft (GIface 2) w o Lg2) (Lg3 : Nat) (hg3 : Ft (GIface 3) w o Lg3) (Lg4 : Nat) (hg4 : Ft (GTab Tryd.prog "internal/strconv.uint64pow10" .u64 Lib.pow10Tab) w o Lg4)   (R0 : Nat) (r : T25 × Int) (H : line_Parse K p0 = some r) :
    Calls Tryd.prog 9 #[.string p0] w (Ret fun v_ w' => ∃ o' : Nat → Nat, ∃ A0 : Option Addr, ∃ c0 : Nat, v_ = .tuple #[.agg #[.string r.1.Word, .slice A0 (r.1.Nums).length c0, .string r.1.Text], .int .i64 r.2] ∧ St [] w o w' o' ∧ Ft (Own (encInt .i64) 3 (.slice A0 (r.1.Nums).length c0) r.1.Nums) w' o' R0 ∧ (r.1.Nums).length ≤ c0) := by
  refine x_enter (vs := [.string p0]) Tryd.func9 rfl rfl rfl fun a hk => ?_
  obtain ⟨o0, hs, h0⟩ := St.start w o
  have fg0 := h0 _ _ hg0
  have fg1 := h0 _ _ hg1
  have fg2 := h0 _ _ hg2
  have fg3 := h0 _ _ hg3
  have fg4 := h0 _ _ hg4
  clear h0
  rw [line_Parse] at H
  refine x_seq ?_
  refine wpIn_region_lit ?_
  refine x_op hk rfl ?_
  refine op_alloc (o := o0) tab (t := 26) (cs := [.string (⟨#[]⟩ : ByteArray), .slice none 0 0, .string (⟨#[]⟩ : ByteArray)]) rfl rfl 1 fun bx4 w1 o2 st3 f5 => ?_
  replace fg0 := fg0.st st3 (by decide)
  replace fg1 := fg1.st st3 (by decide)
  replace fg2 := fg2.st st3 (by decide)
  replace fg3 := fg3.st st3 (by decide)
  replace fg4 := fg4.st st3 (by decide)
  replace hs := hs.loc0 st3 (by decide)
  have hk := hk.put 2 (.pointer (some ⟨bx4, 0, none⟩)) rfl
  refine x_run tab hk (k := 1) (lv := []) (ks := [0, 2]) (e' := [(0, .string p0), (2, .pointer (some ⟨bx4, 0, none⟩))]) rfl trivial fun a hk => ?_
  refine wpListIn_nil ?_
  refine then_n ?_
  refine x_seq ?_
  refine x_seq ?_
  refine wpIn_region_lit ?_
  refine x_run tab hk (k := 3) (lv := []) (ks := [0, 2, 16]) (e' := [(0, .string p0), (2, .pointer (some ⟨bx4, 0, none⟩)), (16, .bool (decide (((p0).size : Int) > (4000 : Int))))]) rfl trivial fun a hk => ?_
  refine wpListIn_nil ?_
  refine then_n ?_
  cases b6 : (decide (((p0).size : Int) > (4000 : Int)))
  · rw [b6] at hk H
    replace H := bifF H
    refine x_if hk (b := false) rfl ?_
    refine (show Code.wpIn _ _ _ _ _ _ _ from ?_)
    refine wpIn_skip ?_
    refine then_n ?_
    refine x_seq ?_
    refine wpIn_region_lit ?_
    refine x_run tab hk (k := 1) (lv := []) (ks := [0, 2, 19]) (e' := [(0, .string p0), (2, .pointer (some ⟨bx4, 0, none⟩)), (19, .string p0)]) rfl trivial fun a hk => ?_
    refine x_op hk rfl ?_
    obtain ⟨t10, hc11, H⟩ := bindS H
    refine op_call hk ent_17 (vs := [.string p0]) rfl (line_split_calls p0 _ o2 0 fg1 2  _ hc11) ?_
    rintro _ w12 ⟨o13, A15, c16, rfl, st14, f17, hc18⟩
    replace f5 := f5.st st14 (by decide)
    replace fg0 := fg0.st st14 (by decide)
    replace fg1 := fg1.st st14 (by decide)
    replace fg2 := fg2.st st14 (by decide)
    replace fg3 := fg3.st st14 (by decide)
    replace fg4 := fg4.st st14 (by decide)
    replace hs := hs.loc0 st14 (by decide)
    have hk := hk.put 20 (.tuple #[.string t10.1, .slice A15 (t10.2.1).length c16, .bool t10.2.2]) rfl
    refine x_run tab hk (k := 7) (lv := []) (ks := [0, 2, 4, 5, 6]) (e' := [(0, .string p0), (2, .pointer (some ⟨bx4, 0, none⟩)), (4, .string t10.1), (5, .slice A15 (t10.2.1).length c16), (6, .bool t10.2.2)]) rfl trivial fun a hk => ?_
    refine wpListIn_nil ?_
    refine then_n ?_
    refine x_seq ?_
    refine wpIn_region_lit ?_
    refine x_run tab hk (k := 1) (lv := []) (ks := [0, 2, 4, 5, 6, 25]) (e' := [(0, .string p0), (2, .pointer (some ⟨bx4, 0, none⟩)), (4, .string t10.1), (5, .slice A15 (t10.2.1).length c16), (6, .bool t10.2.2), (25, .string t10.1)]) rfl trivial fun a hk => ?_
    refine x_op hk rfl ?_
    obtain ⟨t22, hc23, H⟩ := bindS H
    refine op_call hk ent_18 (vs := [.string t10.1]) rfl (line_find_calls K t10.1 _ o13 0 fg0   _ hc23) ?_
    rintro _ w24 ⟨o25, rfl, st26⟩
    replace f17 := f17.st st26 (by decide)
    replace f5 := f5.st st26 (by decide)
    replace fg0 := fg0.st st26 (by decide)
    replace fg1 := fg1.st st26 (by decide)
    replace fg2 := fg2.st st26 (by decide)
    replace fg3 := fg3.st st26 (by decide)
    replace fg4 := fg4.st st26 (by decide)
    replace hs := hs.loc0 st26 (by decide)
    have hk := hk.put 26 (.tuple #[.agg #[.string t22.1.word, .int .i64 t22.1.nums, .bool t22.1.text], .bool t22.2]) rfl
    refine x_run tab hk (k := 3) (lv := []) (ks := [0, 2, 4, 5, 6, 27, 28]) (e' := [(0, .string p0), (2, .pointer (some ⟨bx4, 0, none⟩)), (4, .string t10.1), (5, .slice A15 (t10.2.1).length c16), (6, .bool t10.2.2), (27, .agg #[.string t22.1.word, .int .i64 t22.1.nums, .bool t22.1.text]), (28, .bool t22.2)]) rfl trivial fun a hk => ?_
    refine x_op hk rfl ?_
    refine op_alloc (o := o25) tab (t := 48) (cs := [.string (⟨#[]⟩ : ByteArray), .int .i64 0, .bool false]) rfl rfl 3 fun bx30 w27 o28 st29 f31 => ?_
    replace f17 := f17.st st29 (by decide)
    replace f5 := f5.st st29 (by decide)
    replace fg0 := fg0.st st29 (by decide)
    replace fg1 := fg1.st st29 (by decide)
    replace fg2 := fg2.st st29 (by decide)
    replace fg3 := fg3.st st29 (by decide)
    replace fg4 := fg4.st st29 (by decide)
    replace hs := hs.loc0 st29 (by decide)
    have hk := hk.put 7 (.pointer (some ⟨bx30, 0, none⟩)) rfl
    refine x_op hk rfl ?_
    refine op_store tab hk (t := 48) (v := .agg #[.string t22.1.word, .int .i64 t22.1.nums, .bool t22.1.text]) (b := bx30) (k := 0) (cs' := [.string t22.1.word, .int .i64 t22.1.nums, .bool t22.1.text]) rfl rfl rfl rfl rfl rfl f31 rfl rfl fun w32 o33 st34 f31_ => ?_
    replace f17 := f17.st st34 (by decide)
    replace f5 := f5.st st34 (by decide)
    replace fg0 := fg0.st st34 (by decide)
    replace fg1 := fg1.st st34 (by decide)
    replace fg2 := fg2.st st34 (by decide)
    replace fg3 := fg3.st st34 (by decide)
    replace fg4 := fg4.st st34 (by decide)
    replace hs := hs.loc0 st34 (by decide)
    replace f31 := f31_
    refine x_run tab hk (k := 1) (lv := []) (ks := [0, 2, 4, 5, 6, 7, 8]) (e' := [(0, .string p0), (2, .pointer (some ⟨bx4, 0, none⟩)), (4, .string t10.1), (5, .slice A15 (t10.2.1).length c16), (6, .bool t10.2.2), (7, .pointer (some ⟨bx30, 0, none⟩)), (8, .bool t22.2)]) rfl trivial fun a hk => ?_
    refine wpListIn_nil ?_
    refine then_n ?_
    refine x_mid (fun a_ w_ => ∃ o53 : Nat → Nat, Kn 76 a_ [(0, .string p0), (2, .pointer (some ⟨bx4, 0, none⟩)), (4, .string t10.1), (5, .slice A15 (t10.2.1).length c16), (7, .pointer (some ⟨bx30, 0, none⟩))] ∧ St [] w (fun _ => 0) w_ o53 ∧ Ft (Own encStr 9 (.slice A15 (t10.2.1).length c16) t10.2.1) w_ o53 8 ∧ Ft (Bx bx30 48 [.string t22.1.word, .int .i64 t22.1.nums, .bool t22.1.text]) w_ o53 9 ∧ Ft (Bx bx4 26 [.string (⟨#[]⟩ : ByteArray), .slice none 0 0, .string (⟨#[]⟩ : ByteArray)]) w_ o53 7 ∧ Ft (RdC ET47 (some ⟨0, 0, none⟩) glob0) w_ o53 0 ∧ Ft (GInt 1) w_ o53 0 ∧ Ft (GIface 2) w_ o53 0 ∧ Ft (GIface 3) w_ o53 0 ∧ Ft (GTab Tryd.prog "internal/strconv.uint64pow10" .u64 Lib.pow10Tab) w_ o53 0 ∧ line_Parse_j1 K p0 t10 t22 = some r) ?_ ?_
    rotate_left
    · rintro a w54 ⟨o53, hk, hs, f17, f31, f5, fg0, fg1, fg2, fg3, fg4, H⟩
      unfold line_Parse_j1 at H
      refine x_seq ?_
      refine wpIn_region_lit ?_
      refine x_run tab hk (k := 2) (lv := []) (ks := [0, 2, 5, 7, 37]) (e' := [(0, .string p0), (2, .pointer (some ⟨bx4, 0, none⟩)), (5, .slice A15 (t10.2.1).length c16), (7, .pointer (some ⟨bx30, 0, none⟩)), (37, .agg #[.string t10.1, .slice none 0 0, .string (⟨#[]⟩ : ByteArray)])]) rfl trivial fun a hk => ?_
      refine x_op hk rfl ?_
      refine op_alloc (o := o53) tab (t := 26) (cs := [.string (⟨#[]⟩ : ByteArray), .slice none 0 0, .string (⟨#[]⟩ : ByteArray)]) rfl rfl 10 fun bx58 w55 o56 st57 f59 => ?_
      replace f17 := f17.st st57 (by decide)
      replace f31 := f31.st st57 (by decide)
      replace f5 := f5.st st57 (by decide)
      replace fg0 := fg0.st st57 (by decide)
      replace fg1 := fg1.st st57 (by decide)
      replace fg2 := fg2.st st57 (by decide)
      replace fg3 := fg3.st st57 (by decide)
      replace fg4 := fg4.st st57 (by decide)
      replace hs := hs.loc0 st57 (by decide)
      have hk := hk.put 9 (.pointer (some ⟨bx58, 0, none⟩)) rfl
      refine x_op hk rfl ?_
      refine op_store tab hk (t := 26) (v := .agg #[.string t10.1, .slice none 0 0, .string (⟨#[]⟩ : ByteArray)]) (b := bx58) (k := 0) (cs' := [.string t10.1, .slice none 0 0, .string (⟨#[]⟩ : ByteArray)]) rfl rfl rfl rfl rfl rfl f59 rfl rfl fun w60 o61 st62 f59_ => ?_
      replace f17 := f17.st st62 (by decide)
      replace f31 := f31.st st62 (by decide)
      replace f5 := f5.st st62 (by decide)
      replace fg0 := fg0.st st62 (by decide)
      replace fg1 := fg1.st st62 (by decide)
      replace fg2 := fg2.st st62 (by decide)
      replace fg3 := fg3.st st62 (by decide)
      replace fg4 := fg4.st st62 (by decide)
      replace hs := hs.loc0 st62 (by decide)
      replace f59 := f59_
      refine wpListIn_nil ?_
      refine then_n ?_
      refine x_mid (fun a_ w_ => ∃ o395 : Nat → Nat, ∃ A396 : Option Addr, ∃ c397 : Nat, ∃ l398 : List Int, ∃ x401 : ByteArray, Kn 76 a_ [(0, .string p0), (2, .pointer (some ⟨bx4, 0, none⟩)), (9, .pointer (some ⟨bx58, 0, none⟩))] ∧ St [] w (fun _ => 0) w_ o395 ∧ Ft (Own (encInt .i64) 3 (.slice A396 (l398).length c397) l398) w_ o395 46 ∧ Ft (Bx bx4 26 [.string (⟨#[]⟩ : ByteArray), .slice none 0 0, .string (⟨#[]⟩ : ByteArray)]) w_ o395 45 ∧ Ft (Bx bx58 26 [.string t10.1, .slice A396 (l398).length c397, .string x401]) w_ o395 47 ∧ Ft (RdC ET47 (some ⟨0, 0, none⟩) glob0) w_ o395 0 ∧ Ft (GInt 1) w_ o395 0 ∧ Ft (GIface 2) w_ o395 0 ∧ Ft (GIface 3) w_ o395 0 ∧ Ft (GTab Tryd.prog "internal/strconv.uint64pow10" .u64 Lib.pow10Tab) w_ o395 0 ∧ (l398).length ≤ c397 ∧ line_Parse_j2 K p0 t10 l398 x401 = some r) ?_ ?_
      rotate_left
      · rintro a w402 ⟨o395, A396, c397, l398, x401, hk, hs, f399, f5, f59, fg0, fg1, fg2, fg3, fg4, hc400, H⟩
        unfold line_Parse_j2 at H
        refine x_seq ?_
        refine x_seq ?_
        refine wpIn_region_lit ?_
        refine x_run tab hk (k := 1) (lv := [.agg #[.string t10.1, .slice A396 (l398).length c397, .string x401]]) (ks := [0, 2, 9, 70]) (e' := [(0, .string p0), (2, .pointer (some ⟨bx4, 0, none⟩)), (9, .pointer (some ⟨bx58, 0, none⟩)), (70, .agg #[.string t10.1, .slice A396 (l398).length c397, .string x401])]) rfl ⟨(load_box tab rfl rfl f59.now (k := 0) rfl rfl), trivial⟩ fun a hk => ?_
        refine x_op hk rfl ?_
        obtain ⟨t406, hc407, H⟩ := bindS H
        refine op_call hk ent_12 (vs := [.agg #[.string t10.1, .slice A396 (l398).length c397, .string x401]]) rfl (line_Step_Line_calls K A396 c397 (⟨t10.1, l398, x401⟩ : T25) _ o395 0 fg0 0 fg4 _ (f399.imp fun _ h_ => Own.rd h_) hc400   _ hc407) ?_
        rintro _ w408 ⟨o409, rfl, st410⟩
        replace f399 := f399.st st410 (by decide)
        replace f5 := f5.st st410 (by decide)
        replace f59 := f59.st st410 (by decide)
        replace fg0 := fg0.st st410 (by decide)
        replace fg1 := fg1.st st410 (by decide)
        replace fg2 := fg2.st st410 (by decide)
        replace fg3 := fg3.st st410 (by decide)
        replace fg4 := fg4.st st410 (by decide)
        replace hs := hs.loc0 st410 (by decide)
        have hk := hk.put 71 (.string t406) rfl
        refine x_run tab hk (k := 2) (lv := []) (ks := [2, 9, 73]) (e' := [(2, .pointer (some ⟨bx4, 0, none⟩)), (9, .pointer (some ⟨bx58, 0, none⟩)), (73, .bool (!(ByteArray.toList t406 == ByteArray.toList p0)))]) rfl trivial fun a hk => ?_
        refine wpListIn_nil ?_
        refine then_n ?_
        cases b411 : (!(ByteArray.toList t406 == ByteArray.toList p0))
        · rw [b411] at hk H
          replace H := bifF H
          refine x_if hk (b := false) rfl ?_
          refine (show Code.wpIn _ _ _ _ _ _ _ from ?_)
          refine wpIn_skip ?_
          refine then_n ?_
          refine x_seq ?_
          refine wpIn_region_lit ?_
          refine x_run tab hk (k := 1) (lv := [.agg #[.string t10.1, .slice A396 (l398).length c397, .string x401]]) (ks := [2, 75]) (e' := [(2, .pointer (some ⟨bx4, 0, none⟩)), (75, .agg #[.string t10.1, .slice A396 (l398).length c397, .string x401])]) rfl ⟨(load_box tab rfl rfl f59.now (k := 0) rfl rfl), trivial⟩ fun a hk => ?_
          refine x_op hk rfl ?_
          refine op_store tab hk (t := 26) (v := .agg #[.string t10.1, .slice A396 (l398).length c397, .string x401]) (b := bx4) (k := 0) (cs' := [.string t10.1, .slice A396 (l398).length c397, .string x401]) rfl rfl rfl rfl rfl rfl f5 rfl rfl fun w412 o413 st414 f5_ => ?_
          replace f399 := f399.st st414 (by decide)
          replace fg0 := fg0.st st414 (by decide)
          replace fg1 := fg1.st st414 (by decide)
          replace fg2 := fg2.st st414 (by decide)
          replace fg3 := fg3.st st414 (by decide)
          replace fg4 := fg4.st st414 (by decide)
          replace hs := hs.loc0 st414 (by decide)
          replace f5 := f5_
          refine x_run tab hk (k := 1) (lv := []) (ks := [2, 3]) (e' := [(2, .pointer (some ⟨bx4, 0, none⟩)), (3, .int .i64 0)]) rfl trivial fun a hk => ?_
          refine wpListIn_nil ?_
          refine then_n ?_
          refine wpIn_ret ?_
          obtain rfl := Option.some.inj H
          exact x_retG hk (rs := [.cell 2 26, .tmp 3]) (vs := [.agg #[.string t10.1, .slice A396 (l398).length c397, .string x401], .int .i64 0]) rfl ⟨⟨_, rfl, load_box tab rfl rfl f5.now (k := 0) rfl rfl⟩, rfl, trivial⟩ ⟨fun b_ => if b_ < w.heap.size then o b_ else (fun _ => R0) (o413 b_), A396, c397, rfl, hs.close0 o (fun _ => R0), hs.close_ft (o := o) (ρ := fun _ => R0) f399 (by decide) rfl, hc400⟩
        · rw [b411] at hk H
          replace H := bifT H
          refine x_if hk (b := true) rfl ?_
          refine (show Code.wpIn _ _ _ _ _ _ _ from ?_)
          refine x_seq ?_
          refine wpIn_region_lit ?_
          refine x_run tab hk (k := 1) (lv := []) (ks := [2, 74]) (e' := [(2, .pointer (some ⟨bx4, 0, none⟩)), (74, .agg #[.string (⟨#[]⟩ : ByteArray), .slice none 0 0, .string (⟨#[]⟩ : ByteArray)])]) rfl trivial fun a hk => ?_
          refine x_op hk rfl ?_
          refine op_store tab hk (t := 26) (v := .agg #[.string (⟨#[]⟩ : ByteArray), .slice none 0 0, .string (⟨#[]⟩ : ByteArray)]) (b := bx4) (k := 0) (cs' := [.string (⟨#[]⟩ : ByteArray), .slice none 0 0, .string (⟨#[]⟩ : ByteArray)]) rfl rfl rfl rfl rfl rfl f5 rfl rfl fun w415 o416 st417 f5_ => ?_
          replace fg0 := fg0.st st417 (by decide)
          replace fg1 := fg1.st st417 (by decide)
          replace fg2 := fg2.st st417 (by decide)
          replace fg3 := fg3.st st417 (by decide)
          replace fg4 := fg4.st st417 (by decide)
          replace hs := hs.loc0 st417 (by decide)
          replace f5 := f5_
          refine x_run tab hk (k := 1) (lv := []) (ks := [2, 3]) (e' := [(2, .pointer (some ⟨bx4, 0, none⟩)), (3, .int .i64 1)]) rfl trivial fun a hk => ?_
          refine wpListIn_nil ?_
          refine then_n ?_
          refine wpIn_ret ?_
          refine then_r ?_
          obtain rfl := Option.some.inj H
          exact x_retG hk (rs := [.cell 2 26, .tmp 3]) (vs := [.agg #[.string (⟨#[]⟩ : ByteArray), .slice none 0 0, .string (⟨#[]⟩ : ByteArray)], .int .i64 1]) rfl ⟨⟨_, rfl, load_box tab rfl rfl f5.now (k := 0) rfl rfl⟩, rfl, trivial⟩ ⟨fun b_ => if b_ < w.heap.size then o b_ else (fun _ => 0) (o416 b_), none, 0, rfl, hs.close0 o (fun _ => 0), (Ft.of_all (fun _ => Own.nil _ _ _) _ _ _), (by simp)⟩
      refine x_seq ?_
      refine wpIn_region_lit ?_
      refine x_run tab hk (k := 3) (lv := []) (ks := [0, 2, 7, 9, 38, 39, 40]) (e' := [(0, .string p0), (2, .pointer (some ⟨bx4, 0, none⟩)), (7, .pointer (some ⟨bx30, 0, none⟩)), (9, .pointer (some ⟨bx58, 0, none⟩)), (38, .slice A15 (t10.2.1).length c16), (39, .int .i64 ((t10.2.1).length : Int)), (40, .int .i64 0)]) rfl trivial fun a hk => ?_
      refine wpListIn_nil ?_
      refine then_n ?_
      refine wpIn_block ?_
      refine x_loop (fun j_ a_ w_ => ∃ o523 : Nat → Nat, ∃ A524 : Option Addr, ∃ c525 : Nat, ∃ l526 : List Int, ∃ x529 : ByteArray, ∃ x530 : Int, Kn 76 a_ [(0, .string p0), (2, .pointer (some ⟨bx4, 0, none⟩)), (7, .pointer (some ⟨bx30, 0, none⟩)), (9, .pointer (some ⟨bx58, 0, none⟩)), (38, .slice A15 (t10.2.1).length c16), (39, .int .i64 ((t10.2.1).length : Int)), (40, .int .i64 x530)] ∧ St [] w (fun _ => 0) w_ o523 ∧ Ft (Own encStr 9 (.slice A15 (t10.2.1).length c16) t10.2.1) w_ o523 66 ∧ Ft (Bx bx30 48 [.string t22.1.word, .int .i64 t22.1.nums, .bool t22.1.text]) w_ o523 63 ∧ Ft (Bx bx4 26 [.string (⟨#[]⟩ : ByteArray), .slice none 0 0, .string (⟨#[]⟩ : ByteArray)]) w_ o523 62 ∧ Ft (Own (encInt .i64) 3 (.slice A524 (l526).length c525) l526) w_ o523 64 ∧ Ft (Bx bx58 26 [.string t10.1, .slice A524 (l526).length c525, .string x529]) w_ o523 65 ∧ Ft (RdC ET47 (some ⟨0, 0, none⟩) glob0) w_ o523 0 ∧ Ft (GInt 1) w_ o523 0 ∧ Ft (GIface 2) w_ o523 0 ∧ Ft (GIface 3) w_ o523 0 ∧ Ft (GTab Tryd.prog "internal/strconv.uint64pow10" .u64 Lib.pow10Tab) w_ o523 0 ∧ (l526).length ≤ c525 ∧ line_Parse_l3 K p0 t10 t22 j_ l526 x529 x530 = some r) (k := K) ⟨(fun b_ => (fun l_ => if l_ = 7 then 62 else if l_ = 8 then 66 else if l_ = 9 then 63 else if l_ = 10 then 65 else l_) (o61 b_)), none, 0, ([] : List Int), (⟨#[]⟩ : ByteArray), 0, (by exact Kn.pick (ks := [0, 2, 7, 9, 38, 39, 40]) hk rfl), (hs.relab0 (fun l_ => if l_ = 7 then 62 else if l_ = 8 then 66 else if l_ = 9 then 63 else if l_ = 10 then 65 else l_) rfl), (f17.relab (fun l_ => if l_ = 7 then 62 else if l_ = 8 then 66 else if l_ = 9 then 63 else if l_ = 10 then 65 else l_) rfl), (f31.relab (fun l_ => if l_ = 7 then 62 else if l_ = 8 then 66 else if l_ = 9 then 63 else if l_ = 10 then 65 else l_) rfl), (f5.relab (fun l_ => if l_ = 7 then 62 else if l_ = 8 then 66 else if l_ = 9 then 63 else if l_ = 10 then 65 else l_) rfl), (Ft.of_all (fun _ => Own.nil _ _ _) _ _ _), (f59.relab (fun l_ => if l_ = 7 then 62 else if l_ = 8 then 66 else if l_ = 9 then 63 else if l_ = 10 then 65 else l_) rfl), (fg0.relab (fun l_ => if l_ = 7 then 62 else if l_ = 8 then 66 else if l_ = 9 then 63 else if l_ = 10 then 65 else l_) rfl), (fg1.relab (fun l_ => if l_ = 7 then 62 else if l_ = 8 then 66 else if l_ = 9 then 63 else if l_ = 10 then 65 else l_) rfl), (fg2.relab (fun l_ => if l_ = 7 then 62 else if l_ = 8 then 66 else if l_ = 9 then 63 else if l_ = 10 then 65 else l_) rfl), (fg3.relab (fun l_ => if l_ = 7 then 62 else if l_ = 8 then 66 else if l_ = 9 then 63 else if l_ = 10 then 65 else l_) rfl), (fg4.relab (fun l_ => if l_ = 7 then 62 else if l_ = 8 then 66 else if l_ = 9 then 63 else if l_ = 10 then 65 else l_) rfl), (by simp), H⟩ (by rintro _ _ ⟨_, _, _, _, _, _, _, _, _, _, _, _, _, _, _, _, _, _, _, H_⟩; exact absurd (show (none : Option (T25 × Int)) = some r from H_) (by simp)) ?_
      rintro k634 a w633 ⟨o523, A524, c525, l526, x529, x530, hk, hs, f17, f31, f5, f527, f59, fg0, fg1, fg2, fg3, fg4, hc528, H⟩
      rw [line_Parse_l3] at H
      obtain ⟨lp635, hlp636⟩ : ∃ lp_, lp_ = line_Parse_l3 K p0 t10 t22 k634 := ⟨_, rfl⟩
      rw [← hlp636] at H
      refine x_seq ?_
      refine wpIn_region_lit ?_
      refine x_run tab hk (k := 1) (lv := []) (ks := [0, 2, 7, 9, 38, 39, 40, 41]) (e' := [(0, .string p0), (2, .pointer (some ⟨bx4, 0, none⟩)), (7, .pointer (some ⟨bx30, 0, none⟩)), (9, .pointer (some ⟨bx58, 0, none⟩)), (38, .slice A15 (t10.2.1).length c16), (39, .int .i64 ((t10.2.1).length : Int)), (40, .int .i64 x530), (41, .bool (decide (x530 < ((t10.2.1).length : Int))))]) rfl trivial fun a hk => ?_
      refine wpListIn_nil ?_
      refine then_n ?_
      refine x_seq ?_
      cases b637 : (decide (x530 < ((t10.2.1).length : Int)))
      · rw [b637] at hk H
        replace H := bifF H
        refine x_if hk (b := false) rfl ?_
        refine (show Code.wpIn _ _ _ _ _ _ _ from ?_)
        refine wpIn_exit ?_
        refine then_x ?_
        refine then_x ?_
        refine blk_x ?_
        refine then_n ?_
        exact ⟨(fun b_ => (fun l_ => if l_ = 62 then 45 else if l_ = 64 then 46 else if l_ = 65 then 47 else l_) (o523 b_)), A524, c525, l526, x529, (by exact Kn.pick (ks := [0, 2, 9]) hk rfl), (hs.relab0 (fun l_ => if l_ = 62 then 45 else if l_ = 64 then 46 else if l_ = 65 then 47 else l_) rfl), (f527.relab (fun l_ => if l_ = 62 then 45 else if l_ = 64 then 46 else if l_ = 65 then 47 else l_) rfl), (f5.relab (fun l_ => if l_ = 62 then 45 else if l_ = 64 then 46 else if l_ = 65 then 47 else l_) rfl), (f59.relab (fun l_ => if l_ = 62 then 45 else if l_ = 64 then 46 else if l_ = 65 then 47 else l_) rfl), (fg0.relab (fun l_ => if l_ = 62 then 45 else if l_ = 64 then 46 else if l_ = 65 then 47 else l_) rfl), (fg1.relab (fun l_ => if l_ = 62 then 45 else if l_ = 64 then 46 else if l_ = 65 then 47 else l_) rfl), (fg2.relab (fun l_ => if l_ = 62 then 45 else if l_ = 64 then 46 else if l_ = 65 then 47 else l_) rfl), (fg3.relab (fun l_ => if l_ = 62 then 45 else if l_ = 64 then 46 else if l_ = 65 then 47 else l_) rfl), (fg4.relab (fun l_ => if l_ = 62 then 45 else if l_ = 64 then 46 else if l_ = 65 then 47 else l_) rfl), hc528, H⟩
      · rw [b637] at hk H
        replace H := bifT H
        refine x_if hk (b := true) rfl ?_
        refine (show Code.wpIn _ _ _ _ _ _ _ from ?_)
        refine wpIn_skip ?_
        refine then_n ?_
        refine x_seq ?_
        refine wpIn_block ?_
        refine x_seq ?_
        refine wpIn_region_lit ?_
        obtain ⟨q638, H⟩ := ifS H
        obtain ⟨ad639, hAad639⟩ := RdC.addr (Own.rd f17.now) q638
        have hk_C := hk
        have f17_C := f17
        have f31_C := f31
        have f5_C := f5
        have f527_C := f527
        have f59_C := f59
        have fg0_C := fg0
        have fg1_C := fg1
        have fg2_C := fg2
        have fg3_C := fg3
        have fg4_C := fg4
        subst hAad639
        have hk := hk_C
        clear hk_C
        have f17 := f17_C
        clear f17_C
        have f31 := f31_C
        clear f31_C
        have f5 := f5_C
        clear f5_C
        have f527 := f527_C
        clear f527_C
        have f59 := f59_C
        clear f59_C
        have fg0 := fg0_C
        clear fg0_C
        have fg1 := fg1_C
        clear fg1_C
        have fg2 := fg2_C
        clear fg2_C
        have fg3 := fg3_C
        clear fg3_C
        have fg4 := fg4_C
        clear fg4_C
        refine x_run tab hk (k := 5) (lv := [.string (rdD (⟨#[]⟩ : ByteArray) t10.2.1 x530)]) (ks := [0, 2, 7, 9, 10, 11, 38, 39, 40]) (e' := [(0, .string p0), (2, .pointer (some ⟨bx4, 0, none⟩)), (7, .pointer (some ⟨bx30, 0, none⟩)), (9, .pointer (some ⟨bx58, 0, none⟩)), (10, .int .i64 x530), (11, .string (rdD (⟨#[]⟩ : ByteArray) t10.2.1 x530)), (38, .slice (some ad639) (t10.2.1).length c16), (39, .int .i64 ((t10.2.1).length : Int)), (40, .int .i64 x530)]) rfl ⟨q638, (load1 tab rfl (RdC.at0 (E := encStr) (d := (⟨#[]⟩ : ByteArray)) (i := x530) (Own.rd f17.now) q638 rfl)), trivial⟩ fun a hk => ?_
        refine wpListIn_nil ?_
        refine then_n ?_
        refine x_seq ?_
        refine wpIn_region_lit ?_
        refine x_run tab hk (k := 1) (lv := []) (ks := [0, 2, 7, 9, 10, 11, 38, 39, 40]) (e' := [(0, .string p0), (2, .pointer (some ⟨bx4, 0, none⟩)), (7, .pointer (some ⟨bx30, 0, none⟩)), (9, .pointer (some ⟨bx58, 0, none⟩)), (10, .int .i64 x530), (11, .string (rdD (⟨#[]⟩ : ByteArray) t10.2.1 x530)), (38, .slice (some ad639) (t10.2.1).length c16), (39, .int .i64 ((t10.2.1).length : Int)), (40, .int .i64 x530)]) rfl trivial fun a hk => ?_
        refine wpListIn_nil ?_
        refine then_n ?_
        refine x_mid (fun a_ w_ => ∃ o689 : Nat → Nat, ∃ A690 : Option Addr, ∃ c691 : Nat, ∃ l692 : List Int, ∃ x695 : ByteArray, ∃ x696 : Bool, Kn 76 a_ [(0, .string p0), (2, .pointer (some ⟨bx4, 0, none⟩)), (7, .pointer (some ⟨bx30, 0, none⟩)), (9, .pointer (some ⟨bx58, 0, none⟩)), (12, .bool x696), (38, .slice (some ad639) (t10.2.1).length c16), (39, .int .i64 ((t10.2.1).length : Int)), (40, .int .i64 x530)] ∧ St [] w (fun _ => 0) w_ o689 ∧ Ft (Own encStr 9 (.slice (some ad639) (t10.2.1).length c16) t10.2.1) w_ o689 79 ∧ Ft (Bx bx30 48 [.string t22.1.word, .int .i64 t22.1.nums, .bool t22.1.text]) w_ o689 76 ∧ Ft (Bx bx4 26 [.string (⟨#[]⟩ : ByteArray), .slice none 0 0, .string (⟨#[]⟩ : ByteArray)]) w_ o689 75 ∧ Ft (Bx bx58 26 [.string t10.1, .slice A690 (l692).length c691, .string x695]) w_ o689 78 ∧ Ft (Own (encInt .i64) 3 (.slice A690 (l692).length c691) l692) w_ o689 77 ∧ Ft (RdC ET47 (some ⟨0, 0, none⟩) glob0) w_ o689 0 ∧ Ft (GInt 1) w_ o689 0 ∧ Ft (GIface 2) w_ o689 0 ∧ Ft (GIface 3) w_ o689 0 ∧ Ft (GTab Tryd.prog "internal/strconv.uint64pow10" .u64 Lib.pow10Tab) w_ o689 0 ∧ (l692).length ≤ c691 ∧ line_Parse_j4 x530 lp635 l692 x695 x696 = some r) ?_ ?_
        rotate_left
        · rintro a w697 ⟨o689, A690, c691, l692, x695, x696, hk, hs, f17, f31, f5, f59, f693, fg0, fg1, fg2, fg3, fg4, hc694, H⟩
          unfold line_Parse_j4 at H
          refine x_seq ?_
          refine wpIn_region_lit ?_
          refine x_run tab hk (k := 2) (lv := []) (ks := [0, 2, 7, 9, 38, 39, 40, 67]) (e' := [(0, .string p0), (2, .pointer (some ⟨bx4, 0, none⟩)), (7, .pointer (some ⟨bx30, 0, none⟩)), (9, .pointer (some ⟨bx58, 0, none⟩)), (38, .slice (some ad639) (t10.2.1).length c16), (39, .int .i64 ((t10.2.1).length : Int)), (40, .int .i64 x530), (67, .bool (!x696))]) rfl trivial fun a hk => ?_
          refine wpListIn_nil ?_
          refine then_n ?_
          cases b698 : (!x696)
          · rw [b698] at hk H
            replace H := bifF H
            refine x_if hk (b := false) rfl ?_
            refine (show Code.wpIn _ _ _ _ _ _ _ from ?_)
            refine wpIn_skip ?_
            refine blk_n ?_
            refine then_n ?_
            refine wpIn_region_lit ?_
            refine x_run tab hk (k := 2) (lv := []) (ks := [0, 2, 7, 9, 38, 39, 40]) (e' := [(0, .string p0), (2, .pointer (some ⟨bx4, 0, none⟩)), (7, .pointer (some ⟨bx30, 0, none⟩)), (9, .pointer (some ⟨bx58, 0, none⟩)), (38, .slice (some ad639) (t10.2.1).length c16), (39, .int .i64 ((t10.2.1).length : Int)), (40, .int .i64 (IntKind.wrap .i64 (x530 + 1)))]) rfl trivial fun a hk => ?_
            refine wpListIn_nil ?_
            refine then_n ?_
            exact ⟨k634, Nat.le_refl _, (fun b_ => (fun l_ => if l_ = 75 then 62 else if l_ = 76 then 63 else if l_ = 77 then 64 else if l_ = 78 then 65 else if l_ = 79 then 66 else l_) (o689 b_)), A690, c691, l692, x695, (IntKind.wrap .i64 (x530 + 1)), (by exact Kn.pick (ks := [0, 2, 7, 9, 38, 39, 40]) hk rfl), (hs.relab0 (fun l_ => if l_ = 75 then 62 else if l_ = 76 then 63 else if l_ = 77 then 64 else if l_ = 78 then 65 else if l_ = 79 then 66 else l_) rfl), (f17.relab (fun l_ => if l_ = 75 then 62 else if l_ = 76 then 63 else if l_ = 77 then 64 else if l_ = 78 then 65 else if l_ = 79 then 66 else l_) rfl), (f31.relab (fun l_ => if l_ = 75 then 62 else if l_ = 76 then 63 else if l_ = 77 then 64 else if l_ = 78 then 65 else if l_ = 79 then 66 else l_) rfl), (f5.relab (fun l_ => if l_ = 75 then 62 else if l_ = 76 then 63 else if l_ = 77 then 64 else if l_ = 78 then 65 else if l_ = 79 then 66 else l_) rfl), (f693.relab (fun l_ => if l_ = 75 then 62 else if l_ = 76 then 63 else if l_ = 77 then 64 else if l_ = 78 then 65 else if l_ = 79 then 66 else l_) rfl), (f59.relab (fun l_ => if l_ = 75 then 62 else if l_ = 76 then 63 else if l_ = 77 then 64 else if l_ = 78 then 65 else if l_ = 79 then 66 else l_) rfl), (fg0.relab (fun l_ => if l_ = 75 then 62 else if l_ = 76 then 63 else if l_ = 77 then 64 else if l_ = 78 then 65 else if l_ = 79 then 66 else l_) rfl), (fg1.relab (fun l_ => if l_ = 75 then 62 else if l_ = 76 then 63 else if l_ = 77 then 64 else if l_ = 78 then 65 else if l_ = 79 then 66 else l_) rfl), (fg2.relab (fun l_ => if l_ = 75 then 62 else if l_ = 76 then 63 else if l_ = 77 then 64 else if l_ = 78 then 65 else if l_ = 79 then 66 else l_) rfl), (fg3.relab (fun l_ => if l_ = 75 then 62 else if l_ = 76 then 63 else if l_ = 77 then 64 else if l_ = 78 then 65 else if l_ = 79 then 66 else l_) rfl), (fg4.relab (fun l_ => if l_ = 75 then 62 else if l_ = 76 then 63 else if l_ = 77 then 64 else if l_ = 78 then 65 else if l_ = 79 then 66 else l_) rfl), hc694, (hlp636 ▸ H)⟩
          · rw [b698] at hk H
            replace H := bifT H
            refine x_if hk (b := true) rfl ?_
            refine (show Code.wpIn _ _ _ _ _ _ _ from ?_)
            refine x_seq ?_
            refine wpIn_region_lit ?_
            refine x_run tab hk (k := 1) (lv := []) (ks := [2, 68]) (e' := [(2, .pointer (some ⟨bx4, 0, none⟩)), (68, .agg #[.string (⟨#[]⟩ : ByteArray), .slice none 0 0, .string (⟨#[]⟩ : ByteArray)])]) rfl trivial fun a hk => ?_
            refine x_op hk rfl ?_
            refine op_store tab hk (t := 26) (v := .agg #[.string (⟨#[]⟩ : ByteArray), .slice none 0 0, .string (⟨#[]⟩ : ByteArray)]) (b := bx4) (k := 0) (cs' := [.string (⟨#[]⟩ : ByteArray), .slice none 0 0, .string (⟨#[]⟩ : ByteArray)]) rfl rfl rfl rfl rfl rfl f5 rfl rfl fun w699 o700 st701 f5_ => ?_
            replace fg0 := fg0.st st701 (by decide)
            replace fg1 := fg1.st st701 (by decide)
            replace fg2 := fg2.st st701 (by decide)
            replace fg3 := fg3.st st701 (by decide)
            replace fg4 := fg4.st st701 (by decide)
            replace hs := hs.loc0 st701 (by decide)
            replace f5 := f5_
            refine x_run tab hk (k := 1) (lv := []) (ks := [2, 3]) (e' := [(2, .pointer (some ⟨bx4, 0, none⟩)), (3, .int .i64 1)]) rfl trivial fun a hk => ?_
            refine wpListIn_nil ?_
            refine then_n ?_
            refine wpIn_ret ?_
            refine blk_r ?_
            refine then_r ?_
            refine then_r ?_
            refine blk_r ?_
            refine then_r ?_
            obtain rfl := Option.some.inj H
            exact x_retG hk (rs := [.cell 2 26, .tmp 3]) (vs := [.agg #[.string (⟨#[]⟩ : ByteArray), .slice none 0 0, .string (⟨#[]⟩ : ByteArray)], .int .i64 1]) rfl ⟨⟨_, rfl, load_box tab rfl rfl f5.now (k := 0) rfl rfl⟩, rfl, trivial⟩ ⟨fun b_ => if b_ < w.heap.size then o b_ else (fun _ => 0) (o700 b_), none, 0, rfl, hs.close0 o (fun _ => 0), (Ft.of_all (fun _ => Own.nil _ _ _) _ _ _), (by simp)⟩
        refine x_seq ?_
        refine wpIn_region_lit ?_
        refine x_run tab hk (k := 4) (lv := [.int .i64 t22.1.nums]) (ks := [0, 2, 7, 9, 11, 38, 39, 40, 48]) (e' := [(0, .string p0), (2, .pointer (some ⟨bx4, 0, none⟩)), (7, .pointer (some ⟨bx30, 0, none⟩)), (9, .pointer (some ⟨bx58, 0, none⟩)), (11, .string (rdD (⟨#[]⟩ : ByteArray) t10.2.1 x530)), (38, .slice (some ad639) (t10.2.1).length c16), (39, .int .i64 ((t10.2.1).length : Int)), (40, .int .i64 x530), (48, .bool (decide (x530 < t22.1.nums)))]) rfl ⟨(load1 tab rfl ((Bx.cell f31.now 1).trans rfl)), trivial⟩ fun a hk => ?_
        refine wpListIn_nil ?_
        refine then_n ?_
        cases b702 : (decide (x530 < t22.1.nums))
        · rw [b702] at hk H
          replace H := bifF H
          refine x_if hk (b := false) rfl ?_
          refine (show Code.wpIn _ _ _ _ _ _ _ from ?_)
          refine wpIn_region_lit ?_
          refine x_run tab hk (k := 1) (lv := []) (ks := [0, 2, 7, 9, 38, 39, 40, 61]) (e' := [(0, .string p0), (2, .pointer (some ⟨bx4, 0, none⟩)), (7, .pointer (some ⟨bx30, 0, none⟩)), (9, .pointer (some ⟨bx58, 0, none⟩)), (38, .slice (some ad639) (t10.2.1).length c16), (39, .int .i64 ((t10.2.1).length : Int)), (40, .int .i64 x530), (61, .string (rdD (⟨#[]⟩ : ByteArray) t10.2.1 x530))]) rfl trivial fun a hk => ?_
          refine x_op hk rfl ?_
          obtain ⟨t706, hc707, H⟩ := bindS H
          refine op_call hk ent_20 (vs := [.string (rdD (⟨#[]⟩ : ByteArray) t10.2.1 x530)]) rfl (line_read_calls K (rdD (⟨#[]⟩ : ByteArray) t10.2.1 x530) _ o523    _ hc707) ?_
          rintro _ w708 ⟨o709, rfl, st710⟩
          replace f17 := f17.st st710 (by decide)
          replace f31 := f31.st st710 (by decide)
          replace f5 := f5.st st710 (by decide)
          replace f527 := f527.st st710 (by decide)
          replace f59 := f59.st st710 (by decide)
          replace fg0 := fg0.st st710 (by decide)
          replace fg1 := fg1.st st710 (by decide)
          replace fg2 := fg2.st st710 (by decide)
          replace fg3 := fg3.st st710 (by decide)
          replace fg4 := fg4.st st710 (by decide)
          replace hs := hs.loc0 st710 (by decide)
          have hk := hk.put 62 (.tuple #[.string t706.1, .bool t706.2]) rfl
          refine x_run tab hk (k := 4) (lv := []) (ks := [0, 2, 7, 9, 38, 39, 40, 63, 64, 65]) (e' := [(0, .string p0), (2, .pointer (some ⟨bx4, 0, none⟩)), (7, .pointer (some ⟨bx30, 0, none⟩)), (9, .pointer (some ⟨bx58, 0, none⟩)), (38, .slice (some ad639) (t10.2.1).length c16), (39, .int .i64 ((t10.2.1).length : Int)), (40, .int .i64 x530), (63, .string t706.1), (64, .bool t706.2), (65, .pointer (some ((⟨bx58, 0, none⟩ : Addr).add 2)))]) rfl trivial fun a hk => ?_
          refine x_op hk rfl ?_
          refine op_store tab hk (t := 9) (v := .string t706.1) (b := bx58) (k := 2) (cs' := [.string t10.1, .slice A524 (l526).length c525, .string t706.1]) rfl rfl rfl rfl rfl rfl f59 rfl rfl fun w711 o712 st713 f59_ => ?_
          replace f17 := f17.st st713 (by decide)
          replace f31 := f31.st st713 (by decide)
          replace f5 := f5.st st713 (by decide)
          replace f527 := f527.st st713 (by decide)
          replace fg0 := fg0.st st713 (by decide)
          replace fg1 := fg1.st st713 (by decide)
          replace fg2 := fg2.st st713 (by decide)
          replace fg3 := fg3.st st713 (by decide)
          replace fg4 := fg4.st st713 (by decide)
          replace hs := hs.loc0 st713 (by decide)
          replace f59 := f59_
          refine x_run tab hk (k := 1) (lv := []) (ks := [0, 2, 7, 9, 12, 38, 39, 40]) (e' := [(0, .string p0), (2, .pointer (some ⟨bx4, 0, none⟩)), (7, .pointer (some ⟨bx30, 0, none⟩)), (9, .pointer (some ⟨bx58, 0, none⟩)), (12, .bool t706.2), (38, .slice (some ad639) (t10.2.1).length c16), (39, .int .i64 ((t10.2.1).length : Int)), (40, .int .i64 x530)]) rfl trivial fun a hk => ?_
          refine wpListIn_nil ?_
          refine then_n ?_
          exact ⟨(fun b_ => (fun l_ => if l_ = 62 then 75 else if l_ = 63 then 76 else if l_ = 64 then 77 else if l_ = 65 then 78 else if l_ = 66 then 79 else l_) (o712 b_)), A524, c525, l526, t706.1, t706.2, (by exact Kn.pick (ks := [0, 2, 7, 9, 12, 38, 39, 40]) hk rfl), (hs.relab0 (fun l_ => if l_ = 62 then 75 else if l_ = 63 then 76 else if l_ = 64 then 77 else if l_ = 65 then 78 else if l_ = 66 then 79 else l_) rfl), (f17.relab (fun l_ => if l_ = 62 then 75 else if l_ = 63 then 76 else if l_ = 64 then 77 else if l_ = 65 then 78 else if l_ = 66 then 79 else l_) rfl), (f31.relab (fun l_ => if l_ = 62 then 75 else if l_ = 63 then 76 else if l_ = 64 then 77 else if l_ = 65 then 78 else if l_ = 66 then 79 else l_) rfl), (f5.relab (fun l_ => if l_ = 62 then 75 else if l_ = 63 then 76 else if l_ = 64 then 77 else if l_ = 65 then 78 else if l_ = 66 then 79 else l_) rfl), (f59.relab (fun l_ => if l_ = 62 then 75 else if l_ = 63 then 76 else if l_ = 64 then 77 else if l_ = 65 then 78 else if l_ = 66 then 79 else l_) rfl), (f527.relab (fun l_ => if l_ = 62 then 75 else if l_ = 63 then 76 else if l_ = 64 then 77 else if l_ = 65 then 78 else if l_ = 66 then 79 else l_) rfl), (fg0.relab (fun l_ => if l_ = 62 then 75 else if l_ = 63 then 76 else if l_ = 64 then 77 else if l_ = 65 then 78 else if l_ = 66 then 79 else l_) rfl), (fg1.relab (fun l_ => if l_ = 62 then 75 else if l_ = 63 then 76 else if l_ = 64 then 77 else if l_ = 65 then 78 else if l_ = 66 then 79 else l_) rfl), (fg2.relab (fun l_ => if l_ = 62 then 75 else if l_ = 63 then 76 else if l_ = 64 then 77 else if l_ = 65 then 78 else if l_ = 66 then 79 else l_) rfl), (fg3.relab (fun l_ => if l_ = 62 then 75 else if l_ = 63 then 76 else if l_ = 64 then 77 else if l_ = 65 then 78 else if l_ = 66 then 79 else l_) rfl), (fg4.relab (fun l_ => if l_ = 62 then 75 else if l_ = 63 then 76 else if l_ = 64 then 77 else if l_ = 65 then 78 else if l_ = 66 then 79 else l_) rfl), hc528, H⟩
        · rw [b702] at hk H
          replace H := bifT H
          refine x_if hk (b := true) rfl ?_
          refine (show Code.wpIn _ _ _ _ _ _ _ from ?_)
          refine x_seq ?_
          refine wpIn_region_lit ?_
          refine x_run tab hk (k := 1) (lv := []) (ks := [0, 2, 7, 9, 11, 38, 39, 40]) (e' := [(0, .string p0), (2, .pointer (some ⟨bx4, 0, none⟩)), (7, .pointer (some ⟨bx30, 0, none⟩)), (9, .pointer (some ⟨bx58, 0, none⟩)), (11, .string (rdD (⟨#[]⟩ : ByteArray) t10.2.1 x530)), (38, .slice (some ad639) (t10.2.1).length c16), (39, .int .i64 ((t10.2.1).length : Int)), (40, .int .i64 x530)]) rfl trivial fun a hk => ?_
          refine wpListIn_nil ?_
          refine then_n ?_
          refine x_seq ?_
          refine wpIn_region_lit ?_
          refine x_run tab hk (k := 1) (lv := []) (ks := [0, 2, 7, 9, 38, 39, 40, 50]) (e' := [(0, .string p0), (2, .pointer (some ⟨bx4, 0, none⟩)), (7, .pointer (some ⟨bx30, 0, none⟩)), (9, .pointer (some ⟨bx58, 0, none⟩)), (38, .slice (some ad639) (t10.2.1).length c16), (39, .int .i64 ((t10.2.1).length : Int)), (40, .int .i64 x530), (50, .string (rdD (⟨#[]⟩ : ByteArray) t10.2.1 x530))]) rfl trivial fun a hk => ?_
          refine x_op hk rfl ?_
          obtain ⟨t717, hc718, H⟩ := bindS H
          refine op_call hk ent_19 (vs := [.string (rdD (⟨#[]⟩ : ByteArray) t10.2.1 x530)]) rfl (line_number_calls (rdD (⟨#[]⟩ : ByteArray) t10.2.1 x530) _ o523 0 fg2 0 fg3 0 fg4   _ hc718) ?_
          rintro _ w719 ⟨o720, rfl, st721⟩
          replace f17 := f17.st st721 (by decide)
          replace f31 := f31.st st721 (by decide)
          replace f5 := f5.st st721 (by decide)
          replace f527 := f527.st st721 (by decide)
          replace f59 := f59.st st721 (by decide)
          replace fg0 := fg0.st st721 (by decide)
          replace fg1 := fg1.st st721 (by decide)
          replace fg2 := fg2.st st721 (by decide)
          replace fg3 := fg3.st st721 (by decide)
          replace fg4 := fg4.st st721 (by decide)
          replace hs := hs.loc0 st721 (by decide)
          have hk := hk.put 51 (.tuple #[.int .i64 t717.1, .bool t717.2]) rfl
          refine x_run tab hk (k := 5) (lv := []) (ks := [0, 2, 7, 9, 12, 13, 38, 39, 40]) (e' := [(0, .string p0), (2, .pointer (some ⟨bx4, 0, none⟩)), (7, .pointer (some ⟨bx30, 0, none⟩)), (9, .pointer (some ⟨bx58, 0, none⟩)), (12, .bool t717.2), (13, .int .i64 t717.1), (38, .slice (some ad639) (t10.2.1).length c16), (39, .int .i64 ((t10.2.1).length : Int)), (40, .int .i64 x530)]) rfl trivial fun a hk => ?_
          refine wpListIn_nil ?_
          refine then_n ?_
          refine wpIn_region_lit ?_
          refine x_run tab hk (k := 3) (lv := [.slice A524 (l526).length c525]) (ks := [0, 2, 7, 9, 12, 38, 39, 40, 55, 56]) (e' := [(0, .string p0), (2, .pointer (some ⟨bx4, 0, none⟩)), (7, .pointer (some ⟨bx30, 0, none⟩)), (9, .pointer (some ⟨bx58, 0, none⟩)), (12, .bool t717.2), (38, .slice (some ad639) (t10.2.1).length c16), (39, .int .i64 ((t10.2.1).length : Int)), (40, .int .i64 x530), (55, .slice A524 (l526).length c525), (56, .int .i64 t717.1)]) rfl ⟨(load1 tab rfl ((Bx.cell f59.now 1).trans rfl)), trivial⟩ fun a hk => ?_
          refine x_op hk rfl ?_
          refine op_slice (o := o720) tab hk (vs := [.int .i64 t717.1]) (cs := [.int .i64 t717.1]) rfl rfl rfl rfl rfl rfl rfl rfl rfl 80 fun bx725 w722 o723 st724 f726 => ?_
          replace f17 := f17.st st724 (by decide)
          replace f31 := f31.st st724 (by decide)
          replace f5 := f5.st st724 (by decide)
          replace f527 := f527.st st724 (by decide)
          replace f59 := f59.st st724 (by decide)
          replace fg0 := fg0.st st724 (by decide)
          replace fg1 := fg1.st st724 (by decide)
          replace fg2 := fg2.st st724 (by decide)
          replace fg3 := fg3.st st724 (by decide)
          replace fg4 := fg4.st st724 (by decide)
          replace hs := hs.loc0 st724 (by decide)
          have f727 : Ft (Own (encInt .i64) 3 (.slice (some ⟨bx725, 0, none⟩) (([t717.1] : List Int)).length 1) ([t717.1] : List Int)) w722 o723 80 := f726.imp fun _ h_ => Own.of_box h_ rfl (by simp)
          have hk := hk.put 57 (.slice (some ⟨bx725, 0, none⟩) (([t717.1] : List Int)).length 1) rfl
          refine x_op hk rfl ?_
          obtain ⟨q731, H⟩ := ifS H
          refine op_append (o := o723) (E := (encInt .i64)) (xs := l526) (ys := ([t717.1] : List Int)) tab hk rfl rfl rfl rfl rfl rfl rfl f527 (Own.rd f727.now) q731 fun A732 c733 w728 o729 st730 f734 hc735 => ?_
          replace f17 := f17.st st730 (by decide)
          replace f31 := f31.st st730 (by decide)
          replace f5 := f5.st st730 (by decide)
          replace f59 := f59.st st730 (by decide)
          replace f727 := f727.st st730 (by decide)
          replace fg0 := fg0.st st730 (by decide)
          replace fg1 := fg1.st st730 (by decide)
          replace fg2 := fg2.st st730 (by decide)
          replace fg3 := fg3.st st730 (by decide)
          replace fg4 := fg4.st st730 (by decide)
          replace hs := hs.loc0 st730 (by decide)
          have hk := hk.put 58 (.slice A732 ((l526 ++ ([t717.1] : List Int))).length c733) rfl
          refine x_run tab hk (k := 1) (lv := []) (ks := [0, 2, 7, 9, 12, 38, 39, 40, 58, 59]) (e' := [(0, .string p0), (2, .pointer (some ⟨bx4, 0, none⟩)), (7, .pointer (some ⟨bx30, 0, none⟩)), (9, .pointer (some ⟨bx58, 0, none⟩)), (12, .bool t717.2), (38, .slice (some ad639) (t10.2.1).length c16), (39, .int .i64 ((t10.2.1).length : Int)), (40, .int .i64 x530), (58, .slice A732 ((l526 ++ ([t717.1] : List Int))).length c733), (59, .pointer (some ((⟨bx58, 0, none⟩ : Addr).add 1)))]) rfl trivial fun a hk => ?_
          refine x_op hk rfl ?_
          refine op_store tab hk (t := 24) (v := .slice A732 ((l526 ++ ([t717.1] : List Int))).length c733) (b := bx58) (k := 1) (cs' := [.string t10.1, .slice A732 ((l526 ++ ([t717.1] : List Int))).length c733, .string x529]) rfl rfl rfl rfl rfl rfl f59 rfl rfl fun w736 o737 st738 f59_ => ?_
          replace f17 := f17.st st738 (by decide)
          replace f31 := f31.st st738 (by decide)
          replace f5 := f5.st st738 (by decide)
          replace f734 := f734.st st738 (by decide)
          replace fg0 := fg0.st st738 (by decide)
          replace fg1 := fg1.st st738 (by decide)
          replace fg2 := fg2.st st738 (by decide)
          replace fg3 := fg3.st st738 (by decide)
          replace fg4 := fg4.st st738 (by decide)
          replace hs := hs.loc0 st738 (by decide)
          replace f59 := f59_
          refine wpListIn_nil ?_
          refine then_n ?_
          exact ⟨(fun b_ => (fun l_ => if l_ = 62 then 75 else if l_ = 63 then 76 else if l_ = 64 then 77 else if l_ = 65 then 78 else if l_ = 66 then 79 else l_) (o737 b_)), A732, c733, (l526 ++ ([t717.1] : List Int)), x529, t717.2, (by exact Kn.pick (ks := [0, 2, 7, 9, 12, 38, 39, 40]) hk rfl), (hs.relab0 (fun l_ => if l_ = 62 then 75 else if l_ = 63 then 76 else if l_ = 64 then 77 else if l_ = 65 then 78 else if l_ = 66 then 79 else l_) rfl), (f17.relab (fun l_ => if l_ = 62 then 75 else if l_ = 63 then 76 else if l_ = 64 then 77 else if l_ = 65 then 78 else if l_ = 66 then 79 else l_) rfl), (f31.relab (fun l_ => if l_ = 62 then 75 else if l_ = 63 then 76 else if l_ = 64 then 77 else if l_ = 65 then 78 else if l_ = 66 then 79 else l_) rfl), (f5.relab (fun l_ => if l_ = 62 then 75 else if l_ = 63 then 76 else if l_ = 64 then 77 else if l_ = 65 then 78 else if l_ = 66 then 79 else l_) rfl), (f59.relab (fun l_ => if l_ = 62 then 75 else if l_ = 63 then 76 else if l_ = 64 then 77 else if l_ = 65 then 78 else if l_ = 66 then 79 else l_) rfl), (f734.relab (fun l_ => if l_ = 62 then 75 else if l_ = 63 then 76 else if l_ = 64 then 77 else if l_ = 65 then 78 else if l_ = 66 then 79 else l_) rfl), (fg0.relab (fun l_ => if l_ = 62 then 75 else if l_ = 63 then 76 else if l_ = 64 then 77 else if l_ = 65 then 78 else if l_ = 66 then 79 else l_) rfl), (fg1.relab (fun l_ => if l_ = 62 then 75 else if l_ = 63 then 76 else if l_ = 64 then 77 else if l_ = 65 then 78 else if l_ = 66 then 79 else l_) rfl), (fg2.relab (fun l_ => if l_ = 62 then 75 else if l_ = 63 then 76 else if l_ = 64 then 77 else if l_ = 65 then 78 else if l_ = 66 then 79 else l_) rfl), (fg3.relab (fun l_ => if l_ = 62 then 75 else if l_ = 63 then 76 else if l_ = 64 then 77 else if l_ = 65 then 78 else if l_ = 66 then 79 else l_) rfl), (fg4.relab (fun l_ => if l_ = 62 then 75 else if l_ = 63 then 76 else if l_ = 64 then 77 else if l_ = 65 then 78 else if l_ = 66 then 79 else l_) rfl), hc735, H⟩
    refine x_mid (fun a_ w_ => ∃ o746 : Nat → Nat, ∃ x747 : Bool, Kn 76 a_ [(0, .string p0), (2, .pointer (some ⟨bx4, 0, none⟩)), (4, .string t10.1), (5, .slice A15 (t10.2.1).length c16), (7, .pointer (some ⟨bx30, 0, none⟩)), (34, .bool x747)] ∧ St [] w (fun _ => 0) w_ o746 ∧ Ft (Own encStr 9 (.slice A15 (t10.2.1).length c16) t10.2.1) w_ o746 82 ∧ Ft (Bx bx30 48 [.string t22.1.word, .int .i64 t22.1.nums, .bool t22.1.text]) w_ o746 83 ∧ Ft (Bx bx4 26 [.string (⟨#[]⟩ : ByteArray), .slice none 0 0, .string (⟨#[]⟩ : ByteArray)]) w_ o746 81 ∧ Ft (RdC ET47 (some ⟨0, 0, none⟩) glob0) w_ o746 0 ∧ Ft (GInt 1) w_ o746 0 ∧ Ft (GIface 2) w_ o746 0 ∧ Ft (GIface 3) w_ o746 0 ∧ Ft (GTab Tryd.prog "internal/strconv.uint64pow10" .u64 Lib.pow10Tab) w_ o746 0 ∧ line_Parse_j5 K p0 t10 t22 x747 = some r) ?_ ?_
    rotate_left
    · rintro a w748 ⟨o746, x747, hk, hs, f17, f31, f5, fg0, fg1, fg2, fg3, fg4, H⟩
      unfold line_Parse_j5 at H
      cases b749 : x747
      · rw [b749] at hk H
        replace H := bifF H
        refine x_if hk (b := false) rfl ?_
        refine (show Code.wpIn _ _ _ _ _ _ _ from ?_)
        refine wpIn_skip ?_
        refine then_n ?_
        exact ⟨(fun b_ => (fun l_ => if l_ = 81 then 7 else if l_ = 82 then 8 else if l_ = 83 then 9 else l_) (o746 b_)), (by exact Kn.pick (ks := [0, 2, 4, 5, 7]) hk rfl), (hs.relab0 (fun l_ => if l_ = 81 then 7 else if l_ = 82 then 8 else if l_ = 83 then 9 else l_) rfl), (f17.relab (fun l_ => if l_ = 81 then 7 else if l_ = 82 then 8 else if l_ = 83 then 9 else l_) rfl), (f31.relab (fun l_ => if l_ = 81 then 7 else if l_ = 82 then 8 else if l_ = 83 then 9 else l_) rfl), (f5.relab (fun l_ => if l_ = 81 then 7 else if l_ = 82 then 8 else if l_ = 83 then 9 else l_) rfl), (fg0.relab (fun l_ => if l_ = 81 then 7 else if l_ = 82 then 8 else if l_ = 83 then 9 else l_) rfl), (fg1.relab (fun l_ => if l_ = 81 then 7 else if l_ = 82 then 8 else if l_ = 83 then 9 else l_) rfl), (fg2.relab (fun l_ => if l_ = 81 then 7 else if l_ = 82 then 8 else if l_ = 83 then 9 else l_) rfl), (fg3.relab (fun l_ => if l_ = 81 then 7 else if l_ = 82 then 8 else if l_ = 83 then 9 else l_) rfl), (fg4.relab (fun l_ => if l_ = 81 then 7 else if l_ = 82 then 8 else if l_ = 83 then 9 else l_) rfl), H⟩
      · rw [b749] at hk H
        replace H := bifT H
        refine x_if hk (b := true) rfl ?_
        refine (show Code.wpIn _ _ _ _ _ _ _ from ?_)
        refine x_seq ?_
        refine wpIn_region_lit ?_
        refine x_run tab hk (k := 1) (lv := []) (ks := [2, 35]) (e' := [(2, .pointer (some ⟨bx4, 0, none⟩)), (35, .agg #[.string (⟨#[]⟩ : ByteArray), .slice none 0 0, .string (⟨#[]⟩ : ByteArray)])]) rfl trivial fun a hk => ?_
        refine x_op hk rfl ?_
        refine op_store tab hk (t := 26) (v := .agg #[.string (⟨#[]⟩ : ByteArray), .slice none 0 0, .string (⟨#[]⟩ : ByteArray)]) (b := bx4) (k := 0) (cs' := [.string (⟨#[]⟩ : ByteArray), .slice none 0 0, .string (⟨#[]⟩ : ByteArray)]) rfl rfl rfl rfl rfl rfl f5 rfl rfl fun w750 o751 st752 f5_ => ?_
        replace fg0 := fg0.st st752 (by decide)
        replace fg1 := fg1.st st752 (by decide)
        replace fg2 := fg2.st st752 (by decide)
        replace fg3 := fg3.st st752 (by decide)
        replace fg4 := fg4.st st752 (by decide)
        replace hs := hs.loc0 st752 (by decide)
        replace f5 := f5_
        refine x_run tab hk (k := 1) (lv := []) (ks := [2, 3]) (e' := [(2, .pointer (some ⟨bx4, 0, none⟩)), (3, .int .i64 1)]) rfl trivial fun a hk => ?_
        refine wpListIn_nil ?_
        refine then_n ?_
        refine wpIn_ret ?_
        refine then_r ?_
        obtain rfl := Option.some.inj H
        exact x_retG hk (rs := [.cell 2 26, .tmp 3]) (vs := [.agg #[.string (⟨#[]⟩ : ByteArray), .slice none 0 0, .string (⟨#[]⟩ : ByteArray)], .int .i64 1]) rfl ⟨⟨_, rfl, load_box tab rfl rfl f5.now (k := 0) rfl rfl⟩, rfl, trivial⟩ ⟨fun b_ => if b_ < w.heap.size then o b_ else (fun _ => 0) (o751 b_), none, 0, rfl, hs.close0 o (fun _ => 0), (Ft.of_all (fun _ => Own.nil _ _ _) _ _ _), (by simp)⟩
    refine wpIn_region_lit ?_
    refine x_run tab hk (k := 3) (lv := []) (ks := [0, 2, 4, 5, 7, 8, 31]) (e' := [(0, .string p0), (2, .pointer (some ⟨bx4, 0, none⟩)), (4, .string t10.1), (5, .slice A15 (t10.2.1).length c16), (7, .pointer (some ⟨bx30, 0, none⟩)), (8, .bool t22.2), (31, .bool (!t10.2.2))]) rfl trivial fun a hk => ?_
    cases b753 : (!t10.2.2)
    · rw [b753] at hk H
      replace H := bifF H
      refine x_run tab hk (k := 3) (lv := []) (ks := [0, 2, 4, 5, 7, 34]) (e' := [(0, .string p0), (2, .pointer (some ⟨bx4, 0, none⟩)), (4, .string t10.1), (5, .slice A15 (t10.2.1).length c16), (7, .pointer (some ⟨bx30, 0, none⟩)), (34, .bool (!t22.2))]) rfl trivial fun a hk => ?_
      refine wpListIn_nil ?_
      refine then_n ?_
      exact ⟨(fun b_ => (fun l_ => if l_ = 1 then 81 else if l_ = 2 then 82 else if l_ = 3 then 83 else l_) (o33 b_)), (!t22.2), (by exact Kn.pick (ks := [0, 2, 4, 5, 7, 34]) hk rfl), (hs.relab0 (fun l_ => if l_ = 1 then 81 else if l_ = 2 then 82 else if l_ = 3 then 83 else l_) rfl), (f17.relab (fun l_ => if l_ = 1 then 81 else if l_ = 2 then 82 else if l_ = 3 then 83 else l_) rfl), (f31.relab (fun l_ => if l_ = 1 then 81 else if l_ = 2 then 82 else if l_ = 3 then 83 else l_) rfl), (f5.relab (fun l_ => if l_ = 1 then 81 else if l_ = 2 then 82 else if l_ = 3 then 83 else l_) rfl), (fg0.relab (fun l_ => if l_ = 1 then 81 else if l_ = 2 then 82 else if l_ = 3 then 83 else l_) rfl), (fg1.relab (fun l_ => if l_ = 1 then 81 else if l_ = 2 then 82 else if l_ = 3 then 83 else l_) rfl), (fg2.relab (fun l_ => if l_ = 1 then 81 else if l_ = 2 then 82 else if l_ = 3 then 83 else l_) rfl), (fg3.relab (fun l_ => if l_ = 1 then 81 else if l_ = 2 then 82 else if l_ = 3 then 83 else l_) rfl), (fg4.relab (fun l_ => if l_ = 1 then 81 else if l_ = 2 then 82 else if l_ = 3 then 83 else l_) rfl), H⟩
    · rw [b753] at hk H
      replace H := bifT H
      refine x_run tab hk (k := 3) (lv := []) (ks := [0, 2, 4, 5, 7, 34]) (e' := [(0, .string p0), (2, .pointer (some ⟨bx4, 0, none⟩)), (4, .string t10.1), (5, .slice A15 (t10.2.1).length c16), (7, .pointer (some ⟨bx30, 0, none⟩)), (34, .bool true)]) rfl trivial fun a hk => ?_
      refine wpListIn_nil ?_
      refine then_n ?_
      exact ⟨(fun b_ => (fun l_ => if l_ = 1 then 81 else if l_ = 2 then 82 else if l_ = 3 then 83 else l_) (o33 b_)), true, (by exact Kn.pick (ks := [0, 2, 4, 5, 7, 34]) hk rfl), (hs.relab0 (fun l_ => if l_ = 1 then 81 else if l_ = 2 then 82 else if l_ = 3 then 83 else l_) rfl), (f17.relab (fun l_ => if l_ = 1 then 81 else if l_ = 2 then 82 else if l_ = 3 then 83 else l_) rfl), (f31.relab (fun l_ => if l_ = 1 then 81 else if l_ = 2 then 82 else if l_ = 3 then 83 else l_) rfl), (f5.relab (fun l_ => if l_ = 1 then 81 else if l_ = 2 then 82 else if l_ = 3 then 83 else l_) rfl), (fg0.relab (fun l_ => if l_ = 1 then 81 else if l_ = 2 then 82 else if l_ = 3 then 83 else l_) rfl), (fg1.relab (fun l_ => if l_ = 1 then 81 else if l_ = 2 then 82 else if l_ = 3 then 83 else l_) rfl), (fg2.relab (fun l_ => if l_ = 1 then 81 else if l_ = 2 then 82 else if l_ = 3 then 83 else l_) rfl), (fg3.relab (fun l_ => if l_ = 1 then 81 else if l_ = 2 then 82 else if l_ = 3 then 83 else l_) rfl), (fg4.relab (fun l_ => if l_ = 1 then 81 else if l_ = 2 then 82 else if l_ = 3 then 83 else l_) rfl), H⟩
  · rw [b6] at hk H
    replace H := bifT H
    refine x_if hk (b := true) rfl ?_
    refine (show Code.wpIn _ _ _ _ _ _ _ from ?_)
    refine x_seq ?_
    refine wpIn_region_lit ?_
    refine x_run tab hk (k := 1) (lv := []) (ks := [2, 17]) (e' := [(2, .pointer (some ⟨bx4, 0, none⟩)), (17, .agg #[.string (⟨#[]⟩ : ByteArray), .slice none 0 0, .string (⟨#[]⟩ : ByteArray)])]) rfl trivial fun a hk => ?_
    refine x_op hk rfl ?_
    refine op_store tab hk (t := 26) (v := .agg #[.string (⟨#[]⟩ : ByteArray), .slice none 0 0, .string (⟨#[]⟩ : ByteArray)]) (b := bx4) (k := 0) (cs' := [.string (⟨#[]⟩ : ByteArray), .slice none 0 0, .string (⟨#[]⟩ : ByteArray)]) rfl rfl rfl rfl rfl rfl f5 rfl rfl fun w754 o755 st756 f5_ => ?_
    replace fg0 := fg0.st st756 (by decide)
    replace fg1 := fg1.st st756 (by decide)
    replace fg2 := fg2.st st756 (by decide)
    replace fg3 := fg3.st st756 (by decide)
    replace fg4 := fg4.st st756 (by decide)
    replace hs := hs.loc0 st756 (by decide)
    replace f5 := f5_
    refine x_run tab hk (k := 1) (lv := []) (ks := [2, 3]) (e' := [(2, .pointer (some ⟨bx4, 0, none⟩)), (3, .int .i64 3)]) rfl trivial fun a hk => ?_
    refine wpListIn_nil ?_
    refine then_n ?_
    refine wpIn_ret ?_
    refine then_r ?_
    obtain rfl := Option.some.inj H
    exact x_retG hk (rs := [.cell 2 26, .tmp 3]) (vs := [.agg #[.string (⟨#[]⟩ : ByteArray), .slice none 0 0, .string (⟨#[]⟩ : ByteArray)], .int .i64 3]) rfl ⟨⟨_, rfl, load_box tab rfl rfl f5.now (k := 0) rfl rfl⟩, rfl, trivial⟩ ⟨fun b_ => if b_ < w.heap.size then o b_ else (fun _ => 0) (o755 b_), none, 0, rfl, hs.close0 o (fun _ => 0), (Ft.of_all (fun _ => Own.nil _ _ _) _ _ _), (by simp)⟩

/-! tidewrack/tidewracklaw27.awake -/
set_option maxHeartbeats 4000000 in
set_option maxRecDepth 20000 in
theorem tidewracklaw27_awake_calls (K : Nat)  (w : World) (o : Nat → Nat) (Lg0 : Nat) (hg0 : Ft (RdC ET47 (some ⟨0, 0, none⟩) glob0) w o Lg0) (Lg1 : Nat) (hg1 : Ft (GInt 1) w o Lg1) (Lg2 : Nat) (hg2 : Ft (GIface 2) w o Lg2) (Lg3 : Nat) (hg3 : Ft (GIface 3) w o Lg3) (Lg4 : Nat) (hg4 : Ft (GTab Tryd.prog "internal/strconv.uint64pow10" .u64 Lib.pow10Tab) w o Lg4)   (r : Bool) (H : tidewracklaw27_awake K = some r) :
    Calls Tryd.prog 7 #[] w (Ret fun v_ w' => ∃ o' : Nat → Nat, v_ = .bool r ∧ St [] w o w' o') := by
  refine x_enter (vs := []) Tryd.func7 rfl rfl rfl fun a hk => ?_
  obtain ⟨o0, hs, h0⟩ := St.start w o
  have fg0 := h0 _ _ hg0
  have fg1 := h0 _ _ hg1
  have fg2 := h0 _ _ hg2
  have fg3 := h0 _ _ hg3
  have fg4 := h0 _ _ hg4
  clear h0
  rw [tidewracklaw27_awake] at H
  refine x_seq ?_
  refine wpIn_region_lit ?_
  refine x_run tab hk (k := 1) (lv := []) (ks := []) (e' := []) rfl trivial fun a hk => ?_
  refine wpListIn_nil ?_
  refine then_n ?_
  refine x_seq ?_
  refine wpIn_region_lit ?_
  refine x_op hk rfl ?_
  obtain ⟨t4, hc5, H⟩ := bindS H
  refine op_call hk ent_9 (vs := [.string (⟨#[100, 111, 40, 97, 37, 50, 48, 98, 37, 48, 65, 41]⟩ : ByteArray)]) rfl (line_Parse_calls K (⟨#[100, 111, 40, 97, 37, 50, 48, 98, 37, 48, 65, 41]⟩ : ByteArray) _ o0 0 fg0 0 fg1 0 fg2 0 fg3 0 fg4 1  _ hc5) ?_
  rintro _ w6 ⟨o7, A9, c10, rfl, st8, f11, hc12⟩
  replace fg0 := fg0.st st8 (by decide)
  replace fg1 := fg1.st st8 (by decide)
  replace fg2 := fg2.st st8 (by decide)
  replace fg3 := fg3.st st8 (by decide)
  replace fg4 := fg4.st st8 (by decide)
  replace hs := hs.loc0 st8 (by decide)
  have hk := hk.put 6 (.tuple #[.agg #[.string t4.1.Word, .slice A9 (t4.1.Nums).length c10, .string t4.1.Text], .int .i64 t4.2]) rfl
  refine x_run tab hk (k := 3) (lv := []) (ks := [7, 8]) (e' := [(7, .agg #[.string t4.1.Word, .slice A9 (t4.1.Nums).length c10, .string t4.1.Text]), (8, .int .i64 t4.2)]) rfl trivial fun a hk => ?_
  refine x_op hk rfl ?_
  refine op_alloc (o := o7) tab (t := 26) (cs := [.string (⟨#[]⟩ : ByteArray), .slice none 0 0, .string (⟨#[]⟩ : ByteArray)]) rfl rfl 2 fun bx16 w13 o14 st15 f17 => ?_
  replace f11 := f11.st st15 (by decide)
  replace fg0 := fg0.st st15 (by decide)
  replace fg1 := fg1.st st15 (by decide)
  replace fg2 := fg2.st st15 (by decide)
  replace fg3 := fg3.st st15 (by decide)
  replace fg4 := fg4.st st15 (by decide)
  replace hs := hs.loc0 st15 (by decide)
  have hk := hk.put 1 (.pointer (some ⟨bx16, 0, none⟩)) rfl
  refine x_op hk rfl ?_
  refine op_store tab hk (t := 26) (v := .agg #[.string t4.1.Word, .slice A9 (t4.1.Nums).length c10, .string t4.1.Text]) (b := bx16) (k := 0) (cs' := [.string t4.1.Word, .slice A9 (t4.1.Nums).length c10, .string t4.1.Text]) rfl rfl rfl rfl rfl rfl f17 rfl rfl fun w18 o19 st20 f17_ => ?_
  replace f11 := f11.st st20 (by decide)
  replace fg0 := fg0.st st20 (by decide)
  replace fg1 := fg1.st st20 (by decide)
  replace fg2 := fg2.st st20 (by decide)
  replace fg3 := fg3.st st20 (by decide)
  replace fg4 := fg4.st st20 (by decide)
  replace hs := hs.loc0 st20 (by decide)
  replace f17 := f17_
  refine x_run tab hk (k := 1) (lv := []) (ks := [1, 2]) (e' := [(1, .pointer (some ⟨bx16, 0, none⟩)), (2, .int .i64 t4.2)]) rfl trivial fun a hk => ?_
  refine wpListIn_nil ?_
  refine then_n ?_
  refine x_seq ?_
  refine wpIn_region_lit ?_
  refine x_op hk rfl ?_
  obtain ⟨t24, hc25, H⟩ := bindS H
  refine op_call hk ent_9 (vs := [.string (⟨#[100, 111, 40, 97, 32, 98, 41]⟩ : ByteArray)]) rfl (line_Parse_calls K (⟨#[100, 111, 40, 97, 32, 98, 41]⟩ : ByteArray) _ o19 0 fg0 0 fg1 0 fg2 0 fg3 0 fg4 3  _ hc25) ?_
  rintro _ w26 ⟨o27, A29, c30, rfl, st28, f31, hc32⟩
  replace f11 := f11.st st28 (by decide)
  replace f17 := f17.st st28 (by decide)
  replace fg0 := fg0.st st28 (by decide)
  replace fg1 := fg1.st st28 (by decide)
  replace fg2 := fg2.st st28 (by decide)
  replace fg3 := fg3.st st28 (by decide)
  replace fg4 := fg4.st st28 (by decide)
  replace hs := hs.loc0 st28 (by decide)
  have hk := hk.put 10 (.tuple #[.agg #[.string t24.1.Word, .slice A29 (t24.1.Nums).length c30, .string t24.1.Text], .int .i64 t24.2]) rfl
  refine x_run tab hk (k := 3) (lv := []) (ks := [1, 2, 11, 12]) (e' := [(1, .pointer (some ⟨bx16, 0, none⟩)), (2, .int .i64 t4.2), (11, .agg #[.string t24.1.Word, .slice A29 (t24.1.Nums).length c30, .string t24.1.Text]), (12, .int .i64 t24.2)]) rfl trivial fun a hk => ?_
  refine x_op hk rfl ?_
  refine op_alloc (o := o27) tab (t := 26) (cs := [.string (⟨#[]⟩ : ByteArray), .slice none 0 0, .string (⟨#[]⟩ : ByteArray)]) rfl rfl 4 fun bx36 w33 o34 st35 f37 => ?_
  replace f11 := f11.st st35 (by decide)
  replace f17 := f17.st st35 (by decide)
  replace f31 := f31.st st35 (by decide)
  replace fg0 := fg0.st st35 (by decide)
  replace fg1 := fg1.st st35 (by decide)
  replace fg2 := fg2.st st35 (by decide)
  replace fg3 := fg3.st st35 (by decide)
  replace fg4 := fg4.st st35 (by decide)
  replace hs := hs.loc0 st35 (by decide)
  have hk := hk.put 3 (.pointer (some ⟨bx36, 0, none⟩)) rfl
  refine x_op hk rfl ?_
  refine op_store tab hk (t := 26) (v := .agg #[.string t24.1.Word, .slice A29 (t24.1.Nums).length c30, .string t24.1.Text]) (b := bx36) (k := 0) (cs' := [.string t24.1.Word, .slice A29 (t24.1.Nums).length c30, .string t24.1.Text]) rfl rfl rfl rfl rfl rfl f37 rfl rfl fun w38 o39 st40 f37_ => ?_
  replace f11 := f11.st st40 (by decide)
  replace f17 := f17.st st40 (by decide)
  replace f31 := f31.st st40 (by decide)
  replace fg0 := fg0.st st40 (by decide)
  replace fg1 := fg1.st st40 (by decide)
  replace fg2 := fg2.st st40 (by decide)
  replace fg3 := fg3.st st40 (by decide)
  replace fg4 := fg4.st st40 (by decide)
  replace hs := hs.loc0 st40 (by decide)
  replace f37 := f37_
  refine x_run tab hk (k := 1) (lv := []) (ks := [1, 2, 4]) (e' := [(1, .pointer (some ⟨bx16, 0, none⟩)), (2, .int .i64 t4.2), (4, .int .i64 t24.2)]) rfl trivial fun a hk => ?_
  refine wpListIn_nil ?_
  refine then_n ?_
  refine x_seq ?_
  refine wpIn_region_lit ?_
  refine x_run tab hk (k := 3) (lv := []) (ks := [1, 4, 15]) (e' := [(1, .pointer (some ⟨bx16, 0, none⟩)), (4, .int .i64 t24.2), (15, .bool (t4.2 == (0 : Int)))]) rfl trivial fun a hk => ?_
  cases b41 : (t4.2 == (0 : Int))
  · rw [b41] at hk H
    replace H := bifF H
    refine x_run tab hk (k := 12) (lv := []) (ks := [24, 27]) (e' := [(24, .bool false), (27, undef)]) rfl trivial fun a hk => ?_
    refine x_run tab hk (k := 8) (lv := []) (ks := [0]) (e' := [(0, .bool false)]) rfl trivial fun a hk => ?_
    refine wpListIn_nil ?_
    refine then_n ?_
    refine wpIn_ret ?_
    obtain rfl := Option.some.inj H
    exact x_retG hk (rs := [.tmp 0]) (vs := [.bool false]) rfl ⟨rfl, trivial⟩ ⟨fun b_ => if b_ < w.heap.size then o b_ else (fun _ => 0) (o39 b_), rfl, hs.close0 o (fun _ => 0)⟩
  · rw [b41] at hk H
    replace H := bifT H
    refine x_run tab hk (k := 4) (lv := []) (ks := [1, 19]) (e' := [(1, .pointer (some ⟨bx16, 0, none⟩)), (19, .bool (t24.2 == (1 : Int)))]) rfl trivial fun a hk => ?_
    cases b42 : (t24.2 == (1 : Int))
    · rw [b42] at hk H
      replace H := bifF H
      refine x_run tab hk (k := 14) (lv := []) (ks := [29, 33]) (e' := [(29, .bool false), (33, undef)]) rfl trivial fun a hk => ?_
      refine x_run tab hk (k := 2) (lv := []) (ks := [0]) (e' := [(0, .bool false)]) rfl trivial fun a hk => ?_
      refine wpListIn_nil ?_
      refine then_n ?_
      refine wpIn_ret ?_
      obtain rfl := Option.some.inj H
      exact x_retG hk (rs := [.tmp 0]) (vs := [.bool false]) rfl ⟨rfl, trivial⟩ ⟨fun b_ => if b_ < w.heap.size then o b_ else (fun _ => 0) (o39 b_), rfl, hs.close0 o (fun _ => 0)⟩
    · rw [b42] at hk H
      replace H := bifT H
      refine x_run tab hk (k := 5) (lv := [.string t4.1.Word]) (ks := [1, 24]) (e' := [(1, .pointer (some ⟨bx16, 0, none⟩)), (24, .bool (ByteArray.toList t4.1.Word == ByteArray.toList (⟨#[100, 111]⟩ : ByteArray)))]) rfl ⟨(load1 tab rfl ((Bx.cell f17.now 0).trans rfl)), trivial⟩ fun a hk => ?_
      cases b43 : (ByteArray.toList t4.1.Word == ByteArray.toList (⟨#[100, 111]⟩ : ByteArray))
      · rw [b43] at hk H
        replace H := bifF H
        refine x_run tab hk (k := 10) (lv := []) (ks := [34]) (e' := [(34, .bool false)]) rfl trivial fun a hk => ?_
        refine x_run tab hk (k := 1) (lv := []) (ks := [0]) (e' := [(0, .bool false)]) rfl trivial fun a hk => ?_
        refine wpListIn_nil ?_
        refine then_n ?_
        refine wpIn_ret ?_
        obtain rfl := Option.some.inj H
        exact x_retG hk (rs := [.tmp 0]) (vs := [.bool false]) rfl ⟨rfl, trivial⟩ ⟨fun b_ => if b_ < w.heap.size then o b_ else (fun _ => 0) (o39 b_), rfl, hs.close0 o (fun _ => 0)⟩
      · rw [b43] at hk H
        replace H := bifT H
        refine x_run tab hk (k := 5) (lv := [.string t4.1.Text]) (ks := [29]) (e' := [(29, .bool (ByteArray.toList t4.1.Text == ByteArray.toList (⟨#[97, 32, 98, 10]⟩ : ByteArray)))]) rfl ⟨(load1 tab rfl ((Bx.cell f17.now 2).trans rfl)), trivial⟩ fun a hk => ?_
        cases b44 : (ByteArray.toList t4.1.Text == ByteArray.toList (⟨#[97, 32, 98, 10]⟩ : ByteArray))
        · rw [b44] at hk H
          replace H := bifF H
          refine x_run tab hk (k := 6) (lv := []) (ks := [0]) (e' := [(0, .bool false)]) rfl trivial fun a hk => ?_
          refine wpListIn_nil ?_
          refine then_n ?_
          refine wpIn_ret ?_
          obtain rfl := Option.some.inj H
          exact x_retG hk (rs := [.tmp 0]) (vs := [.bool false]) rfl ⟨rfl, trivial⟩ ⟨fun b_ => if b_ < w.heap.size then o b_ else (fun _ => 0) (o39 b_), rfl, hs.close0 o (fun _ => 0)⟩
        · rw [b44] at hk H
          replace H := bifT H
          refine x_op hk rfl ?_
          refine op_slice (o := o39) tab hk (vs := [.int .i64 1, .int .i64 2, .int .i64 3]) (cs := [.int .i64 1, .int .i64 2, .int .i64 3]) rfl rfl rfl rfl rfl rfl rfl rfl rfl 5 fun bx48 w45 o46 st47 f49 => ?_
          replace fg0 := fg0.st st47 (by decide)
          replace fg1 := fg1.st st47 (by decide)
          replace fg2 := fg2.st st47 (by decide)
          replace fg3 := fg3.st st47 (by decide)
          replace fg4 := fg4.st st47 (by decide)
          replace hs := hs.loc0 st47 (by decide)
          have f50 : Ft (Own (encInt .i64) 3 (.slice (some ⟨bx48, 0, none⟩) (([1, 2, 3] : List Int)).length 3) ([1, 2, 3] : List Int)) w45 o46 5 := f49.imp fun _ h_ => Own.of_box h_ rfl (by simp)
          have hk := hk.put 30 (.slice (some ⟨bx48, 0, none⟩) (([1, 2, 3] : List Int)).length 3) rfl
          refine x_run tab hk (k := 1) (lv := []) (ks := [29, 31]) (e' := [(29, .bool true), (31, .agg #[.string (⟨#[115, 101, 101]⟩ : ByteArray), .slice (some ⟨bx48, 0, none⟩) (([1, 2, 3] : List Int)).length 3, .string (⟨#[]⟩ : ByteArray)])]) rfl trivial fun a hk => ?_
          refine x_op hk rfl ?_
          obtain ⟨t54, hc55, H⟩ := bindS H
          refine op_call hk ent_12 (vs := [.agg #[.string (⟨#[115, 101, 101]⟩ : ByteArray), .slice (some ⟨bx48, 0, none⟩) (([1, 2, 3] : List Int)).length 3, .string (⟨#[]⟩ : ByteArray)]]) rfl (line_Step_Line_calls K (some ⟨bx48, 0, none⟩) 3 (⟨(⟨#[115, 101, 101]⟩ : ByteArray), ([1, 2, 3] : List Int), (⟨#[]⟩ : ByteArray)⟩ : T25) _ o46 0 fg0 0 fg4 _ (f50.imp fun _ h_ => Own.rd h_) (Nat.le_refl _)   _ hc55) ?_
          rintro _ w56 ⟨o57, rfl, st58⟩
          replace f50 := f50.st st58 (by decide)
          replace fg0 := fg0.st st58 (by decide)
          replace fg1 := fg1.st st58 (by decide)
          replace fg2 := fg2.st st58 (by decide)
          replace fg3 := fg3.st st58 (by decide)
          replace fg4 := fg4.st st58 (by decide)
          replace hs := hs.loc0 st58 (by decide)
          have hk := hk.put 32 (.string t54) rfl
          refine x_run tab hk (k := 3) (lv := []) (ks := [0]) (e' := [(0, .bool (ByteArray.toList t54 == ByteArray.toList (⟨#[115, 101, 101, 40, 49, 44, 50, 44, 51, 41]⟩ : ByteArray)))]) rfl trivial fun a hk => ?_
          refine wpListIn_nil ?_
          refine then_n ?_
          refine wpIn_ret ?_
          obtain rfl := Option.some.inj H
          exact x_retG hk (rs := [.tmp 0]) (vs := [.bool (ByteArray.toList t54 == ByteArray.toList (⟨#[115, 101, 101, 40, 49, 44, 50, 44, 51, 41]⟩ : ByteArray))]) rfl ⟨rfl, trivial⟩ ⟨fun b_ => if b_ < w.heap.size then o b_ else (fun _ => 0) (o57 b_), rfl, hs.close0 o (fun _ => 0)⟩

end Go.Proofs.YtmolecadkgffkaaDoor
