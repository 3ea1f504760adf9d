/- Walks, printed by an own program: the machine's calls compute the plain functions. -/
import Derived.Test.YthddmlhmejnhlaaDoorW3
set_option linter.unusedVariables false
set_option linter.unusedSimpArgs false
namespace Go.Proofs.YthddmlhmejnhlaaDoor
open Go Go.Proofs.XC
/-! tidewrack/tidewracklaw07.SeqGround -/
theorem tidewracklaw07_SeqGround_calls (K : Nat) (p0 : ByteArray) (w : World) (o : Nat → Nat) (Lg0 : Nat) (hg0 : Ft (RdC ET70 (some ⟨0, 0, none⟩) glob0) w o Lg0)   (r : Bool) (H : tidewracklaw07_SeqGround K p0 = some r) :
    Calls Tryd.prog 4 #[.string p0] w (Ret fun v_ w' => ∃ o' : Nat → Nat, v_ = .bool r ∧ St [] w o w' o') := by
  refine x_enter (vs := [.string p0]) Tryd.func4 rfl rfl rfl fun a hk => ?_
  obtain ⟨o0, hs, h0⟩ := St.start w o
  have fg0 := h0 _ _ hg0
  clear h0
  rw [tidewracklaw07_SeqGround] at H
  refine x_seq ?_
  refine wpIn_region_lit ?_
  refine x_run tab hk (k := 1) (lv := []) (ks := [0]) (e' := [(0, .string p0)]) rfl trivial fun a hk => ?_
  refine wpListIn_nil ?_
  refine then_n ?_
  refine x_seq ?_
  refine x_seq ?_
  refine wpIn_region_lit ?_
  refine x_op hk rfl ?_
  obtain ⟨t4, hc5, H⟩ := bindS H
  refine op_call hk ent_9 (vs := []) rfl (tidewracklaw07_awake_calls K  _ o0 0 fg0   _ hc5) ?_
  rintro _ w6 ⟨o7, rfl, st8⟩
  replace fg0 := fg0.st st8 (by decide)
  replace hs := hs.loc0 st8 (by decide)
  have hk := hk.put 5 (.bool t4) rfl
  refine x_run tab hk (k := 1) (lv := []) (ks := [0, 6]) (e' := [(0, .string p0), (6, .bool (!t4))]) rfl trivial fun a hk => ?_
  refine wpListIn_nil ?_
  refine then_n ?_
  cases b9 : (!t4)
  · rw [b9] at hk H
    replace H := bifF H
    refine x_if hk (b := false) rfl ?_
    refine (show Code.wpIn _ _ _ _ _ _ _ from ?_)
    refine wpIn_skip ?_
    refine then_n ?_
    refine x_seq ?_
    refine wpIn_region_lit ?_
    refine x_op hk rfl ?_
    refine op_alloc (o := o7) tab (t := 31) (cs := [.int .i64 0, .bool false, .bool false, .bool false, .bool false, .int .i64 0, .slice none 0 0, .string (⟨#[]⟩ : ByteArray), .int .u8 0, .int .i32 0, .int .i64 0, .slice none 0 0]) rfl rfl 2 fun bx13 w10 o11 st12 f14 => ?_
    replace fg0 := fg0.st st12 (by decide)
    replace hs := hs.loc0 st12 (by decide)
    have hk := hk.put 3 (.pointer (some ⟨bx13, 0, none⟩)) rfl
    refine wpListIn_nil ?_
    refine then_n ?_
    refine x_seq ?_
    refine wpIn_region_lit ?_
    refine x_run tab hk (k := 1) (lv := []) (ks := [3, 7]) (e' := [(3, .pointer (some ⟨bx13, 0, none⟩)), (7, .string p0)]) rfl trivial fun a hk => ?_
    refine x_op hk rfl ?_
    obtain ⟨t18, hc19, H⟩ := bindS H
    refine op_call hk ent_10 (vs := [.string p0, .int .i64 200]) rfl (tidewracklaw01_Cut_calls p0 200 _ o11    _ hc19) ?_
    rintro _ w20 ⟨o21, rfl, st22⟩
    replace f14 := f14.st st22 (by decide)
    replace fg0 := fg0.st st22 (by decide)
    replace hs := hs.loc0 st22 (by decide)
    have hk := hk.put 8 (.string t18) rfl
    refine x_op hk rfl ?_
    obtain ⟨t26, hc27, H⟩ := bindS H
    refine op_call hk ent_12 (vs := [.pointer (some ⟨bx13, 0, none⟩), .string t18]) rfl (seq_Parser_Feed_calls K bx13 none 0 none 0 (⟨0, false, false, false, false, 0, ([] : List Int), (⟨#[]⟩ : ByteArray), 0, 0, 0, ([] : List T37)⟩ : T30) t18 _ o21 1 0 fg0 2 f14 3 (CO.nil _ _ _ _ _ _ _) (by simp) 4 (NOwn.nil _ _ _ _ 4 1) (by simp) (by decide) (by decide) 5  _ hc27) ?_
    rintro _ w28 ⟨o29, A31, c32, A36, c37, rfl, st30, f33, hc34, f35, f38, hc39, f40, hc41⟩
    replace fg0 := fg0.st st30 (by decide)
    replace hs := hs.loc0 st30 (by decide)
    have hz42 : t26.2.out = [] := NRd.nul f40.rd
    have hk := hk.put 9 (.slice A31 (t26.1).length c32) rfl
    refine wpListIn_nil ?_
    refine then_n ?_
    refine x_seq ?_
    refine wpIn_region_lit ?_
    refine x_op hk rfl ?_
    obtain ⟨t46, hc47, H⟩ := bindS H
    refine op_call hk ent_12 (vs := [.pointer (some ⟨bx13, 0, none⟩), .string (⟨#[24, 122]⟩ : ByteArray)]) rfl (seq_Parser_Feed_calls K bx13 A36 c37 none 0 (⟨t26.2.state, t26.2.order_private_, t26.2.order_wrong, t26.2.order_any, t26.2.order_some, t26.2.order_n, t26.2.order_nums, t26.2.text, t26.2.runes_Lead, t26.2.runes_Rune, t26.2.runes_Need, ([] : List T37)⟩ : T30) (⟨#[24, 122]⟩ : ByteArray) _ o29 1 0 fg0 2 f35 3 f38 hc39 6 (NOwn.nil _ _ _ _ 6 1) (by simp) (by decide) (by decide) 7  _ hc47) ?_
    rintro _ w48 ⟨o49, A51, c52, A56, c57, rfl, st50, f53, hc54, f55, f58, hc59, f60, hc61⟩
    replace f33 := f33.st st50 (by decide)
    replace fg0 := fg0.st st50 (by decide)
    replace hs := hs.loc0 st50 (by decide)
    have hz62 : t46.2.out = [] := NRd.nul f60.rd
    have hk := hk.put 10 (.slice A51 (t46.1).length c52) rfl
    refine x_run tab hk (k := 1) (lv := []) (ks := [4]) (e' := [(4, .slice A51 (t46.1).length c52)]) rfl trivial fun a hk => ?_
    refine wpListIn_nil ?_
    refine then_n ?_
    refine x_seq ?_
    refine wpIn_region_lit ?_
    refine x_run tab hk (k := 4) (lv := []) (ks := [4, 14]) (e' := [(4, .slice A51 (t46.1).length c52), (14, .bool (decide (((t46.1).length : Int) ≥ (1 : Int))))]) rfl trivial fun a hk => ?_
    cases b63 : (decide (((t46.1).length : Int) ≥ (1 : Int)))
    · rw [b63] at hk H
      replace H := bifF H
      refine x_run tab hk (k := 13) (lv := []) (ks := [4, 19, 27]) (e' := [(4, .slice A51 (t46.1).length c52), (19, .bool false), (27, undef)]) rfl trivial fun a hk => ?_
      refine x_run tab hk (k := 10) (lv := []) (ks := [4, 29, 37]) (e' := [(4, .slice A51 (t46.1).length c52), (29, .bool false), (37, undef)]) rfl trivial fun a hk => ?_
      refine x_run tab hk (k := 12) (lv := []) (ks := [39, 49]) (e' := [(39, .bool false), (49, undef)]) rfl trivial fun a hk => ?_
      refine x_run tab hk (k := 2) (lv := []) (ks := [2]) (e' := [(2, .bool false)]) rfl trivial fun a hk => ?_
      refine wpListIn_nil ?_
      refine then_n ?_
      refine wpIn_ret ?_
      obtain rfl := Option.some.inj H
      exact x_retG hk (rs := [.tmp 2]) (vs := [.bool false]) rfl ⟨rfl, trivial⟩ ⟨fun b_ => if b_ < w.heap.size then o b_ else (fun _ => 0) (o49 b_), rfl, hs.close0 o (fun _ => 0)⟩
    · rw [b63] at hk H
      replace H := bifT H
      refine x_run tab hk (k := 5) (lv := []) (ks := [4, 19]) (e' := [(4, .slice A51 (t46.1).length c52), (19, .bool (decide (((t46.1).length : Int) ≤ (2 : Int))))]) rfl trivial fun a hk => ?_
      cases b64 : (decide (((t46.1).length : Int) ≤ (2 : Int)))
      · rw [b64] at hk H
        replace H := bifF H
        refine x_run tab hk (k := 18) (lv := []) (ks := [4, 29, 37]) (e' := [(4, .slice A51 (t46.1).length c52), (29, .bool false), (37, undef)]) rfl trivial fun a hk => ?_
        refine x_run tab hk (k := 12) (lv := []) (ks := [39, 49]) (e' := [(39, .bool false), (49, undef)]) rfl trivial fun a hk => ?_
        refine x_run tab hk (k := 2) (lv := []) (ks := [2]) (e' := [(2, .bool false)]) rfl trivial fun a hk => ?_
        refine wpListIn_nil ?_
        refine then_n ?_
        refine wpIn_ret ?_
        obtain rfl := Option.some.inj H
        exact x_retG hk (rs := [.tmp 2]) (vs := [.bool false]) rfl ⟨rfl, trivial⟩ ⟨fun b_ => if b_ < w.heap.size then o b_ else (fun _ => 0) (o49 b_), rfl, hs.close0 o (fun _ => 0)⟩
      · rw [b64] at hk H
        replace H := bifT H
        obtain ⟨q65, H⟩ := ifS H
        obtain ⟨ad66, hAad66⟩ := NRd.addr f53.rd q65
        have hk_C := hk
        have f53_C := f53
        have fg0_C := fg0
        subst hAad66
        have hk := hk_C
        clear hk_C
        have f53 := f53_C
        clear f53_C
        have fg0 := fg0_C
        clear fg0_C
        obtain ⟨A67, c68, f69, f70, hc71⟩ := elT37 f53.rd (i := (IntKind.wrap .i64 (((t46.1).length : Int) - 1))) q65
        refine x_run tab hk (k := 10) (lv := [.int .i64 ((rdD zT37 t46.1 (IntKind.wrap .i64 (((t46.1).length : Int) - 1))).Kind)]) (ks := [4, 29]) (e' := [(4, .slice (some ad66) (t46.1).length c52), (29, .bool (((rdD zT37 t46.1 (IntKind.wrap .i64 (((t46.1).length : Int) - 1))).Kind) == (1 : Int)))]) rfl ⟨q65, (CellsAt.one f69.now tab rfl 0 rfl), trivial⟩ fun a hk => ?_
        cases b72 : (((rdD zT37 t46.1 (IntKind.wrap .i64 (((t46.1).length : Int) - 1))).Kind) == (1 : Int))
        · rw [b72] at hk H
          replace H := bifF H
          refine x_run tab hk (k := 20) (lv := []) (ks := [39, 49]) (e' := [(39, .bool false), (49, undef)]) rfl trivial fun a hk => ?_
          refine x_run tab hk (k := 2) (lv := []) (ks := [2]) (e' := [(2, .bool false)]) rfl trivial fun a hk => ?_
          refine wpListIn_nil ?_
          refine then_n ?_
          refine wpIn_ret ?_
          obtain rfl := Option.some.inj H
          exact x_retG hk (rs := [.tmp 2]) (vs := [.bool false]) rfl ⟨rfl, trivial⟩ ⟨fun b_ => if b_ < w.heap.size then o b_ else (fun _ => 0) (o49 b_), rfl, hs.close0 o (fun _ => 0)⟩
        · rw [b72] at hk H
          replace H := bifT H
          obtain ⟨A73, c74, f75, f76, hc77⟩ := elT37 f53.rd (i := (IntKind.wrap .i64 (((t46.1).length : Int) - 1))) q65
          refine x_run tab hk (k := 10) (lv := [.int .i32 ((rdD zT37 t46.1 (IntKind.wrap .i64 (((t46.1).length : Int) - 1))).Rune)]) (ks := [4, 39]) (e' := [(4, .slice (some ad66) (t46.1).length c52), (39, .bool (((rdD zT37 t46.1 (IntKind.wrap .i64 (((t46.1).length : Int) - 1))).Rune) == (122 : Int)))]) rfl ⟨q65, (CellsAt.one f75.now tab rfl 1 rfl), trivial⟩ fun a hk => ?_
          cases b78 : (((rdD zT37 t46.1 (IntKind.wrap .i64 (((t46.1).length : Int) - 1))).Rune) == (122 : Int))
          · rw [b78] at hk H
            replace H := bifF H
            refine x_run tab hk (k := 10) (lv := []) (ks := [39, 49]) (e' := [(39, .bool false), (49, undef)]) rfl trivial fun a hk => ?_
            refine x_run tab hk (k := 2) (lv := []) (ks := [2]) (e' := [(2, .bool false)]) rfl trivial fun a hk => ?_
            refine wpListIn_nil ?_
            refine then_n ?_
            refine wpIn_ret ?_
            obtain rfl := Option.some.inj H
            exact x_retG hk (rs := [.tmp 2]) (vs := [.bool false]) rfl ⟨rfl, trivial⟩ ⟨fun b_ => if b_ < w.heap.size then o b_ else (fun _ => 0) (o49 b_), rfl, hs.close0 o (fun _ => 0)⟩
          · rw [b78] at hk H
            replace H := bifT H
            refine x_run tab hk (k := 4) (lv := []) (ks := [4, 39, 43]) (e' := [(4, .slice (some ad66) (t46.1).length c52), (39, .bool true), (43, .bool (((t46.1).length : Int) == (1 : Int)))]) rfl trivial fun a hk => ?_
            cases b79 : (((t46.1).length : Int) == (1 : Int))
            · rw [b79] at hk H
              replace H := bifF H
              obtain ⟨q80, H⟩ := ifS H
              obtain ⟨A81, c82, f83, f84, hc85⟩ := elT37 f53.rd (i := (0 : Int)) q80
              refine x_run tab hk (k := 8) (lv := [.int .i32 ((rdD zT37 t46.1 0).Rune)]) (ks := [2]) (e' := [(2, .bool (((rdD zT37 t46.1 0).Rune) == (65533 : Int)))]) rfl ⟨q80, (CellsAt.one f83.now tab rfl 1 rfl), trivial⟩ fun a hk => ?_
              refine wpListIn_nil ?_
              refine then_n ?_
              refine wpIn_ret ?_
              obtain rfl := Option.some.inj H
              exact x_retG hk (rs := [.tmp 2]) (vs := [.bool (((rdD zT37 t46.1 0).Rune) == (65533 : Int))]) rfl ⟨rfl, trivial⟩ ⟨fun b_ => if b_ < w.heap.size then o b_ else (fun _ => 0) (o49 b_), rfl, hs.close0 o (fun _ => 0)⟩
            · rw [b79] at hk H
              replace H := bifT H
              refine x_run tab hk (k := 8) (lv := []) (ks := [2]) (e' := [(2, .bool true)]) rfl trivial fun a hk => ?_
              refine wpListIn_nil ?_
              refine then_n ?_
              refine wpIn_ret ?_
              obtain rfl := Option.some.inj H
              exact x_retG hk (rs := [.tmp 2]) (vs := [.bool true]) rfl ⟨rfl, trivial⟩ ⟨fun b_ => if b_ < w.heap.size then o b_ else (fun _ => 0) (o49 b_), rfl, hs.close0 o (fun _ => 0)⟩
  · rw [b9] at hk H
    replace H := bifT H
    refine x_if hk (b := true) rfl ?_
    refine (show Code.wpIn _ _ _ _ _ _ _ from ?_)
    refine x_seq ?_
    refine wpIn_region_lit ?_
    refine x_run tab hk (k := 1) (lv := []) (ks := [2]) (e' := [(2, .bool false)]) rfl trivial fun a hk => ?_
    refine wpListIn_nil ?_
    refine then_n ?_
    refine wpIn_ret ?_
    refine then_r ?_
    obtain rfl := Option.some.inj H
    exact x_retG hk (rs := [.tmp 2]) (vs := [.bool false]) rfl ⟨rfl, trivial⟩ ⟨fun b_ => if b_ < w.heap.size then o b_ else (fun _ => 0) (o7 b_), rfl, hs.close0 o (fun _ => 0)⟩

/-! tidewrack/tidewracklaw07.SeqAnew -/
theorem tidewracklaw07_SeqAnew_calls (K : Nat) (p0 : ByteArray) (p1 : ByteArray) (w : World) (o : Nat → Nat) (Lg0 : Nat) (hg0 : Ft (RdC ET70 (some ⟨0, 0, none⟩) glob0) w o Lg0)   (r : Bool) (H : tidewracklaw07_SeqAnew K p0 p1 = some r) :
    Calls Tryd.prog 5 #[.string p0, .string p1] w (Ret fun v_ w' => ∃ o' : Nat → Nat, v_ = .bool r ∧ St [] w o w' o') := by
  refine x_enter (vs := [.string p0, .string p1]) Tryd.func5 rfl rfl rfl fun a hk => ?_
  obtain ⟨o0, hs, h0⟩ := St.start w o
  have fg0 := h0 _ _ hg0
  clear h0
  rw [tidewracklaw07_SeqAnew] at H
  refine x_seq ?_
  refine wpIn_region_lit ?_
  refine x_run tab hk (k := 1) (lv := []) (ks := [0, 1]) (e' := [(0, .string p0), (1, .string p1)]) rfl trivial fun a hk => ?_
  refine wpListIn_nil ?_
  refine then_n ?_
  refine x_seq ?_
  refine x_seq ?_
  refine wpIn_region_lit ?_
  refine x_op hk rfl ?_
  obtain ⟨t4, hc5, H⟩ := bindS H
  refine op_call hk ent_9 (vs := []) rfl (tidewracklaw07_awake_calls K  _ o0 0 fg0   _ hc5) ?_
  rintro _ w6 ⟨o7, rfl, st8⟩
  replace fg0 := fg0.st st8 (by decide)
  replace hs := hs.loc0 st8 (by decide)
  have hk := hk.put 8 (.bool t4) rfl
  refine x_run tab hk (k := 1) (lv := []) (ks := [0, 1, 9]) (e' := [(0, .string p0), (1, .string p1), (9, .bool (!t4))]) rfl trivial fun a hk => ?_
  refine wpListIn_nil ?_
  refine then_n ?_
  cases b9 : (!t4)
  · rw [b9] at hk H
    replace H := bifF H
    refine x_if hk (b := false) rfl ?_
    refine (show Code.wpIn _ _ _ _ _ _ _ from ?_)
    refine wpIn_skip ?_
    refine then_n ?_
    refine x_seq ?_
    refine wpIn_region_lit ?_
    refine x_op hk rfl ?_
    refine op_alloc (o := o7) tab (t := 31) (cs := [.int .i64 0, .bool false, .bool false, .bool false, .bool false, .int .i64 0, .slice none 0 0, .string (⟨#[]⟩ : ByteArray), .int .u8 0, .int .i32 0, .int .i64 0, .slice none 0 0]) rfl rfl 2 fun bx13 w10 o11 st12 f14 => ?_
    replace fg0 := fg0.st st12 (by decide)
    replace hs := hs.loc0 st12 (by decide)
    have hk := hk.put 5 (.pointer (some ⟨bx13, 0, none⟩)) rfl
    refine wpListIn_nil ?_
    refine then_n ?_
    refine x_seq ?_
    refine wpIn_region_lit ?_
    refine x_run tab hk (k := 1) (lv := []) (ks := [1, 5, 10]) (e' := [(1, .string p1), (5, .pointer (some ⟨bx13, 0, none⟩)), (10, .string p0)]) rfl trivial fun a hk => ?_
    refine x_op hk rfl ?_
    obtain ⟨t18, hc19, H⟩ := bindS H
    refine op_call hk ent_10 (vs := [.string p0, .int .i64 150]) rfl (tidewracklaw01_Cut_calls p0 150 _ o11    _ hc19) ?_
    rintro _ w20 ⟨o21, rfl, st22⟩
    replace f14 := f14.st st22 (by decide)
    replace fg0 := fg0.st st22 (by decide)
    replace hs := hs.loc0 st22 (by decide)
    have hk := hk.put 11 (.string t18) rfl
    refine x_op hk rfl ?_
    obtain ⟨t26, hc27, H⟩ := bindS H
    refine op_call hk ent_12 (vs := [.pointer (some ⟨bx13, 0, none⟩), .string t18]) rfl (seq_Parser_Feed_calls K bx13 none 0 none 0 (⟨0, false, false, false, false, 0, ([] : List Int), (⟨#[]⟩ : ByteArray), 0, 0, 0, ([] : List T37)⟩ : T30) t18 _ o21 1 0 fg0 2 f14 3 (CO.nil _ _ _ _ _ _ _) (by simp) 4 (NOwn.nil _ _ _ _ 4 1) (by simp) (by decide) (by decide) 5  _ hc27) ?_
    rintro _ w28 ⟨o29, A31, c32, A36, c37, rfl, st30, f33, hc34, f35, f38, hc39, f40, hc41⟩
    replace fg0 := fg0.st st30 (by decide)
    replace hs := hs.loc0 st30 (by decide)
    have hz42 : t26.2.out = [] := NRd.nul f40.rd
    have hk := hk.put 12 (.slice A31 (t26.1).length c32) rfl
    refine wpListIn_nil ?_
    refine then_n ?_
    refine x_seq ?_
    refine wpIn_region_lit ?_
    refine x_run tab hk (k := 1) (lv := []) (ks := [5, 13]) (e' := [(5, .pointer (some ⟨bx13, 0, none⟩)), (13, .string p1)]) rfl trivial fun a hk => ?_
    refine x_op hk rfl ?_
    obtain ⟨t46, hc47, H⟩ := bindS H
    refine op_call hk ent_10 (vs := [.string p1, .int .i64 150]) rfl (tidewracklaw01_Cut_calls p1 150 _ o29    _ hc47) ?_
    rintro _ w48 ⟨o49, rfl, st50⟩
    replace f35 := f35.st st50 (by decide)
    replace f38 := f38.st st50 (by decide)
    replace fg0 := fg0.st st50 (by decide)
    replace hs := hs.loc0 st50 (by decide)
    have hk := hk.put 14 (.string t46) rfl
    refine x_run tab hk (k := 1) (lv := []) (ks := [1, 5]) (e' := [(1, .string t46), (5, .pointer (some ⟨bx13, 0, none⟩))]) rfl trivial fun a hk => ?_
    refine wpListIn_nil ?_
    refine then_n ?_
    refine x_seq ?_
    refine wpIn_region_lit ?_
    obtain ⟨q51, H⟩ := ifS H
    refine x_run tab hk (k := 2) (lv := []) (ks := [1, 5, 16]) (e' := [(1, .string t46), (5, .pointer (some ⟨bx13, 0, none⟩)), (16, .string ((⟨#[24]⟩ : ByteArray) ++ t46))]) rfl ⟨q51, trivial⟩ fun a hk => ?_
    refine x_op hk rfl ?_
    obtain ⟨t55, hc56, H⟩ := bindS H
    refine op_call hk ent_12 (vs := [.pointer (some ⟨bx13, 0, none⟩), .string ((⟨#[24]⟩ : ByteArray) ++ t46)]) rfl (seq_Parser_Feed_calls K bx13 A36 c37 none 0 (⟨t26.2.state, t26.2.order_private_, t26.2.order_wrong, t26.2.order_any, t26.2.order_some, t26.2.order_n, t26.2.order_nums, t26.2.text, t26.2.runes_Lead, t26.2.runes_Rune, t26.2.runes_Need, ([] : List T37)⟩ : T30) ((⟨#[24]⟩ : ByteArray) ++ t46) _ o49 1 0 fg0 2 f35 3 f38 hc39 6 (NOwn.nil _ _ _ _ 6 1) (by simp) (by decide) (by decide) 7  _ hc56) ?_
    rintro _ w57 ⟨o58, A60, c61, A65, c66, rfl, st59, f62, hc63, f64, f67, hc68, f69, hc70⟩
    replace fg0 := fg0.st st59 (by decide)
    replace hs := hs.loc0 st59 (by decide)
    have hz71 : t55.2.out = [] := NRd.nul f69.rd
    have hk := hk.put 17 (.slice A60 (t55.1).length c61) rfl
    refine x_run tab hk (k := 1) (lv := []) (ks := [1, 6]) (e' := [(1, .string t46), (6, .slice A60 (t55.1).length c61)]) rfl trivial fun a hk => ?_
    refine wpListIn_nil ?_
    refine then_n ?_
    refine x_seq ?_
    refine wpIn_region_lit ?_
    refine x_run tab hk (k := 1) (lv := []) (ks := [6, 18]) (e' := [(6, .slice A60 (t55.1).length c61), (18, .string t46)]) rfl trivial fun a hk => ?_
    refine x_op hk rfl ?_
    obtain ⟨t75, hc76, H⟩ := bindS H
    refine op_call hk ent_13 (vs := [.string t46]) rfl (tidewrackref07_Read_calls K t46 _ o58 1 (by decide) 8  _ hc76) ?_
    rintro _ w77 ⟨o78, A80, c81, rfl, st79, f82, hc83⟩
    replace f62 := f62.st st79 (by decide)
    replace fg0 := fg0.st st79 (by decide)
    replace hs := hs.loc0 st79 (by decide)
    have hk := hk.put 19 (.slice A80 (t75).length c81) rfl
    refine x_run tab hk (k := 1) (lv := []) (ks := [6, 7]) (e' := [(6, .slice A60 (t55.1).length c61), (7, .slice A80 (t75).length c81)]) rfl trivial fun a hk => ?_
    refine wpListIn_nil ?_
    refine then_n ?_
    refine x_seq ?_
    refine x_mid (fun a_ w_ => ∃ o104 : Nat → Nat, ∃ x105 : Bool, Kn 45 a_ [(6, .slice A60 (t55.1).length c61), (7, .slice A80 (t75).length c81), (39, .bool x105)] ∧ St [] w (fun _ => 0) w_ o104 ∧ NOwn dT37 38 A60 c61 t55.1 w_ o104 9 1 ∧ NOwn dT47 48 A80 c81 t75 w_ o104 10 1 ∧ Ft (RdC ET70 (some ⟨0, 0, none⟩) glob0) w_ o104 0 ∧ tidewracklaw07_SeqAnew_j1 K t55 t75 x105 = some r) ?_ ?_
    rotate_left
    · rintro a w106 ⟨o104, x105, hk, hs, f62, f82, fg0, H⟩
      rw [tidewracklaw07_SeqAnew_j1] at H
      cases b107 : x105
      · rw [b107] at hk H
        replace H := bifF H
        refine x_if hk (b := false) rfl ?_
        refine (show Code.wpIn _ _ _ _ _ _ _ from ?_)
        refine wpIn_skip ?_
        refine then_n ?_
        refine x_seq ?_
        refine wpIn_region_lit ?_
        refine x_run tab hk (k := 2) (lv := []) (ks := [42, 43]) (e' := [(42, .slice A60 (t55.1).length c61), (43, .slice A80 (t75).length c81)]) rfl trivial fun a hk => ?_
        refine x_op hk rfl ?_
        obtain ⟨t111, hc112, H⟩ := bindS H
        refine op_call hk ent_11 (vs := [.slice A60 (t55.1).length c61, .slice A80 (t75).length c81]) rfl (tidewracklaw07_Is_calls K A60 c61 t55.1 A80 c81 t75 _ o104 1 _ f62.rd hc63 _ f82.rd hc83 (by decide) (by decide) (by decide)   _ hc112) ?_
        rintro _ w113 ⟨o114, rfl, st115⟩
        replace f62 := f62.st st115 (by decide)
        replace f82 := f82.st st115 (by decide)
        replace fg0 := fg0.st st115 (by decide)
        replace hs := hs.loc0 st115 (by decide)
        have hk := hk.put 44 (.bool t111) rfl
        refine x_run tab hk (k := 1) (lv := []) (ks := [4]) (e' := [(4, .bool t111)]) rfl trivial fun a hk => ?_
        refine wpListIn_nil ?_
        refine then_n ?_
        refine wpIn_ret ?_
        obtain rfl := Option.some.inj H
        exact x_retG hk (rs := [.tmp 4]) (vs := [.bool t111]) rfl ⟨rfl, trivial⟩ ⟨fun b_ => if b_ < w.heap.size then o b_ else (fun _ => 0) (o114 b_), rfl, hs.close0 o (fun _ => 0)⟩
      · rw [b107] at hk H
        replace H := bifT H
        refine x_if hk (b := true) rfl ?_
        refine (show Code.wpIn _ _ _ _ _ _ _ from ?_)
        refine wpIn_region_lit ?_
        obtain ⟨q116, H⟩ := ifS H
        obtain ⟨A117, c118, ak120, f119, hc121⟩ := ask_cutN (P := Tryd.prog) tab (t := 29) rfl rfl f62.rd hc63 (some (.int .i64 1)) none rfl ⟨(show 0 ≤ (1 : Int) from by decide), (by have := q116; omega), trivial⟩ (by have := (show 0 ≤ (1 : Int) from by decide); have := q116; omega) (Nat.le_refl _)
        refine x_run tab hk (k := 3) (lv := [.slice A117 ((List.drop (Int.toNat 1) (List.take (t55.1).length t55.1))).length c118]) (ks := [6, 7]) (e' := [(6, .slice A117 ((List.drop (Int.toNat 1) (List.take (t55.1).length t55.1))).length c118), (7, .slice A80 (t75).length c81)]) rfl ⟨(ak120 rfl rfl rfl _), trivial⟩ fun a hk => ?_
        refine wpListIn_nil ?_
        refine then_n ?_
        refine x_seq ?_
        refine wpIn_region_lit ?_
        refine x_run tab hk (k := 2) (lv := []) (ks := [42, 43]) (e' := [(42, .slice A117 ((List.drop (Int.toNat 1) (List.take (t55.1).length t55.1))).length c118), (43, .slice A80 (t75).length c81)]) rfl trivial fun a hk => ?_
        refine x_op hk rfl ?_
        obtain ⟨t125, hc126, H⟩ := bindS H
        refine op_call hk ent_11 (vs := [.slice A117 ((List.drop (Int.toNat 1) (List.take (t55.1).length t55.1))).length c118, .slice A80 (t75).length c81]) rfl (tidewracklaw07_Is_calls K A117 c118 (List.drop (Int.toNat 1) (List.take (t55.1).length t55.1)) A80 c81 t75 _ o104 1 _ f119 hc121 _ f82.rd hc83 (by decide) (by decide) (by decide)   _ hc126) ?_
        rintro _ w127 ⟨o128, rfl, st129⟩
        replace f119 := f119.st st129 (by decide)
        replace f82 := f82.st st129 (by decide)
        replace fg0 := fg0.st st129 (by decide)
        replace hs := hs.loc0 st129 (by decide)
        have hk := hk.put 44 (.bool t125) rfl
        refine x_run tab hk (k := 1) (lv := []) (ks := [4]) (e' := [(4, .bool t125)]) rfl trivial fun a hk => ?_
        refine wpListIn_nil ?_
        refine then_n ?_
        refine wpIn_ret ?_
        obtain rfl := Option.some.inj H
        exact x_retG hk (rs := [.tmp 4]) (vs := [.bool t125]) rfl ⟨rfl, trivial⟩ ⟨fun b_ => if b_ < w.heap.size then o b_ else (fun _ => 0) (o128 b_), rfl, hs.close0 o (fun _ => 0)⟩
    refine wpIn_region_lit ?_
    refine x_run tab hk (k := 7) (lv := []) (ks := [6, 7, 26]) (e' := [(6, .slice A60 (t55.1).length c61), (7, .slice A80 (t75).length c81), (26, .bool (((t55.1).length : Int) == (IntKind.wrap .i64 (((t75).length : Int) + 1))))]) rfl trivial fun a hk => ?_
    cases b130 : (((t55.1).length : Int) == (IntKind.wrap .i64 (((t75).length : Int) + 1)))
    · rw [b130] at hk H
      replace H := bifF H
      refine x_run tab hk (k := 12) (lv := []) (ks := [6, 7, 33, 38]) (e' := [(6, .slice A60 (t55.1).length c61), (7, .slice A80 (t75).length c81), (33, .bool false), (38, undef)]) rfl trivial fun a hk => ?_
      refine x_run tab hk (k := 1) (lv := []) (ks := [6, 7, 39]) (e' := [(6, .slice A60 (t55.1).length c61), (7, .slice A80 (t75).length c81), (39, .bool false)]) rfl trivial fun a hk => ?_
      refine wpListIn_nil ?_
      refine then_n ?_
      exact ⟨(fun b_ => (fun l_ => if l_ = 7 then 9 else if l_ = 8 then 10 else l_) (o78 b_)), false, (by exact Kn.pick (ks := [6, 7, 39]) hk rfl), (hs.relab0 (fun l_ => if l_ = 7 then 9 else if l_ = 8 then 10 else l_) rfl), (f62.relab (fun l_ => if l_ = 7 then 9 else if l_ = 8 then 10 else l_) rfl), (f82.relab (fun l_ => if l_ = 7 then 9 else if l_ = 8 then 10 else l_) rfl), (fg0.relab (fun l_ => if l_ = 7 then 9 else if l_ = 8 then 10 else l_) rfl), H⟩
    · rw [b130] at hk H
      replace H := bifT H
      obtain ⟨q131, H⟩ := ifS H
      obtain ⟨ad132, hAad132⟩ := NRd.addr f62.rd q131
      have hk_C := hk
      have f62_C := f62
      have f82_C := f82
      have fg0_C := fg0
      subst hAad132
      have hk := hk_C
      clear hk_C
      have f62 := f62_C
      clear f62_C
      have f82 := f82_C
      clear f82_C
      have fg0 := fg0_C
      clear fg0_C
      obtain ⟨A133, c134, f135, f136, hc137⟩ := elT37 f62.rd (i := (0 : Int)) q131
      refine x_run tab hk (k := 7) (lv := [.int .i64 ((rdD zT37 t55.1 0).Kind)]) (ks := [6, 7, 33]) (e' := [(6, .slice (some ad132) (t55.1).length c61), (7, .slice A80 (t75).length c81), (33, .bool (((rdD zT37 t55.1 0).Kind) == (1 : Int)))]) rfl ⟨q131, (CellsAt.one f135.now tab rfl 0 rfl), trivial⟩ fun a hk => ?_
      cases b138 : (((rdD zT37 t55.1 0).Kind) == (1 : Int))
      · rw [b138] at hk H
        replace H := bifF H
        refine x_run tab hk (k := 6) (lv := []) (ks := [6, 7, 39]) (e' := [(6, .slice (some ad132) (t55.1).length c61), (7, .slice A80 (t75).length c81), (39, .bool false)]) rfl trivial fun a hk => ?_
        refine wpListIn_nil ?_
        refine then_n ?_
        exact ⟨(fun b_ => (fun l_ => if l_ = 7 then 9 else if l_ = 8 then 10 else l_) (o78 b_)), false, (by exact Kn.pick (ks := [6, 7, 39]) hk rfl), (hs.relab0 (fun l_ => if l_ = 7 then 9 else if l_ = 8 then 10 else l_) rfl), (f62.relab (fun l_ => if l_ = 7 then 9 else if l_ = 8 then 10 else l_) rfl), (f82.relab (fun l_ => if l_ = 7 then 9 else if l_ = 8 then 10 else l_) rfl), (fg0.relab (fun l_ => if l_ = 7 then 9 else if l_ = 8 then 10 else l_) rfl), H⟩
      · rw [b138] at hk H
        replace H := bifT H
        obtain ⟨A139, c140, f141, f142, hc143⟩ := elT37 f62.rd (i := (0 : Int)) q131
        refine x_run tab hk (k := 6) (lv := [.int .i32 ((rdD zT37 t55.1 0).Rune)]) (ks := [6, 7, 39]) (e' := [(6, .slice (some ad132) (t55.1).length c61), (7, .slice A80 (t75).length c81), (39, .bool (((rdD zT37 t55.1 0).Rune) == (65533 : Int)))]) rfl ⟨q131, (CellsAt.one f141.now tab rfl 1 rfl), trivial⟩ fun a hk => ?_
        refine wpListIn_nil ?_
        refine then_n ?_
        exact ⟨(fun b_ => (fun l_ => if l_ = 7 then 9 else if l_ = 8 then 10 else l_) (o78 b_)), (((rdD zT37 t55.1 0).Rune) == (65533 : Int)), (by exact Kn.pick (ks := [6, 7, 39]) hk rfl), (hs.relab0 (fun l_ => if l_ = 7 then 9 else if l_ = 8 then 10 else l_) rfl), (f62.relab (fun l_ => if l_ = 7 then 9 else if l_ = 8 then 10 else l_) rfl), (f82.relab (fun l_ => if l_ = 7 then 9 else if l_ = 8 then 10 else l_) rfl), (fg0.relab (fun l_ => if l_ = 7 then 9 else if l_ = 8 then 10 else l_) rfl), H⟩
  · rw [b9] at hk H
    replace H := bifT H
    refine x_if hk (b := true) rfl ?_
    refine (show Code.wpIn _ _ _ _ _ _ _ from ?_)
    refine x_seq ?_
    refine wpIn_region_lit ?_
    refine x_run tab hk (k := 1) (lv := []) (ks := [4]) (e' := [(4, .bool false)]) rfl trivial fun a hk => ?_
    refine wpListIn_nil ?_
    refine then_n ?_
    refine wpIn_ret ?_
    refine then_r ?_
    obtain rfl := Option.some.inj H
    exact x_retG hk (rs := [.tmp 4]) (vs := [.bool false]) rfl ⟨rfl, trivial⟩ ⟨fun b_ => if b_ < w.heap.size then o b_ else (fun _ => 0) (o7 b_), rfl, hs.close0 o (fun _ => 0)⟩

/-! tidewrack/tidewracklaw07.SeqBounds -/
set_option maxHeartbeats 4000000 in
theorem tidewracklaw07_SeqBounds_calls (K : Nat) (p0 : ByteArray) (w : World) (o : Nat → Nat) (Lg0 : Nat) (hg0 : Ft (RdC ET70 (some ⟨0, 0, none⟩) glob0) w o Lg0)   (r : Bool) (H : tidewracklaw07_SeqBounds K p0 = some r) :
    Calls Tryd.prog 6 #[.string p0] w (Ret fun v_ w' => ∃ o' : Nat → Nat, v_ = .bool r ∧ St [] w o w' o') := by
  refine x_enter (vs := [.string p0]) Tryd.func6 rfl rfl rfl fun a hk => ?_
  obtain ⟨o0, hs, h0⟩ := St.start w o
  have fg0 := h0 _ _ hg0
  clear h0
  rw [tidewracklaw07_SeqBounds] at H
  refine x_seq ?_
  refine wpIn_region_lit ?_
  refine x_run tab hk (k := 1) (lv := []) (ks := [0]) (e' := [(0, .string p0)]) rfl trivial fun a hk => ?_
  refine wpListIn_nil ?_
  refine then_n ?_
  refine x_seq ?_
  refine x_seq ?_
  refine wpIn_region_lit ?_
  refine x_op hk rfl ?_
  obtain ⟨t4, hc5, H⟩ := bindS H
  refine op_call hk ent_9 (vs := []) rfl (tidewracklaw07_awake_calls K  _ o0 0 fg0   _ hc5) ?_
  rintro _ w6 ⟨o7, rfl, st8⟩
  replace fg0 := fg0.st st8 (by decide)
  replace hs := hs.loc0 st8 (by decide)
  have hk := hk.put 8 (.bool t4) rfl
  refine x_run tab hk (k := 1) (lv := []) (ks := [0, 9]) (e' := [(0, .string p0), (9, .bool (!t4))]) rfl trivial fun a hk => ?_
  refine wpListIn_nil ?_
  refine then_n ?_
  cases b9 : (!t4)
  · rw [b9] at hk H
    replace H := bifF H
    refine x_if hk (b := false) rfl ?_
    refine (show Code.wpIn _ _ _ _ _ _ _ from ?_)
    refine wpIn_skip ?_
    refine then_n ?_
    refine x_seq ?_
    refine wpIn_region_lit ?_
    refine x_op hk rfl ?_
    refine op_alloc (o := o7) tab (t := 31) (cs := [.int .i64 0, .bool false, .bool false, .bool false, .bool false, .int .i64 0, .slice none 0 0, .string (⟨#[]⟩ : ByteArray), .int .u8 0, .int .i32 0, .int .i64 0, .slice none 0 0]) rfl rfl 2 fun bx13 w10 o11 st12 f14 => ?_
    replace fg0 := fg0.st st12 (by decide)
    replace hs := hs.loc0 st12 (by decide)
    have hk := hk.put 3 (.pointer (some ⟨bx13, 0, none⟩)) rfl
    refine wpListIn_nil ?_
    refine then_n ?_
    refine x_mid (fun a_ w_ => ∃ o503 : Nat → Nat, Kn 78 a_ [] ∧ St [] w (fun _ => 0) w_ o503 ∧ Ft (RdC ET70 (some ⟨0, 0, none⟩) glob0) w_ o503 0 ∧ tidewracklaw07_SeqBounds_j1 = some r) ?_ ?_
    rotate_left
    · rintro a w504 ⟨o503, hk, hs, fg0, H⟩
      rw [tidewracklaw07_SeqBounds_j1] at H
      refine x_seq ?_
      refine wpIn_region_lit ?_
      refine x_run tab hk (k := 1) (lv := []) (ks := [2]) (e' := [(2, .bool true)]) rfl trivial fun a hk => ?_
      refine wpListIn_nil ?_
      refine then_n ?_
      refine wpIn_ret ?_
      obtain rfl := Option.some.inj H
      exact x_retG hk (rs := [.tmp 2]) (vs := [.bool true]) rfl ⟨rfl, trivial⟩ ⟨fun b_ => if b_ < w.heap.size then o b_ else (fun _ => 0) (o503 b_), rfl, hs.close0 o (fun _ => 0)⟩
    refine x_seq ?_
    refine wpIn_region_lit ?_
    refine x_run tab hk (k := 1) (lv := []) (ks := [3, 10]) (e' := [(3, .pointer (some ⟨bx13, 0, none⟩)), (10, .string p0)]) rfl trivial fun a hk => ?_
    refine x_op hk rfl ?_
    obtain ⟨t508, hc509, H⟩ := bindS H
    refine op_call hk ent_10 (vs := [.string p0, .int .i64 400]) rfl (tidewracklaw01_Cut_calls p0 400 _ o11    _ hc509) ?_
    rintro _ w510 ⟨o511, rfl, st512⟩
    replace f14 := f14.st st512 (by decide)
    replace fg0 := fg0.st st512 (by decide)
    replace hs := hs.loc0 st512 (by decide)
    have hk := hk.put 11 (.string t508) rfl
    refine x_op hk rfl ?_
    obtain ⟨t516, hc517, H⟩ := bindS H
    refine op_call hk ent_12 (vs := [.pointer (some ⟨bx13, 0, none⟩), .string t508]) rfl (seq_Parser_Feed_calls K bx13 none 0 none 0 (⟨0, false, false, false, false, 0, ([] : List Int), (⟨#[]⟩ : ByteArray), 0, 0, 0, ([] : List T37)⟩ : T30) t508 _ o511 1 0 fg0 2 f14 41 (CO.nil _ _ _ _ _ _ _) (by simp) 42 (NOwn.nil _ _ _ _ 42 1) (by simp) (by decide) (by decide) 43  _ hc517) ?_
    rintro _ w518 ⟨o519, A521, c522, A526, c527, rfl, st520, f523, hc524, f525, f528, hc529, f530, hc531⟩
    replace fg0 := fg0.st st520 (by decide)
    replace hs := hs.loc0 st520 (by decide)
    have hz532 : t516.2.out = [] := NRd.nul f530.rd
    have hk := hk.put 12 (.slice A521 (t516.1).length c522) rfl
    refine x_run tab hk (k := 2) (lv := []) (ks := [12, 13, 14]) (e' := [(12, .slice A521 (t516.1).length c522), (13, .int .i64 ((t516.1).length : Int)), (14, .int .i64 0)]) rfl trivial fun a hk => ?_
    refine wpListIn_nil ?_
    refine then_n ?_
    refine wpIn_block ?_
    refine x_loop (fun j_ a_ w_ => ∃ o684 : Nat → Nat, ∃ A685 : Option Addr, ∃ c686 : Nat, ∃ x689 : Int, Kn 78 a_ [(12, .slice A685 (t516.1).length c686), (13, .int .i64 ((t516.1).length : Int)), (14, .int .i64 x689)] ∧ St [] w (fun _ => 0) w_ o684 ∧ NOwn dT37 38 A685 c686 t516.1 w_ o684 56 1 ∧ Ft (RdC ET70 (some ⟨0, 0, none⟩) glob0) w_ o684 0 ∧ (t516.1).length ≤ c686 ∧ tidewracklaw07_SeqBounds_l2 K t516 j_ x689 = some r) (k := K) ⟨(fun b_ => (fun l_ => if l_ = 43 then 56 else l_) (o519 b_)), A521, c522, 0, (by exact Kn.pick (ks := [12, 13, 14]) hk rfl), (hs.relab0 (fun l_ => if l_ = 43 then 56 else l_) rfl), (f523.relab (fun l_ => if l_ = 43 then 56 else l_) rfl), (fg0.relab (fun l_ => if l_ = 43 then 56 else l_) rfl), hc524, H⟩ (by rintro _ _ ⟨_, _, _, _, _, _, _, _, _, H_⟩; exact absurd (show (none : Option Bool) = some r from H_) (by simp)) ?_
    rintro k839 a w838 ⟨o684, A685, c686, x689, hk, hs, f687, fg0, hc688, H⟩
    rw [tidewracklaw07_SeqBounds_l2] at H
    obtain ⟨lp840, hlp841⟩ : ∃ lp_, lp_ = tidewracklaw07_SeqBounds_l2 K t516 k839 := ⟨_, rfl⟩
    rw [← hlp841] at H
    refine x_seq ?_
    refine wpIn_region_lit ?_
    refine x_run tab hk (k := 1) (lv := []) (ks := [12, 13, 14, 15]) (e' := [(12, .slice A685 (t516.1).length c686), (13, .int .i64 ((t516.1).length : Int)), (14, .int .i64 x689), (15, .bool (decide (x689 < ((t516.1).length : Int))))]) rfl trivial fun a hk => ?_
    refine wpListIn_nil ?_
    refine then_n ?_
    refine x_seq ?_
    cases b842 : (decide (x689 < ((t516.1).length : Int)))
    · rw [b842] at hk H
      replace H := bifF H
      refine x_if hk (b := false) rfl ?_
      refine (show Code.wpIn _ _ _ _ _ _ _ from ?_)
      refine wpIn_exit ?_
      refine then_x ?_
      refine then_x ?_
      refine blk_x ?_
      refine then_n ?_
      exact ⟨o684, (by exact Kn.pick (ks := []) hk rfl), hs, fg0, H⟩
    · rw [b842] at hk H
      replace H := bifT H
      refine x_if hk (b := true) rfl ?_
      refine (show Code.wpIn _ _ _ _ _ _ _ from ?_)
      refine wpIn_skip ?_
      refine then_n ?_
      refine x_mid (fun a_ w_ => ∃ o918 : Nat → Nat, ∃ A919 : Option Addr, ∃ c920 : Nat, Kn 78 a_ [(12, .slice A919 (t516.1).length c920), (13, .int .i64 ((t516.1).length : Int)), (14, .int .i64 x689)] ∧ St [] w (fun _ => 0) w_ o918 ∧ NOwn dT37 38 A919 c920 t516.1 w_ o918 73 1 ∧ Ft (RdC ET70 (some ⟨0, 0, none⟩) glob0) w_ o918 0 ∧ (t516.1).length ≤ c920 ∧ tidewracklaw07_SeqBounds_j3 x689 lp840 = some r) ?_ ?_
      rotate_left
      · rintro a w923 ⟨o918, A919, c920, hk, hs, f921, fg0, hc922, H⟩
        rw [tidewracklaw07_SeqBounds_j3] at H
        refine wpIn_region_lit ?_
        refine x_run tab hk (k := 2) (lv := []) (ks := [12, 13, 14]) (e' := [(12, .slice A919 (t516.1).length c920), (13, .int .i64 ((t516.1).length : Int)), (14, .int .i64 (IntKind.wrap .i64 (x689 + 1)))]) rfl trivial fun a hk => ?_
        refine wpListIn_nil ?_
        refine then_n ?_
        exact ⟨k839, Nat.le_refl _, (fun b_ => (fun l_ => if l_ = 73 then 56 else l_) (o918 b_)), A919, c920, (IntKind.wrap .i64 (x689 + 1)), (by exact Kn.pick (ks := [12, 13, 14]) hk rfl), (hs.relab0 (fun l_ => if l_ = 73 then 56 else l_) rfl), (f921.relab (fun l_ => if l_ = 73 then 56 else l_) rfl), (fg0.relab (fun l_ => if l_ = 73 then 56 else l_) rfl), hc922, (hlp841 ▸ H)⟩
      refine wpIn_block ?_
      refine x_seq ?_
      refine wpIn_region_lit ?_
      obtain ⟨q924, H⟩ := ifS H
      obtain ⟨ad925, hAad925⟩ := NRd.addr f687.rd q924
      have hk_C := hk
      have f687_C := f687
      have fg0_C := fg0
      subst hAad925
      have hk := hk_C
      clear hk_C
      have f687 := f687_C
      clear f687_C
      have fg0 := fg0_C
      clear fg0_C
      obtain ⟨A926, c927, f928, f929, hc930⟩ := elT37 f687.rd (i := x689) q924
      refine x_run tab hk (k := 2) (lv := [.agg #[.int .i64 ((rdD zT37 t516.1 x689).Kind), .int .i32 ((rdD zT37 t516.1 x689).Rune), .int .u8 ((rdD zT37 t516.1 x689).Byte), .bool ((rdD zT37 t516.1 x689).Private), .slice A926 ((rdD zT37 t516.1 x689).Nums).length c927, .string ((rdD zT37 t516.1 x689).Text)]]) (ks := [12, 13, 14, 17]) (e' := [(12, .slice (some ad925) (t516.1).length c686), (13, .int .i64 ((t516.1).length : Int)), (14, .int .i64 x689), (17, .agg #[.int .i64 ((rdD zT37 t516.1 x689).Kind), .int .i32 ((rdD zT37 t516.1 x689).Rune), .int .u8 ((rdD zT37 t516.1 x689).Byte), .bool ((rdD zT37 t516.1 x689).Private), .slice A926 ((rdD zT37 t516.1 x689).Nums).length c927, .string ((rdD zT37 t516.1 x689).Text)])]) rfl ⟨q924, (CellsAt.all f928.now tab rfl rfl rfl), trivial⟩ fun a hk => ?_
      refine x_op hk rfl ?_
      refine op_alloc (o := o684) tab (t := 38) (cs := [.int .i64 0, .int .i32 0, .int .u8 0, .bool false, .slice none 0 0, .string (⟨#[]⟩ : ByteArray)]) rfl rfl 74 fun bx934 w931 o932 st933 f935 => ?_
      replace f687 := f687.st st933 (by decide)
      replace f929 := f929.st st933 (by decide)
      replace fg0 := fg0.st st933 (by decide)
      replace hs := hs.loc0 st933 (by decide)
      have hk := hk.put 5 (.pointer (some ⟨bx934, 0, none⟩)) rfl
      refine x_op hk rfl ?_
      refine op_store tab hk (t := 38) (v := .agg #[.int .i64 ((rdD zT37 t516.1 x689).Kind), .int .i32 ((rdD zT37 t516.1 x689).Rune), .int .u8 ((rdD zT37 t516.1 x689).Byte), .bool ((rdD zT37 t516.1 x689).Private), .slice A926 ((rdD zT37 t516.1 x689).Nums).length c927, .string ((rdD zT37 t516.1 x689).Text)]) (b := bx934) (k := 0) (cs' := [.int .i64 ((rdD zT37 t516.1 x689).Kind), .int .i32 ((rdD zT37 t516.1 x689).Rune), .int .u8 ((rdD zT37 t516.1 x689).Byte), .bool ((rdD zT37 t516.1 x689).Private), .slice A926 ((rdD zT37 t516.1 x689).Nums).length c927, .string ((rdD zT37 t516.1 x689).Text)]) rfl rfl rfl rfl rfl rfl f935 rfl rfl fun w936 o937 st938 f935_ => ?_
      replace f687 := f687.st st938 (by decide)
      replace f929 := f929.st st938 (by decide)
      replace fg0 := fg0.st st938 (by decide)
      replace hs := hs.loc0 st938 (by decide)
      replace f935 := f935_
      refine wpListIn_nil ?_
      refine then_n ?_
      refine x_mid (fun a_ w_ => ∃ o953 : Nat → Nat, Kn 78 a_ [(5, .pointer (some ⟨bx934, 0, none⟩)), (12, .slice (some ad925) (t516.1).length c686), (13, .int .i64 ((t516.1).length : Int)), (14, .int .i64 x689)] ∧ St [] w (fun _ => 0) w_ o953 ∧ NOwn dT37 38 (some ad925) c686 t516.1 w_ o953 76 1 ∧ Ft (RdC (encInt .i64) A926 ((rdD zT37 t516.1 x689).Nums)) w_ o953 1 ∧ Ft (Bx bx934 38 [.int .i64 ((rdD zT37 t516.1 x689).Kind), .int .i32 ((rdD zT37 t516.1 x689).Rune), .int .u8 ((rdD zT37 t516.1 x689).Byte), .bool ((rdD zT37 t516.1 x689).Private), .slice A926 ((rdD zT37 t516.1 x689).Nums).length c927, .string ((rdD zT37 t516.1 x689).Text)]) w_ o953 75 ∧ Ft (RdC ET70 (some ⟨0, 0, none⟩) glob0) w_ o953 0 ∧ tidewracklaw07_SeqBounds_j4 K t516 x689 lp840 = some r) ?_ ?_
      rotate_left
      · rintro a w954 ⟨o953, hk, hs, f687, f929, f935, fg0, H⟩
        rw [tidewracklaw07_SeqBounds_j4] at H
        refine x_seq ?_
        refine wpIn_region_lit ?_
        refine x_run tab hk (k := 4) (lv := [.slice A926 ((rdD zT37 t516.1 x689).Nums).length c927]) (ks := [12, 13, 14, 64, 65, 66]) (e' := [(12, .slice (some ad925) (t516.1).length c686), (13, .int .i64 ((t516.1).length : Int)), (14, .int .i64 x689), (64, .slice A926 ((rdD zT37 t516.1 x689).Nums).length c927), (65, .int .i64 (((rdD zT37 t516.1 x689).Nums).length : Int)), (66, .int .i64 0)]) rfl ⟨(load1 tab rfl ((Bx.cell f935.now 4).trans rfl)), trivial⟩ fun a hk => ?_
        refine wpListIn_nil ?_
        refine then_n ?_
        refine wpIn_block ?_
        refine x_loop (fun j_ a_ w_ => ∃ o963 : Nat → Nat, ∃ x964 : Int, Kn 78 a_ [(12, .slice (some ad925) (t516.1).length c686), (13, .int .i64 ((t516.1).length : Int)), (14, .int .i64 x689), (64, .slice A926 ((rdD zT37 t516.1 x689).Nums).length c927), (65, .int .i64 (((rdD zT37 t516.1 x689).Nums).length : Int)), (66, .int .i64 x964)] ∧ St [] w (fun _ => 0) w_ o963 ∧ NOwn dT37 38 (some ad925) c686 t516.1 w_ o963 78 1 ∧ Ft (RdC (encInt .i64) A926 ((rdD zT37 t516.1 x689).Nums)) w_ o963 1 ∧ Ft (RdC ET70 (some ⟨0, 0, none⟩) glob0) w_ o963 0 ∧ tidewracklaw07_SeqBounds_l5 t516 x689 lp840 j_ x964 = some r) (k := K) ⟨(fun b_ => (fun l_ => if l_ = 76 then 78 else l_) (o953 b_)), 0, (by exact Kn.pick (ks := [12, 13, 14, 64, 65, 66]) hk rfl), (hs.relab0 (fun l_ => if l_ = 76 then 78 else l_) rfl), (f687.relab (fun l_ => if l_ = 76 then 78 else l_) rfl), (f929.relab (fun l_ => if l_ = 76 then 78 else l_) rfl), (fg0.relab (fun l_ => if l_ = 76 then 78 else l_) rfl), H⟩ (by rintro _ _ ⟨_, _, _, _, _, _, _, H_⟩; exact absurd (show (none : Option Bool) = some r from H_) (by simp)) ?_
        rintro k971 a w970 ⟨o963, x964, hk, hs, f687, f929, fg0, H⟩
        rw [tidewracklaw07_SeqBounds_l5] at H
        obtain ⟨lp972, hlp973⟩ : ∃ lp_, lp_ = tidewracklaw07_SeqBounds_l5 t516 x689 lp840 k971 := ⟨_, rfl⟩
        rw [← hlp973] at H
        refine x_seq ?_
        refine wpIn_region_lit ?_
        refine x_run tab hk (k := 1) (lv := []) (ks := [12, 13, 14, 64, 65, 66, 67]) (e' := [(12, .slice (some ad925) (t516.1).length c686), (13, .int .i64 ((t516.1).length : Int)), (14, .int .i64 x689), (64, .slice A926 ((rdD zT37 t516.1 x689).Nums).length c927), (65, .int .i64 (((rdD zT37 t516.1 x689).Nums).length : Int)), (66, .int .i64 x964), (67, .bool (decide (x964 < (((rdD zT37 t516.1 x689).Nums).length : Int))))]) rfl trivial fun a hk => ?_
        refine wpListIn_nil ?_
        refine then_n ?_
        refine x_seq ?_
        cases b974 : (decide (x964 < (((rdD zT37 t516.1 x689).Nums).length : Int)))
        · rw [b974] at hk H
          replace H := bifF H
          refine x_if hk (b := false) rfl ?_
          refine (show Code.wpIn _ _ _ _ _ _ _ from ?_)
          refine wpIn_exit ?_
          refine then_x ?_
          refine then_x ?_
          refine blk_x ?_
          refine blk_n ?_
          refine then_n ?_
          exact ⟨(fun b_ => (fun l_ => if l_ = 78 then 73 else l_) (o963 b_)), (some ad925), c686, (by exact Kn.pick (ks := [12, 13, 14]) hk rfl), (hs.relab0 (fun l_ => if l_ = 78 then 73 else l_) rfl), (f687.relab (fun l_ => if l_ = 78 then 73 else l_) rfl), (fg0.relab (fun l_ => if l_ = 78 then 73 else l_) rfl), hc688, H⟩
        · rw [b974] at hk H
          replace H := bifT H
          refine x_if hk (b := true) rfl ?_
          refine (show Code.wpIn _ _ _ _ _ _ _ from ?_)
          refine wpIn_skip ?_
          refine then_n ?_
          refine x_seq ?_
          refine wpIn_block ?_
          refine x_seq ?_
          refine wpIn_region_lit ?_
          obtain ⟨q975, H⟩ := ifS H
          obtain ⟨ad976, hAad976⟩ := RdC.addr f929.now q975
          have hk_C := hk
          have f687_C := f687
          have f929_C := f929
          have fg0_C := fg0
          subst hAad976
          have hk := hk_C
          clear hk_C
          have f687 := f687_C
          clear f687_C
          have f929 := f929_C
          clear f929_C
          have fg0 := fg0_C
          clear fg0_C
          refine x_run tab hk (k := 3) (lv := [.int .i64 (rdD 0 ((rdD zT37 t516.1 x689).Nums) x964)]) (ks := [7, 12, 13, 14, 64, 65, 66]) (e' := [(7, .int .i64 (rdD 0 ((rdD zT37 t516.1 x689).Nums) x964)), (12, .slice (some ad925) (t516.1).length c686), (13, .int .i64 ((t516.1).length : Int)), (14, .int .i64 x689), (64, .slice (some ad976) ((rdD zT37 t516.1 x689).Nums).length c927), (65, .int .i64 (((rdD zT37 t516.1 x689).Nums).length : Int)), (66, .int .i64 x964)]) rfl ⟨q975, (load1 tab rfl (RdC.at0 (E := (encInt .i64)) (d := 0) (i := x964) f929.now q975 rfl)), trivial⟩ fun a hk => ?_
          refine wpListIn_nil ?_
          refine then_n ?_
          refine x_seq ?_
          refine wpIn_region_lit ?_
          refine x_run tab hk (k := 3) (lv := []) (ks := [7, 12, 13, 14, 64, 65, 66, 72]) (e' := [(7, .int .i64 (rdD 0 ((rdD zT37 t516.1 x689).Nums) x964)), (12, .slice (some ad925) (t516.1).length c686), (13, .int .i64 ((t516.1).length : Int)), (14, .int .i64 x689), (64, .slice (some ad976) ((rdD zT37 t516.1 x689).Nums).length c927), (65, .int .i64 (((rdD zT37 t516.1 x689).Nums).length : Int)), (66, .int .i64 x964), (72, .bool (decide ((rdD 0 ((rdD zT37 t516.1 x689).Nums) x964) < (0 : Int))))]) rfl trivial fun a hk => ?_
          cases b977 : (decide ((rdD 0 ((rdD zT37 t516.1 x689).Nums) x964) < (0 : Int)))
          · rw [b977] at hk H
            replace H := bifF H
            refine x_run tab hk (k := 3) (lv := []) (ks := [12, 13, 14, 64, 65, 66, 75]) (e' := [(12, .slice (some ad925) (t516.1).length c686), (13, .int .i64 ((t516.1).length : Int)), (14, .int .i64 x689), (64, .slice (some ad976) ((rdD zT37 t516.1 x689).Nums).length c927), (65, .int .i64 (((rdD zT37 t516.1 x689).Nums).length : Int)), (66, .int .i64 x964), (75, .bool (decide ((rdD 0 ((rdD zT37 t516.1 x689).Nums) x964) > (9999 : Int))))]) rfl trivial fun a hk => ?_
            refine wpListIn_nil ?_
            refine then_n ?_
            cases b978 : (decide ((rdD 0 ((rdD zT37 t516.1 x689).Nums) x964) > (9999 : Int)))
            · rw [b978] at hk H
              replace H := bifF H
              refine x_if hk (b := false) rfl ?_
              refine (show Code.wpIn _ _ _ _ _ _ _ from ?_)
              refine wpIn_skip ?_
              refine blk_n ?_
              refine then_n ?_
              refine wpIn_region_lit ?_
              refine x_run tab hk (k := 2) (lv := []) (ks := [12, 13, 14, 64, 65, 66]) (e' := [(12, .slice (some ad925) (t516.1).length c686), (13, .int .i64 ((t516.1).length : Int)), (14, .int .i64 x689), (64, .slice (some ad976) ((rdD zT37 t516.1 x689).Nums).length c927), (65, .int .i64 (((rdD zT37 t516.1 x689).Nums).length : Int)), (66, .int .i64 (IntKind.wrap .i64 (x964 + 1)))]) rfl trivial fun a hk => ?_
              refine wpListIn_nil ?_
              refine then_n ?_
              exact ⟨k971, Nat.le_refl _, o963, (IntKind.wrap .i64 (x964 + 1)), (by exact Kn.pick (ks := [12, 13, 14, 64, 65, 66]) hk rfl), hs, f687, f929, fg0, (hlp973 ▸ H)⟩
            · rw [b978] at hk H
              replace H := bifT H
              refine x_if hk (b := true) rfl ?_
              refine (show Code.wpIn _ _ _ _ _ _ _ from ?_)
              refine x_seq ?_
              refine wpIn_region_lit ?_
              refine x_run tab hk (k := 1) (lv := []) (ks := [2]) (e' := [(2, .bool false)]) rfl trivial fun a hk => ?_
              refine wpListIn_nil ?_
              refine then_n ?_
              refine wpIn_ret ?_
              refine blk_r ?_
              refine then_r ?_
              refine then_r ?_
              refine blk_r ?_
              refine blk_r ?_
              refine then_r ?_
              refine then_r ?_
              refine blk_r ?_
              refine then_r ?_
              obtain rfl := Option.some.inj H
              exact x_retG hk (rs := [.tmp 2]) (vs := [.bool false]) rfl ⟨rfl, trivial⟩ ⟨fun b_ => if b_ < w.heap.size then o b_ else (fun _ => 0) (o963 b_), rfl, hs.close0 o (fun _ => 0)⟩
          · rw [b977] at hk H
            replace H := bifT H
            refine x_run tab hk (k := 3) (lv := []) (ks := [12, 13, 14, 64, 65, 66, 75]) (e' := [(12, .slice (some ad925) (t516.1).length c686), (13, .int .i64 ((t516.1).length : Int)), (14, .int .i64 x689), (64, .slice (some ad976) ((rdD zT37 t516.1 x689).Nums).length c927), (65, .int .i64 (((rdD zT37 t516.1 x689).Nums).length : Int)), (66, .int .i64 x964), (75, .bool true)]) rfl trivial fun a hk => ?_
            refine wpListIn_nil ?_
            refine then_n ?_
            refine x_if hk (b := true) rfl ?_
            refine (show Code.wpIn _ _ _ _ _ _ _ from ?_)
            refine x_seq ?_
            refine wpIn_region_lit ?_
            refine x_run tab hk (k := 1) (lv := []) (ks := [2]) (e' := [(2, .bool false)]) rfl trivial fun a hk => ?_
            refine wpListIn_nil ?_
            refine then_n ?_
            refine wpIn_ret ?_
            refine blk_r ?_
            refine then_r ?_
            refine then_r ?_
            refine blk_r ?_
            refine blk_r ?_
            refine then_r ?_
            refine then_r ?_
            refine blk_r ?_
            refine then_r ?_
            obtain rfl := Option.some.inj H
            exact x_retG hk (rs := [.tmp 2]) (vs := [.bool false]) rfl ⟨rfl, trivial⟩ ⟨fun b_ => if b_ < w.heap.size then o b_ else (fun _ => 0) (o963 b_), rfl, hs.close0 o (fun _ => 0)⟩
      refine x_seq ?_
      refine wpIn_region_lit ?_
      refine x_run tab hk (k := 4) (lv := [.int .i64 ((rdD zT37 t516.1 x689).Kind)]) (ks := [5, 12, 13, 14, 21]) (e' := [(5, .pointer (some ⟨bx934, 0, none⟩)), (12, .slice (some ad925) (t516.1).length c686), (13, .int .i64 ((t516.1).length : Int)), (14, .int .i64 x689), (21, .bool (decide (((rdD zT37 t516.1 x689).Kind) < (1 : Int))))]) rfl ⟨(load1 tab rfl ((Bx.cell f935.now 0).trans rfl)), trivial⟩ fun a hk => ?_
      cases b979 : (decide (((rdD zT37 t516.1 x689).Kind) < (1 : Int)))
      · rw [b979] at hk H
        replace H := bifF H
        refine x_run tab hk (k := 5) (lv := [.int .i64 ((rdD zT37 t516.1 x689).Kind)]) (ks := [5, 12, 13, 14, 26]) (e' := [(5, .pointer (some ⟨bx934, 0, none⟩)), (12, .slice (some ad925) (t516.1).length c686), (13, .int .i64 ((t516.1).length : Int)), (14, .int .i64 x689), (26, .bool (decide (((rdD zT37 t516.1 x689).Kind) > (5 : Int))))]) rfl ⟨(load1 tab rfl ((Bx.cell f935.now 0).trans rfl)), trivial⟩ fun a hk => ?_
        cases b980 : (decide (((rdD zT37 t516.1 x689).Kind) > (5 : Int)))
        · rw [b980] at hk H
          replace H := bifF H
          refine x_run tab hk (k := 6) (lv := [.slice A926 ((rdD zT37 t516.1 x689).Nums).length c927]) (ks := [5, 12, 13, 14, 32]) (e' := [(5, .pointer (some ⟨bx934, 0, none⟩)), (12, .slice (some ad925) (t516.1).length c686), (13, .int .i64 ((t516.1).length : Int)), (14, .int .i64 x689), (32, .bool (decide ((((rdD zT37 t516.1 x689).Nums).length : Int) > (16 : Int))))]) rfl ⟨(load1 tab rfl ((Bx.cell f935.now 4).trans rfl)), trivial⟩ fun a hk => ?_
          cases b981 : (decide ((((rdD zT37 t516.1 x689).Nums).length : Int) > (16 : Int)))
          · rw [b981] at hk H
            replace H := bifF H
            refine x_run tab hk (k := 6) (lv := [.string ((rdD zT37 t516.1 x689).Text)]) (ks := [5, 12, 13, 14, 38]) (e' := [(5, .pointer (some ⟨bx934, 0, none⟩)), (12, .slice (some ad925) (t516.1).length c686), (13, .int .i64 ((t516.1).length : Int)), (14, .int .i64 x689), (38, .bool (decide ((((rdD zT37 t516.1 x689).Text).size : Int) > (198 : Int))))]) rfl ⟨(load1 tab rfl ((Bx.cell f935.now 5).trans rfl)), trivial⟩ fun a hk => ?_
            cases b982 : (decide ((((rdD zT37 t516.1 x689).Text).size : Int) > (198 : Int)))
            · rw [b982] at hk H
              replace H := bifF H
              refine x_run tab hk (k := 4) (lv := [.int .i64 ((rdD zT37 t516.1 x689).Kind)]) (ks := [5, 12, 13, 14, 38, 42]) (e' := [(5, .pointer (some ⟨bx934, 0, none⟩)), (12, .slice (some ad925) (t516.1).length c686), (13, .int .i64 ((t516.1).length : Int)), (14, .int .i64 x689), (38, .bool false), (42, .bool (((rdD zT37 t516.1 x689).Kind) == (1 : Int)))]) rfl ⟨(load1 tab rfl ((Bx.cell f935.now 0).trans rfl)), trivial⟩ fun a hk => ?_
              cases b983 : (((rdD zT37 t516.1 x689).Kind) == (1 : Int))
              · rw [b983] at hk H
                replace H := bifF H
                refine x_run tab hk (k := 10) (lv := []) (ks := [5, 12, 13, 14, 52]) (e' := [(5, .pointer (some ⟨bx934, 0, none⟩)), (12, .slice (some ad925) (t516.1).length c686), (13, .int .i64 ((t516.1).length : Int)), (14, .int .i64 x689), (52, .bool false)]) rfl trivial fun a hk => ?_
                refine x_run tab hk (k := 5) (lv := [.int .i64 ((rdD zT37 t516.1 x689).Kind)]) (ks := [5, 12, 13, 14, 53, 57]) (e' := [(5, .pointer (some ⟨bx934, 0, none⟩)), (12, .slice (some ad925) (t516.1).length c686), (13, .int .i64 ((t516.1).length : Int)), (14, .int .i64 x689), (53, .bool false), (57, .bool (((rdD zT37 t516.1 x689).Kind) == (2 : Int)))]) rfl ⟨(load1 tab rfl ((Bx.cell f935.now 0).trans rfl)), trivial⟩ fun a hk => ?_
                cases b984 : (((rdD zT37 t516.1 x689).Kind) == (2 : Int))
                · rw [b984] at hk H
                  replace H := bifF H
                  refine x_run tab hk (k := 5) (lv := []) (ks := [5, 12, 13, 14, 62]) (e' := [(5, .pointer (some ⟨bx934, 0, none⟩)), (12, .slice (some ad925) (t516.1).length c686), (13, .int .i64 ((t516.1).length : Int)), (14, .int .i64 x689), (62, .bool false)]) rfl trivial fun a hk => ?_
                  refine wpListIn_nil ?_
                  refine then_n ?_
                  refine x_if hk (b := false) rfl ?_
                  refine (show Code.wpIn _ _ _ _ _ _ _ from ?_)
                  refine wpIn_skip ?_
                  refine then_n ?_
                  exact ⟨(fun b_ => (fun l_ => if l_ = 56 then 76 else if l_ = 74 then 75 else l_) (o937 b_)), (by exact Kn.pick (ks := [5, 12, 13, 14]) hk rfl), (hs.relab0 (fun l_ => if l_ = 56 then 76 else if l_ = 74 then 75 else l_) rfl), (f687.relab (fun l_ => if l_ = 56 then 76 else if l_ = 74 then 75 else l_) rfl), (f929.relab (fun l_ => if l_ = 56 then 76 else if l_ = 74 then 75 else l_) rfl), (f935.relab (fun l_ => if l_ = 56 then 76 else if l_ = 74 then 75 else l_) rfl), (fg0.relab (fun l_ => if l_ = 56 then 76 else if l_ = 74 then 75 else l_) rfl), H⟩
                · rw [b984] at hk H
                  replace H := bifT H
                  refine x_run tab hk (k := 5) (lv := [.int .u8 ((rdD zT37 t516.1 x689).Byte)]) (ks := [5, 12, 13, 14, 62]) (e' := [(5, .pointer (some ⟨bx934, 0, none⟩)), (12, .slice (some ad925) (t516.1).length c686), (13, .int .i64 ((t516.1).length : Int)), (14, .int .i64 x689), (62, .bool (decide (((rdD zT37 t516.1 x689).Byte) ≥ (32 : Int))))]) rfl ⟨(load1 tab rfl ((Bx.cell f935.now 2).trans rfl)), trivial⟩ fun a hk => ?_
                  refine wpListIn_nil ?_
                  refine then_n ?_
                  cases b985 : (decide (((rdD zT37 t516.1 x689).Byte) ≥ (32 : Int)))
                  · rw [b985] at hk H
                    replace H := bifF H
                    refine x_if hk (b := false) rfl ?_
                    refine (show Code.wpIn _ _ _ _ _ _ _ from ?_)
                    refine wpIn_skip ?_
                    refine then_n ?_
                    exact ⟨(fun b_ => (fun l_ => if l_ = 56 then 76 else if l_ = 74 then 75 else l_) (o937 b_)), (by exact Kn.pick (ks := [5, 12, 13, 14]) hk rfl), (hs.relab0 (fun l_ => if l_ = 56 then 76 else if l_ = 74 then 75 else l_) rfl), (f687.relab (fun l_ => if l_ = 56 then 76 else if l_ = 74 then 75 else l_) rfl), (f929.relab (fun l_ => if l_ = 56 then 76 else if l_ = 74 then 75 else l_) rfl), (f935.relab (fun l_ => if l_ = 56 then 76 else if l_ = 74 then 75 else l_) rfl), (fg0.relab (fun l_ => if l_ = 56 then 76 else if l_ = 74 then 75 else l_) rfl), H⟩
                  · rw [b985] at hk H
                    replace H := bifT H
                    refine x_if hk (b := true) rfl ?_
                    refine (show Code.wpIn _ _ _ _ _ _ _ from ?_)
                    refine x_seq ?_
                    refine wpIn_region_lit ?_
                    refine x_run tab hk (k := 1) (lv := []) (ks := [2]) (e' := [(2, .bool false)]) rfl trivial fun a hk => ?_
                    refine wpListIn_nil ?_
                    refine then_n ?_
                    refine wpIn_ret ?_
                    refine then_r ?_
                    refine blk_r ?_
                    refine then_r ?_
                    refine then_r ?_
                    refine blk_r ?_
                    refine then_r ?_
                    obtain rfl := Option.some.inj H
                    exact x_retG hk (rs := [.tmp 2]) (vs := [.bool false]) rfl ⟨rfl, trivial⟩ ⟨fun b_ => if b_ < w.heap.size then o b_ else (fun _ => 0) (o937 b_), rfl, hs.close0 o (fun _ => 0)⟩
              · rw [b983] at hk H
                replace H := bifT H
                refine x_run tab hk (k := 4) (lv := [.int .i32 ((rdD zT37 t516.1 x689).Rune)]) (ks := [5, 12, 13, 14, 38, 42, 46]) (e' := [(5, .pointer (some ⟨bx934, 0, none⟩)), (12, .slice (some ad925) (t516.1).length c686), (13, .int .i64 ((t516.1).length : Int)), (14, .int .i64 x689), (38, .bool false), (42, .bool true), (46, .bool (decide (((rdD zT37 t516.1 x689).Rune) < (32 : Int))))]) rfl ⟨(load1 tab rfl ((Bx.cell f935.now 1).trans rfl)), trivial⟩ fun a hk => ?_
                cases b986 : (decide (((rdD zT37 t516.1 x689).Rune) < (32 : Int)))
                · rw [b986] at hk H
                  replace H := bifF H
                  refine x_run tab hk (k := 7) (lv := [.int .i32 ((rdD zT37 t516.1 x689).Rune)]) (ks := [5, 12, 13, 14, 53]) (e' := [(5, .pointer (some ⟨bx934, 0, none⟩)), (12, .slice (some ad925) (t516.1).length c686), (13, .int .i64 ((t516.1).length : Int)), (14, .int .i64 x689), (53, .bool (((rdD zT37 t516.1 x689).Rune) == (127 : Int)))]) rfl ⟨(load1 tab rfl ((Bx.cell f935.now 1).trans rfl)), trivial⟩ fun a hk => ?_
                  cases b987 : (((rdD zT37 t516.1 x689).Rune) == (127 : Int))
                  · rw [b987] at hk H
                    replace H := bifF H
                    refine x_run tab hk (k := 4) (lv := [.int .i64 ((rdD zT37 t516.1 x689).Kind)]) (ks := [5, 12, 13, 14, 53, 57]) (e' := [(5, .pointer (some ⟨bx934, 0, none⟩)), (12, .slice (some ad925) (t516.1).length c686), (13, .int .i64 ((t516.1).length : Int)), (14, .int .i64 x689), (53, .bool false), (57, .bool (((rdD zT37 t516.1 x689).Kind) == (2 : Int)))]) rfl ⟨(load1 tab rfl ((Bx.cell f935.now 0).trans rfl)), trivial⟩ fun a hk => ?_
                    cases b988 : (((rdD zT37 t516.1 x689).Kind) == (2 : Int))
                    · rw [b988] at hk H
                      replace H := bifF H
                      refine x_run tab hk (k := 5) (lv := []) (ks := [5, 12, 13, 14, 62]) (e' := [(5, .pointer (some ⟨bx934, 0, none⟩)), (12, .slice (some ad925) (t516.1).length c686), (13, .int .i64 ((t516.1).length : Int)), (14, .int .i64 x689), (62, .bool false)]) rfl trivial fun a hk => ?_
                      refine wpListIn_nil ?_
                      refine then_n ?_
                      refine x_if hk (b := false) rfl ?_
                      refine (show Code.wpIn _ _ _ _ _ _ _ from ?_)
                      refine wpIn_skip ?_
                      refine then_n ?_
                      exact ⟨(fun b_ => (fun l_ => if l_ = 56 then 76 else if l_ = 74 then 75 else l_) (o937 b_)), (by exact Kn.pick (ks := [5, 12, 13, 14]) hk rfl), (hs.relab0 (fun l_ => if l_ = 56 then 76 else if l_ = 74 then 75 else l_) rfl), (f687.relab (fun l_ => if l_ = 56 then 76 else if l_ = 74 then 75 else l_) rfl), (f929.relab (fun l_ => if l_ = 56 then 76 else if l_ = 74 then 75 else l_) rfl), (f935.relab (fun l_ => if l_ = 56 then 76 else if l_ = 74 then 75 else l_) rfl), (fg0.relab (fun l_ => if l_ = 56 then 76 else if l_ = 74 then 75 else l_) rfl), H⟩
                    · rw [b988] at hk H
                      replace H := bifT H
                      refine x_run tab hk (k := 5) (lv := [.int .u8 ((rdD zT37 t516.1 x689).Byte)]) (ks := [5, 12, 13, 14, 62]) (e' := [(5, .pointer (some ⟨bx934, 0, none⟩)), (12, .slice (some ad925) (t516.1).length c686), (13, .int .i64 ((t516.1).length : Int)), (14, .int .i64 x689), (62, .bool (decide (((rdD zT37 t516.1 x689).Byte) ≥ (32 : Int))))]) rfl ⟨(load1 tab rfl ((Bx.cell f935.now 2).trans rfl)), trivial⟩ fun a hk => ?_
                      refine wpListIn_nil ?_
                      refine then_n ?_
                      cases b989 : (decide (((rdD zT37 t516.1 x689).Byte) ≥ (32 : Int)))
                      · rw [b989] at hk H
                        replace H := bifF H
                        refine x_if hk (b := false) rfl ?_
                        refine (show Code.wpIn _ _ _ _ _ _ _ from ?_)
                        refine wpIn_skip ?_
                        refine then_n ?_
                        exact ⟨(fun b_ => (fun l_ => if l_ = 56 then 76 else if l_ = 74 then 75 else l_) (o937 b_)), (by exact Kn.pick (ks := [5, 12, 13, 14]) hk rfl), (hs.relab0 (fun l_ => if l_ = 56 then 76 else if l_ = 74 then 75 else l_) rfl), (f687.relab (fun l_ => if l_ = 56 then 76 else if l_ = 74 then 75 else l_) rfl), (f929.relab (fun l_ => if l_ = 56 then 76 else if l_ = 74 then 75 else l_) rfl), (f935.relab (fun l_ => if l_ = 56 then 76 else if l_ = 74 then 75 else l_) rfl), (fg0.relab (fun l_ => if l_ = 56 then 76 else if l_ = 74 then 75 else l_) rfl), H⟩
                      · rw [b989] at hk H
                        replace H := bifT H
                        refine x_if hk (b := true) rfl ?_
                        refine (show Code.wpIn _ _ _ _ _ _ _ from ?_)
                        refine x_seq ?_
                        refine wpIn_region_lit ?_
                        refine x_run tab hk (k := 1) (lv := []) (ks := [2]) (e' := [(2, .bool false)]) rfl trivial fun a hk => ?_
                        refine wpListIn_nil ?_
                        refine then_n ?_
                        refine wpIn_ret ?_
                        refine then_r ?_
                        refine blk_r ?_
                        refine then_r ?_
                        refine then_r ?_
                        refine blk_r ?_
                        refine then_r ?_
                        obtain rfl := Option.some.inj H
                        exact x_retG hk (rs := [.tmp 2]) (vs := [.bool false]) rfl ⟨rfl, trivial⟩ ⟨fun b_ => if b_ < w.heap.size then o b_ else (fun _ => 0) (o937 b_), rfl, hs.close0 o (fun _ => 0)⟩
                  · rw [b987] at hk H
                    replace H := bifT H
                    refine x_run tab hk (k := 9) (lv := []) (ks := [5, 12, 13, 14, 62]) (e' := [(5, .pointer (some ⟨bx934, 0, none⟩)), (12, .slice (some ad925) (t516.1).length c686), (13, .int .i64 ((t516.1).length : Int)), (14, .int .i64 x689), (62, .bool true)]) rfl trivial fun a hk => ?_
                    refine wpListIn_nil ?_
                    refine then_n ?_
                    refine x_if hk (b := true) rfl ?_
                    refine (show Code.wpIn _ _ _ _ _ _ _ from ?_)
                    refine x_seq ?_
                    refine wpIn_region_lit ?_
                    refine x_run tab hk (k := 1) (lv := []) (ks := [2]) (e' := [(2, .bool false)]) rfl trivial fun a hk => ?_
                    refine wpListIn_nil ?_
                    refine then_n ?_
                    refine wpIn_ret ?_
                    refine then_r ?_
                    refine blk_r ?_
                    refine then_r ?_
                    refine then_r ?_
                    refine blk_r ?_
                    refine then_r ?_
                    obtain rfl := Option.some.inj H
                    exact x_retG hk (rs := [.tmp 2]) (vs := [.bool false]) rfl ⟨rfl, trivial⟩ ⟨fun b_ => if b_ < w.heap.size then o b_ else (fun _ => 0) (o937 b_), rfl, hs.close0 o (fun _ => 0)⟩
                · rw [b986] at hk H
                  replace H := bifT H
                  refine x_run tab hk (k := 15) (lv := []) (ks := [5, 12, 13, 14, 53, 61]) (e' := [(5, .pointer (some ⟨bx934, 0, none⟩)), (12, .slice (some ad925) (t516.1).length c686), (13, .int .i64 ((t516.1).length : Int)), (14, .int .i64 x689), (53, .bool true), (61, undef)]) rfl trivial fun a hk => ?_
                  refine x_run tab hk (k := 1) (lv := []) (ks := [5, 12, 13, 14, 62]) (e' := [(5, .pointer (some ⟨bx934, 0, none⟩)), (12, .slice (some ad925) (t516.1).length c686), (13, .int .i64 ((t516.1).length : Int)), (14, .int .i64 x689), (62, .bool true)]) rfl trivial fun a hk => ?_
                  refine wpListIn_nil ?_
                  refine then_n ?_
                  refine x_if hk (b := true) rfl ?_
                  refine (show Code.wpIn _ _ _ _ _ _ _ from ?_)
                  refine x_seq ?_
                  refine wpIn_region_lit ?_
                  refine x_run tab hk (k := 1) (lv := []) (ks := [2]) (e' := [(2, .bool false)]) rfl trivial fun a hk => ?_
                  refine wpListIn_nil ?_
                  refine then_n ?_
                  refine wpIn_ret ?_
                  refine then_r ?_
                  refine blk_r ?_
                  refine then_r ?_
                  refine then_r ?_
                  refine blk_r ?_
                  refine then_r ?_
                  obtain rfl := Option.some.inj H
                  exact x_retG hk (rs := [.tmp 2]) (vs := [.bool false]) rfl ⟨rfl, trivial⟩ ⟨fun b_ => if b_ < w.heap.size then o b_ else (fun _ => 0) (o937 b_), rfl, hs.close0 o (fun _ => 0)⟩
            · rw [b982] at hk H
              replace H := bifT H
              refine x_run tab hk (k := 13) (lv := []) (ks := [5, 12, 13, 14, 38, 51]) (e' := [(5, .pointer (some ⟨bx934, 0, none⟩)), (12, .slice (some ad925) (t516.1).length c686), (13, .int .i64 ((t516.1).length : Int)), (14, .int .i64 x689), (38, .bool true), (51, undef)]) rfl trivial fun a hk => ?_
              refine x_run tab hk (k := 10) (lv := []) (ks := [5, 12, 13, 14, 53, 61]) (e' := [(5, .pointer (some ⟨bx934, 0, none⟩)), (12, .slice (some ad925) (t516.1).length c686), (13, .int .i64 ((t516.1).length : Int)), (14, .int .i64 x689), (53, .bool true), (61, undef)]) rfl trivial fun a hk => ?_
              refine x_run tab hk (k := 1) (lv := []) (ks := [5, 12, 13, 14, 62]) (e' := [(5, .pointer (some ⟨bx934, 0, none⟩)), (12, .slice (some ad925) (t516.1).length c686), (13, .int .i64 ((t516.1).length : Int)), (14, .int .i64 x689), (62, .bool true)]) rfl trivial fun a hk => ?_
              refine wpListIn_nil ?_
              refine then_n ?_
              refine x_if hk (b := true) rfl ?_
              refine (show Code.wpIn _ _ _ _ _ _ _ from ?_)
              refine x_seq ?_
              refine wpIn_region_lit ?_
              refine x_run tab hk (k := 1) (lv := []) (ks := [2]) (e' := [(2, .bool false)]) rfl trivial fun a hk => ?_
              refine wpListIn_nil ?_
              refine then_n ?_
              refine wpIn_ret ?_
              refine then_r ?_
              refine blk_r ?_
              refine then_r ?_
              refine then_r ?_
              refine blk_r ?_
              refine then_r ?_
              obtain rfl := Option.some.inj H
              exact x_retG hk (rs := [.tmp 2]) (vs := [.bool false]) rfl ⟨rfl, trivial⟩ ⟨fun b_ => if b_ < w.heap.size then o b_ else (fun _ => 0) (o937 b_), rfl, hs.close0 o (fun _ => 0)⟩
          · rw [b981] at hk H
            replace H := bifT H
            refine x_run tab hk (k := 19) (lv := []) (ks := [5, 12, 13, 14, 38, 51]) (e' := [(5, .pointer (some ⟨bx934, 0, none⟩)), (12, .slice (some ad925) (t516.1).length c686), (13, .int .i64 ((t516.1).length : Int)), (14, .int .i64 x689), (38, .bool true), (51, undef)]) rfl trivial fun a hk => ?_
            refine x_run tab hk (k := 10) (lv := []) (ks := [5, 12, 13, 14, 53, 61]) (e' := [(5, .pointer (some ⟨bx934, 0, none⟩)), (12, .slice (some ad925) (t516.1).length c686), (13, .int .i64 ((t516.1).length : Int)), (14, .int .i64 x689), (53, .bool true), (61, undef)]) rfl trivial fun a hk => ?_
            refine x_run tab hk (k := 1) (lv := []) (ks := [5, 12, 13, 14, 62]) (e' := [(5, .pointer (some ⟨bx934, 0, none⟩)), (12, .slice (some ad925) (t516.1).length c686), (13, .int .i64 ((t516.1).length : Int)), (14, .int .i64 x689), (62, .bool true)]) rfl trivial fun a hk => ?_
            refine wpListIn_nil ?_
            refine then_n ?_
            refine x_if hk (b := true) rfl ?_
            refine (show Code.wpIn _ _ _ _ _ _ _ from ?_)
            refine x_seq ?_
            refine wpIn_region_lit ?_
            refine x_run tab hk (k := 1) (lv := []) (ks := [2]) (e' := [(2, .bool false)]) rfl trivial fun a hk => ?_
            refine wpListIn_nil ?_
            refine then_n ?_
            refine wpIn_ret ?_
            refine then_r ?_
            refine blk_r ?_
            refine then_r ?_
            refine then_r ?_
            refine blk_r ?_
            refine then_r ?_
            obtain rfl := Option.some.inj H
            exact x_retG hk (rs := [.tmp 2]) (vs := [.bool false]) rfl ⟨rfl, trivial⟩ ⟨fun b_ => if b_ < w.heap.size then o b_ else (fun _ => 0) (o937 b_), rfl, hs.close0 o (fun _ => 0)⟩
        · rw [b980] at hk H
          replace H := bifT H
          refine x_run tab hk (k := 10) (lv := []) (ks := [5, 12, 13, 14, 32, 36]) (e' := [(5, .pointer (some ⟨bx934, 0, none⟩)), (12, .slice (some ad925) (t516.1).length c686), (13, .int .i64 ((t516.1).length : Int)), (14, .int .i64 x689), (32, .bool true), (36, undef)]) rfl trivial fun a hk => ?_
          refine x_run tab hk (k := 15) (lv := []) (ks := [5, 12, 13, 14, 38, 51]) (e' := [(5, .pointer (some ⟨bx934, 0, none⟩)), (12, .slice (some ad925) (t516.1).length c686), (13, .int .i64 ((t516.1).length : Int)), (14, .int .i64 x689), (38, .bool true), (51, undef)]) rfl trivial fun a hk => ?_
          refine x_run tab hk (k := 10) (lv := []) (ks := [5, 12, 13, 14, 53, 61]) (e' := [(5, .pointer (some ⟨bx934, 0, none⟩)), (12, .slice (some ad925) (t516.1).length c686), (13, .int .i64 ((t516.1).length : Int)), (14, .int .i64 x689), (53, .bool true), (61, undef)]) rfl trivial fun a hk => ?_
          refine x_run tab hk (k := 1) (lv := []) (ks := [5, 12, 13, 14, 62]) (e' := [(5, .pointer (some ⟨bx934, 0, none⟩)), (12, .slice (some ad925) (t516.1).length c686), (13, .int .i64 ((t516.1).length : Int)), (14, .int .i64 x689), (62, .bool true)]) rfl trivial fun a hk => ?_
          refine wpListIn_nil ?_
          refine then_n ?_
          refine x_if hk (b := true) rfl ?_
          refine (show Code.wpIn _ _ _ _ _ _ _ from ?_)
          refine x_seq ?_
          refine wpIn_region_lit ?_
          refine x_run tab hk (k := 1) (lv := []) (ks := [2]) (e' := [(2, .bool false)]) rfl trivial fun a hk => ?_
          refine wpListIn_nil ?_
          refine then_n ?_
          refine wpIn_ret ?_
          refine then_r ?_
          refine blk_r ?_
          refine then_r ?_
          refine then_r ?_
          refine blk_r ?_
          refine then_r ?_
          obtain rfl := Option.some.inj H
          exact x_retG hk (rs := [.tmp 2]) (vs := [.bool false]) rfl ⟨rfl, trivial⟩ ⟨fun b_ => if b_ < w.heap.size then o b_ else (fun _ => 0) (o937 b_), rfl, hs.close0 o (fun _ => 0)⟩
      · rw [b979] at hk H
        replace H := bifT H
        refine x_run tab hk (k := 10) (lv := []) (ks := [5, 12, 13, 14, 31]) (e' := [(5, .pointer (some ⟨bx934, 0, none⟩)), (12, .slice (some ad925) (t516.1).length c686), (13, .int .i64 ((t516.1).length : Int)), (14, .int .i64 x689), (31, .bool true)]) rfl trivial fun a hk => ?_
        refine x_run tab hk (k := 20) (lv := []) (ks := [5, 12, 13, 14, 38, 51]) (e' := [(5, .pointer (some ⟨bx934, 0, none⟩)), (12, .slice (some ad925) (t516.1).length c686), (13, .int .i64 ((t516.1).length : Int)), (14, .int .i64 x689), (38, .bool true), (51, undef)]) rfl trivial fun a hk => ?_
        refine x_run tab hk (k := 10) (lv := []) (ks := [5, 12, 13, 14, 53, 61]) (e' := [(5, .pointer (some ⟨bx934, 0, none⟩)), (12, .slice (some ad925) (t516.1).length c686), (13, .int .i64 ((t516.1).length : Int)), (14, .int .i64 x689), (53, .bool true), (61, undef)]) rfl trivial fun a hk => ?_
        refine x_run tab hk (k := 1) (lv := []) (ks := [5, 12, 13, 14, 62]) (e' := [(5, .pointer (some ⟨bx934, 0, none⟩)), (12, .slice (some ad925) (t516.1).length c686), (13, .int .i64 ((t516.1).length : Int)), (14, .int .i64 x689), (62, .bool true)]) rfl trivial fun a hk => ?_
        refine wpListIn_nil ?_
        refine then_n ?_
        refine x_if hk (b := true) rfl ?_
        refine (show Code.wpIn _ _ _ _ _ _ _ from ?_)
        refine x_seq ?_
        refine wpIn_region_lit ?_
        refine x_run tab hk (k := 1) (lv := []) (ks := [2]) (e' := [(2, .bool false)]) rfl trivial fun a hk => ?_
        refine wpListIn_nil ?_
        refine then_n ?_
        refine wpIn_ret ?_
        refine then_r ?_
        refine blk_r ?_
        refine then_r ?_
        refine then_r ?_
        refine blk_r ?_
        refine then_r ?_
        obtain rfl := Option.some.inj H
        exact x_retG hk (rs := [.tmp 2]) (vs := [.bool false]) rfl ⟨rfl, trivial⟩ ⟨fun b_ => if b_ < w.heap.size then o b_ else (fun _ => 0) (o937 b_), rfl, hs.close0 o (fun _ => 0)⟩
  · rw [b9] at hk H
    replace H := bifT H
    refine x_if hk (b := true) rfl ?_
    refine (show Code.wpIn _ _ _ _ _ _ _ from ?_)
    refine x_seq ?_
    refine wpIn_region_lit ?_
    refine x_run tab hk (k := 1) (lv := []) (ks := [2]) (e' := [(2, .bool false)]) rfl trivial fun a hk => ?_
    refine wpListIn_nil ?_
    refine then_n ?_
    refine wpIn_ret ?_
    refine then_r ?_
    obtain rfl := Option.some.inj H
    exact x_retG hk (rs := [.tmp 2]) (vs := [.bool false]) rfl ⟨rfl, trivial⟩ ⟨fun b_ => if b_ < w.heap.size then o b_ else (fun _ => 0) (o7 b_), rfl, hs.close0 o (fun _ => 0)⟩

/-! slices.Clone[[]int,int] -/
theorem slices_Clone_calls (Ap0 : Option Addr) (cp0 : Nat) (p0 : List Int) (w : World) (o : Nat → Nat) (Lp0 : Nat) (hp0 : Ft (RdC (encInt .i64) Ap0 p0) w o Lp0) (hcp0 : (p0).length ≤ cp0)  (R0 : Nat) (r : List Int) (H : slices_Clone p0 = some r) :
    Calls Tryd.prog 23 #[.slice Ap0 (p0).length cp0] w (Ret fun v_ w' => ∃ o' : Nat → Nat, ∃ A0 : Option Addr, ∃ c0 : Nat, v_ = .slice A0 (r).length c0 ∧ St [] w o w' o' ∧ Ft (Own (encInt .i64) 3 (.slice A0 (r).length c0) r) w' o' R0 ∧ (r).length ≤ c0) := by
  refine x_enter (vs := [.slice Ap0 (p0).length cp0]) Tryd.func23 rfl rfl rfl fun a hk => ?_
  obtain ⟨o0, hs, h0⟩ := St.start w o
  have f900000 := h0 _ _ hp0
  clear h0
  rw [slices_Clone] at H
  refine x_seq ?_
  refine wpIn_region_lit ?_
  refine x_run tab hk (k := 1) (lv := []) (ks := [0]) (e' := [(0, .slice Ap0 (p0).length cp0)]) rfl trivial fun a hk => ?_
  refine wpListIn_nil ?_
  refine then_n ?_
  refine x_seq ?_
  refine x_seq ?_
  refine wpIn_region_lit ?_
  refine x_run tab hk (k := 1) (lv := []) (ks := [0, 3]) (e' := [(0, .slice Ap0 (p0).length cp0), (3, .slice Ap0 (p0).length cp0)]) rfl trivial fun a hk => ?_
  rcases none_or Ap0 with hAad1 | ⟨ad1, hAad1⟩
  · have hk_C := hk
    have f900000_C := f900000
    subst hAad1
    have hk := hk_C
    clear hk_C
    have f900000 := f900000_C
    clear f900000_C
    have hz2 : p0 = [] := RdC.none f900000.now
    replace H : (some ([] : List Int)) = some r := by (try rw [hz2] at H); simpa using H
    refine x_run tab hk (k := 1) (lv := []) (ks := [0, 4]) (e' := [(0, .slice none (p0).length cp0), (4, .bool true)]) rfl trivial fun a hk => ?_
    refine wpListIn_nil ?_
    refine then_n ?_
    refine x_if hk (b := true) rfl ?_
    refine (show Code.wpIn _ _ _ _ _ _ _ from ?_)
    refine x_seq ?_
    refine wpIn_region_lit ?_
    refine x_run tab hk (k := 1) (lv := []) (ks := [2]) (e' := [(2, .slice none 0 0)]) rfl trivial fun a hk => ?_
    refine wpListIn_nil ?_
    refine then_n ?_
    refine wpIn_ret ?_
    refine then_r ?_
    obtain rfl := Option.some.inj H
    exact x_retG hk (rs := [.tmp 2]) (vs := [.slice none 0 0]) rfl ⟨rfl, trivial⟩ ⟨fun b_ => if b_ < w.heap.size then o b_ else (fun _ => 0) (o0 b_), none, 0, rfl, hs.close0 o (fun _ => 0), (Ft.of_all (fun _ => Own.nil _ _ _) _ _ _), (by simp)⟩
  · have hk_C := hk
    have f900000_C := f900000
    subst hAad1
    have hk := hk_C
    clear hk_C
    have f900000 := f900000_C
    clear f900000_C
    refine x_run tab hk (k := 1) (lv := []) (ks := [0, 4]) (e' := [(0, .slice (some ad1) (p0).length cp0), (4, .bool false)]) rfl trivial fun a hk => ?_
    refine wpListIn_nil ?_
    refine then_n ?_
    refine x_if hk (b := false) rfl ?_
    refine (show Code.wpIn _ _ _ _ _ _ _ from ?_)
    refine wpIn_skip ?_
    refine then_n ?_
    refine x_seq ?_
    refine wpIn_region_lit ?_
    refine x_op hk rfl ?_
    refine op_slice (o := o0) tab hk (vs := []) (cs := []) rfl rfl rfl rfl rfl rfl rfl rfl rfl 1 fun bx6 w3 o4 st5 f7 => ?_
    replace f900000 := f900000.st st5 (by decide)
    replace hs := hs.loc0 st5 (by decide)
    have f8 : Ft (Own (encInt .i64) 3 (.slice (some ⟨bx6, 0, none⟩) (([] : List Int)).length 0) ([] : List Int)) w3 o4 1 := f7.imp fun _ h_ => Own.of_box h_ rfl (by simp)
    have hk := hk.put 5 (.slice (some ⟨bx6, 0, none⟩) (([] : List Int)).length 0) rfl
    refine x_run tab hk (k := 1) (lv := []) (ks := [5, 6]) (e' := [(5, .slice (some ⟨bx6, 0, none⟩) (([] : List Int)).length 0), (6, .slice (some ad1) (p0).length cp0)]) rfl trivial fun a hk => ?_
    refine x_op hk rfl ?_
    obtain ⟨q12, H⟩ := ifS H
    refine op_append (o := o4) (E := (encInt .i64)) (xs := ([] : List Int)) (ys := p0) tab hk rfl rfl rfl rfl rfl rfl rfl f8 f900000.now q12 fun A13 c14 w9 o10 st11 f15 hc16 => ?_
    replace f900000 := f900000.st st11 (by decide)
    replace hs := hs.loc0 st11 (by decide)
    have hk := hk.put 7 (.slice A13 ((([] : List Int) ++ p0)).length c14) rfl
    refine x_run tab hk (k := 1) (lv := []) (ks := [2]) (e' := [(2, .slice A13 ((([] : List Int) ++ p0)).length c14)]) rfl trivial fun a hk => ?_
    refine wpListIn_nil ?_
    refine then_n ?_
    refine wpIn_ret ?_
    obtain rfl := Option.some.inj H
    exact x_retG hk (rs := [.tmp 2]) (vs := [.slice A13 ((([] : List Int) ++ p0)).length c14]) rfl ⟨rfl, trivial⟩ ⟨fun b_ => if b_ < w.heap.size then o b_ else (fun _ => R0) (o10 b_), A13, c14, rfl, hs.close0 o (fun _ => R0), hs.close_ft (o := o) (ρ := fun _ => R0) f15 (by decide) rfl, hc16⟩

/-! (*tidewrack/seq.Parser).Clone -/
theorem seq_Parser_Clone_calls (bp0 : Nat) (Ap0_0 : Option Addr) (cp0_0 : Nat) (p0 : T30) (w : World) (o : Nat → Nat) (LF : Nat) (Lp0 : Nat) (hp0 : Ft (Bx bp0 31 [.int .i64 p0.state, .bool p0.order_private_, .bool p0.order_wrong, .bool p0.order_any, .bool p0.order_some, .int .i64 p0.order_n, .slice Ap0_0 (p0.order_nums).length cp0_0, .string p0.text, .int .u8 p0.runes_Lead, .int .i32 p0.runes_Rune, .int .i64 p0.runes_Need, .slice none 0 0]) w o Lp0) (Lp0_0 : Nat) (hp0_0 : CO (encInt .i64) 3 Ap0_0 cp0_0 p0.order_nums (p0.state == (3 : Int)) w o Lp0_0 LF) (hcp0_0 : (p0.order_nums).length ≤ cp0_0) (hd0 : ([LF] : List Nat).Nodup) (hd1 : Lp0_0 ∉ [LF]) (hd2 : Lp0 ∉ [LF]) (R0 : Nat) (R1 : Nat) (R2 : Nat) (r : T30) (H : seq_Parser_Clone p0 = some r) :
    Calls Tryd.prog 14 #[.pointer (some ⟨bp0, 0, none⟩)] w (Ret fun v_ w' => ∃ o' : Nat → Nat, ∃ b0 : Nat, ∃ A0 : Option Addr, ∃ c0 : Nat, ∃ A1 : Option Addr, ∃ c1 : Nat, v_ = .pointer (some ⟨b0, 0, none⟩) ∧ St [] w o w' o' ∧ Ft (Bx b0 31 [.int .i64 r.state, .bool r.order_private_, .bool r.order_wrong, .bool r.order_any, .bool r.order_some, .int .i64 r.order_n, .slice A0 (r.order_nums).length c0, .string r.text, .int .u8 r.runes_Lead, .int .i32 r.runes_Rune, .int .i64 r.runes_Need, .slice A1 (r.out).length c1]) w' o' R0 ∧ Ft (Own (encInt .i64) 3 (.slice A0 (r.order_nums).length c0) r.order_nums) w' o' R1 ∧ (r.order_nums).length ≤ c0 ∧ NOwn dT37 38 A1 c1 r.out w' o' R2 LF ∧ (r.out).length ≤ c1) := by
  refine x_enter (vs := [.pointer (some ⟨bp0, 0, none⟩)]) Tryd.func14 rfl rfl rfl fun a hk => ?_
  obtain ⟨oi, hs0, h0, h1, hob, hoz, hoa⟩ := St.startM2 w o (m := 1) hd0 rfl
  have hs := hs0 []
  have f900000 := hp0_0.conv (fun P_ => h0 P_ _ hd1) (fun _ h_ => h1 0 1 h_ rfl rfl)
  have f900019 := h0 _ _ hd2 hp0
  clear h0 h1 hs0
  rw [seq_Parser_Clone] at H
  refine x_seq ?_
  refine wpIn_region_lit ?_
  refine x_run tab hk (k := 1) (lv := []) (ks := [0]) (e' := [(0, .pointer (some ⟨bp0, 0, none⟩))]) rfl trivial fun a hk => ?_
  refine wpListIn_nil ?_
  refine then_n ?_
  refine x_seq ?_
  refine wpIn_region_lit ?_
  refine x_run tab hk (k := 3) (lv := [.agg #[.int .i64 p0.state, .bool p0.order_private_, .bool p0.order_wrong, .bool p0.order_any, .bool p0.order_some, .int .i64 p0.order_n, .slice Ap0_0 (p0.order_nums).length cp0_0, .string p0.text, .int .u8 p0.runes_Lead, .int .i32 p0.runes_Rune, .int .i64 p0.runes_Need, .slice none 0 0]]) (ks := [0, 6]) (e' := [(0, .pointer (some ⟨bp0, 0, none⟩)), (6, .agg #[.int .i64 p0.state, .bool p0.order_private_, .bool p0.order_wrong, .bool p0.order_any, .bool p0.order_some, .int .i64 p0.order_n, .slice Ap0_0 (p0.order_nums).length cp0_0, .string p0.text, .int .u8 p0.runes_Lead, .int .i32 p0.runes_Rune, .int .i64 p0.runes_Need, .slice none 0 0])]) rfl ⟨(load_box tab rfl rfl f900019.now (k := 0) rfl rfl), trivial⟩ fun a hk => ?_
  refine x_op hk rfl ?_
  refine op_alloc (o := oi) tab (t := 31) (cs := [.int .i64 0, .bool false, .bool false, .bool false, .bool false, .int .i64 0, .slice none 0 0, .string (⟨#[]⟩ : ByteArray), .int .u8 0, .int .i32 0, .int .i64 0, .slice none 0 0]) rfl rfl 2 fun bx4 w1 o2 st3 f5 => ?_
  replace f900000 := f900000.st st3 (by decide)
  replace f900019 := f900019.st st3 (by decide)
  replace hs := hs.locQ st3 hob rfl
  have hk := hk.put 3 (.pointer (some ⟨bx4, 0, none⟩)) rfl
  refine x_op hk rfl ?_
  refine op_store tab hk (t := 31) (v := .agg #[.int .i64 p0.state, .bool p0.order_private_, .bool p0.order_wrong, .bool p0.order_any, .bool p0.order_some, .int .i64 p0.order_n, .slice Ap0_0 (p0.order_nums).length cp0_0, .string p0.text, .int .u8 p0.runes_Lead, .int .i32 p0.runes_Rune, .int .i64 p0.runes_Need, .slice none 0 0]) (b := bx4) (k := 0) (cs' := [.int .i64 p0.state, .bool p0.order_private_, .bool p0.order_wrong, .bool p0.order_any, .bool p0.order_some, .int .i64 p0.order_n, .slice Ap0_0 (p0.order_nums).length cp0_0, .string p0.text, .int .u8 p0.runes_Lead, .int .i32 p0.runes_Rune, .int .i64 p0.runes_Need, .slice none 0 0]) rfl rfl rfl rfl rfl rfl f5 rfl rfl fun w6 o7 st8 f5_ => ?_
  replace f900000 := f900000.st st8 (by decide)
  replace f900019 := f900019.st st8 (by decide)
  replace hs := hs.locQ st8 hob rfl
  replace f5 := f5_
  refine wpListIn_nil ?_
  refine then_n ?_
  refine x_seq ?_
  refine wpIn_region_lit ?_
  refine x_run tab hk (k := 5) (lv := [.slice Ap0_0 (p0.order_nums).length cp0_0]) (ks := [3, 11]) (e' := [(3, .pointer (some ⟨bx4, 0, none⟩)), (11, .slice Ap0_0 (p0.order_nums).length cp0_0)]) rfl ⟨(load1 tab rfl ((Bx.cell f900019.now 6).trans rfl)), trivial⟩ fun a hk => ?_
  rcases CO.rd f900000 with f9 | f9
  · skip
    refine x_op hk rfl ?_
    obtain ⟨t13, hc14, H⟩ := bindS H
    refine op_call hk ent_23 (vs := [.slice Ap0_0 (p0.order_nums).length cp0_0]) rfl (slices_Clone_calls Ap0_0 cp0_0 p0.order_nums _ o7 _ f9 hcp0_0 3  _ hc14) ?_
    rintro _ w15 ⟨o16, A18, c19, rfl, st17, f20, hc21⟩
    replace f5 := f5.st st17 (by decide)
    replace f9 := f9.st st17 (by decide)
    replace f900000 := f900000.st st17 (by decide)
    replace f900019 := f900019.st st17 (by decide)
    replace hs := hs.locQ st17 hob rfl
    have hk := hk.put 12 (.slice A18 (t13).length c19) rfl
    refine x_run tab hk (k := 2) (lv := []) (ks := [3, 12, 14]) (e' := [(3, .pointer (some ⟨bx4, 0, none⟩)), (12, .slice A18 (t13).length c19), (14, .pointer (some ((⟨bx4, 0, none⟩ : Addr).add 6)))]) rfl trivial fun a hk => ?_
    refine x_op hk rfl ?_
    refine op_store tab hk (t := 24) (v := .slice A18 (t13).length c19) (b := bx4) (k := 6) (cs' := [.int .i64 p0.state, .bool p0.order_private_, .bool p0.order_wrong, .bool p0.order_any, .bool p0.order_some, .int .i64 p0.order_n, .slice A18 (t13).length c19, .string p0.text, .int .u8 p0.runes_Lead, .int .i32 p0.runes_Rune, .int .i64 p0.runes_Need, .slice none 0 0]) rfl rfl rfl rfl rfl rfl f5 rfl rfl fun w22 o23 st24 f5_ => ?_
    replace f20 := f20.st st24 (by decide)
    replace f900000 := f900000.st st24 (by decide)
    replace f900019 := f900019.st st24 (by decide)
    replace hs := hs.locQ st24 hob rfl
    replace f5 := f5_
    refine wpListIn_nil ?_
    refine then_n ?_
    refine x_seq ?_
    refine wpIn_region_lit ?_
    refine x_run tab hk (k := 1) (lv := []) (ks := [2]) (e' := [(2, .pointer (some ⟨bx4, 0, none⟩))]) rfl trivial fun a hk => ?_
    refine wpListIn_nil ?_
    refine then_n ?_
    refine wpIn_ret ?_
    obtain rfl := Option.some.inj H
    exact x_retG hk (rs := [.tmp 2]) (vs := [.pointer (some ⟨bx4, 0, none⟩)]) rfl ⟨rfl, trivial⟩ ⟨cl w oi o [] (fun l_ => if l_ = 1 then LF else if l_ = 2 then R0 else if l_ = 3 then R1 else 0) o23, bx4, A18, c19, none, 0, rfl, hs.closeF (Lm := []) (Sh := []) hoa rfl (fun l_ => if l_ = 1 then LF else if l_ = 2 then R0 else if l_ = 3 then R1 else 0), hs.closeM_ft (o := o) (ρ := fun l_ => if l_ = 1 then LF else if l_ = 2 then R0 else if l_ = 3 then R1 else 0) f5 (lab_none hob rfl) rfl, hs.closeM_ft (o := o) (ρ := fun l_ => if l_ = 1 then LF else if l_ = 2 then R0 else if l_ = 3 then R1 else 0) f20 (lab_none hob rfl) rfl, hc21, (NOwn.nil _ _ _ _ _ _), (by simp)⟩
  · skip
    refine x_op hk rfl ?_
    obtain ⟨t28, hc29, H⟩ := bindS H
    refine op_call hk ent_23 (vs := [.slice Ap0_0 (p0.order_nums).length cp0_0]) rfl (slices_Clone_calls Ap0_0 cp0_0 p0.order_nums _ o7 _ f9 hcp0_0 4  _ hc29) ?_
    rintro _ w30 ⟨o31, A33, c34, rfl, st32, f35, hc36⟩
    replace f5 := f5.st st32 (by decide)
    replace f9 := f9.st st32 (by decide)
    replace f900000 := f900000.st st32 (by decide)
    replace f900019 := f900019.st st32 (by decide)
    replace hs := hs.locQ st32 hob rfl
    have hk := hk.put 12 (.slice A33 (t28).length c34) rfl
    refine x_run tab hk (k := 2) (lv := []) (ks := [3, 12, 14]) (e' := [(3, .pointer (some ⟨bx4, 0, none⟩)), (12, .slice A33 (t28).length c34), (14, .pointer (some ((⟨bx4, 0, none⟩ : Addr).add 6)))]) rfl trivial fun a hk => ?_
    refine x_op hk rfl ?_
    refine op_store tab hk (t := 24) (v := .slice A33 (t28).length c34) (b := bx4) (k := 6) (cs' := [.int .i64 p0.state, .bool p0.order_private_, .bool p0.order_wrong, .bool p0.order_any, .bool p0.order_some, .int .i64 p0.order_n, .slice A33 (t28).length c34, .string p0.text, .int .u8 p0.runes_Lead, .int .i32 p0.runes_Rune, .int .i64 p0.runes_Need, .slice none 0 0]) rfl rfl rfl rfl rfl rfl f5 rfl rfl fun w37 o38 st39 f5_ => ?_
    replace f35 := f35.st st39 (by decide)
    replace f900000 := f900000.st st39 (by decide)
    replace f900019 := f900019.st st39 (by decide)
    replace hs := hs.locQ st39 hob rfl
    replace f5 := f5_
    refine wpListIn_nil ?_
    refine then_n ?_
    refine x_seq ?_
    refine wpIn_region_lit ?_
    refine x_run tab hk (k := 1) (lv := []) (ks := [2]) (e' := [(2, .pointer (some ⟨bx4, 0, none⟩))]) rfl trivial fun a hk => ?_
    refine wpListIn_nil ?_
    refine then_n ?_
    refine wpIn_ret ?_
    obtain rfl := Option.some.inj H
    exact x_retG hk (rs := [.tmp 2]) (vs := [.pointer (some ⟨bx4, 0, none⟩)]) rfl ⟨rfl, trivial⟩ ⟨cl w oi o [] (fun l_ => if l_ = 1 then LF else if l_ = 2 then R0 else if l_ = 4 then R1 else 0) o38, bx4, A33, c34, none, 0, rfl, hs.closeF (Lm := []) (Sh := []) hoa rfl (fun l_ => if l_ = 1 then LF else if l_ = 2 then R0 else if l_ = 4 then R1 else 0), hs.closeM_ft (o := o) (ρ := fun l_ => if l_ = 1 then LF else if l_ = 2 then R0 else if l_ = 4 then R1 else 0) f5 (lab_none hob rfl) rfl, hs.closeM_ft (o := o) (ρ := fun l_ => if l_ = 1 then LF else if l_ = 2 then R0 else if l_ = 4 then R1 else 0) f35 (lab_none hob rfl) rfl, hc36, (NOwn.nil _ _ _ _ _ _), (by simp)⟩

/-! tidewrack/tidewracklaw07.SeqParts -/
theorem tidewracklaw07_SeqParts_calls (K : Nat) (p0 : ByteArray) (Ap1 : Option Addr) (cp1 : Nat) (p1 : List Int) (w : World) (o : Nat → Nat) (Lg0 : Nat) (hg0 : Ft (RdC ET70 (some ⟨0, 0, none⟩) glob0) w o Lg0) (Lp1 : Nat) (hp1 : Ft (RdC (encInt .i64) Ap1 p1) w o Lp1) (hcp1 : (p1).length ≤ cp1)  (r : Bool) (H : tidewracklaw07_SeqParts K p0 p1 = some r) :
    Calls Tryd.prog 7 #[.string p0, .slice Ap1 (p1).length cp1] w (Ret fun v_ w' => ∃ o' : Nat → Nat, v_ = .bool r ∧ St [] w o w' o') := by
  refine x_enter (vs := [.string p0, .slice Ap1 (p1).length cp1]) Tryd.func7 rfl rfl rfl fun a hk => ?_
  obtain ⟨o0, hs, h0⟩ := St.start w o
  have fg0 := h0 _ _ hg0
  have f900020 := h0 _ _ hp1
  clear h0
  rw [tidewracklaw07_SeqParts] at H
  refine x_seq ?_
  refine wpIn_region_lit ?_
  refine x_run tab hk (k := 1) (lv := []) (ks := [0, 1]) (e' := [(0, .string p0), (1, .slice Ap1 (p1).length cp1)]) rfl trivial fun a hk => ?_
  refine wpListIn_nil ?_
  refine then_n ?_
  refine x_seq ?_
  refine x_seq ?_
  refine wpIn_region_lit ?_
  refine x_op hk rfl ?_
  obtain ⟨t4, hc5, H⟩ := bindS H
  refine op_call hk ent_9 (vs := []) rfl (tidewracklaw07_awake_calls K  _ o0 0 fg0   _ hc5) ?_
  rintro _ w6 ⟨o7, rfl, st8⟩
  replace f900020 := f900020.st st8 (by decide)
  replace fg0 := fg0.st st8 (by decide)
  replace hs := hs.loc0 st8 (by decide)
  have hk := hk.put 14 (.bool t4) rfl
  refine x_run tab hk (k := 1) (lv := []) (ks := [0, 1, 15]) (e' := [(0, .string p0), (1, .slice Ap1 (p1).length cp1), (15, .bool (!t4))]) rfl trivial fun a hk => ?_
  refine wpListIn_nil ?_
  refine then_n ?_
  cases b9 : (!t4)
  · rw [b9] at hk H
    replace H := bifF H
    refine x_if hk (b := false) rfl ?_
    refine (show Code.wpIn _ _ _ _ _ _ _ from ?_)
    refine wpIn_skip ?_
    refine then_n ?_
    refine x_seq ?_
    refine wpIn_region_lit ?_
    refine x_run tab hk (k := 1) (lv := []) (ks := [1, 16]) (e' := [(1, .slice Ap1 (p1).length cp1), (16, .string p0)]) rfl trivial fun a hk => ?_
    refine x_op hk rfl ?_
    obtain ⟨t13, hc14, H⟩ := bindS H
    refine op_call hk ent_10 (vs := [.string p0, .int .i64 200]) rfl (tidewracklaw01_Cut_calls p0 200 _ o7    _ hc14) ?_
    rintro _ w15 ⟨o16, rfl, st17⟩
    replace f900020 := f900020.st st17 (by decide)
    replace fg0 := fg0.st st17 (by decide)
    replace hs := hs.loc0 st17 (by decide)
    have hk := hk.put 17 (.string t13) rfl
    refine x_run tab hk (k := 1) (lv := []) (ks := [0, 1]) (e' := [(0, .string t13), (1, .slice Ap1 (p1).length cp1)]) rfl trivial fun a hk => ?_
    refine wpListIn_nil ?_
    refine then_n ?_
    refine x_seq ?_
    refine wpIn_region_lit ?_
    refine x_op hk rfl ?_
    refine op_alloc (o := o16) tab (t := 31) (cs := [.int .i64 0, .bool false, .bool false, .bool false, .bool false, .int .i64 0, .slice none 0 0, .string (⟨#[]⟩ : ByteArray), .int .u8 0, .int .i32 0, .int .i64 0, .slice none 0 0]) rfl rfl 2 fun bx21 w18 o19 st20 f22 => ?_
    replace f900020 := f900020.st st20 (by decide)
    replace fg0 := fg0.st st20 (by decide)
    replace hs := hs.loc0 st20 (by decide)
    have hk := hk.put 5 (.pointer (some ⟨bx21, 0, none⟩)) rfl
    refine wpListIn_nil ?_
    refine then_n ?_
    refine x_seq ?_
    refine wpIn_region_lit ?_
    refine x_run tab hk (k := 1) (lv := []) (ks := [0, 1, 5, 6]) (e' := [(0, .string t13), (1, .slice Ap1 (p1).length cp1), (5, .pointer (some ⟨bx21, 0, none⟩)), (6, .slice none 0 0)]) rfl trivial fun a hk => ?_
    refine wpListIn_nil ?_
    refine then_n ?_
    refine x_seq ?_
    refine wpIn_region_lit ?_
    refine x_run tab hk (k := 2) (lv := []) (ks := [0, 1, 5, 6, 7]) (e' := [(0, .string t13), (1, .slice Ap1 (p1).length cp1), (5, .pointer (some ⟨bx21, 0, none⟩)), (6, .slice none 0 0), (7, .string t13)]) rfl trivial fun a hk => ?_
    refine wpListIn_nil ?_
    refine then_n ?_
    refine x_mid (fun a_ w_ => ∃ o838 : Nat → Nat, ∃ x839 : Int, ∃ x840 : Bool, ∃ x841 : Bool, ∃ x842 : Bool, ∃ x843 : Bool, ∃ x844 : Int, ∃ A845 : Option Addr, ∃ c846 : Nat, ∃ l847 : List Int, ∃ x850 : ByteArray, ∃ x851 : Int, ∃ x852 : Int, ∃ x853 : Int, ∃ A854 : Option Addr, ∃ c855 : Nat, ∃ l856 : List T37, ∃ x859 : ByteArray, Kn 64 a_ [(0, .string t13), (5, .pointer (some ⟨bx21, 0, none⟩)), (6, .slice A854 (l856).length c855), (7, .string x859)] ∧ St [] w (fun _ => 0) w_ o838 ∧ Ft (Bx bx21 31 [.int .i64 x839, .bool x840, .bool x841, .bool x842, .bool x843, .int .i64 x844, .slice A845 (l847).length c846, .string x850, .int .u8 x851, .int .i32 x852, .int .i64 x853, .slice none 0 0]) w_ o838 80 ∧ CO (encInt .i64) 3 A845 c846 l847 (x839 == (3 : Int)) w_ o838 79 1 ∧ NOwn dT37 38 A854 c855 l856 w_ o838 81 1 ∧ Ft (RdC ET70 (some ⟨0, 0, none⟩) glob0) w_ o838 0 ∧ (l847).length ≤ c846 ∧ (l856).length ≤ c855 ∧ tidewracklaw07_SeqParts_j1 K t13 x839 x840 x841 x842 x843 x844 l847 x850 x851 x852 x853 l856 x859 = some r) ?_ ?_
    rotate_left
    · rintro a w860 ⟨o838, x839, x840, x841, x842, x843, x844, A845, c846, l847, x850, x851, x852, x853, A854, c855, l856, x859, hk, hs, f22, f848, f857, fg0, hc849, hc858, H⟩
      rw [tidewracklaw07_SeqParts_j1] at H
      refine x_seq ?_
      refine wpIn_region_lit ?_
      refine x_run tab hk (k := 2) (lv := []) (ks := [0, 5, 57, 58]) (e' := [(0, .string t13), (5, .pointer (some ⟨bx21, 0, none⟩)), (57, .slice A854 (l856).length c855), (58, .string x859)]) rfl trivial fun a hk => ?_
      refine x_op hk rfl ?_
      obtain ⟨t864, hc865, H⟩ := bindS H
      refine op_call hk ent_12 (vs := [.pointer (some ⟨bx21, 0, none⟩), .string x859]) rfl (seq_Parser_Feed_calls K bx21 A845 c846 none 0 (⟨x839, x840, x841, x842, x843, x844, l847, x850, x851, x852, x853, ([] : List T37)⟩ : T30) x859 _ o838 1 0 fg0 80 f22 79 f848 hc849 82 (NOwn.nil _ _ _ _ 82 1) (by simp) (by decide) (by decide) 83  _ hc865) ?_
      rintro _ w866 ⟨o867, A869, c870, A874, c875, rfl, st868, f871, hc872, f873, f876, hc877, f878, hc879⟩
      replace f857 := f857.st st868 (by decide)
      replace fg0 := fg0.st st868 (by decide)
      replace hs := hs.loc0 st868 (by decide)
      have hz880 : t864.2.out = [] := NRd.nul f878.rd
      have hk := hk.put 59 (.slice A869 (t864.1).length c870) rfl
      refine x_op hk rfl ?_
      obtain ⟨q884, H⟩ := ifS H
      refine op_appendN (o := o867) (D := dT37) (xs := l856) (ys := t864.1) tab hk rfl rfl rfl rfl rfl rfl rfl f857 f871.rd (by decide) q884 fun A885 c886 w881 o882 st883 f887 hc888 => ?_
      replace f871 := f871.st st883 (by decide)
      replace f873 := f873.st st883 (by decide)
      replace f876 := f876.st st883 (by decide)
      replace fg0 := fg0.st st883 (by decide)
      replace hs := hs.loc0 st883 (by decide)
      have hk := hk.put 60 (.slice A885 ((l856 ++ t864.1)).length c886) rfl
      refine x_run tab hk (k := 1) (lv := []) (ks := [60, 61]) (e' := [(60, .slice A885 ((l856 ++ t864.1)).length c886), (61, .string t13)]) rfl trivial fun a hk => ?_
      refine x_op hk rfl ?_
      obtain ⟨t892, hc893, H⟩ := bindS H
      refine op_call hk ent_13 (vs := [.string t13]) rfl (tidewrackref07_Read_calls K t13 _ o882 1 (by decide) 84  _ hc893) ?_
      rintro _ w894 ⟨o895, A897, c898, rfl, st896, f899, hc900⟩
      replace f887 := f887.st st896 (by decide)
      replace fg0 := fg0.st st896 (by decide)
      replace hs := hs.loc0 st896 (by decide)
      have hk := hk.put 62 (.slice A897 (t892).length c898) rfl
      refine x_op hk rfl ?_
      obtain ⟨t904, hc905, H⟩ := bindS H
      refine op_call hk ent_11 (vs := [.slice A885 ((l856 ++ t864.1)).length c886, .slice A897 (t892).length c898]) rfl (tidewracklaw07_Is_calls K A885 c886 (l856 ++ t864.1) A897 c898 t892 _ o895 1 _ f887.rd hc888 _ f899.rd hc900 (by decide) (by decide) (by decide)   _ hc905) ?_
      rintro _ w906 ⟨o907, rfl, st908⟩
      replace f887 := f887.st st908 (by decide)
      replace f899 := f899.st st908 (by decide)
      replace fg0 := fg0.st st908 (by decide)
      replace hs := hs.loc0 st908 (by decide)
      have hk := hk.put 63 (.bool t904) rfl
      refine x_run tab hk (k := 1) (lv := []) (ks := [4]) (e' := [(4, .bool t904)]) rfl trivial fun a hk => ?_
      refine wpListIn_nil ?_
      refine then_n ?_
      refine wpIn_ret ?_
      obtain rfl := Option.some.inj H
      exact x_retG hk (rs := [.tmp 4]) (vs := [.bool t904]) rfl ⟨rfl, trivial⟩ ⟨fun b_ => if b_ < w.heap.size then o b_ else (fun _ => 0) (o907 b_), rfl, hs.close0 o (fun _ => 0)⟩
    refine x_seq ?_
    refine wpIn_region_lit ?_
    refine x_run tab hk (k := 3) (lv := []) (ks := [0, 5, 6, 7, 19, 20, 21]) (e' := [(0, .string t13), (5, .pointer (some ⟨bx21, 0, none⟩)), (6, .slice none 0 0), (7, .string t13), (19, .slice Ap1 (p1).length cp1), (20, .int .i64 ((p1).length : Int)), (21, .int .i64 0)]) rfl trivial fun a hk => ?_
    refine wpListIn_nil ?_
    refine then_n ?_
    refine wpIn_block ?_
    refine x_loop (fun j_ a_ w_ => ∃ o1292 : Nat → Nat, ∃ x1293 : Int, ∃ x1294 : Bool, ∃ x1295 : Bool, ∃ x1296 : Bool, ∃ x1297 : Bool, ∃ x1298 : Int, ∃ A1299 : Option Addr, ∃ c1300 : Nat, ∃ l1301 : List Int, ∃ x1304 : ByteArray, ∃ x1305 : Int, ∃ x1306 : Int, ∃ x1307 : Int, ∃ A1308 : Option Addr, ∃ c1309 : Nat, ∃ l1310 : List T37, ∃ x1313 : ByteArray, ∃ x1314 : Int, Kn 64 a_ [(0, .string t13), (5, .pointer (some ⟨bx21, 0, none⟩)), (6, .slice A1308 (l1310).length c1309), (7, .string x1313), (19, .slice Ap1 (p1).length cp1), (20, .int .i64 ((p1).length : Int)), (21, .int .i64 x1314)] ∧ St [] w (fun _ => 0) w_ o1292 ∧ CO (encInt .i64) 3 A1299 c1300 l1301 (x1293 == (3 : Int)) w_ o1292 126 1 ∧ NOwn dT37 38 A1308 c1309 l1310 w_ o1292 128 1 ∧ Ft (Bx bx21 31 [.int .i64 x1293, .bool x1294, .bool x1295, .bool x1296, .bool x1297, .int .i64 x1298, .slice A1299 (l1301).length c1300, .string x1304, .int .u8 x1305, .int .i32 x1306, .int .i64 x1307, .slice none 0 0]) w_ o1292 127 ∧ Ft (RdC (encInt .i64) Ap1 p1) w_ o1292 0 ∧ Ft (RdC ET70 (some ⟨0, 0, none⟩) glob0) w_ o1292 0 ∧ (l1301).length ≤ c1300 ∧ (l1310).length ≤ c1309 ∧ tidewracklaw07_SeqParts_l2 K p1 t13 j_ x1293 x1294 x1295 x1296 x1297 x1298 l1301 x1304 x1305 x1306 x1307 l1310 x1313 x1314 = some r) (k := K) ⟨(fun b_ => (fun l_ => if l_ = 2 then 127 else l_) (o19 b_)), 0, false, false, false, false, 0, none, 0, ([] : List Int), (⟨#[]⟩ : ByteArray), 0, 0, 0, none, 0, ([] : List T37), t13, 0, (by exact Kn.pick (ks := [0, 5, 6, 7, 19, 20, 21]) hk rfl), (hs.relab0 (fun l_ => if l_ = 2 then 127 else l_) rfl), (CO.nil _ _ _ _ _ _ _), (NOwn.nil _ _ _ _ _ _), (f22.relab (fun l_ => if l_ = 2 then 127 else l_) rfl), (f900020.relab (fun l_ => if l_ = 2 then 127 else l_) rfl), (fg0.relab (fun l_ => if l_ = 2 then 127 else l_) rfl), (by simp), (by simp), H⟩ (by rintro _ _ ⟨_, _, _, _, _, _, _, _, _, _, _, _, _, _, _, _, _, _, _, _, _, _, _, _, _, _, _, _, H_⟩; exact absurd (show (none : Option Bool) = some r from H_) (by simp)) ?_
    rintro k1494 a w1493 ⟨o1292, x1293, x1294, x1295, x1296, x1297, x1298, A1299, c1300, l1301, x1304, x1305, x1306, x1307, A1308, c1309, l1310, x1313, x1314, hk, hs, f1302, f1311, f22, f900020, fg0, hc1303, hc1312, H⟩
    rw [tidewracklaw07_SeqParts_l2] at H
    obtain ⟨lp1495, hlp1496⟩ : ∃ lp_, lp_ = tidewracklaw07_SeqParts_l2 K p1 t13 k1494 := ⟨_, rfl⟩
    rw [← hlp1496] at H
    refine x_seq ?_
    refine wpIn_region_lit ?_
    refine x_run tab hk (k := 1) (lv := []) (ks := [0, 5, 6, 7, 19, 20, 21, 22]) (e' := [(0, .string t13), (5, .pointer (some ⟨bx21, 0, none⟩)), (6, .slice A1308 (l1310).length c1309), (7, .string x1313), (19, .slice Ap1 (p1).length cp1), (20, .int .i64 ((p1).length : Int)), (21, .int .i64 x1314), (22, .bool (decide (x1314 < ((p1).length : Int))))]) rfl trivial fun a hk => ?_
    refine wpListIn_nil ?_
    refine then_n ?_
    refine x_seq ?_
    cases b1497 : (decide (x1314 < ((p1).length : Int)))
    · rw [b1497] at hk H
      replace H := bifF H
      refine x_if hk (b := false) rfl ?_
      refine (show Code.wpIn _ _ _ _ _ _ _ from ?_)
      refine wpIn_exit ?_
      refine then_x ?_
      refine then_x ?_
      refine blk_x ?_
      refine then_n ?_
      exact ⟨(fun b_ => (fun l_ => if l_ = 126 then 79 else if l_ = 127 then 80 else if l_ = 128 then 81 else l_) (o1292 b_)), x1293, x1294, x1295, x1296, x1297, x1298, A1299, c1300, l1301, x1304, x1305, x1306, x1307, A1308, c1309, l1310, x1313, (by exact Kn.pick (ks := [0, 5, 6, 7]) hk rfl), (hs.relab0 (fun l_ => if l_ = 126 then 79 else if l_ = 127 then 80 else if l_ = 128 then 81 else l_) rfl), (f22.relab (fun l_ => if l_ = 126 then 79 else if l_ = 127 then 80 else if l_ = 128 then 81 else l_) rfl), (f1302.relab (fun l_ => if l_ = 126 then 79 else if l_ = 127 then 80 else if l_ = 128 then 81 else l_) rfl), (f1311.relab (fun l_ => if l_ = 126 then 79 else if l_ = 127 then 80 else if l_ = 128 then 81 else l_) rfl), (fg0.relab (fun l_ => if l_ = 126 then 79 else if l_ = 127 then 80 else if l_ = 128 then 81 else l_) rfl), hc1303, hc1312, H⟩
    · rw [b1497] at hk H
      replace H := bifT H
      refine x_if hk (b := true) rfl ?_
      refine (show Code.wpIn _ _ _ _ _ _ _ from ?_)
      refine wpIn_skip ?_
      refine then_n ?_
      refine x_seq ?_
      refine wpIn_block ?_
      refine x_seq ?_
      refine wpIn_region_lit ?_
      obtain ⟨q1498, H⟩ := ifS H
      obtain ⟨ad1499, hAad1499⟩ := RdC.addr f900020.now q1498
      have hk_C := hk
      have f1302_C := f1302
      have f1311_C := f1311
      have f22_C := f22
      have f900020_C := f900020
      have fg0_C := fg0
      subst hAad1499
      have hk := hk_C
      clear hk_C
      have f1302 := f1302_C
      clear f1302_C
      have f1311 := f1311_C
      clear f1311_C
      have f22 := f22_C
      clear f22_C
      have f900020 := f900020_C
      clear f900020_C
      have fg0 := fg0_C
      clear fg0_C
      refine x_run tab hk (k := 3) (lv := [.int .i64 (rdD 0 p1 x1314)]) (ks := [0, 5, 6, 7, 9, 19, 20, 21]) (e' := [(0, .string t13), (5, .pointer (some ⟨bx21, 0, none⟩)), (6, .slice A1308 (l1310).length c1309), (7, .string x1313), (9, .int .i64 (rdD 0 p1 x1314)), (19, .slice (some ad1499) (p1).length cp1), (20, .int .i64 ((p1).length : Int)), (21, .int .i64 x1314)]) rfl ⟨q1498, (load1 tab rfl (RdC.at0 (E := (encInt .i64)) (d := 0) (i := x1314) f900020.now q1498 rfl)), trivial⟩ fun a hk => ?_
      refine wpListIn_nil ?_
      refine then_n ?_
      refine x_seq ?_
      refine wpIn_region_lit ?_
      refine x_run tab hk (k := 7) (lv := []) (ks := [0, 5, 6, 7, 10, 19, 20, 21]) (e' := [(0, .string t13), (5, .pointer (some ⟨bx21, 0, none⟩)), (6, .slice A1308 (l1310).length c1309), (7, .string x1313), (10, .int .i64 (mnI (IntKind.wrap .i64 (1 + (bits .and .i64 (rdD 0 p1 x1314) 15))) ((x1313).size : Int))), (19, .slice (some ad1499) (p1).length cp1), (20, .int .i64 ((p1).length : Int)), (21, .int .i64 x1314)]) rfl trivial fun a hk => ?_
      refine wpListIn_nil ?_
      refine then_n ?_
      refine x_seq ?_
      refine wpIn_region_lit ?_
      refine x_op hk rfl ?_
      obtain ⟨t1503, hc1504, H⟩ := bindS H
      refine op_call hk ent_14 (vs := [.pointer (some ⟨bx21, 0, none⟩)]) rfl (seq_Parser_Clone_calls bx21 A1299 c1300 (⟨x1293, x1294, x1295, x1296, x1297, x1298, l1301, x1304, x1305, x1306, x1307, ([] : List T37)⟩ : T30) _ o1292 1 127 f22 126 f1302 hc1303 (by decide) (by decide) (by decide) 143 144 145  _ hc1504) ?_
      rintro _ w1505 ⟨o1506, bx1508, A1510, c1511, A1514, c1515, rfl, st1507, f1509, f1512, hc1513, f1516, hc1517⟩
      replace f1302 := f1302.st st1507 (by decide)
      replace f1311 := f1311.st st1507 (by decide)
      replace f22 := f22.st st1507 (by decide)
      replace f900020 := f900020.st st1507 (by decide)
      replace fg0 := fg0.st st1507 (by decide)
      replace hs := hs.loc0 st1507 (by decide)
      have hk := hk.put 31 (.pointer (some ⟨bx1508, 0, none⟩)) rfl
      refine x_run tab hk (k := 1) (lv := []) (ks := [0, 5, 6, 7, 10, 11, 19, 20, 21]) (e' := [(0, .string t13), (5, .pointer (some ⟨bx21, 0, none⟩)), (6, .slice A1308 (l1310).length c1309), (7, .string x1313), (10, .int .i64 (mnI (IntKind.wrap .i64 (1 + (bits .and .i64 (rdD 0 p1 x1314) 15))) ((x1313).size : Int))), (11, .pointer (some ⟨bx1508, 0, none⟩)), (19, .slice (some ad1499) (p1).length cp1), (20, .int .i64 ((p1).length : Int)), (21, .int .i64 x1314)]) rfl trivial fun a hk => ?_
      refine wpListIn_nil ?_
      refine then_n ?_
      refine x_seq ?_
      refine x_seq ?_
      refine wpIn_region_lit ?_
      refine x_run tab hk (k := 2) (lv := []) (ks := [0, 5, 6, 7, 10, 11, 19, 20, 21, 33]) (e' := [(0, .string t13), (5, .pointer (some ⟨bx21, 0, none⟩)), (6, .slice A1308 (l1310).length c1309), (7, .string x1313), (10, .int .i64 (mnI (IntKind.wrap .i64 (1 + (bits .and .i64 (rdD 0 p1 x1314) 15))) ((x1313).size : Int))), (11, .pointer (some ⟨bx1508, 0, none⟩)), (19, .slice (some ad1499) (p1).length cp1), (20, .int .i64 ((p1).length : Int)), (21, .int .i64 x1314), (33, .bool false)]) rfl trivial fun a hk => ?_
      refine wpListIn_nil ?_
      refine then_n ?_
      refine x_if hk (b := false) rfl ?_
      refine (show Code.wpIn _ _ _ _ _ _ _ from ?_)
      refine wpIn_skip ?_
      refine then_n ?_
      refine x_seq ?_
      refine xd_begin (o := o1506) (fun W_ => True) mixed rfl rfl fun w1602 st1603 => ?_
      replace f1302 := f1302.st st1603 (by decide)
      replace f1311 := f1311.st st1603 (by decide)
      replace f1509 := f1509.st st1603 (by decide)
      replace f1512 := f1512.st st1603 (by decide)
      replace f1516 := f1516.st st1603 (by decide)
      replace f22 := f22.st st1603 (by decide)
      replace f900020 := f900020.st st1603 (by decide)
      replace fg0 := fg0.st st1603 (by decide)
      replace hs := hs.loc0 st1603 (by decide)
      obtain ⟨q1604, H⟩ := ifS H
      obtain ⟨q1605, H⟩ := ifS H
      refine xd_take tab hk (k := 4) (is := [0, 1, 2, 4, 5, 6, 7]) (ls' := #[true, true, true, false, true, true, true, true, false, false, false]) (lv := []) (ks := [0, 5, 6, 7, 10, 11, 19, 20, 21, 36, 38, 41]) (e' := [(0, .string t13), (5, .pointer (some ⟨bx21, 0, none⟩)), (6, .slice A1308 (l1310).length c1309), (7, .string x1313), (10, .int .i64 (mnI (IntKind.wrap .i64 (1 + (bits .and .i64 (rdD 0 p1 x1314) 15))) ((x1313).size : Int))), (11, .pointer (some ⟨bx1508, 0, none⟩)), (19, .slice (some ad1499) (p1).length cp1), (20, .int .i64 ((p1).length : Int)), (21, .int .i64 x1314), (36, .string (ByteArray.extract x1313 0 (Int.toNat (mnI (IntKind.wrap .i64 (1 + (bits .and .i64 (rdD 0 p1 x1314) 15))) ((x1313).size : Int))))), (38, .pointer (some ⟨bx1508, 0, none⟩)), (41, .string (ByteArray.extract x1313 0 (Int.toNat (mnI (IntKind.wrap .i64 (1 + (bits .and .i64 (rdD 0 p1 x1314) 15))) ((x1313).size : Int)))))]) (by kernel_rfl) rfl rfl (by kernel_rfl) (np_then (np_blk (np_then (np_then (np_blk (np_then np_body)))))) trivial (fun W_ hS => ⟨q1604, q1605, q1604, q1605, trivial⟩) fun a hk => ?_
      refine xd_op hk (i := 3) (by kernel_rfl) rfl rfl ?_
      obtain ⟨t1609, hc1610, H⟩ := bindS H
      refine op_call hk ent_12 (vs := [.pointer (some ⟨bx21, 0, none⟩), .string (ByteArray.extract x1313 0 (Int.toNat (mnI (IntKind.wrap .i64 (1 + (bits .and .i64 (rdD 0 p1 x1314) 15))) ((x1313).size : Int))))]) rfl (seq_Parser_Feed_calls K bx21 A1299 c1300 none 0 (⟨x1293, x1294, x1295, x1296, x1297, x1298, l1301, x1304, x1305, x1306, x1307, ([] : List T37)⟩ : T30) (ByteArray.extract x1313 0 (Int.toNat (mnI (IntKind.wrap .i64 (1 + (bits .and .i64 (rdD 0 p1 x1314) 15))) ((x1313).size : Int)))) _ o1506 1 0 fg0 127 f22 126 f1302 hc1303 152 (NOwn.nil _ _ _ _ 152 1) (by simp) (by decide) (by decide) 153  _ hc1610) ?_
      rintro _ w1611 ⟨o1612, A1614, c1615, A1619, c1620, rfl, st1613, f1616, hc1617, f1618, f1621, hc1622, f1623, hc1624⟩
      replace f1311 := f1311.st st1613 (by decide)
      replace f1509 := f1509.st st1613 (by decide)
      replace f1512 := f1512.st st1613 (by decide)
      replace f1516 := f1516.st st1613 (by decide)
      replace f900020 := f900020.st st1613 (by decide)
      replace fg0 := fg0.st st1613 (by decide)
      replace hs := hs.loc0 st1613 (by decide)
      have hz1625 : t1609.2.out = [] := NRd.nul f1623.rd
      have hk := hk.put 37 (.slice A1614 (t1609.1).length c1615) rfl
      refine ⟨.inr trivial, ?_⟩
      refine xd_op hk (i := 8) (by kernel_rfl) rfl rfl ?_
      obtain ⟨t1629, hc1630, H⟩ := bindS H
      refine op_call hk ent_12 (vs := [.pointer (some ⟨bx1508, 0, none⟩), .string (ByteArray.extract x1313 0 (Int.toNat (mnI (IntKind.wrap .i64 (1 + (bits .and .i64 (rdD 0 p1 x1314) 15))) ((x1313).size : Int))))]) rfl (seq_Parser_Feed_calls K bx1508 A1510 c1511 A1514 c1515 t1503 (ByteArray.extract x1313 0 (Int.toNat (mnI (IntKind.wrap .i64 (1 + (bits .and .i64 (rdD 0 p1 x1314) 15))) ((x1313).size : Int)))) _ o1612 1 0 fg0 143 f1509 144 (CO.of_own f1512 _ _) hc1513 145 f1516 hc1517 (by decide) (by decide) 154  _ hc1630) ?_
      rintro _ w1631 ⟨o1632, A1634, c1635, A1639, c1640, rfl, st1633, f1636, hc1637, f1638, f1641, hc1642, f1643, hc1644⟩
      replace f1311 := f1311.st st1633 (by decide)
      replace f1616 := f1616.st st1633 (by decide)
      replace f1618 := f1618.st st1633 (by decide)
      replace f1621 := f1621.st st1633 (by decide)
      replace f900020 := f900020.st st1633 (by decide)
      replace fg0 := fg0.st st1633 (by decide)
      replace hs := hs.loc0 st1633 (by decide)
      have hz1645 : t1629.2.out = [] := NRd.nul f1643.rd
      have hk := hk.put 42 (.slice A1634 (t1629.1).length c1635) rfl
      refine ⟨.inr trivial, ?_⟩
      refine xd_take tab hk (k := 0) (is := [9, 10]) (ls' := #[true, true, true, true, true, true, true, true, true, true, true]) (lv := []) (ks := [0, 5, 6, 7, 10, 11, 12, 13, 19, 20, 21]) (e' := [(0, .string t13), (5, .pointer (some ⟨bx21, 0, none⟩)), (6, .slice A1308 (l1310).length c1309), (7, .string x1313), (10, .int .i64 (mnI (IntKind.wrap .i64 (1 + (bits .and .i64 (rdD 0 p1 x1314) 15))) ((x1313).size : Int))), (11, .pointer (some ⟨bx1508, 0, none⟩)), (12, .slice A1614 (t1609.1).length c1615), (13, .slice A1634 (t1629.1).length c1635), (19, .slice (some ad1499) (p1).length cp1), (20, .int .i64 ((p1).length : Int)), (21, .int .i64 x1314)]) (by kernel_rfl) rfl rfl (by kernel_rfl) (np_then (np_blk (np_then (np_then (np_blk (np_then np_body)))))) trivial (fun W_ hS => trivial) fun a hk => ?_
      refine xd_done (by kernel_rfl) ?_
      refine then_n ?_
      refine x_seq ?_
      refine x_seq ?_
      refine wpIn_region_lit ?_
      refine x_run tab hk (k := 5) (lv := []) (ks := [0, 5, 6, 7, 10, 11, 12, 19, 20, 21, 47]) (e' := [(0, .string t13), (5, .pointer (some ⟨bx21, 0, none⟩)), (6, .slice A1308 (l1310).length c1309), (7, .string x1313), (10, .int .i64 (mnI (IntKind.wrap .i64 (1 + (bits .and .i64 (rdD 0 p1 x1314) 15))) ((x1313).size : Int))), (11, .pointer (some ⟨bx1508, 0, none⟩)), (12, .slice A1614 (t1609.1).length c1615), (19, .slice (some ad1499) (p1).length cp1), (20, .int .i64 ((p1).length : Int)), (21, .int .i64 x1314), (47, .bool (((t1609.1).length : Int) != ((t1629.1).length : Int)))]) rfl trivial fun a hk => ?_
      refine wpListIn_nil ?_
      refine then_n ?_
      cases b1646 : (((t1609.1).length : Int) != ((t1629.1).length : Int))
      · rw [b1646] at hk H
        replace H := bifF H
        refine x_if hk (b := false) rfl ?_
        refine (show Code.wpIn _ _ _ _ _ _ _ from ?_)
        refine wpIn_skip ?_
        refine then_n ?_
        refine x_seq ?_
        refine wpIn_region_lit ?_
        refine x_run tab hk (k := 1) (lv := []) (ks := [0, 5, 6, 7, 10, 12, 19, 20, 21, 48]) (e' := [(0, .string t13), (5, .pointer (some ⟨bx21, 0, none⟩)), (6, .slice A1308 (l1310).length c1309), (7, .string x1313), (10, .int .i64 (mnI (IntKind.wrap .i64 (1 + (bits .and .i64 (rdD 0 p1 x1314) 15))) ((x1313).size : Int))), (12, .slice A1614 (t1609.1).length c1615), (19, .slice (some ad1499) (p1).length cp1), (20, .int .i64 ((p1).length : Int)), (21, .int .i64 x1314), (48, .pointer (some ⟨bx1508, 0, none⟩))]) rfl trivial fun a hk => ?_
        refine x_op hk rfl ?_
        obtain ⟨t1650, hc1651, H⟩ := bindS H
        refine op_call hk ent_12 (vs := [.pointer (some ⟨bx1508, 0, none⟩), .string (⟨#[27, 91, 57]⟩ : ByteArray)]) rfl (seq_Parser_Feed_calls K bx1508 A1639 c1640 none 0 (⟨t1629.2.state, t1629.2.order_private_, t1629.2.order_wrong, t1629.2.order_any, t1629.2.order_some, t1629.2.order_n, t1629.2.order_nums, t1629.2.text, t1629.2.runes_Lead, t1629.2.runes_Rune, t1629.2.runes_Need, ([] : List T37)⟩ : T30) (⟨#[27, 91, 57]⟩ : ByteArray) _ o1632 1 0 fg0 143 f1638 144 f1641 hc1642 155 (NOwn.nil _ _ _ _ 155 1) (by simp) (by decide) (by decide) 156  _ hc1651) ?_
        rintro _ w1652 ⟨o1653, A1655, c1656, A1660, c1661, rfl, st1654, f1657, hc1658, f1659, f1662, hc1663, f1664, hc1665⟩
        replace f1311 := f1311.st st1654 (by decide)
        replace f1616 := f1616.st st1654 (by decide)
        replace f1618 := f1618.st st1654 (by decide)
        replace f1621 := f1621.st st1654 (by decide)
        replace f900020 := f900020.st st1654 (by decide)
        replace fg0 := fg0.st st1654 (by decide)
        replace hs := hs.loc0 st1654 (by decide)
        have hz1666 : t1650.2.out = [] := NRd.nul f1664.rd
        have hk := hk.put 49 (.slice A1655 (t1650.1).length c1656) rfl
        refine wpListIn_nil ?_
        refine then_n ?_
        refine x_seq ?_
        refine wpIn_region_lit ?_
        refine x_run tab hk (k := 2) (lv := []) (ks := [0, 5, 7, 10, 19, 20, 21, 50, 51]) (e' := [(0, .string t13), (5, .pointer (some ⟨bx21, 0, none⟩)), (7, .string x1313), (10, .int .i64 (mnI (IntKind.wrap .i64 (1 + (bits .and .i64 (rdD 0 p1 x1314) 15))) ((x1313).size : Int))), (19, .slice (some ad1499) (p1).length cp1), (20, .int .i64 ((p1).length : Int)), (21, .int .i64 x1314), (50, .slice A1308 (l1310).length c1309), (51, .slice A1614 (t1609.1).length c1615)]) rfl trivial fun a hk => ?_
        refine x_op hk rfl ?_
        obtain ⟨q1670, H⟩ := ifS H
        refine op_appendN (o := o1653) (D := dT37) (xs := l1310) (ys := t1609.1) tab hk rfl rfl rfl rfl rfl rfl rfl f1311 f1616.rd (by decide) q1670 fun A1671 c1672 w1667 o1668 st1669 f1673 hc1674 => ?_
        replace f1616 := f1616.st st1669 (by decide)
        replace f1618 := f1618.st st1669 (by decide)
        replace f1621 := f1621.st st1669 (by decide)
        replace f900020 := f900020.st st1669 (by decide)
        replace fg0 := fg0.st st1669 (by decide)
        replace hs := hs.loc0 st1669 (by decide)
        have hk := hk.put 52 (.slice A1671 ((l1310 ++ t1609.1)).length c1672) rfl
        refine x_run tab hk (k := 1) (lv := []) (ks := [0, 5, 6, 7, 10, 19, 20, 21]) (e' := [(0, .string t13), (5, .pointer (some ⟨bx21, 0, none⟩)), (6, .slice A1671 ((l1310 ++ t1609.1)).length c1672), (7, .string x1313), (10, .int .i64 (mnI (IntKind.wrap .i64 (1 + (bits .and .i64 (rdD 0 p1 x1314) 15))) ((x1313).size : Int))), (19, .slice (some ad1499) (p1).length cp1), (20, .int .i64 ((p1).length : Int)), (21, .int .i64 x1314)]) rfl trivial fun a hk => ?_
        refine wpListIn_nil ?_
        refine then_n ?_
        refine wpIn_region_lit ?_
        refine x_run tab hk (k := 4) (lv := []) (ks := [0, 5, 6, 7, 19, 20, 21]) (e' := [(0, .string t13), (5, .pointer (some ⟨bx21, 0, none⟩)), (6, .slice A1671 ((l1310 ++ t1609.1)).length c1672), (7, .string (ByteArray.extract x1313 (Int.toNat (mnI (IntKind.wrap .i64 (1 + (bits .and .i64 (rdD 0 p1 x1314) 15))) ((x1313).size : Int))) (x1313).size)), (19, .slice (some ad1499) (p1).length cp1), (20, .int .i64 ((p1).length : Int)), (21, .int .i64 x1314)]) rfl ⟨q1604, q1605, trivial⟩ fun a hk => ?_
        refine wpListIn_nil ?_
        refine blk_n ?_
        refine then_n ?_
        refine wpIn_region_lit ?_
        refine x_run tab hk (k := 2) (lv := []) (ks := [0, 5, 6, 7, 19, 20, 21]) (e' := [(0, .string t13), (5, .pointer (some ⟨bx21, 0, none⟩)), (6, .slice A1671 ((l1310 ++ t1609.1)).length c1672), (7, .string (ByteArray.extract x1313 (Int.toNat (mnI (IntKind.wrap .i64 (1 + (bits .and .i64 (rdD 0 p1 x1314) 15))) ((x1313).size : Int))) (x1313).size)), (19, .slice (some ad1499) (p1).length cp1), (20, .int .i64 ((p1).length : Int)), (21, .int .i64 (IntKind.wrap .i64 (x1314 + 1)))]) rfl trivial fun a hk => ?_
        refine wpListIn_nil ?_
        refine then_n ?_
        exact ⟨k1494, Nat.le_refl _, o1668, t1609.2.state, t1609.2.order_private_, t1609.2.order_wrong, t1609.2.order_any, t1609.2.order_some, t1609.2.order_n, A1619, c1620, t1609.2.order_nums, t1609.2.text, t1609.2.runes_Lead, t1609.2.runes_Rune, t1609.2.runes_Need, A1671, c1672, (l1310 ++ t1609.1), (ByteArray.extract x1313 (Int.toNat (mnI (IntKind.wrap .i64 (1 + (bits .and .i64 (rdD 0 p1 x1314) 15))) ((x1313).size : Int))) (x1313).size), (IntKind.wrap .i64 (x1314 + 1)), (by exact Kn.pick (ks := [0, 5, 6, 7, 19, 20, 21]) hk rfl), hs, f1621, f1673, f1618, f900020, fg0, hc1622, hc1674, (hlp1496 ▸ H)⟩
      · rw [b1646] at hk H
        replace H := bifT H
        refine x_if hk (b := true) rfl ?_
        refine (show Code.wpIn _ _ _ _ _ _ _ from ?_)
        refine x_seq ?_
        refine wpIn_region_lit ?_
        refine x_run tab hk (k := 1) (lv := []) (ks := [4]) (e' := [(4, .bool false)]) rfl trivial fun a hk => ?_
        refine wpListIn_nil ?_
        refine then_n ?_
        refine wpIn_ret ?_
        refine then_r ?_
        refine blk_r ?_
        refine then_r ?_
        refine then_r ?_
        refine blk_r ?_
        refine then_r ?_
        obtain rfl := Option.some.inj H
        exact x_retG hk (rs := [.tmp 4]) (vs := [.bool false]) rfl ⟨rfl, trivial⟩ ⟨fun b_ => if b_ < w.heap.size then o b_ else (fun _ => 0) (o1632 b_), rfl, hs.close0 o (fun _ => 0)⟩
  · rw [b9] at hk H
    replace H := bifT H
    refine x_if hk (b := true) rfl ?_
    refine (show Code.wpIn _ _ _ _ _ _ _ from ?_)
    refine x_seq ?_
    refine wpIn_region_lit ?_
    refine x_run tab hk (k := 1) (lv := []) (ks := [4]) (e' := [(4, .bool false)]) rfl trivial fun a hk => ?_
    refine wpListIn_nil ?_
    refine then_n ?_
    refine wpIn_ret ?_
    refine then_r ?_
    obtain rfl := Option.some.inj H
    exact x_retG hk (rs := [.tmp 4]) (vs := [.bool false]) rfl ⟨rfl, trivial⟩ ⟨fun b_ => if b_ < w.heap.size then o b_ else (fun _ => 0) (o7 b_), rfl, hs.close0 o (fun _ => 0)⟩

/-! tidewrack/tidewrackref05.Encode -/
theorem tidewrackref05_Encode_calls (p0 : Int) (w : World) (o : Nat → Nat)   (r : ByteArray) (H : tidewrackref05_Encode p0 = some r) :
    Calls Tryd.prog 15 #[.int .i64 p0] w (Ret fun v_ w' => ∃ o' : Nat → Nat, v_ = .string r ∧ St [] w o w' o') := by
  refine x_enter (vs := [.int .i64 p0]) Tryd.func15 rfl rfl rfl fun a hk => ?_
  obtain ⟨o0, hs, h0⟩ := St.start w o
  clear h0
  rw [tidewrackref05_Encode] at H
  refine x_seq ?_
  refine wpIn_region_lit ?_
  refine x_run tab hk (k := 1) (lv := []) (ks := [0]) (e' := [(0, .int .i64 p0)]) rfl trivial fun a hk => ?_
  refine wpListIn_nil ?_
  refine then_n ?_
  refine x_mid (fun a_ w_ => ∃ o11 : Nat → Nat, ∃ x12 : Int, Kn 72 a_ [(0, .int .i64 x12)] ∧ St [] w (fun _ => 0) w_ o11 ∧ tidewrackref05_Encode_j1 x12 = some r) ?_ ?_
  rotate_left
  · rintro a w13 ⟨o11, x12, hk, hs, H⟩
    rw [tidewrackref05_Encode_j1] at H
    refine x_seq ?_
    refine x_seq ?_
    refine wpIn_region_lit ?_
    refine x_run tab hk (k := 2) (lv := []) (ks := [0, 18]) (e' := [(0, .int .i64 x12), (18, .bool (decide (x12 < (128 : Int))))]) rfl trivial fun a hk => ?_
    refine wpListIn_nil ?_
    refine then_n ?_
    cases b14 : (decide (x12 < (128 : Int)))
    · rw [b14] at hk H
      replace H := bifF H
      refine x_if hk (b := false) rfl ?_
      refine (show Code.wpIn _ _ _ _ _ _ _ from ?_)
      refine wpIn_skip ?_
      refine then_n ?_
      refine x_seq ?_
      refine x_seq ?_
      refine wpIn_region_lit ?_
      refine x_run tab hk (k := 2) (lv := []) (ks := [0, 24]) (e' := [(0, .int .i64 x12), (24, .bool (decide (x12 < (2048 : Int))))]) rfl trivial fun a hk => ?_
      refine wpListIn_nil ?_
      refine then_n ?_
      cases b15 : (decide (x12 < (2048 : Int)))
      · rw [b15] at hk H
        replace H := bifF H
        refine x_if hk (b := false) rfl ?_
        refine (show Code.wpIn _ _ _ _ _ _ _ from ?_)
        refine wpIn_skip ?_
        refine then_n ?_
        refine x_seq ?_
        refine x_seq ?_
        refine wpIn_region_lit ?_
        refine x_run tab hk (k := 2) (lv := []) (ks := [0, 36]) (e' := [(0, .int .i64 x12), (36, .bool (decide (x12 < (65536 : Int))))]) rfl trivial fun a hk => ?_
        refine wpListIn_nil ?_
        refine then_n ?_
        cases b16 : (decide (x12 < (65536 : Int)))
        · rw [b16] at hk H
          replace H := bifF H
          refine x_if hk (b := false) rfl ?_
          refine (show Code.wpIn _ _ _ _ _ _ _ from ?_)
          refine wpIn_skip ?_
          refine then_n ?_
          refine x_seq ?_
          refine wpIn_region_lit ?_
          refine x_run tab hk (k := 10) (lv := []) (ks := [0, 55, 60, 61]) (e' := [(0, .int .i64 x12), (55, .int .u8 (IntKind.wrap .u8 (IntKind.wrap .i64 (240 + (IntKind.wrap .i64 (Int.tdiv x12 262144)))))), (60, .int .u8 (IntKind.wrap .u8 (IntKind.wrap .i64 (128 + (Int.tmod (IntKind.wrap .i64 (Int.tdiv x12 4096)) 64))))), (61, .int .i64 x12)]) rfl ⟨(show (262144 : Int) ≠ 0 from by decide), (show (4096 : Int) ≠ 0 from by decide), (show (64 : Int) ≠ 0 from by decide), trivial⟩ fun a hk => ?_
          refine x_run tab hk (k := 8) (lv := []) (ks := [55, 60, 65, 69]) (e' := [(55, .int .u8 (IntKind.wrap .u8 (IntKind.wrap .i64 (240 + (IntKind.wrap .i64 (Int.tdiv x12 262144)))))), (60, .int .u8 (IntKind.wrap .u8 (IntKind.wrap .i64 (128 + (Int.tmod (IntKind.wrap .i64 (Int.tdiv x12 4096)) 64))))), (65, .int .u8 (IntKind.wrap .u8 (IntKind.wrap .i64 (128 + (Int.tmod (IntKind.wrap .i64 (Int.tdiv x12 64)) 64))))), (69, .int .u8 (IntKind.wrap .u8 (IntKind.wrap .i64 (128 + (Int.tmod x12 64)))))]) rfl ⟨(show (64 : Int) ≠ 0 from by decide), (show (64 : Int) ≠ 0 from by decide), (show (64 : Int) ≠ 0 from by decide), trivial⟩ fun a hk => ?_
          refine x_op hk rfl ?_
          refine op_slice (o := o11) tab hk (vs := [.int .u8 (IntKind.wrap .u8 (IntKind.wrap .i64 (240 + (IntKind.wrap .i64 (Int.tdiv x12 262144))))), .int .u8 (IntKind.wrap .u8 (IntKind.wrap .i64 (128 + (Int.tmod (IntKind.wrap .i64 (Int.tdiv x12 4096)) 64)))), .int .u8 (IntKind.wrap .u8 (IntKind.wrap .i64 (128 + (Int.tmod (IntKind.wrap .i64 (Int.tdiv x12 64)) 64)))), .int .u8 (IntKind.wrap .u8 (IntKind.wrap .i64 (128 + (Int.tmod x12 64))))]) (cs := [.int .u8 (IntKind.wrap .u8 (IntKind.wrap .i64 (240 + (IntKind.wrap .i64 (Int.tdiv x12 262144))))), .int .u8 (IntKind.wrap .u8 (IntKind.wrap .i64 (128 + (Int.tmod (IntKind.wrap .i64 (Int.tdiv x12 4096)) 64)))), .int .u8 (IntKind.wrap .u8 (IntKind.wrap .i64 (128 + (Int.tmod (IntKind.wrap .i64 (Int.tdiv x12 64)) 64)))), .int .u8 (IntKind.wrap .u8 (IntKind.wrap .i64 (128 + (Int.tmod x12 64))))]) rfl rfl rfl rfl rfl rfl rfl rfl rfl 1 fun bx20 w17 o18 st19 f21 => ?_
          replace hs := hs.loc0 st19 (by decide)
          have f22 : Ft (Own (encInt .u8) 5 (.slice (some ⟨bx20, 0, none⟩) (([(IntKind.wrap .u8 (IntKind.wrap .i64 (240 + (IntKind.wrap .i64 (Int.tdiv x12 262144))))), (IntKind.wrap .u8 (IntKind.wrap .i64 (128 + (Int.tmod (IntKind.wrap .i64 (Int.tdiv x12 4096)) 64)))), (IntKind.wrap .u8 (IntKind.wrap .i64 (128 + (Int.tmod (IntKind.wrap .i64 (Int.tdiv x12 64)) 64)))), (IntKind.wrap .u8 (IntKind.wrap .i64 (128 + (Int.tmod x12 64))))] : List Int)).length 4) ([(IntKind.wrap .u8 (IntKind.wrap .i64 (240 + (IntKind.wrap .i64 (Int.tdiv x12 262144))))), (IntKind.wrap .u8 (IntKind.wrap .i64 (128 + (Int.tmod (IntKind.wrap .i64 (Int.tdiv x12 4096)) 64)))), (IntKind.wrap .u8 (IntKind.wrap .i64 (128 + (Int.tmod (IntKind.wrap .i64 (Int.tdiv x12 64)) 64)))), (IntKind.wrap .u8 (IntKind.wrap .i64 (128 + (Int.tmod x12 64))))] : List Int)) w17 o18 1 := f21.imp fun _ h_ => Own.of_box h_ rfl (by simp)
          have hk := hk.put 70 (.slice (some ⟨bx20, 0, none⟩) (([(IntKind.wrap .u8 (IntKind.wrap .i64 (240 + (IntKind.wrap .i64 (Int.tdiv x12 262144))))), (IntKind.wrap .u8 (IntKind.wrap .i64 (128 + (Int.tmod (IntKind.wrap .i64 (Int.tdiv x12 4096)) 64)))), (IntKind.wrap .u8 (IntKind.wrap .i64 (128 + (Int.tmod (IntKind.wrap .i64 (Int.tdiv x12 64)) 64)))), (IntKind.wrap .u8 (IntKind.wrap .i64 (128 + (Int.tmod x12 64))))] : List Int)).length 4) rfl
          refine x_run tab hk (k := 2) (lv := [.string (strOfNums ([(IntKind.wrap .u8 (IntKind.wrap .i64 (240 + (IntKind.wrap .i64 (Int.tdiv x12 262144))))), (IntKind.wrap .u8 (IntKind.wrap .i64 (128 + (Int.tmod (IntKind.wrap .i64 (Int.tdiv x12 4096)) 64)))), (IntKind.wrap .u8 (IntKind.wrap .i64 (128 + (Int.tmod (IntKind.wrap .i64 (Int.tdiv x12 64)) 64)))), (IntKind.wrap .u8 (IntKind.wrap .i64 (128 + (Int.tmod x12 64))))] : List Int))]) (ks := [2]) (e' := [(2, .string (strOfNums ([(IntKind.wrap .u8 (IntKind.wrap .i64 (240 + (IntKind.wrap .i64 (Int.tdiv x12 262144))))), (IntKind.wrap .u8 (IntKind.wrap .i64 (128 + (Int.tmod (IntKind.wrap .i64 (Int.tdiv x12 4096)) 64)))), (IntKind.wrap .u8 (IntKind.wrap .i64 (128 + (Int.tmod (IntKind.wrap .i64 (Int.tdiv x12 64)) 64)))), (IntKind.wrap .u8 (IntKind.wrap .i64 (128 + (Int.tmod x12 64))))] : List Int)))]) rfl ⟨(ask_str tab rfl rfl rfl rfl (Own.rd f22.now) (Own.plain f22.now _ _ _ rfl)), trivial⟩ fun a hk => ?_
          refine wpListIn_nil ?_
          refine then_n ?_
          refine wpIn_ret ?_
          obtain rfl := Option.some.inj H
          exact x_retG hk (rs := [.tmp 2]) (vs := [.string (strOfNums ([(IntKind.wrap .u8 (IntKind.wrap .i64 (240 + (IntKind.wrap .i64 (Int.tdiv x12 262144))))), (IntKind.wrap .u8 (IntKind.wrap .i64 (128 + (Int.tmod (IntKind.wrap .i64 (Int.tdiv x12 4096)) 64)))), (IntKind.wrap .u8 (IntKind.wrap .i64 (128 + (Int.tmod (IntKind.wrap .i64 (Int.tdiv x12 64)) 64)))), (IntKind.wrap .u8 (IntKind.wrap .i64 (128 + (Int.tmod x12 64))))] : List Int))]) rfl ⟨rfl, trivial⟩ ⟨fun b_ => if b_ < w.heap.size then o b_ else (fun _ => 0) (o18 b_), rfl, hs.close0 o (fun _ => 0)⟩
        · rw [b16] at hk H
          replace H := bifT H
          refine x_if hk (b := true) rfl ?_
          refine (show Code.wpIn _ _ _ _ _ _ _ from ?_)
          refine x_seq ?_
          refine wpIn_region_lit ?_
          refine x_run tab hk (k := 10) (lv := []) (ks := [40, 45, 46]) (e' := [(40, .int .u8 (IntKind.wrap .u8 (IntKind.wrap .i64 (224 + (IntKind.wrap .i64 (Int.tdiv x12 4096)))))), (45, .int .u8 (IntKind.wrap .u8 (IntKind.wrap .i64 (128 + (Int.tmod (IntKind.wrap .i64 (Int.tdiv x12 64)) 64))))), (46, .int .i64 x12)]) rfl ⟨(show (4096 : Int) ≠ 0 from by decide), (show (64 : Int) ≠ 0 from by decide), (show (64 : Int) ≠ 0 from by decide), trivial⟩ fun a hk => ?_
          refine x_run tab hk (k := 3) (lv := []) (ks := [40, 45, 49]) (e' := [(40, .int .u8 (IntKind.wrap .u8 (IntKind.wrap .i64 (224 + (IntKind.wrap .i64 (Int.tdiv x12 4096)))))), (45, .int .u8 (IntKind.wrap .u8 (IntKind.wrap .i64 (128 + (Int.tmod (IntKind.wrap .i64 (Int.tdiv x12 64)) 64))))), (49, .int .u8 (IntKind.wrap .u8 (IntKind.wrap .i64 (128 + (Int.tmod x12 64)))))]) rfl ⟨(show (64 : Int) ≠ 0 from by decide), trivial⟩ fun a hk => ?_
          refine x_op hk rfl ?_
          refine op_slice (o := o11) tab hk (vs := [.int .u8 (IntKind.wrap .u8 (IntKind.wrap .i64 (224 + (IntKind.wrap .i64 (Int.tdiv x12 4096))))), .int .u8 (IntKind.wrap .u8 (IntKind.wrap .i64 (128 + (Int.tmod (IntKind.wrap .i64 (Int.tdiv x12 64)) 64)))), .int .u8 (IntKind.wrap .u8 (IntKind.wrap .i64 (128 + (Int.tmod x12 64))))]) (cs := [.int .u8 (IntKind.wrap .u8 (IntKind.wrap .i64 (224 + (IntKind.wrap .i64 (Int.tdiv x12 4096))))), .int .u8 (IntKind.wrap .u8 (IntKind.wrap .i64 (128 + (Int.tmod (IntKind.wrap .i64 (Int.tdiv x12 64)) 64)))), .int .u8 (IntKind.wrap .u8 (IntKind.wrap .i64 (128 + (Int.tmod x12 64))))]) rfl rfl rfl rfl rfl rfl rfl rfl rfl 2 fun bx26 w23 o24 st25 f27 => ?_
          replace hs := hs.loc0 st25 (by decide)
          have f28 : Ft (Own (encInt .u8) 5 (.slice (some ⟨bx26, 0, none⟩) (([(IntKind.wrap .u8 (IntKind.wrap .i64 (224 + (IntKind.wrap .i64 (Int.tdiv x12 4096))))), (IntKind.wrap .u8 (IntKind.wrap .i64 (128 + (Int.tmod (IntKind.wrap .i64 (Int.tdiv x12 64)) 64)))), (IntKind.wrap .u8 (IntKind.wrap .i64 (128 + (Int.tmod x12 64))))] : List Int)).length 3) ([(IntKind.wrap .u8 (IntKind.wrap .i64 (224 + (IntKind.wrap .i64 (Int.tdiv x12 4096))))), (IntKind.wrap .u8 (IntKind.wrap .i64 (128 + (Int.tmod (IntKind.wrap .i64 (Int.tdiv x12 64)) 64)))), (IntKind.wrap .u8 (IntKind.wrap .i64 (128 + (Int.tmod x12 64))))] : List Int)) w23 o24 2 := f27.imp fun _ h_ => Own.of_box h_ rfl (by simp)
          have hk := hk.put 50 (.slice (some ⟨bx26, 0, none⟩) (([(IntKind.wrap .u8 (IntKind.wrap .i64 (224 + (IntKind.wrap .i64 (Int.tdiv x12 4096))))), (IntKind.wrap .u8 (IntKind.wrap .i64 (128 + (Int.tmod (IntKind.wrap .i64 (Int.tdiv x12 64)) 64)))), (IntKind.wrap .u8 (IntKind.wrap .i64 (128 + (Int.tmod x12 64))))] : List Int)).length 3) rfl
          refine x_run tab hk (k := 2) (lv := [.string (strOfNums ([(IntKind.wrap .u8 (IntKind.wrap .i64 (224 + (IntKind.wrap .i64 (Int.tdiv x12 4096))))), (IntKind.wrap .u8 (IntKind.wrap .i64 (128 + (Int.tmod (IntKind.wrap .i64 (Int.tdiv x12 64)) 64)))), (IntKind.wrap .u8 (IntKind.wrap .i64 (128 + (Int.tmod x12 64))))] : List Int))]) (ks := [2]) (e' := [(2, .string (strOfNums ([(IntKind.wrap .u8 (IntKind.wrap .i64 (224 + (IntKind.wrap .i64 (Int.tdiv x12 4096))))), (IntKind.wrap .u8 (IntKind.wrap .i64 (128 + (Int.tmod (IntKind.wrap .i64 (Int.tdiv x12 64)) 64)))), (IntKind.wrap .u8 (IntKind.wrap .i64 (128 + (Int.tmod x12 64))))] : List Int)))]) rfl ⟨(ask_str tab rfl rfl rfl rfl (Own.rd f28.now) (Own.plain f28.now _ _ _ rfl)), trivial⟩ fun a hk => ?_
          refine wpListIn_nil ?_
          refine then_n ?_
          refine wpIn_ret ?_
          refine then_r ?_
          obtain rfl := Option.some.inj H
          exact x_retG hk (rs := [.tmp 2]) (vs := [.string (strOfNums ([(IntKind.wrap .u8 (IntKind.wrap .i64 (224 + (IntKind.wrap .i64 (Int.tdiv x12 4096))))), (IntKind.wrap .u8 (IntKind.wrap .i64 (128 + (Int.tmod (IntKind.wrap .i64 (Int.tdiv x12 64)) 64)))), (IntKind.wrap .u8 (IntKind.wrap .i64 (128 + (Int.tmod x12 64))))] : List Int))]) rfl ⟨rfl, trivial⟩ ⟨fun b_ => if b_ < w.heap.size then o b_ else (fun _ => 0) (o24 b_), rfl, hs.close0 o (fun _ => 0)⟩
      · rw [b15] at hk H
        replace H := bifT H
        refine x_if hk (b := true) rfl ?_
        refine (show Code.wpIn _ _ _ _ _ _ _ from ?_)
        refine x_seq ?_
        refine wpIn_region_lit ?_
        refine x_run tab hk (k := 8) (lv := []) (ks := [28, 32]) (e' := [(28, .int .u8 (IntKind.wrap .u8 (IntKind.wrap .i64 (192 + (IntKind.wrap .i64 (Int.tdiv x12 64)))))), (32, .int .u8 (IntKind.wrap .u8 (IntKind.wrap .i64 (128 + (Int.tmod x12 64)))))]) rfl ⟨(show (64 : Int) ≠ 0 from by decide), (show (64 : Int) ≠ 0 from by decide), trivial⟩ fun a hk => ?_
        refine x_op hk rfl ?_
        refine op_slice (o := o11) tab hk (vs := [.int .u8 (IntKind.wrap .u8 (IntKind.wrap .i64 (192 + (IntKind.wrap .i64 (Int.tdiv x12 64))))), .int .u8 (IntKind.wrap .u8 (IntKind.wrap .i64 (128 + (Int.tmod x12 64))))]) (cs := [.int .u8 (IntKind.wrap .u8 (IntKind.wrap .i64 (192 + (IntKind.wrap .i64 (Int.tdiv x12 64))))), .int .u8 (IntKind.wrap .u8 (IntKind.wrap .i64 (128 + (Int.tmod x12 64))))]) rfl rfl rfl rfl rfl rfl rfl rfl rfl 3 fun bx32 w29 o30 st31 f33 => ?_
        replace hs := hs.loc0 st31 (by decide)
        have f34 : Ft (Own (encInt .u8) 5 (.slice (some ⟨bx32, 0, none⟩) (([(IntKind.wrap .u8 (IntKind.wrap .i64 (192 + (IntKind.wrap .i64 (Int.tdiv x12 64))))), (IntKind.wrap .u8 (IntKind.wrap .i64 (128 + (Int.tmod x12 64))))] : List Int)).length 2) ([(IntKind.wrap .u8 (IntKind.wrap .i64 (192 + (IntKind.wrap .i64 (Int.tdiv x12 64))))), (IntKind.wrap .u8 (IntKind.wrap .i64 (128 + (Int.tmod x12 64))))] : List Int)) w29 o30 3 := f33.imp fun _ h_ => Own.of_box h_ rfl (by simp)
        have hk := hk.put 33 (.slice (some ⟨bx32, 0, none⟩) (([(IntKind.wrap .u8 (IntKind.wrap .i64 (192 + (IntKind.wrap .i64 (Int.tdiv x12 64))))), (IntKind.wrap .u8 (IntKind.wrap .i64 (128 + (Int.tmod x12 64))))] : List Int)).length 2) rfl
        refine x_run tab hk (k := 2) (lv := [.string (strOfNums ([(IntKind.wrap .u8 (IntKind.wrap .i64 (192 + (IntKind.wrap .i64 (Int.tdiv x12 64))))), (IntKind.wrap .u8 (IntKind.wrap .i64 (128 + (Int.tmod x12 64))))] : List Int))]) (ks := [2]) (e' := [(2, .string (strOfNums ([(IntKind.wrap .u8 (IntKind.wrap .i64 (192 + (IntKind.wrap .i64 (Int.tdiv x12 64))))), (IntKind.wrap .u8 (IntKind.wrap .i64 (128 + (Int.tmod x12 64))))] : List Int)))]) rfl ⟨(ask_str tab rfl rfl rfl rfl (Own.rd f34.now) (Own.plain f34.now _ _ _ rfl)), trivial⟩ fun a hk => ?_
        refine wpListIn_nil ?_
        refine then_n ?_
        refine wpIn_ret ?_
        refine then_r ?_
        obtain rfl := Option.some.inj H
        exact x_retG hk (rs := [.tmp 2]) (vs := [.string (strOfNums ([(IntKind.wrap .u8 (IntKind.wrap .i64 (192 + (IntKind.wrap .i64 (Int.tdiv x12 64))))), (IntKind.wrap .u8 (IntKind.wrap .i64 (128 + (Int.tmod x12 64))))] : List Int))]) rfl ⟨rfl, trivial⟩ ⟨fun b_ => if b_ < w.heap.size then o b_ else (fun _ => 0) (o30 b_), rfl, hs.close0 o (fun _ => 0)⟩
    · rw [b14] at hk H
      replace H := bifT H
      refine x_if hk (b := true) rfl ?_
      refine (show Code.wpIn _ _ _ _ _ _ _ from ?_)
      refine x_seq ?_
      refine wpIn_region_lit ?_
      refine x_run tab hk (k := 2) (lv := []) (ks := [20]) (e' := [(20, .int .u8 (IntKind.wrap .u8 x12))]) rfl trivial fun a hk => ?_
      refine x_op hk rfl ?_
      refine op_slice (o := o11) tab hk (vs := [.int .u8 (IntKind.wrap .u8 x12)]) (cs := [.int .u8 (IntKind.wrap .u8 x12)]) rfl rfl rfl rfl rfl rfl rfl rfl rfl 4 fun bx38 w35 o36 st37 f39 => ?_
      replace hs := hs.loc0 st37 (by decide)
      have f40 : Ft (Own (encInt .u8) 5 (.slice (some ⟨bx38, 0, none⟩) (([(IntKind.wrap .u8 x12)] : List Int)).length 1) ([(IntKind.wrap .u8 x12)] : List Int)) w35 o36 4 := f39.imp fun _ h_ => Own.of_box h_ rfl (by simp)
      have hk := hk.put 21 (.slice (some ⟨bx38, 0, none⟩) (([(IntKind.wrap .u8 x12)] : List Int)).length 1) rfl
      refine x_run tab hk (k := 2) (lv := [.string (strOfNums ([(IntKind.wrap .u8 x12)] : List Int))]) (ks := [2]) (e' := [(2, .string (strOfNums ([(IntKind.wrap .u8 x12)] : List Int)))]) rfl ⟨(ask_str tab rfl rfl rfl rfl (Own.rd f40.now) (Own.plain f40.now _ _ _ rfl)), trivial⟩ fun a hk => ?_
      refine wpListIn_nil ?_
      refine then_n ?_
      refine wpIn_ret ?_
      refine then_r ?_
      obtain rfl := Option.some.inj H
      exact x_retG hk (rs := [.tmp 2]) (vs := [.string (strOfNums ([(IntKind.wrap .u8 x12)] : List Int))]) rfl ⟨rfl, trivial⟩ ⟨fun b_ => if b_ < w.heap.size then o b_ else (fun _ => 0) (o36 b_), rfl, hs.close0 o (fun _ => 0)⟩
  refine x_seq ?_
  refine wpIn_region_lit ?_
  refine x_run tab hk (k := 3) (lv := []) (ks := [0, 5]) (e' := [(0, .int .i64 p0), (5, .bool (decide (p0 < (0 : Int))))]) rfl trivial fun a hk => ?_
  cases b41 : (decide (p0 < (0 : Int)))
  · rw [b41] at hk H
    replace H := bifF H
    refine x_run tab hk (k := 4) (lv := []) (ks := [0, 9]) (e' := [(0, .int .i64 p0), (9, .bool (decide (p0 > (1114111 : Int))))]) rfl trivial fun a hk => ?_
    cases b42 : (decide (p0 > (1114111 : Int)))
    · rw [b42] at hk H
      replace H := bifF H
      refine x_run tab hk (k := 3) (lv := []) (ks := [0, 9, 12]) (e' := [(0, .int .i64 p0), (9, .bool false), (12, .bool (decide (p0 ≥ (55296 : Int))))]) rfl trivial fun a hk => ?_
      cases b43 : (decide (p0 ≥ (55296 : Int)))
      · rw [b43] at hk H
        replace H := bifF H
        refine x_run tab hk (k := 4) (lv := []) (ks := [0, 16]) (e' := [(0, .int .i64 p0), (16, .bool false)]) rfl trivial fun a hk => ?_
        refine wpListIn_nil ?_
        refine then_n ?_
        refine x_if hk (b := false) rfl ?_
        refine (show Code.wpIn _ _ _ _ _ _ _ from ?_)
        refine wpIn_skip ?_
        refine then_n ?_
        exact ⟨o0, p0, (by exact Kn.pick (ks := [0]) hk rfl), hs, H⟩
      · rw [b43] at hk H
        replace H := bifT H
        refine x_run tab hk (k := 4) (lv := []) (ks := [0, 16]) (e' := [(0, .int .i64 p0), (16, .bool (decide (p0 ≤ (57343 : Int))))]) rfl trivial fun a hk => ?_
        refine wpListIn_nil ?_
        refine then_n ?_
        cases b44 : (decide (p0 ≤ (57343 : Int)))
        · rw [b44] at hk H
          replace H := bifF H
          refine x_if hk (b := false) rfl ?_
          refine (show Code.wpIn _ _ _ _ _ _ _ from ?_)
          refine wpIn_skip ?_
          refine then_n ?_
          exact ⟨o0, p0, (by exact Kn.pick (ks := [0]) hk rfl), hs, H⟩
        · rw [b44] at hk H
          replace H := bifT H
          refine x_if hk (b := true) rfl ?_
          refine (show Code.wpIn _ _ _ _ _ _ _ from ?_)
          refine wpIn_region_lit ?_
          refine x_run tab hk (k := 1) (lv := []) (ks := [0]) (e' := [(0, .int .i64 65533)]) rfl trivial fun a hk => ?_
          refine wpListIn_nil ?_
          refine then_n ?_
          exact ⟨o0, 65533, (by exact Kn.pick (ks := [0]) hk rfl), hs, H⟩
    · rw [b42] at hk H
      replace H := bifT H
      refine x_run tab hk (k := 7) (lv := []) (ks := [0, 16]) (e' := [(0, .int .i64 p0), (16, .bool true)]) rfl trivial fun a hk => ?_
      refine wpListIn_nil ?_
      refine then_n ?_
      refine x_if hk (b := true) rfl ?_
      refine (show Code.wpIn _ _ _ _ _ _ _ from ?_)
      refine wpIn_region_lit ?_
      refine x_run tab hk (k := 1) (lv := []) (ks := [0]) (e' := [(0, .int .i64 65533)]) rfl trivial fun a hk => ?_
      refine wpListIn_nil ?_
      refine then_n ?_
      exact ⟨o0, 65533, (by exact Kn.pick (ks := [0]) hk rfl), hs, H⟩
  · rw [b41] at hk H
    replace H := bifT H
    refine x_run tab hk (k := 10) (lv := []) (ks := [0, 9, 15]) (e' := [(0, .int .i64 p0), (9, .bool true), (15, undef)]) rfl trivial fun a hk => ?_
    refine x_run tab hk (k := 1) (lv := []) (ks := [0, 16]) (e' := [(0, .int .i64 p0), (16, .bool true)]) rfl trivial fun a hk => ?_
    refine wpListIn_nil ?_
    refine then_n ?_
    refine x_if hk (b := true) rfl ?_
    refine (show Code.wpIn _ _ _ _ _ _ _ from ?_)
    refine wpIn_region_lit ?_
    refine x_run tab hk (k := 1) (lv := []) (ks := [0]) (e' := [(0, .int .i64 65533)]) rfl trivial fun a hk => ?_
    refine wpListIn_nil ?_
    refine then_n ?_
    exact ⟨o0, 65533, (by exact Kn.pick (ks := [0]) hk rfl), hs, H⟩

/-! tidewrack/glyph.Encode -/
theorem glyph_Encode_calls (K : Nat) (Ap0 : Option Addr) (cp0 : Nat) (p0 : List Int) (w : World) (o : Nat → Nat) (Lp0 : Nat) (hp0 : Ft (RdC (encInt .i32) Ap0 p0) w o Lp0) (hcp0 : (p0).length ≤ cp0)  (r : ByteArray) (H : glyph_Encode K p0 = some r) :
    Calls Tryd.prog 17 #[.slice Ap0 (p0).length cp0] w (Ret fun v_ w' => ∃ o' : Nat → Nat, v_ = .string r ∧ St [] w o w' o') := by
  refine x_enter (vs := [.slice Ap0 (p0).length cp0]) Tryd.func17 rfl rfl rfl fun a hk => ?_
  obtain ⟨o0, hs, h0⟩ := St.start w o
  have f900000 := h0 _ _ hp0
  clear h0
  rw [glyph_Encode] at H
  refine x_seq ?_
  refine wpIn_region_lit ?_
  refine x_run tab hk (k := 1) (lv := []) (ks := [0]) (e' := [(0, .slice Ap0 (p0).length cp0)]) rfl trivial fun a hk => ?_
  refine wpListIn_nil ?_
  refine then_n ?_
  refine x_seq ?_
  refine wpIn_region_lit ?_
  refine x_run tab hk (k := 1) (lv := []) (ks := [0, 3]) (e' := [(0, .slice Ap0 (p0).length cp0), (3, .slice none 0 0)]) rfl trivial fun a hk => ?_
  refine wpListIn_nil ?_
  refine then_n ?_
  refine x_mid (fun a_ w_ => ∃ o262 : Nat → Nat, ∃ A263 : Option Addr, ∃ c264 : Nat, ∃ l265 : List Int, Kn 91 a_ [(3, .slice A263 (l265).length c264)] ∧ St [] w (fun _ => 0) w_ o262 ∧ Ft (Own (encInt .u8) 5 (.slice A263 (l265).length c264) l265) w_ o262 21 ∧ (l265).length ≤ c264 ∧ glyph_Encode_j1 l265 = some r) ?_ ?_
  rotate_left
  · rintro a w268 ⟨o262, A263, c264, l265, hk, hs, f266, hc267, H⟩
    rw [glyph_Encode_j1] at H
    refine x_seq ?_
    refine wpIn_region_lit ?_
    refine x_run tab hk (k := 3) (lv := [.string (strOfNums l265)]) (ks := [2]) (e' := [(2, .string (strOfNums l265))]) rfl ⟨(ask_str tab rfl rfl rfl rfl (Own.rd f266.now) (Own.plain f266.now _ _ _ rfl)), trivial⟩ fun a hk => ?_
    refine wpListIn_nil ?_
    refine then_n ?_
    refine wpIn_ret ?_
    obtain rfl := Option.some.inj H
    exact x_retG hk (rs := [.tmp 2]) (vs := [.string (strOfNums l265)]) rfl ⟨rfl, trivial⟩ ⟨fun b_ => if b_ < w.heap.size then o b_ else (fun _ => 0) (o262 b_), rfl, hs.close0 o (fun _ => 0)⟩
  refine x_seq ?_
  refine wpIn_region_lit ?_
  refine x_run tab hk (k := 3) (lv := []) (ks := [3, 6, 7, 8]) (e' := [(3, .slice none 0 0), (6, .slice Ap0 (p0).length cp0), (7, .int .i64 ((p0).length : Int)), (8, .int .i64 0)]) rfl trivial fun a hk => ?_
  refine wpListIn_nil ?_
  refine then_n ?_
  refine wpIn_block ?_
  refine x_loop (fun j_ a_ w_ => ∃ o351 : Nat → Nat, ∃ A352 : Option Addr, ∃ c353 : Nat, ∃ l354 : List Int, ∃ x357 : Int, Kn 91 a_ [(3, .slice A352 (l354).length c353), (6, .slice Ap0 (p0).length cp0), (7, .int .i64 ((p0).length : Int)), (8, .int .i64 x357)] ∧ St [] w (fun _ => 0) w_ o351 ∧ Ft (Own (encInt .u8) 5 (.slice A352 (l354).length c353) l354) w_ o351 30 ∧ Ft (RdC (encInt .i32) Ap0 p0) w_ o351 0 ∧ (l354).length ≤ c353 ∧ glyph_Encode_l2 p0 j_ l354 x357 = some r) (k := K) ⟨o0, none, 0, ([] : List Int), 0, (by exact Kn.pick (ks := [3, 6, 7, 8]) hk rfl), hs, (Ft.of_all (fun _ => Own.nil _ _ _) _ _ _), f900000, (by simp), H⟩ (by rintro _ _ ⟨_, _, _, _, _, _, _, _, _, _, H_⟩; exact absurd (show (none : Option ByteArray) = some r from H_) (by simp)) ?_
  rintro k438 a w437 ⟨o351, A352, c353, l354, x357, hk, hs, f355, f900000, hc356, H⟩
  rw [glyph_Encode_l2] at H
  obtain ⟨lp439, hlp440⟩ : ∃ lp_, lp_ = glyph_Encode_l2 p0 k438 := ⟨_, rfl⟩
  rw [← hlp440] at H
  refine x_seq ?_
  refine wpIn_region_lit ?_
  refine x_run tab hk (k := 1) (lv := []) (ks := [3, 6, 7, 8, 9]) (e' := [(3, .slice A352 (l354).length c353), (6, .slice Ap0 (p0).length cp0), (7, .int .i64 ((p0).length : Int)), (8, .int .i64 x357), (9, .bool (decide (x357 < ((p0).length : Int))))]) rfl trivial fun a hk => ?_
  refine wpListIn_nil ?_
  refine then_n ?_
  refine x_seq ?_
  cases b441 : (decide (x357 < ((p0).length : Int)))
  · rw [b441] at hk H
    replace H := bifF H
    refine x_if hk (b := false) rfl ?_
    refine (show Code.wpIn _ _ _ _ _ _ _ from ?_)
    refine wpIn_exit ?_
    refine then_x ?_
    refine then_x ?_
    refine blk_x ?_
    refine then_n ?_
    exact ⟨(fun b_ => (fun l_ => if l_ = 30 then 21 else l_) (o351 b_)), A352, c353, l354, (by exact Kn.pick (ks := [3]) hk rfl), (hs.relab0 (fun l_ => if l_ = 30 then 21 else l_) rfl), (f355.relab (fun l_ => if l_ = 30 then 21 else l_) rfl), hc356, H⟩
  · rw [b441] at hk H
    replace H := bifT H
    refine x_if hk (b := true) rfl ?_
    refine (show Code.wpIn _ _ _ _ _ _ _ from ?_)
    refine wpIn_skip ?_
    refine then_n ?_
    refine x_seq ?_
    refine wpIn_block ?_
    refine x_seq ?_
    refine wpIn_region_lit ?_
    obtain ⟨q442, H⟩ := ifS H
    obtain ⟨ad443, hAad443⟩ := RdC.addr f900000.now q442
    have hk_C := hk
    have f355_C := f355
    have f900000_C := f900000
    subst hAad443
    have hk := hk_C
    clear hk_C
    have f355 := f355_C
    clear f355_C
    have f900000 := f900000_C
    clear f900000_C
    refine x_run tab hk (k := 3) (lv := [.int .i32 (rdD 0 p0 x357)]) (ks := [3, 5, 6, 7, 8]) (e' := [(3, .slice A352 (l354).length c353), (5, .int .i32 (rdD 0 p0 x357)), (6, .slice (some ad443) (p0).length cp0), (7, .int .i64 ((p0).length : Int)), (8, .int .i64 x357)]) rfl ⟨q442, (load1 tab rfl (RdC.at0 (E := (encInt .i32)) (d := 0) (i := x357) f900000.now q442 rfl)), trivial⟩ fun a hk => ?_
    refine wpListIn_nil ?_
    refine then_n ?_
    refine x_mid (fun a_ w_ => ∃ o454 : Nat → Nat, ∃ x455 : Int, Kn 91 a_ [(3, .slice A352 (l354).length c353), (5, .int .i32 x455), (6, .slice (some ad443) (p0).length cp0), (7, .int .i64 ((p0).length : Int)), (8, .int .i64 x357)] ∧ St [] w (fun _ => 0) w_ o454 ∧ Ft (Own (encInt .u8) 5 (.slice A352 (l354).length c353) l354) w_ o454 36 ∧ Ft (RdC (encInt .i32) (some ad443) p0) w_ o454 0 ∧ glyph_Encode_j3 l354 x357 lp439 x455 = some r) ?_ ?_
    rotate_left
    · rintro a w456 ⟨o454, x455, hk, hs, f355, f900000, H⟩
      rw [glyph_Encode_j3] at H
      refine wpIn_block ?_
      refine x_seq ?_
      refine wpIn_region_lit ?_
      refine x_run tab hk (k := 3) (lv := []) (ks := [3, 5, 6, 7, 8, 47]) (e' := [(3, .slice A352 (l354).length c353), (5, .int .i32 x455), (6, .slice (some ad443) (p0).length cp0), (7, .int .i64 ((p0).length : Int)), (8, .int .i64 x357), (47, .bool (decide (x455 < (128 : Int))))]) rfl trivial fun a hk => ?_
      refine wpListIn_nil ?_
      refine then_n ?_
      cases b457 : (decide (x455 < (128 : Int)))
      · rw [b457] at hk H
        replace H := bifF H
        refine x_if hk (b := false) rfl ?_
        refine (show Code.wpIn _ _ _ _ _ _ _ from ?_)
        refine x_seq ?_
        refine wpIn_region_lit ?_
        refine x_run tab hk (k := 3) (lv := []) (ks := [3, 5, 6, 7, 8, 55]) (e' := [(3, .slice A352 (l354).length c353), (5, .int .i32 x455), (6, .slice (some ad443) (p0).length cp0), (7, .int .i64 ((p0).length : Int)), (8, .int .i64 x357), (55, .bool (decide (x455 < (2048 : Int))))]) rfl trivial fun a hk => ?_
        refine wpListIn_nil ?_
        refine then_n ?_
        cases b458 : (decide (x455 < (2048 : Int)))
        · rw [b458] at hk H
          replace H := bifF H
          refine x_if hk (b := false) rfl ?_
          refine (show Code.wpIn _ _ _ _ _ _ _ from ?_)
          refine x_seq ?_
          refine wpIn_region_lit ?_
          refine x_run tab hk (k := 3) (lv := []) (ks := [3, 5, 6, 7, 8, 69]) (e' := [(3, .slice A352 (l354).length c353), (5, .int .i32 x455), (6, .slice (some ad443) (p0).length cp0), (7, .int .i64 ((p0).length : Int)), (8, .int .i64 x357), (69, .bool (decide (x455 < (65536 : Int))))]) rfl trivial fun a hk => ?_
          refine wpListIn_nil ?_
          refine then_n ?_
          cases b459 : (decide (x455 < (65536 : Int)))
          · rw [b459] at hk H
            replace H := bifF H
            refine x_if hk (b := false) rfl ?_
            refine (show Code.wpIn _ _ _ _ _ _ _ from ?_)
            refine wpIn_region_lit ?_
            refine x_run tab hk (k := 10) (lv := []) (ks := [5, 6, 7, 8, 26, 30, 35]) (e' := [(5, .int .i32 x455), (6, .slice (some ad443) (p0).length cp0), (7, .int .i64 ((p0).length : Int)), (8, .int .i64 x357), (26, .slice A352 (l354).length c353), (30, .int .u8 (IntKind.wrap .u8 (bits .or .i32 240 (Int.fdiv x455 (2 ^ min (Int.toNat 18) 32))))), (35, .int .u8 (IntKind.wrap .u8 (bits .or .i32 128 (bits .and .i32 (Int.fdiv x455 (2 ^ min (Int.toNat 12) 32)) 63))))]) rfl ⟨(show 0 ≤ (18 : Int) from by decide), (show 0 ≤ (12 : Int) from by decide), trivial⟩ fun a hk => ?_
            refine x_run tab hk (k := 9) (lv := []) (ks := [6, 7, 8, 26, 30, 35, 40, 44]) (e' := [(6, .slice (some ad443) (p0).length cp0), (7, .int .i64 ((p0).length : Int)), (8, .int .i64 x357), (26, .slice A352 (l354).length c353), (30, .int .u8 (IntKind.wrap .u8 (bits .or .i32 240 (Int.fdiv x455 (2 ^ min (Int.toNat 18) 32))))), (35, .int .u8 (IntKind.wrap .u8 (bits .or .i32 128 (bits .and .i32 (Int.fdiv x455 (2 ^ min (Int.toNat 12) 32)) 63)))), (40, .int .u8 (IntKind.wrap .u8 (bits .or .i32 128 (bits .and .i32 (Int.fdiv x455 (2 ^ min (Int.toNat 6) 32)) 63)))), (44, .int .u8 (IntKind.wrap .u8 (bits .or .i32 128 (bits .and .i32 x455 63))))]) rfl ⟨(show 0 ≤ (6 : Int) from by decide), trivial⟩ fun a hk => ?_
            refine x_op hk rfl ?_
            refine op_slice (o := o454) tab hk (vs := [.int .u8 (IntKind.wrap .u8 (bits .or .i32 240 (Int.fdiv x455 (2 ^ min (Int.toNat 18) 32)))), .int .u8 (IntKind.wrap .u8 (bits .or .i32 128 (bits .and .i32 (Int.fdiv x455 (2 ^ min (Int.toNat 12) 32)) 63))), .int .u8 (IntKind.wrap .u8 (bits .or .i32 128 (bits .and .i32 (Int.fdiv x455 (2 ^ min (Int.toNat 6) 32)) 63))), .int .u8 (IntKind.wrap .u8 (bits .or .i32 128 (bits .and .i32 x455 63)))]) (cs := [.int .u8 (IntKind.wrap .u8 (bits .or .i32 240 (Int.fdiv x455 (2 ^ min (Int.toNat 18) 32)))), .int .u8 (IntKind.wrap .u8 (bits .or .i32 128 (bits .and .i32 (Int.fdiv x455 (2 ^ min (Int.toNat 12) 32)) 63))), .int .u8 (IntKind.wrap .u8 (bits .or .i32 128 (bits .and .i32 (Int.fdiv x455 (2 ^ min (Int.toNat 6) 32)) 63))), .int .u8 (IntKind.wrap .u8 (bits .or .i32 128 (bits .and .i32 x455 63)))]) rfl rfl rfl rfl rfl rfl rfl rfl rfl 37 fun bx463 w460 o461 st462 f464 => ?_
            replace f355 := f355.st st462 (by decide)
            replace f900000 := f900000.st st462 (by decide)
            replace hs := hs.loc0 st462 (by decide)
            have f465 : Ft (Own (encInt .u8) 5 (.slice (some ⟨bx463, 0, none⟩) (([(IntKind.wrap .u8 (bits .or .i32 240 (Int.fdiv x455 (2 ^ min (Int.toNat 18) 32)))), (IntKind.wrap .u8 (bits .or .i32 128 (bits .and .i32 (Int.fdiv x455 (2 ^ min (Int.toNat 12) 32)) 63))), (IntKind.wrap .u8 (bits .or .i32 128 (bits .and .i32 (Int.fdiv x455 (2 ^ min (Int.toNat 6) 32)) 63))), (IntKind.wrap .u8 (bits .or .i32 128 (bits .and .i32 x455 63)))] : List Int)).length 4) ([(IntKind.wrap .u8 (bits .or .i32 240 (Int.fdiv x455 (2 ^ min (Int.toNat 18) 32)))), (IntKind.wrap .u8 (bits .or .i32 128 (bits .and .i32 (Int.fdiv x455 (2 ^ min (Int.toNat 12) 32)) 63))), (IntKind.wrap .u8 (bits .or .i32 128 (bits .and .i32 (Int.fdiv x455 (2 ^ min (Int.toNat 6) 32)) 63))), (IntKind.wrap .u8 (bits .or .i32 128 (bits .and .i32 x455 63)))] : List Int)) w460 o461 37 := f464.imp fun _ h_ => Own.of_box h_ rfl (by simp)
            have hk := hk.put 45 (.slice (some ⟨bx463, 0, none⟩) (([(IntKind.wrap .u8 (bits .or .i32 240 (Int.fdiv x455 (2 ^ min (Int.toNat 18) 32)))), (IntKind.wrap .u8 (bits .or .i32 128 (bits .and .i32 (Int.fdiv x455 (2 ^ min (Int.toNat 12) 32)) 63))), (IntKind.wrap .u8 (bits .or .i32 128 (bits .and .i32 (Int.fdiv x455 (2 ^ min (Int.toNat 6) 32)) 63))), (IntKind.wrap .u8 (bits .or .i32 128 (bits .and .i32 x455 63)))] : List Int)).length 4) rfl
            refine x_op hk rfl ?_
            obtain ⟨q469, H⟩ := ifS H
            refine op_append (o := o461) (E := (encInt .u8)) (xs := l354) (ys := ([(IntKind.wrap .u8 (bits .or .i32 240 (Int.fdiv x455 (2 ^ min (Int.toNat 18) 32)))), (IntKind.wrap .u8 (bits .or .i32 128 (bits .and .i32 (Int.fdiv x455 (2 ^ min (Int.toNat 12) 32)) 63))), (IntKind.wrap .u8 (bits .or .i32 128 (bits .and .i32 (Int.fdiv x455 (2 ^ min (Int.toNat 6) 32)) 63))), (IntKind.wrap .u8 (bits .or .i32 128 (bits .and .i32 x455 63)))] : List Int)) tab hk rfl rfl rfl rfl rfl rfl rfl f355 (Own.rd f465.now) q469 fun A470 c471 w466 o467 st468 f472 hc473 => ?_
            replace f465 := f465.st st468 (by decide)
            replace f900000 := f900000.st st468 (by decide)
            replace hs := hs.loc0 st468 (by decide)
            have hk := hk.put 46 (.slice A470 ((l354 ++ ([(IntKind.wrap .u8 (bits .or .i32 240 (Int.fdiv x455 (2 ^ min (Int.toNat 18) 32)))), (IntKind.wrap .u8 (bits .or .i32 128 (bits .and .i32 (Int.fdiv x455 (2 ^ min (Int.toNat 12) 32)) 63))), (IntKind.wrap .u8 (bits .or .i32 128 (bits .and .i32 (Int.fdiv x455 (2 ^ min (Int.toNat 6) 32)) 63))), (IntKind.wrap .u8 (bits .or .i32 128 (bits .and .i32 x455 63)))] : List Int))).length c471) rfl
            refine x_run tab hk (k := 1) (lv := []) (ks := [3, 6, 7, 8]) (e' := [(3, .slice A470 ((l354 ++ ([(IntKind.wrap .u8 (bits .or .i32 240 (Int.fdiv x455 (2 ^ min (Int.toNat 18) 32)))), (IntKind.wrap .u8 (bits .or .i32 128 (bits .and .i32 (Int.fdiv x455 (2 ^ min (Int.toNat 12) 32)) 63))), (IntKind.wrap .u8 (bits .or .i32 128 (bits .and .i32 (Int.fdiv x455 (2 ^ min (Int.toNat 6) 32)) 63))), (IntKind.wrap .u8 (bits .or .i32 128 (bits .and .i32 x455 63)))] : List Int))).length c471), (6, .slice (some ad443) (p0).length cp0), (7, .int .i64 ((p0).length : Int)), (8, .int .i64 x357)]) rfl trivial fun a hk => ?_
            refine wpListIn_nil ?_
            refine blk_n ?_
            refine blk_n ?_
            refine then_n ?_
            refine wpIn_region_lit ?_
            refine x_run tab hk (k := 2) (lv := []) (ks := [3, 6, 7, 8]) (e' := [(3, .slice A470 ((l354 ++ ([(IntKind.wrap .u8 (bits .or .i32 240 (Int.fdiv x455 (2 ^ min (Int.toNat 18) 32)))), (IntKind.wrap .u8 (bits .or .i32 128 (bits .and .i32 (Int.fdiv x455 (2 ^ min (Int.toNat 12) 32)) 63))), (IntKind.wrap .u8 (bits .or .i32 128 (bits .and .i32 (Int.fdiv x455 (2 ^ min (Int.toNat 6) 32)) 63))), (IntKind.wrap .u8 (bits .or .i32 128 (bits .and .i32 x455 63)))] : List Int))).length c471), (6, .slice (some ad443) (p0).length cp0), (7, .int .i64 ((p0).length : Int)), (8, .int .i64 (IntKind.wrap .i64 (x357 + 1)))]) rfl trivial fun a hk => ?_
            refine wpListIn_nil ?_
            refine then_n ?_
            exact ⟨k438, Nat.le_refl _, (fun b_ => (fun l_ => if l_ = 36 then 30 else l_) (o467 b_)), A470, c471, (l354 ++ ([(IntKind.wrap .u8 (bits .or .i32 240 (Int.fdiv x455 (2 ^ min (Int.toNat 18) 32)))), (IntKind.wrap .u8 (bits .or .i32 128 (bits .and .i32 (Int.fdiv x455 (2 ^ min (Int.toNat 12) 32)) 63))), (IntKind.wrap .u8 (bits .or .i32 128 (bits .and .i32 (Int.fdiv x455 (2 ^ min (Int.toNat 6) 32)) 63))), (IntKind.wrap .u8 (bits .or .i32 128 (bits .and .i32 x455 63)))] : List Int)), (IntKind.wrap .i64 (x357 + 1)), (by exact Kn.pick (ks := [3, 6, 7, 8]) hk rfl), (hs.relab0 (fun l_ => if l_ = 36 then 30 else l_) rfl), (f472.relab (fun l_ => if l_ = 36 then 30 else l_) rfl), (f900000.relab (fun l_ => if l_ = 36 then 30 else l_) rfl), hc473, (hlp440 ▸ H)⟩
          · rw [b459] at hk H
            replace H := bifT H
            refine x_if hk (b := true) rfl ?_
            refine (show Code.wpIn _ _ _ _ _ _ _ from ?_)
            refine wpIn_region_lit ?_
            refine x_run tab hk (k := 10) (lv := []) (ks := [5, 6, 7, 8, 72, 76, 81]) (e' := [(5, .int .i32 x455), (6, .slice (some ad443) (p0).length cp0), (7, .int .i64 ((p0).length : Int)), (8, .int .i64 x357), (72, .slice A352 (l354).length c353), (76, .int .u8 (IntKind.wrap .u8 (bits .or .i32 224 (Int.fdiv x455 (2 ^ min (Int.toNat 12) 32))))), (81, .int .u8 (IntKind.wrap .u8 (bits .or .i32 128 (bits .and .i32 (Int.fdiv x455 (2 ^ min (Int.toNat 6) 32)) 63))))]) rfl ⟨(show 0 ≤ (12 : Int) from by decide), (show 0 ≤ (6 : Int) from by decide), trivial⟩ fun a hk => ?_
            refine x_run tab hk (k := 4) (lv := []) (ks := [6, 7, 8, 72, 76, 81, 85]) (e' := [(6, .slice (some ad443) (p0).length cp0), (7, .int .i64 ((p0).length : Int)), (8, .int .i64 x357), (72, .slice A352 (l354).length c353), (76, .int .u8 (IntKind.wrap .u8 (bits .or .i32 224 (Int.fdiv x455 (2 ^ min (Int.toNat 12) 32))))), (81, .int .u8 (IntKind.wrap .u8 (bits .or .i32 128 (bits .and .i32 (Int.fdiv x455 (2 ^ min (Int.toNat 6) 32)) 63)))), (85, .int .u8 (IntKind.wrap .u8 (bits .or .i32 128 (bits .and .i32 x455 63))))]) rfl trivial fun a hk => ?_
            refine x_op hk rfl ?_
            refine op_slice (o := o454) tab hk (vs := [.int .u8 (IntKind.wrap .u8 (bits .or .i32 224 (Int.fdiv x455 (2 ^ min (Int.toNat 12) 32)))), .int .u8 (IntKind.wrap .u8 (bits .or .i32 128 (bits .and .i32 (Int.fdiv x455 (2 ^ min (Int.toNat 6) 32)) 63))), .int .u8 (IntKind.wrap .u8 (bits .or .i32 128 (bits .and .i32 x455 63)))]) (cs := [.int .u8 (IntKind.wrap .u8 (bits .or .i32 224 (Int.fdiv x455 (2 ^ min (Int.toNat 12) 32)))), .int .u8 (IntKind.wrap .u8 (bits .or .i32 128 (bits .and .i32 (Int.fdiv x455 (2 ^ min (Int.toNat 6) 32)) 63))), .int .u8 (IntKind.wrap .u8 (bits .or .i32 128 (bits .and .i32 x455 63)))]) rfl rfl rfl rfl rfl rfl rfl rfl rfl 38 fun bx477 w474 o475 st476 f478 => ?_
            replace f355 := f355.st st476 (by decide)
            replace f900000 := f900000.st st476 (by decide)
            replace hs := hs.loc0 st476 (by decide)
            have f479 : Ft (Own (encInt .u8) 5 (.slice (some ⟨bx477, 0, none⟩) (([(IntKind.wrap .u8 (bits .or .i32 224 (Int.fdiv x455 (2 ^ min (Int.toNat 12) 32)))), (IntKind.wrap .u8 (bits .or .i32 128 (bits .and .i32 (Int.fdiv x455 (2 ^ min (Int.toNat 6) 32)) 63))), (IntKind.wrap .u8 (bits .or .i32 128 (bits .and .i32 x455 63)))] : List Int)).length 3) ([(IntKind.wrap .u8 (bits .or .i32 224 (Int.fdiv x455 (2 ^ min (Int.toNat 12) 32)))), (IntKind.wrap .u8 (bits .or .i32 128 (bits .and .i32 (Int.fdiv x455 (2 ^ min (Int.toNat 6) 32)) 63))), (IntKind.wrap .u8 (bits .or .i32 128 (bits .and .i32 x455 63)))] : List Int)) w474 o475 38 := f478.imp fun _ h_ => Own.of_box h_ rfl (by simp)
            have hk := hk.put 86 (.slice (some ⟨bx477, 0, none⟩) (([(IntKind.wrap .u8 (bits .or .i32 224 (Int.fdiv x455 (2 ^ min (Int.toNat 12) 32)))), (IntKind.wrap .u8 (bits .or .i32 128 (bits .and .i32 (Int.fdiv x455 (2 ^ min (Int.toNat 6) 32)) 63))), (IntKind.wrap .u8 (bits .or .i32 128 (bits .and .i32 x455 63)))] : List Int)).length 3) rfl
            refine x_op hk rfl ?_
            obtain ⟨q483, H⟩ := ifS H
            refine op_append (o := o475) (E := (encInt .u8)) (xs := l354) (ys := ([(IntKind.wrap .u8 (bits .or .i32 224 (Int.fdiv x455 (2 ^ min (Int.toNat 12) 32)))), (IntKind.wrap .u8 (bits .or .i32 128 (bits .and .i32 (Int.fdiv x455 (2 ^ min (Int.toNat 6) 32)) 63))), (IntKind.wrap .u8 (bits .or .i32 128 (bits .and .i32 x455 63)))] : List Int)) tab hk rfl rfl rfl rfl rfl rfl rfl f355 (Own.rd f479.now) q483 fun A484 c485 w480 o481 st482 f486 hc487 => ?_
            replace f479 := f479.st st482 (by decide)
            replace f900000 := f900000.st st482 (by decide)
            replace hs := hs.loc0 st482 (by decide)
            have hk := hk.put 87 (.slice A484 ((l354 ++ ([(IntKind.wrap .u8 (bits .or .i32 224 (Int.fdiv x455 (2 ^ min (Int.toNat 12) 32)))), (IntKind.wrap .u8 (bits .or .i32 128 (bits .and .i32 (Int.fdiv x455 (2 ^ min (Int.toNat 6) 32)) 63))), (IntKind.wrap .u8 (bits .or .i32 128 (bits .and .i32 x455 63)))] : List Int))).length c485) rfl
            refine x_run tab hk (k := 1) (lv := []) (ks := [3, 6, 7, 8]) (e' := [(3, .slice A484 ((l354 ++ ([(IntKind.wrap .u8 (bits .or .i32 224 (Int.fdiv x455 (2 ^ min (Int.toNat 12) 32)))), (IntKind.wrap .u8 (bits .or .i32 128 (bits .and .i32 (Int.fdiv x455 (2 ^ min (Int.toNat 6) 32)) 63))), (IntKind.wrap .u8 (bits .or .i32 128 (bits .and .i32 x455 63)))] : List Int))).length c485), (6, .slice (some ad443) (p0).length cp0), (7, .int .i64 ((p0).length : Int)), (8, .int .i64 x357)]) rfl trivial fun a hk => ?_
            refine wpListIn_nil ?_
            refine blk_n ?_
            refine blk_n ?_
            refine then_n ?_
            refine wpIn_region_lit ?_
            refine x_run tab hk (k := 2) (lv := []) (ks := [3, 6, 7, 8]) (e' := [(3, .slice A484 ((l354 ++ ([(IntKind.wrap .u8 (bits .or .i32 224 (Int.fdiv x455 (2 ^ min (Int.toNat 12) 32)))), (IntKind.wrap .u8 (bits .or .i32 128 (bits .and .i32 (Int.fdiv x455 (2 ^ min (Int.toNat 6) 32)) 63))), (IntKind.wrap .u8 (bits .or .i32 128 (bits .and .i32 x455 63)))] : List Int))).length c485), (6, .slice (some ad443) (p0).length cp0), (7, .int .i64 ((p0).length : Int)), (8, .int .i64 (IntKind.wrap .i64 (x357 + 1)))]) rfl trivial fun a hk => ?_
            refine wpListIn_nil ?_
            refine then_n ?_
            exact ⟨k438, Nat.le_refl _, (fun b_ => (fun l_ => if l_ = 36 then 30 else l_) (o481 b_)), A484, c485, (l354 ++ ([(IntKind.wrap .u8 (bits .or .i32 224 (Int.fdiv x455 (2 ^ min (Int.toNat 12) 32)))), (IntKind.wrap .u8 (bits .or .i32 128 (bits .and .i32 (Int.fdiv x455 (2 ^ min (Int.toNat 6) 32)) 63))), (IntKind.wrap .u8 (bits .or .i32 128 (bits .and .i32 x455 63)))] : List Int)), (IntKind.wrap .i64 (x357 + 1)), (by exact Kn.pick (ks := [3, 6, 7, 8]) hk rfl), (hs.relab0 (fun l_ => if l_ = 36 then 30 else l_) rfl), (f486.relab (fun l_ => if l_ = 36 then 30 else l_) rfl), (f900000.relab (fun l_ => if l_ = 36 then 30 else l_) rfl), hc487, (hlp440 ▸ H)⟩
        · rw [b458] at hk H
          replace H := bifT H
          refine x_if hk (b := true) rfl ?_
          refine (show Code.wpIn _ _ _ _ _ _ _ from ?_)
          refine wpIn_region_lit ?_
          refine x_run tab hk (k := 9) (lv := []) (ks := [6, 7, 8, 58, 62, 66]) (e' := [(6, .slice (some ad443) (p0).length cp0), (7, .int .i64 ((p0).length : Int)), (8, .int .i64 x357), (58, .slice A352 (l354).length c353), (62, .int .u8 (IntKind.wrap .u8 (bits .or .i32 192 (Int.fdiv x455 (2 ^ min (Int.toNat 6) 32))))), (66, .int .u8 (IntKind.wrap .u8 (bits .or .i32 128 (bits .and .i32 x455 63))))]) rfl ⟨(show 0 ≤ (6 : Int) from by decide), trivial⟩ fun a hk => ?_
          refine x_op hk rfl ?_
          refine op_slice (o := o454) tab hk (vs := [.int .u8 (IntKind.wrap .u8 (bits .or .i32 192 (Int.fdiv x455 (2 ^ min (Int.toNat 6) 32)))), .int .u8 (IntKind.wrap .u8 (bits .or .i32 128 (bits .and .i32 x455 63)))]) (cs := [.int .u8 (IntKind.wrap .u8 (bits .or .i32 192 (Int.fdiv x455 (2 ^ min (Int.toNat 6) 32)))), .int .u8 (IntKind.wrap .u8 (bits .or .i32 128 (bits .and .i32 x455 63)))]) rfl rfl rfl rfl rfl rfl rfl rfl rfl 39 fun bx491 w488 o489 st490 f492 => ?_
          replace f355 := f355.st st490 (by decide)
          replace f900000 := f900000.st st490 (by decide)
          replace hs := hs.loc0 st490 (by decide)
          have f493 : Ft (Own (encInt .u8) 5 (.slice (some ⟨bx491, 0, none⟩) (([(IntKind.wrap .u8 (bits .or .i32 192 (Int.fdiv x455 (2 ^ min (Int.toNat 6) 32)))), (IntKind.wrap .u8 (bits .or .i32 128 (bits .and .i32 x455 63)))] : List Int)).length 2) ([(IntKind.wrap .u8 (bits .or .i32 192 (Int.fdiv x455 (2 ^ min (Int.toNat 6) 32)))), (IntKind.wrap .u8 (bits .or .i32 128 (bits .and .i32 x455 63)))] : List Int)) w488 o489 39 := f492.imp fun _ h_ => Own.of_box h_ rfl (by simp)
          have hk := hk.put 67 (.slice (some ⟨bx491, 0, none⟩) (([(IntKind.wrap .u8 (bits .or .i32 192 (Int.fdiv x455 (2 ^ min (Int.toNat 6) 32)))), (IntKind.wrap .u8 (bits .or .i32 128 (bits .and .i32 x455 63)))] : List Int)).length 2) rfl
          refine x_op hk rfl ?_
          obtain ⟨q497, H⟩ := ifS H
          refine op_append (o := o489) (E := (encInt .u8)) (xs := l354) (ys := ([(IntKind.wrap .u8 (bits .or .i32 192 (Int.fdiv x455 (2 ^ min (Int.toNat 6) 32)))), (IntKind.wrap .u8 (bits .or .i32 128 (bits .and .i32 x455 63)))] : List Int)) tab hk rfl rfl rfl rfl rfl rfl rfl f355 (Own.rd f493.now) q497 fun A498 c499 w494 o495 st496 f500 hc501 => ?_
          replace f493 := f493.st st496 (by decide)
          replace f900000 := f900000.st st496 (by decide)
          replace hs := hs.loc0 st496 (by decide)
          have hk := hk.put 68 (.slice A498 ((l354 ++ ([(IntKind.wrap .u8 (bits .or .i32 192 (Int.fdiv x455 (2 ^ min (Int.toNat 6) 32)))), (IntKind.wrap .u8 (bits .or .i32 128 (bits .and .i32 x455 63)))] : List Int))).length c499) rfl
          refine x_run tab hk (k := 1) (lv := []) (ks := [3, 6, 7, 8]) (e' := [(3, .slice A498 ((l354 ++ ([(IntKind.wrap .u8 (bits .or .i32 192 (Int.fdiv x455 (2 ^ min (Int.toNat 6) 32)))), (IntKind.wrap .u8 (bits .or .i32 128 (bits .and .i32 x455 63)))] : List Int))).length c499), (6, .slice (some ad443) (p0).length cp0), (7, .int .i64 ((p0).length : Int)), (8, .int .i64 x357)]) rfl trivial fun a hk => ?_
          refine wpListIn_nil ?_
          refine blk_n ?_
          refine blk_n ?_
          refine then_n ?_
          refine wpIn_region_lit ?_
          refine x_run tab hk (k := 2) (lv := []) (ks := [3, 6, 7, 8]) (e' := [(3, .slice A498 ((l354 ++ ([(IntKind.wrap .u8 (bits .or .i32 192 (Int.fdiv x455 (2 ^ min (Int.toNat 6) 32)))), (IntKind.wrap .u8 (bits .or .i32 128 (bits .and .i32 x455 63)))] : List Int))).length c499), (6, .slice (some ad443) (p0).length cp0), (7, .int .i64 ((p0).length : Int)), (8, .int .i64 (IntKind.wrap .i64 (x357 + 1)))]) rfl trivial fun a hk => ?_
          refine wpListIn_nil ?_
          refine then_n ?_
          exact ⟨k438, Nat.le_refl _, (fun b_ => (fun l_ => if l_ = 36 then 30 else l_) (o495 b_)), A498, c499, (l354 ++ ([(IntKind.wrap .u8 (bits .or .i32 192 (Int.fdiv x455 (2 ^ min (Int.toNat 6) 32)))), (IntKind.wrap .u8 (bits .or .i32 128 (bits .and .i32 x455 63)))] : List Int)), (IntKind.wrap .i64 (x357 + 1)), (by exact Kn.pick (ks := [3, 6, 7, 8]) hk rfl), (hs.relab0 (fun l_ => if l_ = 36 then 30 else l_) rfl), (f500.relab (fun l_ => if l_ = 36 then 30 else l_) rfl), (f900000.relab (fun l_ => if l_ = 36 then 30 else l_) rfl), hc501, (hlp440 ▸ H)⟩
      · rw [b457] at hk H
        replace H := bifT H
        refine x_if hk (b := true) rfl ?_
        refine (show Code.wpIn _ _ _ _ _ _ _ from ?_)
        refine wpIn_region_lit ?_
        refine x_run tab hk (k := 3) (lv := []) (ks := [6, 7, 8, 50, 52]) (e' := [(6, .slice (some ad443) (p0).length cp0), (7, .int .i64 ((p0).length : Int)), (8, .int .i64 x357), (50, .slice A352 (l354).length c353), (52, .int .u8 (IntKind.wrap .u8 x455))]) rfl trivial fun a hk => ?_
        refine x_op hk rfl ?_
        refine op_slice (o := o454) tab hk (vs := [.int .u8 (IntKind.wrap .u8 x455)]) (cs := [.int .u8 (IntKind.wrap .u8 x455)]) rfl rfl rfl rfl rfl rfl rfl rfl rfl 40 fun bx505 w502 o503 st504 f506 => ?_
        replace f355 := f355.st st504 (by decide)
        replace f900000 := f900000.st st504 (by decide)
        replace hs := hs.loc0 st504 (by decide)
        have f507 : Ft (Own (encInt .u8) 5 (.slice (some ⟨bx505, 0, none⟩) (([(IntKind.wrap .u8 x455)] : List Int)).length 1) ([(IntKind.wrap .u8 x455)] : List Int)) w502 o503 40 := f506.imp fun _ h_ => Own.of_box h_ rfl (by simp)
        have hk := hk.put 53 (.slice (some ⟨bx505, 0, none⟩) (([(IntKind.wrap .u8 x455)] : List Int)).length 1) rfl
        refine x_op hk rfl ?_
        obtain ⟨q511, H⟩ := ifS H
        refine op_append (o := o503) (E := (encInt .u8)) (xs := l354) (ys := ([(IntKind.wrap .u8 x455)] : List Int)) tab hk rfl rfl rfl rfl rfl rfl rfl f355 (Own.rd f507.now) q511 fun A512 c513 w508 o509 st510 f514 hc515 => ?_
        replace f507 := f507.st st510 (by decide)
        replace f900000 := f900000.st st510 (by decide)
        replace hs := hs.loc0 st510 (by decide)
        have hk := hk.put 54 (.slice A512 ((l354 ++ ([(IntKind.wrap .u8 x455)] : List Int))).length c513) rfl
        refine x_run tab hk (k := 1) (lv := []) (ks := [3, 6, 7, 8]) (e' := [(3, .slice A512 ((l354 ++ ([(IntKind.wrap .u8 x455)] : List Int))).length c513), (6, .slice (some ad443) (p0).length cp0), (7, .int .i64 ((p0).length : Int)), (8, .int .i64 x357)]) rfl trivial fun a hk => ?_
        refine wpListIn_nil ?_
        refine blk_n ?_
        refine blk_n ?_
        refine then_n ?_
        refine wpIn_region_lit ?_
        refine x_run tab hk (k := 2) (lv := []) (ks := [3, 6, 7, 8]) (e' := [(3, .slice A512 ((l354 ++ ([(IntKind.wrap .u8 x455)] : List Int))).length c513), (6, .slice (some ad443) (p0).length cp0), (7, .int .i64 ((p0).length : Int)), (8, .int .i64 (IntKind.wrap .i64 (x357 + 1)))]) rfl trivial fun a hk => ?_
        refine wpListIn_nil ?_
        refine then_n ?_
        exact ⟨k438, Nat.le_refl _, (fun b_ => (fun l_ => if l_ = 36 then 30 else l_) (o509 b_)), A512, c513, (l354 ++ ([(IntKind.wrap .u8 x455)] : List Int)), (IntKind.wrap .i64 (x357 + 1)), (by exact Kn.pick (ks := [3, 6, 7, 8]) hk rfl), (hs.relab0 (fun l_ => if l_ = 36 then 30 else l_) rfl), (f514.relab (fun l_ => if l_ = 36 then 30 else l_) rfl), (f900000.relab (fun l_ => if l_ = 36 then 30 else l_) rfl), hc515, (hlp440 ▸ H)⟩
    refine x_seq ?_
    refine wpIn_region_lit ?_
    refine x_run tab hk (k := 3) (lv := []) (ks := [3, 5, 6, 7, 8, 14]) (e' := [(3, .slice A352 (l354).length c353), (5, .int .i32 (rdD 0 p0 x357)), (6, .slice (some ad443) (p0).length cp0), (7, .int .i64 ((p0).length : Int)), (8, .int .i64 x357), (14, .bool (decide ((rdD 0 p0 x357) < (0 : Int))))]) rfl trivial fun a hk => ?_
    cases b516 : (decide ((rdD 0 p0 x357) < (0 : Int)))
    · rw [b516] at hk H
      replace H := bifF H
      refine x_run tab hk (k := 4) (lv := []) (ks := [3, 5, 6, 7, 8, 18]) (e' := [(3, .slice A352 (l354).length c353), (5, .int .i32 (rdD 0 p0 x357)), (6, .slice (some ad443) (p0).length cp0), (7, .int .i64 ((p0).length : Int)), (8, .int .i64 x357), (18, .bool (decide ((rdD 0 p0 x357) > (1114111 : Int))))]) rfl trivial fun a hk => ?_
      cases b517 : (decide ((rdD 0 p0 x357) > (1114111 : Int)))
      · rw [b517] at hk H
        replace H := bifF H
        refine x_run tab hk (k := 3) (lv := []) (ks := [3, 5, 6, 7, 8, 18, 21]) (e' := [(3, .slice A352 (l354).length c353), (5, .int .i32 (rdD 0 p0 x357)), (6, .slice (some ad443) (p0).length cp0), (7, .int .i64 ((p0).length : Int)), (8, .int .i64 x357), (18, .bool false), (21, .bool (decide ((rdD 0 p0 x357) ≥ (55296 : Int))))]) rfl trivial fun a hk => ?_
        cases b518 : (decide ((rdD 0 p0 x357) ≥ (55296 : Int)))
        · rw [b518] at hk H
          replace H := bifF H
          refine x_run tab hk (k := 4) (lv := []) (ks := [3, 5, 6, 7, 8, 25]) (e' := [(3, .slice A352 (l354).length c353), (5, .int .i32 (rdD 0 p0 x357)), (6, .slice (some ad443) (p0).length cp0), (7, .int .i64 ((p0).length : Int)), (8, .int .i64 x357), (25, .bool false)]) rfl trivial fun a hk => ?_
          refine wpListIn_nil ?_
          refine then_n ?_
          refine x_if hk (b := false) rfl ?_
          refine (show Code.wpIn _ _ _ _ _ _ _ from ?_)
          refine wpIn_skip ?_
          refine then_n ?_
          exact ⟨(fun b_ => (fun l_ => if l_ = 30 then 36 else l_) (o351 b_)), (rdD 0 p0 x357), (by exact Kn.pick (ks := [3, 5, 6, 7, 8]) hk rfl), (hs.relab0 (fun l_ => if l_ = 30 then 36 else l_) rfl), (f355.relab (fun l_ => if l_ = 30 then 36 else l_) rfl), (f900000.relab (fun l_ => if l_ = 30 then 36 else l_) rfl), H⟩
        · rw [b518] at hk H
          replace H := bifT H
          refine x_run tab hk (k := 4) (lv := []) (ks := [3, 5, 6, 7, 8, 25]) (e' := [(3, .slice A352 (l354).length c353), (5, .int .i32 (rdD 0 p0 x357)), (6, .slice (some ad443) (p0).length cp0), (7, .int .i64 ((p0).length : Int)), (8, .int .i64 x357), (25, .bool (decide ((rdD 0 p0 x357) ≤ (57343 : Int))))]) rfl trivial fun a hk => ?_
          refine wpListIn_nil ?_
          refine then_n ?_
          cases b519 : (decide ((rdD 0 p0 x357) ≤ (57343 : Int)))
          · rw [b519] at hk H
            replace H := bifF H
            refine x_if hk (b := false) rfl ?_
            refine (show Code.wpIn _ _ _ _ _ _ _ from ?_)
            refine wpIn_skip ?_
            refine then_n ?_
            exact ⟨(fun b_ => (fun l_ => if l_ = 30 then 36 else l_) (o351 b_)), (rdD 0 p0 x357), (by exact Kn.pick (ks := [3, 5, 6, 7, 8]) hk rfl), (hs.relab0 (fun l_ => if l_ = 30 then 36 else l_) rfl), (f355.relab (fun l_ => if l_ = 30 then 36 else l_) rfl), (f900000.relab (fun l_ => if l_ = 30 then 36 else l_) rfl), H⟩
          · rw [b519] at hk H
            replace H := bifT H
            refine x_if hk (b := true) rfl ?_
            refine (show Code.wpIn _ _ _ _ _ _ _ from ?_)
            refine wpIn_region_lit ?_
            refine x_run tab hk (k := 1) (lv := []) (ks := [3, 5, 6, 7, 8]) (e' := [(3, .slice A352 (l354).length c353), (5, .int .i32 65533), (6, .slice (some ad443) (p0).length cp0), (7, .int .i64 ((p0).length : Int)), (8, .int .i64 x357)]) rfl trivial fun a hk => ?_
            refine wpListIn_nil ?_
            refine then_n ?_
            exact ⟨(fun b_ => (fun l_ => if l_ = 30 then 36 else l_) (o351 b_)), 65533, (by exact Kn.pick (ks := [3, 5, 6, 7, 8]) hk rfl), (hs.relab0 (fun l_ => if l_ = 30 then 36 else l_) rfl), (f355.relab (fun l_ => if l_ = 30 then 36 else l_) rfl), (f900000.relab (fun l_ => if l_ = 30 then 36 else l_) rfl), H⟩
      · rw [b517] at hk H
        replace H := bifT H
        refine x_run tab hk (k := 7) (lv := []) (ks := [3, 5, 6, 7, 8, 25]) (e' := [(3, .slice A352 (l354).length c353), (5, .int .i32 (rdD 0 p0 x357)), (6, .slice (some ad443) (p0).length cp0), (7, .int .i64 ((p0).length : Int)), (8, .int .i64 x357), (25, .bool true)]) rfl trivial fun a hk => ?_
        refine wpListIn_nil ?_
        refine then_n ?_
        refine x_if hk (b := true) rfl ?_
        refine (show Code.wpIn _ _ _ _ _ _ _ from ?_)
        refine wpIn_region_lit ?_
        refine x_run tab hk (k := 1) (lv := []) (ks := [3, 5, 6, 7, 8]) (e' := [(3, .slice A352 (l354).length c353), (5, .int .i32 65533), (6, .slice (some ad443) (p0).length cp0), (7, .int .i64 ((p0).length : Int)), (8, .int .i64 x357)]) rfl trivial fun a hk => ?_
        refine wpListIn_nil ?_
        refine then_n ?_
        exact ⟨(fun b_ => (fun l_ => if l_ = 30 then 36 else l_) (o351 b_)), 65533, (by exact Kn.pick (ks := [3, 5, 6, 7, 8]) hk rfl), (hs.relab0 (fun l_ => if l_ = 30 then 36 else l_) rfl), (f355.relab (fun l_ => if l_ = 30 then 36 else l_) rfl), (f900000.relab (fun l_ => if l_ = 30 then 36 else l_) rfl), H⟩
    · rw [b516] at hk H
      replace H := bifT H
      refine x_run tab hk (k := 10) (lv := []) (ks := [3, 5, 6, 7, 8, 18, 24]) (e' := [(3, .slice A352 (l354).length c353), (5, .int .i32 (rdD 0 p0 x357)), (6, .slice (some ad443) (p0).length cp0), (7, .int .i64 ((p0).length : Int)), (8, .int .i64 x357), (18, .bool true), (24, undef)]) rfl trivial fun a hk => ?_
      refine x_run tab hk (k := 1) (lv := []) (ks := [3, 5, 6, 7, 8, 25]) (e' := [(3, .slice A352 (l354).length c353), (5, .int .i32 (rdD 0 p0 x357)), (6, .slice (some ad443) (p0).length cp0), (7, .int .i64 ((p0).length : Int)), (8, .int .i64 x357), (25, .bool true)]) rfl trivial fun a hk => ?_
      refine wpListIn_nil ?_
      refine then_n ?_
      refine x_if hk (b := true) rfl ?_
      refine (show Code.wpIn _ _ _ _ _ _ _ from ?_)
      refine wpIn_region_lit ?_
      refine x_run tab hk (k := 1) (lv := []) (ks := [3, 5, 6, 7, 8]) (e' := [(3, .slice A352 (l354).length c353), (5, .int .i32 65533), (6, .slice (some ad443) (p0).length cp0), (7, .int .i64 ((p0).length : Int)), (8, .int .i64 x357)]) rfl trivial fun a hk => ?_
      refine wpListIn_nil ?_
      refine then_n ?_
      exact ⟨(fun b_ => (fun l_ => if l_ = 30 then 36 else l_) (o351 b_)), 65533, (by exact Kn.pick (ks := [3, 5, 6, 7, 8]) hk rfl), (hs.relab0 (fun l_ => if l_ = 30 then 36 else l_) rfl), (f355.relab (fun l_ => if l_ = 30 then 36 else l_) rfl), (f900000.relab (fun l_ => if l_ = 30 then 36 else l_) rfl), H⟩

/-! tidewrack/tidewracklaw07.SeqPrints -/
set_option maxHeartbeats 4000000 in
theorem tidewracklaw07_SeqPrints_calls (K : Nat) (Ap0 : Option Addr) (cp0 : Nat) (p0 : List Int) (p1 : ByteArray) (w : World) (o : Nat → Nat) (Lg0 : Nat) (hg0 : Ft (RdC ET70 (some ⟨0, 0, none⟩) glob0) w o Lg0) (Lp0 : Nat) (hp0 : Ft (RdC (encInt .i32) Ap0 p0) w o Lp0) (hcp0 : (p0).length ≤ cp0)  (r : Bool) (H : tidewracklaw07_SeqPrints K p0 p1 = some r) :
    Calls Tryd.prog 8 #[.slice Ap0 (p0).length cp0, .string p1] w (Ret fun v_ w' => ∃ o' : Nat → Nat, v_ = .bool r ∧ St [] w o w' o') := by
  refine x_enter (vs := [.slice Ap0 (p0).length cp0, .string p1]) Tryd.func8 rfl rfl rfl fun a hk => ?_
  obtain ⟨o0, hs, h0⟩ := St.start w o
  have fg0 := h0 _ _ hg0
  have f900000 := h0 _ _ hp0
  clear h0
  rw [tidewracklaw07_SeqPrints] at H
  refine x_seq ?_
  refine wpIn_region_lit ?_
  refine x_run tab hk (k := 1) (lv := []) (ks := [0, 1]) (e' := [(0, .slice Ap0 (p0).length cp0), (1, .string p1)]) rfl trivial fun a hk => ?_
  refine wpListIn_nil ?_
  refine then_n ?_
  refine x_seq ?_
  refine x_seq ?_
  refine wpIn_region_lit ?_
  refine x_op hk rfl ?_
  obtain ⟨t4, hc5, H⟩ := bindS H
  refine op_call hk ent_9 (vs := []) rfl (tidewracklaw07_awake_calls K  _ o0 0 fg0   _ hc5) ?_
  rintro _ w6 ⟨o7, rfl, st8⟩
  replace f900000 := f900000.st st8 (by decide)
  replace fg0 := fg0.st st8 (by decide)
  replace hs := hs.loc0 st8 (by decide)
  have hk := hk.put 14 (.bool t4) rfl
  refine x_run tab hk (k := 1) (lv := []) (ks := [0, 1, 15]) (e' := [(0, .slice Ap0 (p0).length cp0), (1, .string p1), (15, .bool (!t4))]) rfl trivial fun a hk => ?_
  refine wpListIn_nil ?_
  refine then_n ?_
  cases b9 : (!t4)
  · rw [b9] at hk H
    replace H := bifF H
    refine x_if hk (b := false) rfl ?_
    refine (show Code.wpIn _ _ _ _ _ _ _ from ?_)
    refine wpIn_skip ?_
    refine then_n ?_
    refine x_seq ?_
    refine wpIn_region_lit ?_
    refine x_run tab hk (k := 1) (lv := []) (ks := [0, 1, 5]) (e' := [(0, .slice Ap0 (p0).length cp0), (1, .string p1), (5, .slice none 0 0)]) rfl trivial fun a hk => ?_
    refine wpListIn_nil ?_
    refine then_n ?_
    refine x_seq ?_
    refine wpIn_region_lit ?_
    refine x_run tab hk (k := 1) (lv := []) (ks := [0, 1, 5, 6]) (e' := [(0, .slice Ap0 (p0).length cp0), (1, .string p1), (5, .slice none 0 0), (6, .slice none 0 0)]) rfl trivial fun a hk => ?_
    refine wpListIn_nil ?_
    refine then_n ?_
    refine x_mid (fun a_ w_ => ∃ o263 : Nat → Nat, ∃ A264 : Option Addr, ∃ c265 : Nat, ∃ l266 : List T47, ∃ A269 : Option Addr, ∃ c270 : Nat, ∃ l271 : List Int, Kn 95 a_ [(1, .string p1), (5, .slice A264 (l266).length c265), (6, .slice A269 (l271).length c270)] ∧ St [] w (fun _ => 0) w_ o263 ∧ NOwn dT47 48 A264 c265 l266 w_ o263 25 1 ∧ Ft (Own (encInt .i32) 21 (.slice A269 (l271).length c270) l271) w_ o263 26 ∧ Ft (RdC ET70 (some ⟨0, 0, none⟩) glob0) w_ o263 0 ∧ (l266).length ≤ c265 ∧ (l271).length ≤ c270 ∧ tidewracklaw07_SeqPrints_j1 K p1 l266 l271 = some r) ?_ ?_
    rotate_left
    · rintro a w274 ⟨o263, A264, c265, l266, A269, c270, l271, hk, hs, f267, f272, fg0, hc268, hc273, H⟩
      rw [tidewracklaw07_SeqPrints_j1] at H
      refine x_mid (fun a_ w_ => ∃ o465 : Nat → Nat, ∃ A466 : Option Addr, ∃ c467 : Nat, ∃ l468 : List T47, ∃ A471 : Option Addr, ∃ c472 : Nat, ∃ l473 : List Int, Kn 95 a_ [(5, .slice A466 (l468).length c467), (6, .slice A471 (l473).length c472)] ∧ St [] w (fun _ => 0) w_ o465 ∧ NOwn dT47 48 A466 c467 l468 w_ o465 49 1 ∧ Ft (Own (encInt .i32) 21 (.slice A471 (l473).length c472) l473) w_ o465 50 ∧ Ft (RdC ET70 (some ⟨0, 0, none⟩) glob0) w_ o465 0 ∧ (l468).length ≤ c467 ∧ (l473).length ≤ c472 ∧ tidewracklaw07_SeqPrints_j2 K l468 l473 = some r) ?_ ?_
      rotate_left
      · rintro a w476 ⟨o465, A466, c467, l468, A471, c472, l473, hk, hs, f469, f474, fg0, hc470, hc475, H⟩
        rw [tidewracklaw07_SeqPrints_j2] at H
        refine x_seq ?_
        refine wpIn_region_lit ?_
        refine x_op hk rfl ?_
        refine op_alloc (o := o465) tab (t := 31) (cs := [.int .i64 0, .bool false, .bool false, .bool false, .bool false, .int .i64 0, .slice none 0 0, .string (⟨#[]⟩ : ByteArray), .int .u8 0, .int .i32 0, .int .i64 0, .slice none 0 0]) rfl rfl 51 fun bx480 w477 o478 st479 f481 => ?_
        replace f469 := f469.st st479 (by decide)
        replace f474 := f474.st st479 (by decide)
        replace fg0 := fg0.st st479 (by decide)
        replace hs := hs.loc0 st479 (by decide)
        have hk := hk.put 13 (.pointer (some ⟨bx480, 0, none⟩)) rfl
        refine wpListIn_nil ?_
        refine then_n ?_
        refine x_seq ?_
        refine wpIn_region_lit ?_
        refine x_run tab hk (k := 1) (lv := []) (ks := [5, 13, 90]) (e' := [(5, .slice A466 (l468).length c467), (13, .pointer (some ⟨bx480, 0, none⟩)), (90, .slice A471 (l473).length c472)]) rfl trivial fun a hk => ?_
        refine x_op hk rfl ?_
        obtain ⟨t485, hc486, H⟩ := bindS H
        refine op_call hk ent_17 (vs := [.slice A471 (l473).length c472]) rfl (glyph_Encode_calls K A471 c472 l473 _ o478 _ (f474.imp fun _ h_ => Own.rd h_) hc475   _ hc486) ?_
        rintro _ w487 ⟨o488, rfl, st489⟩
        replace f469 := f469.st st489 (by decide)
        replace f474 := f474.st st489 (by decide)
        replace f481 := f481.st st489 (by decide)
        replace fg0 := fg0.st st489 (by decide)
        replace hs := hs.loc0 st489 (by decide)
        have hk := hk.put 91 (.string t485) rfl
        refine x_op hk rfl ?_
        obtain ⟨t493, hc494, H⟩ := bindS H
        refine op_call hk ent_12 (vs := [.pointer (some ⟨bx480, 0, none⟩), .string t485]) rfl (seq_Parser_Feed_calls K bx480 none 0 none 0 (⟨0, false, false, false, false, 0, ([] : List Int), (⟨#[]⟩ : ByteArray), 0, 0, 0, ([] : List T37)⟩ : T30) t485 _ o488 1 0 fg0 51 f481 52 (CO.nil _ _ _ _ _ _ _) (by simp) 53 (NOwn.nil _ _ _ _ 53 1) (by simp) (by decide) (by decide) 54  _ hc494) ?_
        rintro _ w495 ⟨o496, A498, c499, A503, c504, rfl, st497, f500, hc501, f502, f505, hc506, f507, hc508⟩
        replace f469 := f469.st st497 (by decide)
        replace f474 := f474.st st497 (by decide)
        replace fg0 := fg0.st st497 (by decide)
        replace hs := hs.loc0 st497 (by decide)
        have hz509 : t493.2.out = [] := NRd.nul f507.rd
        have hk := hk.put 92 (.slice A498 (t493.1).length c499) rfl
        refine x_run tab hk (k := 1) (lv := []) (ks := [92, 93]) (e' := [(92, .slice A498 (t493.1).length c499), (93, .slice A466 (l468).length c467)]) rfl trivial fun a hk => ?_
        refine x_op hk rfl ?_
        obtain ⟨t513, hc514, H⟩ := bindS H
        refine op_call hk ent_11 (vs := [.slice A498 (t493.1).length c499, .slice A466 (l468).length c467]) rfl (tidewracklaw07_Is_calls K A498 c499 t493.1 A466 c467 l468 _ o496 1 _ f500.rd hc501 _ f469.rd hc470 (by decide) (by decide) (by decide)   _ hc514) ?_
        rintro _ w515 ⟨o516, rfl, st517⟩
        replace f469 := f469.st st517 (by decide)
        replace f500 := f500.st st517 (by decide)
        replace fg0 := fg0.st st517 (by decide)
        replace hs := hs.loc0 st517 (by decide)
        have hk := hk.put 94 (.bool t513) rfl
        refine x_run tab hk (k := 1) (lv := []) (ks := [4]) (e' := [(4, .bool t513)]) rfl trivial fun a hk => ?_
        refine wpListIn_nil ?_
        refine then_n ?_
        refine wpIn_ret ?_
        obtain rfl := Option.some.inj H
        exact x_retG hk (rs := [.tmp 4]) (vs := [.bool t513]) rfl ⟨rfl, trivial⟩ ⟨fun b_ => if b_ < w.heap.size then o b_ else (fun _ => 0) (o516 b_), rfl, hs.close0 o (fun _ => 0)⟩
      refine x_seq ?_
      refine wpIn_region_lit ?_
      refine x_run tab hk (k := 1) (lv := []) (ks := [1, 5, 6, 12]) (e' := [(1, .string p1), (5, .slice A264 (l266).length c265), (6, .slice A269 (l271).length c270), (12, .int .i64 0)]) rfl trivial fun a hk => ?_
      refine wpListIn_nil ?_
      refine then_n ?_
      refine wpIn_block ?_
      refine x_loop (fun j_ a_ w_ => ∃ o573 : Nat → Nat, ∃ A574 : Option Addr, ∃ c575 : Nat, ∃ l576 : List T47, ∃ A579 : Option Addr, ∃ c580 : Nat, ∃ l581 : List Int, ∃ x584 : Int, Kn 95 a_ [(1, .string p1), (5, .slice A574 (l576).length c575), (6, .slice A579 (l581).length c580), (12, .int .i64 x584)] ∧ St [] w (fun _ => 0) w_ o573 ∧ NOwn dT47 48 A574 c575 l576 w_ o573 63 1 ∧ Ft (Own (encInt .i32) 21 (.slice A579 (l581).length c580) l581) w_ o573 64 ∧ Ft (RdC ET70 (some ⟨0, 0, none⟩) glob0) w_ o573 0 ∧ (l576).length ≤ c575 ∧ (l581).length ≤ c580 ∧ tidewracklaw07_SeqPrints_l3 K p1 j_ l576 l581 x584 = some r) (k := K) ⟨(fun b_ => (fun l_ => if l_ = 25 then 63 else if l_ = 26 then 64 else l_) (o263 b_)), A264, c265, l266, A269, c270, l271, 0, (by exact Kn.pick (ks := [1, 5, 6, 12]) hk rfl), (hs.relab0 (fun l_ => if l_ = 25 then 63 else if l_ = 26 then 64 else l_) rfl), (f267.relab (fun l_ => if l_ = 25 then 63 else if l_ = 26 then 64 else l_) rfl), (f272.relab (fun l_ => if l_ = 25 then 63 else if l_ = 26 then 64 else l_) rfl), (fg0.relab (fun l_ => if l_ = 25 then 63 else if l_ = 26 then 64 else l_) rfl), hc268, hc273, H⟩ (by rintro _ _ ⟨_, _, _, _, _, _, _, _, _, _, _, _, _, _, _, H_⟩; exact absurd (show (none : Option Bool) = some r from H_) (by simp)) ?_
      rintro k638 a w637 ⟨o573, A574, c575, l576, A579, c580, l581, x584, hk, hs, f577, f582, fg0, hc578, hc583, H⟩
      rw [tidewracklaw07_SeqPrints_l3] at H
      obtain ⟨lp639, hlp640⟩ : ∃ lp_, lp_ = tidewracklaw07_SeqPrints_l3 K p1 k638 := ⟨_, rfl⟩
      rw [← hlp640] at H
      refine x_mid (fun a_ w_ => ∃ o646 : Nat → Nat, Kn 95 a_ [(1, .string p1), (5, .slice A574 (l576).length c575), (6, .slice A579 (l581).length c580), (12, .int .i64 x584)] ∧ St [] w (fun _ => 0) w_ o646 ∧ NOwn dT47 48 A574 c575 l576 w_ o646 71 1 ∧ Ft (Own (encInt .i32) 21 (.slice A579 (l581).length c580) l581) w_ o646 72 ∧ Ft (RdC ET70 (some ⟨0, 0, none⟩) glob0) w_ o646 0 ∧ tidewracklaw07_SeqPrints_j4 p1 l576 l581 x584 lp639 = some r) ?_ ?_
      rotate_left
      · rintro a w647 ⟨o646, hk, hs, f577, f582, fg0, H⟩
        rw [tidewracklaw07_SeqPrints_j4] at H
        refine x_seq ?_
        refine wpIn_block ?_
        refine x_mid (fun a_ w_ => ∃ o656 : Nat → Nat, ∃ x657 : Bool, Kn 95 a_ [(1, .string p1), (5, .slice A574 (l576).length c575), (6, .slice A579 (l581).length c580), (12, .int .i64 x584), (74, .bool x657)] ∧ St [] w (fun _ => 0) w_ o656 ∧ NOwn dT47 48 A574 c575 l576 w_ o656 73 1 ∧ Ft (Own (encInt .i32) 21 (.slice A579 (l581).length c580) l581) w_ o656 74 ∧ Ft (RdC ET70 (some ⟨0, 0, none⟩) glob0) w_ o656 0 ∧ tidewracklaw07_SeqPrints_j5 p1 l576 l581 x584 lp639 x657 = some r) ?_ ?_
        rotate_left
        · rintro a w658 ⟨o656, x657, hk, hs, f577, f582, fg0, H⟩
          rw [tidewracklaw07_SeqPrints_j5] at H
          cases b659 : x657
          · rw [b659] at hk H
            replace H := bifF H
            refine x_if hk (b := false) rfl ?_
            refine (show Code.wpIn _ _ _ _ _ _ _ from ?_)
            refine wpIn_skip ?_
            refine blk_n ?_
            refine then_n ?_
            refine wpIn_region_lit ?_
            refine x_run tab hk (k := 3) (lv := []) (ks := [1, 5, 6, 12]) (e' := [(1, .string p1), (5, .slice A574 (l576).length c575), (6, .slice A579 (l581).length c580), (12, .int .i64 (IntKind.wrap .i64 (x584 + 1)))]) rfl trivial fun a hk => ?_
            refine wpListIn_nil ?_
            refine then_n ?_
            exact ⟨k638, Nat.le_refl _, (fun b_ => (fun l_ => if l_ = 73 then 63 else if l_ = 74 then 64 else l_) (o656 b_)), A574, c575, l576, A579, c580, l581, (IntKind.wrap .i64 (x584 + 1)), (by exact Kn.pick (ks := [1, 5, 6, 12]) hk rfl), (hs.relab0 (fun l_ => if l_ = 73 then 63 else if l_ = 74 then 64 else l_) rfl), (f577.relab (fun l_ => if l_ = 73 then 63 else if l_ = 74 then 64 else l_) rfl), (f582.relab (fun l_ => if l_ = 73 then 63 else if l_ = 74 then 64 else l_) rfl), (fg0.relab (fun l_ => if l_ = 73 then 63 else if l_ = 74 then 64 else l_) rfl), hc578, hc583, (hlp640 ▸ H)⟩
          · rw [b659] at hk H
            replace H := bifT H
            refine x_if hk (b := true) rfl ?_
            refine (show Code.wpIn _ _ _ _ _ _ _ from ?_)
            refine x_seq ?_
            refine wpIn_region_lit ?_
            obtain ⟨q660, H⟩ := ifS H
            refine x_run tab hk (k := 5) (lv := []) (ks := [1, 5, 12, 75, 79]) (e' := [(1, .string p1), (5, .slice A574 (l576).length c575), (12, .int .i64 x584), (75, .slice A579 (l581).length c580), (79, .int .i32 (IntKind.wrap .i32 (bt p1 x584)))]) rfl ⟨q660, trivial⟩ fun a hk => ?_
            refine x_op hk rfl ?_
            refine op_slice (o := o656) tab hk (vs := [.int .i32 (IntKind.wrap .i32 (bt p1 x584))]) (cs := [.int .i32 (IntKind.wrap .i32 (bt p1 x584))]) rfl rfl rfl rfl rfl rfl rfl rfl rfl 75 fun bx664 w661 o662 st663 f665 => ?_
            replace f577 := f577.st st663 (by decide)
            replace f582 := f582.st st663 (by decide)
            replace fg0 := fg0.st st663 (by decide)
            replace hs := hs.loc0 st663 (by decide)
            have f666 : Ft (Own (encInt .i32) 21 (.slice (some ⟨bx664, 0, none⟩) (([(IntKind.wrap .i32 (bt p1 x584))] : List Int)).length 1) ([(IntKind.wrap .i32 (bt p1 x584))] : List Int)) w661 o662 75 := f665.imp fun _ h_ => Own.of_box h_ rfl (by simp)
            have hk := hk.put 80 (.slice (some ⟨bx664, 0, none⟩) (([(IntKind.wrap .i32 (bt p1 x584))] : List Int)).length 1) rfl
            refine x_op hk rfl ?_
            obtain ⟨q670, H⟩ := ifS H
            refine op_append (o := o662) (E := (encInt .i32)) (xs := l581) (ys := ([(IntKind.wrap .i32 (bt p1 x584))] : List Int)) tab hk rfl rfl rfl rfl rfl rfl rfl f582 (Own.rd f666.now) q670 fun A671 c672 w667 o668 st669 f673 hc674 => ?_
            replace f577 := f577.st st669 (by decide)
            replace f666 := f666.st st669 (by decide)
            replace fg0 := fg0.st st669 (by decide)
            replace hs := hs.loc0 st669 (by decide)
            have hk := hk.put 81 (.slice A671 ((l581 ++ ([(IntKind.wrap .i32 (bt p1 x584))] : List Int))).length c672) rfl
            refine x_run tab hk (k := 1) (lv := []) (ks := [1, 5, 6, 12]) (e' := [(1, .string p1), (5, .slice A574 (l576).length c575), (6, .slice A671 ((l581 ++ ([(IntKind.wrap .i32 (bt p1 x584))] : List Int))).length c672), (12, .int .i64 x584)]) rfl trivial fun a hk => ?_
            refine wpListIn_nil ?_
            refine then_n ?_
            refine wpIn_region_lit ?_
            refine x_run tab hk (k := 6) (lv := []) (ks := [1, 6, 12, 82, 87]) (e' := [(1, .string p1), (6, .slice A671 ((l581 ++ ([(IntKind.wrap .i32 (bt p1 x584))] : List Int))).length c672), (12, .int .i64 x584), (82, .slice A574 (l576).length c575), (87, .agg #[.int .i64 1, .int .i64 (IntKind.wrap .i64 (bt p1 x584)), .int .i64 0, .bool false, .slice none 0 0, .string (⟨#[]⟩ : ByteArray)])]) rfl ⟨q660, trivial⟩ fun a hk => ?_
            refine x_op hk rfl ?_
            refine op_slice (o := o668) tab hk (vs := [.agg #[.int .i64 1, .int .i64 (IntKind.wrap .i64 (bt p1 x584)), .int .i64 0, .bool false, .slice none 0 0, .string (⟨#[]⟩ : ByteArray)]]) (cs := [.int .i64 1, .int .i64 (IntKind.wrap .i64 (bt p1 x584)), .int .i64 0, .bool false, .slice none 0 0, .string (⟨#[]⟩ : ByteArray)]) rfl rfl rfl rfl rfl rfl rfl rfl rfl 76 fun bx678 w675 o676 st677 f679 => ?_
            replace f577 := f577.st st677 (by decide)
            replace f673 := f673.st st677 (by decide)
            replace fg0 := fg0.st st677 (by decide)
            replace hs := hs.loc0 st677 (by decide)
            have f680 : NOwn dT47 48 (some ⟨bx678, 0, none⟩) 1 ([(⟨1, (IntKind.wrap .i64 (bt p1 x584)), 0, false, ([] : List Int), (⟨#[]⟩ : ByteArray)⟩ : T47)] : List T47) w675 o676 76 1 := NOwn.litD (D := dT47) f679 [(⟨(⟨1, (IntKind.wrap .i64 (bt p1 x584)), 0, false, ([] : List Int), (⟨#[]⟩ : ByteArray)⟩ : T47), none, 0⟩ : NT47)] rfl (Inn.consD (D := dT47) (r := (⟨(⟨1, (IntKind.wrap .i64 (bt p1 x584)), 0, false, ([] : List Int), (⟨#[]⟩ : ByteArray)⟩ : T47), none, 0⟩ : NT47)) ((Ft.of_all (P := RdC (encInt .i64) none []) (fun _ h_ => absurd h_ (by simp)) _ _ _).imp fun _ h_ => ⟨h_, (by simp)⟩) (Inn.nilD _ _ _ _)) rfl (Nat.le_of_ble_eq_true rfl)
            have hk := hk.put 88 (.slice (some ⟨bx678, 0, none⟩) (([(⟨1, (IntKind.wrap .i64 (bt p1 x584)), 0, false, ([] : List Int), (⟨#[]⟩ : ByteArray)⟩ : T47)] : List T47)).length 1) rfl
            refine x_op hk rfl ?_
            obtain ⟨q684, H⟩ := ifS H
            refine op_appendN (o := o676) (D := dT47) (xs := l576) (ys := ([(⟨1, (IntKind.wrap .i64 (bt p1 x584)), 0, false, ([] : List Int), (⟨#[]⟩ : ByteArray)⟩ : T47)] : List T47)) tab hk rfl rfl rfl rfl rfl rfl rfl f577 f680.rd (by decide) q684 fun A685 c686 w681 o682 st683 f687 hc688 => ?_
            replace f673 := f673.st st683 (by decide)
            replace f680 := f680.st st683 (by decide)
            replace fg0 := fg0.st st683 (by decide)
            replace hs := hs.loc0 st683 (by decide)
            have hk := hk.put 89 (.slice A685 ((l576 ++ ([(⟨1, (IntKind.wrap .i64 (bt p1 x584)), 0, false, ([] : List Int), (⟨#[]⟩ : ByteArray)⟩ : T47)] : List T47))).length c686) rfl
            refine x_run tab hk (k := 1) (lv := []) (ks := [1, 5, 6, 12]) (e' := [(1, .string p1), (5, .slice A685 ((l576 ++ ([(⟨1, (IntKind.wrap .i64 (bt p1 x584)), 0, false, ([] : List Int), (⟨#[]⟩ : ByteArray)⟩ : T47)] : List T47))).length c686), (6, .slice A671 ((l581 ++ ([(IntKind.wrap .i32 (bt p1 x584))] : List Int))).length c672), (12, .int .i64 x584)]) rfl trivial fun a hk => ?_
            refine wpListIn_nil ?_
            refine blk_n ?_
            refine then_n ?_
            refine wpIn_region_lit ?_
            refine x_run tab hk (k := 3) (lv := []) (ks := [1, 5, 6, 12]) (e' := [(1, .string p1), (5, .slice A685 ((l576 ++ ([(⟨1, (IntKind.wrap .i64 (bt p1 x584)), 0, false, ([] : List Int), (⟨#[]⟩ : ByteArray)⟩ : T47)] : List T47))).length c686), (6, .slice A671 ((l581 ++ ([(IntKind.wrap .i32 (bt p1 x584))] : List Int))).length c672), (12, .int .i64 (IntKind.wrap .i64 (x584 + 1)))]) rfl trivial fun a hk => ?_
            refine wpListIn_nil ?_
            refine then_n ?_
            exact ⟨k638, Nat.le_refl _, (fun b_ => (fun l_ => if l_ = 73 then 63 else if l_ = 74 then 64 else l_) (o682 b_)), A685, c686, (l576 ++ ([(⟨1, (IntKind.wrap .i64 (bt p1 x584)), 0, false, ([] : List Int), (⟨#[]⟩ : ByteArray)⟩ : T47)] : List T47)), A671, c672, (l581 ++ ([(IntKind.wrap .i32 (bt p1 x584))] : List Int)), (IntKind.wrap .i64 (x584 + 1)), (by exact Kn.pick (ks := [1, 5, 6, 12]) hk rfl), (hs.relab0 (fun l_ => if l_ = 73 then 63 else if l_ = 74 then 64 else l_) rfl), (f687.relab (fun l_ => if l_ = 73 then 63 else if l_ = 74 then 64 else l_) rfl), (f673.relab (fun l_ => if l_ = 73 then 63 else if l_ = 74 then 64 else l_) rfl), (fg0.relab (fun l_ => if l_ = 73 then 63 else if l_ = 74 then 64 else l_) rfl), hc688, hc674, (hlp640 ▸ H)⟩
        refine wpIn_region_lit ?_
        obtain ⟨q689, H⟩ := ifS H
        refine x_run tab hk (k := 5) (lv := []) (ks := [1, 5, 6, 12, 69]) (e' := [(1, .string p1), (5, .slice A574 (l576).length c575), (6, .slice A579 (l581).length c580), (12, .int .i64 x584), (69, .bool (decide ((bt p1 x584) ≥ (32 : Int))))]) rfl ⟨q689, trivial⟩ fun a hk => ?_
        cases b690 : (decide ((bt p1 x584) ≥ (32 : Int)))
        · rw [b690] at hk H
          replace H := bifF H
          refine x_run tab hk (k := 5) (lv := []) (ks := [1, 5, 6, 12, 74]) (e' := [(1, .string p1), (5, .slice A574 (l576).length c575), (6, .slice A579 (l581).length c580), (12, .int .i64 x584), (74, .bool false)]) rfl trivial fun a hk => ?_
          refine wpListIn_nil ?_
          refine then_n ?_
          exact ⟨(fun b_ => (fun l_ => if l_ = 71 then 73 else if l_ = 72 then 74 else l_) (o646 b_)), false, (by exact Kn.pick (ks := [1, 5, 6, 12, 74]) hk rfl), (hs.relab0 (fun l_ => if l_ = 71 then 73 else if l_ = 72 then 74 else l_) rfl), (f577.relab (fun l_ => if l_ = 71 then 73 else if l_ = 72 then 74 else l_) rfl), (f582.relab (fun l_ => if l_ = 71 then 73 else if l_ = 72 then 74 else l_) rfl), (fg0.relab (fun l_ => if l_ = 71 then 73 else if l_ = 72 then 74 else l_) rfl), H⟩
        · rw [b690] at hk H
          replace H := bifT H
          refine x_run tab hk (k := 5) (lv := []) (ks := [1, 5, 6, 12, 74]) (e' := [(1, .string p1), (5, .slice A574 (l576).length c575), (6, .slice A579 (l581).length c580), (12, .int .i64 x584), (74, .bool (decide ((bt p1 x584) < (127 : Int))))]) rfl ⟨q689, trivial⟩ fun a hk => ?_
          refine wpListIn_nil ?_
          refine then_n ?_
          exact ⟨(fun b_ => (fun l_ => if l_ = 71 then 73 else if l_ = 72 then 74 else l_) (o646 b_)), (decide ((bt p1 x584) < (127 : Int))), (by exact Kn.pick (ks := [1, 5, 6, 12, 74]) hk rfl), (hs.relab0 (fun l_ => if l_ = 71 then 73 else if l_ = 72 then 74 else l_) rfl), (f577.relab (fun l_ => if l_ = 71 then 73 else if l_ = 72 then 74 else l_) rfl), (f582.relab (fun l_ => if l_ = 71 then 73 else if l_ = 72 then 74 else l_) rfl), (fg0.relab (fun l_ => if l_ = 71 then 73 else if l_ = 72 then 74 else l_) rfl), H⟩
      refine x_seq ?_
      refine wpIn_region_lit ?_
      refine x_run tab hk (k := 5) (lv := []) (ks := [1, 5, 6, 12, 59]) (e' := [(1, .string p1), (5, .slice A574 (l576).length c575), (6, .slice A579 (l581).length c580), (12, .int .i64 x584), (59, .bool (decide (x584 < ((p1).size : Int))))]) rfl trivial fun a hk => ?_
      cases b691 : (decide (x584 < ((p1).size : Int)))
      · rw [b691] at hk H
        replace H := bifF H
        refine x_run tab hk (k := 3) (lv := []) (ks := [1, 5, 6, 12, 62]) (e' := [(1, .string p1), (5, .slice A574 (l576).length c575), (6, .slice A579 (l581).length c580), (12, .int .i64 x584), (62, .bool false)]) rfl trivial fun a hk => ?_
        refine wpListIn_nil ?_
        refine then_n ?_
        refine x_if hk (b := false) rfl ?_
        refine (show Code.wpIn _ _ _ _ _ _ _ from ?_)
        refine wpIn_exit ?_
        refine then_x ?_
        refine then_x ?_
        refine blk_x ?_
        refine then_n ?_
        exact ⟨(fun b_ => (fun l_ => if l_ = 63 then 49 else if l_ = 64 then 50 else l_) (o573 b_)), A574, c575, l576, A579, c580, l581, (by exact Kn.pick (ks := [5, 6]) hk rfl), (hs.relab0 (fun l_ => if l_ = 63 then 49 else if l_ = 64 then 50 else l_) rfl), (f577.relab (fun l_ => if l_ = 63 then 49 else if l_ = 64 then 50 else l_) rfl), (f582.relab (fun l_ => if l_ = 63 then 49 else if l_ = 64 then 50 else l_) rfl), (fg0.relab (fun l_ => if l_ = 63 then 49 else if l_ = 64 then 50 else l_) rfl), hc578, hc583, H⟩
      · rw [b691] at hk H
        replace H := bifT H
        refine x_run tab hk (k := 3) (lv := []) (ks := [1, 5, 6, 12, 62]) (e' := [(1, .string p1), (5, .slice A574 (l576).length c575), (6, .slice A579 (l581).length c580), (12, .int .i64 x584), (62, .bool (decide (x584 < (50 : Int))))]) rfl trivial fun a hk => ?_
        refine wpListIn_nil ?_
        refine then_n ?_
        cases b692 : (decide (x584 < (50 : Int)))
        · rw [b692] at hk H
          replace H := bifF H
          refine x_if hk (b := false) rfl ?_
          refine (show Code.wpIn _ _ _ _ _ _ _ from ?_)
          refine wpIn_exit ?_
          refine then_x ?_
          refine then_x ?_
          refine blk_x ?_
          refine then_n ?_
          exact ⟨(fun b_ => (fun l_ => if l_ = 63 then 49 else if l_ = 64 then 50 else l_) (o573 b_)), A574, c575, l576, A579, c580, l581, (by exact Kn.pick (ks := [5, 6]) hk rfl), (hs.relab0 (fun l_ => if l_ = 63 then 49 else if l_ = 64 then 50 else l_) rfl), (f577.relab (fun l_ => if l_ = 63 then 49 else if l_ = 64 then 50 else l_) rfl), (f582.relab (fun l_ => if l_ = 63 then 49 else if l_ = 64 then 50 else l_) rfl), (fg0.relab (fun l_ => if l_ = 63 then 49 else if l_ = 64 then 50 else l_) rfl), hc578, hc583, H⟩
        · rw [b692] at hk H
          replace H := bifT H
          refine x_if hk (b := true) rfl ?_
          refine (show Code.wpIn _ _ _ _ _ _ _ from ?_)
          refine wpIn_skip ?_
          refine then_n ?_
          exact ⟨(fun b_ => (fun l_ => if l_ = 63 then 71 else if l_ = 64 then 72 else l_) (o573 b_)), (by exact Kn.pick (ks := [1, 5, 6, 12]) hk rfl), (hs.relab0 (fun l_ => if l_ = 63 then 71 else if l_ = 64 then 72 else l_) rfl), (f577.relab (fun l_ => if l_ = 63 then 71 else if l_ = 64 then 72 else l_) rfl), (f582.relab (fun l_ => if l_ = 63 then 71 else if l_ = 64 then 72 else l_) rfl), (fg0.relab (fun l_ => if l_ = 63 then 71 else if l_ = 64 then 72 else l_) rfl), H⟩
    refine x_seq ?_
    refine wpIn_region_lit ?_
    refine x_run tab hk (k := 1) (lv := []) (ks := [0, 1, 5, 6, 7]) (e' := [(0, .slice Ap0 (p0).length cp0), (1, .string p1), (5, .slice none 0 0), (6, .slice none 0 0), (7, .int .i64 0)]) rfl trivial fun a hk => ?_
    refine wpListIn_nil ?_
    refine then_n ?_
    refine wpIn_block ?_
    refine x_loop (fun j_ a_ w_ => ∃ o769 : Nat → Nat, ∃ A770 : Option Addr, ∃ c771 : Nat, ∃ l772 : List T47, ∃ A775 : Option Addr, ∃ c776 : Nat, ∃ l777 : List Int, ∃ x780 : Int, Kn 95 a_ [(0, .slice Ap0 (p0).length cp0), (1, .string p1), (5, .slice A770 (l772).length c771), (6, .slice A775 (l777).length c776), (7, .int .i64 x780)] ∧ St [] w (fun _ => 0) w_ o769 ∧ NOwn dT47 48 A770 c771 l772 w_ o769 82 1 ∧ Ft (Own (encInt .i32) 21 (.slice A775 (l777).length c776) l777) w_ o769 83 ∧ Ft (RdC (encInt .i32) Ap0 p0) w_ o769 0 ∧ Ft (RdC ET70 (some ⟨0, 0, none⟩) glob0) w_ o769 0 ∧ (l772).length ≤ c771 ∧ (l777).length ≤ c776 ∧ tidewracklaw07_SeqPrints_l6 K p0 p1 j_ l772 l777 x780 = some r) (k := K) ⟨o7, none, 0, ([] : List T47), none, 0, ([] : List Int), 0, (by exact Kn.pick (ks := [0, 1, 5, 6, 7]) hk rfl), hs, (NOwn.nil _ _ _ _ _ _), (Ft.of_all (fun _ => Own.nil _ _ _) _ _ _), f900000, fg0, (by simp), (by simp), H⟩ (by rintro _ _ ⟨_, _, _, _, _, _, _, _, _, _, _, _, _, _, _, _, H_⟩; exact absurd (show (none : Option Bool) = some r from H_) (by simp)) ?_
    rintro k855 a w854 ⟨o769, A770, c771, l772, A775, c776, l777, x780, hk, hs, f773, f778, f900000, fg0, hc774, hc779, H⟩
    rw [tidewracklaw07_SeqPrints_l6] at H
    obtain ⟨lp856, hlp857⟩ : ∃ lp_, lp_ = tidewracklaw07_SeqPrints_l6 K p0 p1 k855 := ⟨_, rfl⟩
    rw [← hlp857] at H
    refine x_mid (fun a_ w_ => ∃ o863 : Nat → Nat, Kn 95 a_ [(0, .slice Ap0 (p0).length cp0), (1, .string p1), (5, .slice A770 (l772).length c771), (6, .slice A775 (l777).length c776), (7, .int .i64 x780)] ∧ St [] w (fun _ => 0) w_ o863 ∧ NOwn dT47 48 A770 c771 l772 w_ o863 91 1 ∧ Ft (Own (encInt .i32) 21 (.slice A775 (l777).length c776) l777) w_ o863 92 ∧ Ft (RdC (encInt .i32) Ap0 p0) w_ o863 0 ∧ Ft (RdC ET70 (some ⟨0, 0, none⟩) glob0) w_ o863 0 ∧ tidewracklaw07_SeqPrints_j7 K p0 l772 l777 x780 lp856 = some r) ?_ ?_
    rotate_left
    · rintro a w864 ⟨o863, hk, hs, f773, f778, f900000, fg0, H⟩
      rw [tidewracklaw07_SeqPrints_j7] at H
      refine x_seq ?_
      refine wpIn_block ?_
      refine x_seq ?_
      refine wpIn_region_lit ?_
      obtain ⟨q865, H⟩ := ifS H
      obtain ⟨ad866, hAad866⟩ := RdC.addr f900000.now q865
      have hk_C := hk
      have f773_C := f773
      have f778_C := f778
      have f900000_C := f900000
      have fg0_C := fg0
      subst hAad866
      have hk := hk_C
      clear hk_C
      have f773 := f773_C
      clear f773_C
      have f778 := f778_C
      clear f778_C
      have f900000 := f900000_C
      clear f900000_C
      have fg0 := fg0_C
      clear fg0_C
      refine x_run tab hk (k := 5) (lv := [.int .i32 (rdD 0 p0 x780)]) (ks := [0, 1, 5, 6, 7, 8]) (e' := [(0, .slice (some ad866) (p0).length cp0), (1, .string p1), (5, .slice A770 (l772).length c771), (6, .slice A775 (l777).length c776), (7, .int .i64 x780), (8, .int .i32 (rdD 0 p0 x780))]) rfl ⟨q865, (load1 tab rfl (RdC.at0 (E := (encInt .i32)) (d := 0) (i := x780) f900000.now q865 rfl)), trivial⟩ fun a hk => ?_
      refine wpListIn_nil ?_
      refine then_n ?_
      refine x_mid (fun a_ w_ => ∃ o874 : Nat → Nat, ∃ x875 : Bool, Kn 95 a_ [(0, .slice (some ad866) (p0).length cp0), (1, .string p1), (5, .slice A770 (l772).length c771), (6, .slice A775 (l777).length c776), (7, .int .i64 x780), (8, .int .i32 (rdD 0 p0 x780)), (35, .bool x875)] ∧ St [] w (fun _ => 0) w_ o874 ∧ NOwn dT47 48 A770 c771 l772 w_ o874 93 1 ∧ Ft (Own (encInt .i32) 21 (.slice A775 (l777).length c776) l777) w_ o874 94 ∧ Ft (RdC (encInt .i32) (some ad866) p0) w_ o874 0 ∧ Ft (RdC ET70 (some ⟨0, 0, none⟩) glob0) w_ o874 0 ∧ tidewracklaw07_SeqPrints_j8 K p0 l772 l777 x780 lp856 x875 = some r) ?_ ?_
      rotate_left
      · rintro a w876 ⟨o874, x875, hk, hs, f773, f778, f900000, fg0, H⟩
        rw [tidewracklaw07_SeqPrints_j8] at H
        cases b877 : x875
        · rw [b877] at hk H
          replace H := bifF H
          refine x_if hk (b := false) rfl ?_
          refine (show Code.wpIn _ _ _ _ _ _ _ from ?_)
          refine wpIn_skip ?_
          refine blk_n ?_
          refine then_n ?_
          refine wpIn_region_lit ?_
          refine x_run tab hk (k := 3) (lv := []) (ks := [0, 1, 5, 6, 7]) (e' := [(0, .slice (some ad866) (p0).length cp0), (1, .string p1), (5, .slice A770 (l772).length c771), (6, .slice A775 (l777).length c776), (7, .int .i64 (IntKind.wrap .i64 (x780 + 1)))]) rfl trivial fun a hk => ?_
          refine wpListIn_nil ?_
          refine then_n ?_
          exact ⟨k855, Nat.le_refl _, (fun b_ => (fun l_ => if l_ = 93 then 82 else if l_ = 94 then 83 else l_) (o874 b_)), A770, c771, l772, A775, c776, l777, (IntKind.wrap .i64 (x780 + 1)), (by exact Kn.pick (ks := [0, 1, 5, 6, 7]) hk rfl), (hs.relab0 (fun l_ => if l_ = 93 then 82 else if l_ = 94 then 83 else l_) rfl), (f773.relab (fun l_ => if l_ = 93 then 82 else if l_ = 94 then 83 else l_) rfl), (f778.relab (fun l_ => if l_ = 93 then 82 else if l_ = 94 then 83 else l_) rfl), (f900000.relab (fun l_ => if l_ = 93 then 82 else if l_ = 94 then 83 else l_) rfl), (fg0.relab (fun l_ => if l_ = 93 then 82 else if l_ = 94 then 83 else l_) rfl), hc774, hc779, (hlp857 ▸ H)⟩
        · rw [b877] at hk H
          replace H := bifT H
          refine x_if hk (b := true) rfl ?_
          refine (show Code.wpIn _ _ _ _ _ _ _ from ?_)
          refine x_seq ?_
          refine wpIn_region_lit ?_
          refine x_run tab hk (k := 2) (lv := []) (ks := [0, 1, 5, 6, 7, 8, 37]) (e' := [(0, .slice (some ad866) (p0).length cp0), (1, .string p1), (5, .slice A770 (l772).length c771), (6, .slice A775 (l777).length c776), (7, .int .i64 x780), (8, .int .i32 (rdD 0 p0 x780)), (37, .int .i64 (IntKind.wrap .i64 (rdD 0 p0 x780)))]) rfl trivial fun a hk => ?_
          refine x_op hk rfl ?_
          obtain ⟨t881, hc882, H⟩ := bindS H
          refine op_call hk ent_15 (vs := [.int .i64 (IntKind.wrap .i64 (rdD 0 p0 x780))]) rfl (tidewrackref05_Encode_calls (IntKind.wrap .i64 (rdD 0 p0 x780)) _ o874    _ hc882) ?_
          rintro _ w883 ⟨o884, rfl, st885⟩
          replace f773 := f773.st st885 (by decide)
          replace f778 := f778.st st885 (by decide)
          replace f900000 := f900000.st st885 (by decide)
          replace fg0 := fg0.st st885 (by decide)
          replace hs := hs.loc0 st885 (by decide)
          have hk := hk.put 38 (.string t881) rfl
          refine x_run tab hk (k := 1) (lv := []) (ks := [0, 1, 5, 6, 7, 8, 9]) (e' := [(0, .slice (some ad866) (p0).length cp0), (1, .string p1), (5, .slice A770 (l772).length c771), (6, .slice A775 (l777).length c776), (7, .int .i64 x780), (8, .int .i32 (rdD 0 p0 x780)), (9, .string t881)]) rfl trivial fun a hk => ?_
          refine wpListIn_nil ?_
          refine then_n ?_
          refine x_seq ?_
          refine wpIn_region_lit ?_
          refine x_run tab hk (k := 1) (lv := []) (ks := [0, 1, 5, 6, 7, 8, 40]) (e' := [(0, .slice (some ad866) (p0).length cp0), (1, .string p1), (5, .slice A770 (l772).length c771), (6, .slice A775 (l777).length c776), (7, .int .i64 x780), (8, .int .i32 (rdD 0 p0 x780)), (40, .string t881)]) rfl trivial fun a hk => ?_
          refine x_op hk rfl ?_
          obtain ⟨t889, hc890, H⟩ := bindS H
          refine op_call hk ent_16 (vs := [.string t881]) rfl (tidewrackref05_Runes_calls K t881 _ o884  95  _ hc890) ?_
          rintro _ w891 ⟨o892, A894, c895, rfl, st893, f896, hc897⟩
          replace f773 := f773.st st893 (by decide)
          replace f778 := f778.st st893 (by decide)
          replace f900000 := f900000.st st893 (by decide)
          replace fg0 := fg0.st st893 (by decide)
          replace hs := hs.loc0 st893 (by decide)
          have hk := hk.put 41 (.tuple #[.slice A894 (t889.1).length c895, .int .i64 t889.2]) rfl
          refine x_run tab hk (k := 5) (lv := []) (ks := [0, 1, 5, 6, 7, 8, 10]) (e' := [(0, .slice (some ad866) (p0).length cp0), (1, .string p1), (5, .slice A770 (l772).length c771), (6, .slice A775 (l777).length c776), (7, .int .i64 x780), (8, .int .i32 (rdD 0 p0 x780)), (10, .slice A894 (t889.1).length c895)]) rfl trivial fun a hk => ?_
          refine wpListIn_nil ?_
          refine then_n ?_
          refine x_seq ?_
          refine wpIn_region_lit ?_
          refine x_run tab hk (k := 2) (lv := []) (ks := [0, 1, 5, 7, 10, 44, 45]) (e' := [(0, .slice (some ad866) (p0).length cp0), (1, .string p1), (5, .slice A770 (l772).length c771), (7, .int .i64 x780), (10, .slice A894 (t889.1).length c895), (44, .slice A775 (l777).length c776), (45, .int .i32 (rdD 0 p0 x780))]) rfl trivial fun a hk => ?_
          refine x_op hk rfl ?_
          refine op_slice (o := o892) tab hk (vs := [.int .i32 (rdD 0 p0 x780)]) (cs := [.int .i32 (rdD 0 p0 x780)]) rfl rfl rfl rfl rfl rfl rfl rfl rfl 96 fun bx901 w898 o899 st900 f902 => ?_
          replace f773 := f773.st st900 (by decide)
          replace f778 := f778.st st900 (by decide)
          replace f896 := f896.st st900 (by decide)
          replace f900000 := f900000.st st900 (by decide)
          replace fg0 := fg0.st st900 (by decide)
          replace hs := hs.loc0 st900 (by decide)
          have f903 : Ft (Own (encInt .i32) 21 (.slice (some ⟨bx901, 0, none⟩) (([(rdD 0 p0 x780)] : List Int)).length 1) ([(rdD 0 p0 x780)] : List Int)) w898 o899 96 := f902.imp fun _ h_ => Own.of_box h_ rfl (by simp)
          have hk := hk.put 46 (.slice (some ⟨bx901, 0, none⟩) (([(rdD 0 p0 x780)] : List Int)).length 1) rfl
          refine x_op hk rfl ?_
          obtain ⟨q907, H⟩ := ifS H
          refine op_append (o := o899) (E := (encInt .i32)) (xs := l777) (ys := ([(rdD 0 p0 x780)] : List Int)) tab hk rfl rfl rfl rfl rfl rfl rfl f778 (Own.rd f903.now) q907 fun A908 c909 w904 o905 st906 f910 hc911 => ?_
          replace f773 := f773.st st906 (by decide)
          replace f896 := f896.st st906 (by decide)
          replace f900000 := f900000.st st906 (by decide)
          replace f903 := f903.st st906 (by decide)
          replace fg0 := fg0.st st906 (by decide)
          replace hs := hs.loc0 st906 (by decide)
          have hk := hk.put 47 (.slice A908 ((l777 ++ ([(rdD 0 p0 x780)] : List Int))).length c909) rfl
          refine x_run tab hk (k := 1) (lv := []) (ks := [0, 1, 5, 6, 7, 10]) (e' := [(0, .slice (some ad866) (p0).length cp0), (1, .string p1), (5, .slice A770 (l772).length c771), (6, .slice A908 ((l777 ++ ([(rdD 0 p0 x780)] : List Int))).length c909), (7, .int .i64 x780), (10, .slice A894 (t889.1).length c895)]) rfl trivial fun a hk => ?_
          refine wpListIn_nil ?_
          refine then_n ?_
          refine wpIn_region_lit ?_
          obtain ⟨q912, H⟩ := ifS H
          obtain ⟨ad913, hAad913⟩ := RdC.addr (Own.rd f896.now) q912
          have hk_C := hk
          have f773_C := f773
          have f896_C := f896
          have f900000_C := f900000
          have f910_C := f910
          have fg0_C := fg0
          subst hAad913
          have hk := hk_C
          clear hk_C
          have f773 := f773_C
          clear f773_C
          have f896 := f896_C
          clear f896_C
          have f900000 := f900000_C
          clear f900000_C
          have f910 := f910_C
          clear f910_C
          have fg0 := fg0_C
          clear fg0_C
          refine x_run tab hk (k := 5) (lv := [.int .i64 (rdD 0 t889.1 0)]) (ks := [0, 1, 6, 7, 48, 52]) (e' := [(0, .slice (some ad866) (p0).length cp0), (1, .string p1), (6, .slice A908 ((l777 ++ ([(rdD 0 p0 x780)] : List Int))).length c909), (7, .int .i64 x780), (48, .slice A770 (l772).length c771), (52, .agg #[.int .i64 1, .int .i64 (rdD 0 t889.1 0), .int .i64 0, .bool false, .slice none 0 0, .string (⟨#[]⟩ : ByteArray)])]) rfl ⟨q912, (load1 tab rfl (RdC.at0 (E := (encInt .i64)) (d := 0) (i := (0 : Int)) (Own.rd f896.now) q912 rfl)), trivial⟩ fun a hk => ?_
          refine x_op hk rfl ?_
          refine op_slice (o := o905) tab hk (vs := [.agg #[.int .i64 1, .int .i64 (rdD 0 t889.1 0), .int .i64 0, .bool false, .slice none 0 0, .string (⟨#[]⟩ : ByteArray)]]) (cs := [.int .i64 1, .int .i64 (rdD 0 t889.1 0), .int .i64 0, .bool false, .slice none 0 0, .string (⟨#[]⟩ : ByteArray)]) rfl rfl rfl rfl rfl rfl rfl rfl rfl 97 fun bx917 w914 o915 st916 f918 => ?_
          replace f773 := f773.st st916 (by decide)
          replace f900000 := f900000.st st916 (by decide)
          replace f910 := f910.st st916 (by decide)
          replace fg0 := fg0.st st916 (by decide)
          replace hs := hs.loc0 st916 (by decide)
          have f919 : NOwn dT47 48 (some ⟨bx917, 0, none⟩) 1 ([(⟨1, (rdD 0 t889.1 0), 0, false, ([] : List Int), (⟨#[]⟩ : ByteArray)⟩ : T47)] : List T47) w914 o915 97 1 := NOwn.litD (D := dT47) f918 [(⟨(⟨1, (rdD 0 t889.1 0), 0, false, ([] : List Int), (⟨#[]⟩ : ByteArray)⟩ : T47), none, 0⟩ : NT47)] rfl (Inn.consD (D := dT47) (r := (⟨(⟨1, (rdD 0 t889.1 0), 0, false, ([] : List Int), (⟨#[]⟩ : ByteArray)⟩ : T47), none, 0⟩ : NT47)) ((Ft.of_all (P := RdC (encInt .i64) none []) (fun _ h_ => absurd h_ (by simp)) _ _ _).imp fun _ h_ => ⟨h_, (by simp)⟩) (Inn.nilD _ _ _ _)) rfl (Nat.le_of_ble_eq_true rfl)
          have hk := hk.put 53 (.slice (some ⟨bx917, 0, none⟩) (([(⟨1, (rdD 0 t889.1 0), 0, false, ([] : List Int), (⟨#[]⟩ : ByteArray)⟩ : T47)] : List T47)).length 1) rfl
          refine x_op hk rfl ?_
          obtain ⟨q923, H⟩ := ifS H
          refine op_appendN (o := o915) (D := dT47) (xs := l772) (ys := ([(⟨1, (rdD 0 t889.1 0), 0, false, ([] : List Int), (⟨#[]⟩ : ByteArray)⟩ : T47)] : List T47)) tab hk rfl rfl rfl rfl rfl rfl rfl f773 f919.rd (by decide) q923 fun A924 c925 w920 o921 st922 f926 hc927 => ?_
          replace f900000 := f900000.st st922 (by decide)
          replace f910 := f910.st st922 (by decide)
          replace f919 := f919.st st922 (by decide)
          replace fg0 := fg0.st st922 (by decide)
          replace hs := hs.loc0 st922 (by decide)
          have hk := hk.put 54 (.slice A924 ((l772 ++ ([(⟨1, (rdD 0 t889.1 0), 0, false, ([] : List Int), (⟨#[]⟩ : ByteArray)⟩ : T47)] : List T47))).length c925) rfl
          refine x_run tab hk (k := 1) (lv := []) (ks := [0, 1, 5, 6, 7]) (e' := [(0, .slice (some ad866) (p0).length cp0), (1, .string p1), (5, .slice A924 ((l772 ++ ([(⟨1, (rdD 0 t889.1 0), 0, false, ([] : List Int), (⟨#[]⟩ : ByteArray)⟩ : T47)] : List T47))).length c925), (6, .slice A908 ((l777 ++ ([(rdD 0 p0 x780)] : List Int))).length c909), (7, .int .i64 x780)]) rfl trivial fun a hk => ?_
          refine wpListIn_nil ?_
          refine blk_n ?_
          refine then_n ?_
          refine wpIn_region_lit ?_
          refine x_run tab hk (k := 3) (lv := []) (ks := [0, 1, 5, 6, 7]) (e' := [(0, .slice (some ad866) (p0).length cp0), (1, .string p1), (5, .slice A924 ((l772 ++ ([(⟨1, (rdD 0 t889.1 0), 0, false, ([] : List Int), (⟨#[]⟩ : ByteArray)⟩ : T47)] : List T47))).length c925), (6, .slice A908 ((l777 ++ ([(rdD 0 p0 x780)] : List Int))).length c909), (7, .int .i64 (IntKind.wrap .i64 (x780 + 1)))]) rfl trivial fun a hk => ?_
          refine wpListIn_nil ?_
          refine then_n ?_
          exact ⟨k855, Nat.le_refl _, (fun b_ => (fun l_ => if l_ = 93 then 82 else if l_ = 94 then 83 else l_) (o921 b_)), A924, c925, (l772 ++ ([(⟨1, (rdD 0 t889.1 0), 0, false, ([] : List Int), (⟨#[]⟩ : ByteArray)⟩ : T47)] : List T47)), A908, c909, (l777 ++ ([(rdD 0 p0 x780)] : List Int)), (IntKind.wrap .i64 (x780 + 1)), (by exact Kn.pick (ks := [0, 1, 5, 6, 7]) hk rfl), (hs.relab0 (fun l_ => if l_ = 93 then 82 else if l_ = 94 then 83 else l_) rfl), (f926.relab (fun l_ => if l_ = 93 then 82 else if l_ = 94 then 83 else l_) rfl), (f910.relab (fun l_ => if l_ = 93 then 82 else if l_ = 94 then 83 else l_) rfl), (f900000.relab (fun l_ => if l_ = 93 then 82 else if l_ = 94 then 83 else l_) rfl), (fg0.relab (fun l_ => if l_ = 93 then 82 else if l_ = 94 then 83 else l_) rfl), hc927, hc911, (hlp857 ▸ H)⟩
      refine wpIn_region_lit ?_
      refine x_run tab hk (k := 3) (lv := []) (ks := [0, 1, 5, 6, 7, 8, 32]) (e' := [(0, .slice (some ad866) (p0).length cp0), (1, .string p1), (5, .slice A770 (l772).length c771), (6, .slice A775 (l777).length c776), (7, .int .i64 x780), (8, .int .i32 (rdD 0 p0 x780)), (32, .bool (decide ((rdD 0 p0 x780) ≥ (32 : Int))))]) rfl trivial fun a hk => ?_
      cases b928 : (decide ((rdD 0 p0 x780) ≥ (32 : Int)))
      · rw [b928] at hk H
        replace H := bifF H
        refine x_run tab hk (k := 3) (lv := []) (ks := [0, 1, 5, 6, 7, 8, 35]) (e' := [(0, .slice (some ad866) (p0).length cp0), (1, .string p1), (5, .slice A770 (l772).length c771), (6, .slice A775 (l777).length c776), (7, .int .i64 x780), (8, .int .i32 (rdD 0 p0 x780)), (35, .bool false)]) rfl trivial fun a hk => ?_
        refine wpListIn_nil ?_
        refine then_n ?_
        exact ⟨(fun b_ => (fun l_ => if l_ = 91 then 93 else if l_ = 92 then 94 else l_) (o863 b_)), false, (by exact Kn.pick (ks := [0, 1, 5, 6, 7, 8, 35]) hk rfl), (hs.relab0 (fun l_ => if l_ = 91 then 93 else if l_ = 92 then 94 else l_) rfl), (f773.relab (fun l_ => if l_ = 91 then 93 else if l_ = 92 then 94 else l_) rfl), (f778.relab (fun l_ => if l_ = 91 then 93 else if l_ = 92 then 94 else l_) rfl), (f900000.relab (fun l_ => if l_ = 91 then 93 else if l_ = 92 then 94 else l_) rfl), (fg0.relab (fun l_ => if l_ = 91 then 93 else if l_ = 92 then 94 else l_) rfl), H⟩
      · rw [b928] at hk H
        replace H := bifT H
        refine x_run tab hk (k := 3) (lv := []) (ks := [0, 1, 5, 6, 7, 8, 35]) (e' := [(0, .slice (some ad866) (p0).length cp0), (1, .string p1), (5, .slice A770 (l772).length c771), (6, .slice A775 (l777).length c776), (7, .int .i64 x780), (8, .int .i32 (rdD 0 p0 x780)), (35, .bool ((rdD 0 p0 x780) != (127 : Int)))]) rfl trivial fun a hk => ?_
        refine wpListIn_nil ?_
        refine then_n ?_
        exact ⟨(fun b_ => (fun l_ => if l_ = 91 then 93 else if l_ = 92 then 94 else l_) (o863 b_)), ((rdD 0 p0 x780) != (127 : Int)), (by exact Kn.pick (ks := [0, 1, 5, 6, 7, 8, 35]) hk rfl), (hs.relab0 (fun l_ => if l_ = 91 then 93 else if l_ = 92 then 94 else l_) rfl), (f773.relab (fun l_ => if l_ = 91 then 93 else if l_ = 92 then 94 else l_) rfl), (f778.relab (fun l_ => if l_ = 91 then 93 else if l_ = 92 then 94 else l_) rfl), (f900000.relab (fun l_ => if l_ = 91 then 93 else if l_ = 92 then 94 else l_) rfl), (fg0.relab (fun l_ => if l_ = 91 then 93 else if l_ = 92 then 94 else l_) rfl), H⟩
    refine x_seq ?_
    refine wpIn_region_lit ?_
    refine x_run tab hk (k := 5) (lv := []) (ks := [0, 1, 5, 6, 7, 20]) (e' := [(0, .slice Ap0 (p0).length cp0), (1, .string p1), (5, .slice A770 (l772).length c771), (6, .slice A775 (l777).length c776), (7, .int .i64 x780), (20, .bool (decide (x780 < ((p0).length : Int))))]) rfl trivial fun a hk => ?_
    cases b929 : (decide (x780 < ((p0).length : Int)))
    · rw [b929] at hk H
      replace H := bifF H
      refine x_run tab hk (k := 3) (lv := []) (ks := [0, 1, 5, 6, 7, 23]) (e' := [(0, .slice Ap0 (p0).length cp0), (1, .string p1), (5, .slice A770 (l772).length c771), (6, .slice A775 (l777).length c776), (7, .int .i64 x780), (23, .bool false)]) rfl trivial fun a hk => ?_
      refine wpListIn_nil ?_
      refine then_n ?_
      refine x_if hk (b := false) rfl ?_
      refine (show Code.wpIn _ _ _ _ _ _ _ from ?_)
      refine wpIn_exit ?_
      refine then_x ?_
      refine then_x ?_
      refine blk_x ?_
      refine then_n ?_
      exact ⟨(fun b_ => (fun l_ => if l_ = 82 then 25 else if l_ = 83 then 26 else l_) (o769 b_)), A770, c771, l772, A775, c776, l777, (by exact Kn.pick (ks := [1, 5, 6]) hk rfl), (hs.relab0 (fun l_ => if l_ = 82 then 25 else if l_ = 83 then 26 else l_) rfl), (f773.relab (fun l_ => if l_ = 82 then 25 else if l_ = 83 then 26 else l_) rfl), (f778.relab (fun l_ => if l_ = 82 then 25 else if l_ = 83 then 26 else l_) rfl), (fg0.relab (fun l_ => if l_ = 82 then 25 else if l_ = 83 then 26 else l_) rfl), hc774, hc779, H⟩
    · rw [b929] at hk H
      replace H := bifT H
      refine x_run tab hk (k := 3) (lv := []) (ks := [0, 1, 5, 6, 7, 23]) (e' := [(0, .slice Ap0 (p0).length cp0), (1, .string p1), (5, .slice A770 (l772).length c771), (6, .slice A775 (l777).length c776), (7, .int .i64 x780), (23, .bool (decide (x780 < (30 : Int))))]) rfl trivial fun a hk => ?_
      refine wpListIn_nil ?_
      refine then_n ?_
      cases b930 : (decide (x780 < (30 : Int)))
      · rw [b930] at hk H
        replace H := bifF H
        refine x_if hk (b := false) rfl ?_
        refine (show Code.wpIn _ _ _ _ _ _ _ from ?_)
        refine wpIn_exit ?_
        refine then_x ?_
        refine then_x ?_
        refine blk_x ?_
        refine then_n ?_
        exact ⟨(fun b_ => (fun l_ => if l_ = 82 then 25 else if l_ = 83 then 26 else l_) (o769 b_)), A770, c771, l772, A775, c776, l777, (by exact Kn.pick (ks := [1, 5, 6]) hk rfl), (hs.relab0 (fun l_ => if l_ = 82 then 25 else if l_ = 83 then 26 else l_) rfl), (f773.relab (fun l_ => if l_ = 82 then 25 else if l_ = 83 then 26 else l_) rfl), (f778.relab (fun l_ => if l_ = 82 then 25 else if l_ = 83 then 26 else l_) rfl), (fg0.relab (fun l_ => if l_ = 82 then 25 else if l_ = 83 then 26 else l_) rfl), hc774, hc779, H⟩
      · rw [b930] at hk H
        replace H := bifT H
        refine x_if hk (b := true) rfl ?_
        refine (show Code.wpIn _ _ _ _ _ _ _ from ?_)
        refine wpIn_skip ?_
        refine then_n ?_
        exact ⟨(fun b_ => (fun l_ => if l_ = 82 then 91 else if l_ = 83 then 92 else l_) (o769 b_)), (by exact Kn.pick (ks := [0, 1, 5, 6, 7]) hk rfl), (hs.relab0 (fun l_ => if l_ = 82 then 91 else if l_ = 83 then 92 else l_) rfl), (f773.relab (fun l_ => if l_ = 82 then 91 else if l_ = 83 then 92 else l_) rfl), (f778.relab (fun l_ => if l_ = 82 then 91 else if l_ = 83 then 92 else l_) rfl), (f900000.relab (fun l_ => if l_ = 82 then 91 else if l_ = 83 then 92 else l_) rfl), (fg0.relab (fun l_ => if l_ = 82 then 91 else if l_ = 83 then 92 else l_) rfl), H⟩
  · rw [b9] at hk H
    replace H := bifT H
    refine x_if hk (b := true) rfl ?_
    refine (show Code.wpIn _ _ _ _ _ _ _ from ?_)
    refine x_seq ?_
    refine wpIn_region_lit ?_
    refine x_run tab hk (k := 1) (lv := []) (ks := [4]) (e' := [(4, .bool false)]) rfl trivial fun a hk => ?_
    refine wpListIn_nil ?_
    refine then_n ?_
    refine wpIn_ret ?_
    refine then_r ?_
    obtain rfl := Option.some.inj H
    exact x_retG hk (rs := [.tmp 4]) (vs := [.bool false]) rfl ⟨rfl, trivial⟩ ⟨fun b_ => if b_ < w.heap.size then o b_ else (fun _ => 0) (o7 b_), rfl, hs.close0 o (fun _ => 0)⟩

end Go.Proofs.YthddmlhmejnhlaaDoor
