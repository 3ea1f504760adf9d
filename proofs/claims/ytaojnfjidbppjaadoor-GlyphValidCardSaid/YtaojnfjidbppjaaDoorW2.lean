/- Walks, printed by an own program: the machine's calls compute the plain functions. -/
import Derived.Test.YtaojnfjidbppjaaDoorW1
set_option linter.unusedVariables false
set_option linter.unusedSimpArgs false
namespace Go.Proofs.YtaojnfjidbppjaaDoor
open Go Go.Proofs.XC
/-! tidewrack/tidewracklaw05.GlyphParts -/
theorem tidewracklaw05_GlyphParts_calls (K : Nat) (p0 : ByteArray) (p1 : Int) (w : World) (o : Nat → Nat) (Lg0 : Nat) (hg0 : Ft (RdC ET47 (some ⟨0, 0, none⟩) glob0) w o Lg0)  (r : Bool) (H : tidewracklaw05_GlyphParts K p0 p1 = some r) :
    Calls Tryd.prog 4 #[.string p0, .int .i64 p1] w (Ret fun v_ w' => ∃ o' : Nat → Nat, v_ = .bool r ∧ St [] w o w' o') := by
  refine x_enter (vs := [.string p0, .int .i64 p1]) Tryd.func4 rfl rfl rfl fun a hk => ?_
  obtain ⟨o0, hs, h0⟩ := St.start w o
  have fg0 := h0 _ _ hg0
  clear h0
  rw [tidewracklaw05_GlyphParts] at H
  refine x_seq ?_
  refine wp_region_lit ?_
  refine x_run tab hk (k := 1) (lv := []) (ks := [0, 1]) (e' := [(0, .string p0), (1, .int .i64 p1)]) rfl trivial fun a hk => ?_
  refine wpList_nil ?_
  refine then_n ?_
  refine x_seq ?_
  refine x_seq ?_
  refine wp_region_lit ?_
  refine x_op hk rfl ?_
  obtain ⟨t4, hc5, H⟩ := bindS H
  refine op_call hk ent_8 (vs := []) rfl (tidewracklaw05_awake_calls K  _ o0 0 fg0   _ hc5) ?_
  rintro _ w6 ⟨o7, rfl, st8⟩
  replace fg0 := fg0.st st8 (by decide)
  replace hs := hs.loc0 st8 (by decide)
  have hk := hk.put 17 (.bool t4) rfl
  refine x_run tab hk (k := 1) (lv := []) (ks := [0, 1, 18]) (e' := [(0, .string p0), (1, .int .i64 p1), (18, .bool (!t4))]) rfl trivial fun a hk => ?_
  refine wpList_nil ?_
  refine then_n ?_
  cases b9 : (!t4)
  · rw [b9] at hk H
    replace H := bifF H
    refine x_if hk (b := false) rfl ?_
    refine (show Code.wp _ _ _ _ _ from ?_)
    refine wp_skip ?_
    refine then_n ?_
    refine x_seq ?_
    refine wp_region_lit ?_
    refine x_run tab hk (k := 1) (lv := []) (ks := [1, 19]) (e' := [(1, .int .i64 p1), (19, .string p0)]) rfl trivial fun a hk => ?_
    refine x_op hk rfl ?_
    obtain ⟨t13, hc14, H⟩ := bindS H
    refine op_call hk ent_9 (vs := [.string p0, .int .i64 80]) rfl (tidewracklaw01_Cut_calls p0 80 _ o7    _ hc14) ?_
    rintro _ w15 ⟨o16, rfl, st17⟩
    replace fg0 := fg0.st st17 (by decide)
    replace hs := hs.loc0 st17 (by decide)
    have hk := hk.put 20 (.string t13) rfl
    refine x_run tab hk (k := 1) (lv := []) (ks := [0, 1]) (e' := [(0, .string t13), (1, .int .i64 p1)]) rfl trivial fun a hk => ?_
    refine wpList_nil ?_
    refine then_n ?_
    refine x_seq ?_
    refine wp_region_lit ?_
    refine x_run tab hk (k := 6) (lv := []) (ks := [0, 1]) (e' := [(0, .string t13), (1, .int .i64 (if (if ((t13).size : Int) < p1 then ((t13).size : Int) else p1) > 0 then (if ((t13).size : Int) < p1 then ((t13).size : Int) else p1) else 0))]) rfl trivial fun a hk => ?_
    refine wpList_nil ?_
    refine then_n ?_
    refine x_seq ?_
    refine wp_region_lit ?_
    obtain ⟨q18, H⟩ := ifS H
    obtain ⟨q19, H⟩ := ifS H
    refine x_run tab hk (k := 4) (lv := []) (ks := [0, 1, 27, 30]) (e' := [(0, .string t13), (1, .int .i64 (if (if ((t13).size : Int) < p1 then ((t13).size : Int) else p1) > 0 then (if ((t13).size : Int) < p1 then ((t13).size : Int) else p1) else 0)), (27, .agg #[.int .u8 0, .int .i32 0, .int .i64 0]), (30, .string (ByteArray.extract t13 0 (Int.toNat (if (if ((t13).size : Int) < p1 then ((t13).size : Int) else p1) > 0 then (if ((t13).size : Int) < p1 then ((t13).size : Int) else p1) else 0))))]) rfl ⟨q18, q19, trivial⟩ fun a hk => ?_
    refine x_op hk rfl ?_
    obtain ⟨t23, hc24, H⟩ := bindS H
    refine op_call hk ent_10 (vs := [.agg #[.int .u8 0, .int .i32 0, .int .i64 0], .string (ByteArray.extract t13 0 (Int.toNat (if (if ((t13).size : Int) < p1 then ((t13).size : Int) else p1) > 0 then (if ((t13).size : Int) < p1 then ((t13).size : Int) else p1) else 0)))]) rfl (glyph_Decoder_Run_calls K (⟨0, 0, 0⟩ : T24) (ByteArray.extract t13 0 (Int.toNat (if (if ((t13).size : Int) < p1 then ((t13).size : Int) else p1) > 0 then (if ((t13).size : Int) < p1 then ((t13).size : Int) else p1) else 0))) _ o16 0 fg0 1  _ hc24) ?_
    rintro _ w25 ⟨o26, A28, c29, rfl, st27, f30, hc31⟩
    replace fg0 := fg0.st st27 (by decide)
    replace hs := hs.loc0 st27 (by decide)
    have hk := hk.put 31 (.tuple #[.agg #[.int .u8 t23.1.Lead, .int .i32 t23.1.Rune, .int .i64 t23.1.Need], .slice A28 (t23.2).length c29]) rfl
    refine x_run tab hk (k := 3) (lv := []) (ks := [0, 1, 32, 33]) (e' := [(0, .string t13), (1, .int .i64 (if (if ((t13).size : Int) < p1 then ((t13).size : Int) else p1) > 0 then (if ((t13).size : Int) < p1 then ((t13).size : Int) else p1) else 0)), (32, .agg #[.int .u8 t23.1.Lead, .int .i32 t23.1.Rune, .int .i64 t23.1.Need]), (33, .slice A28 (t23.2).length c29)]) rfl trivial fun a hk => ?_
    refine x_op hk rfl ?_
    refine op_alloc (o := o26) tab (t := 25) (cs := [.int .u8 0, .int .i32 0, .int .i64 0]) rfl rfl 2 fun bx35 w32 o33 st34 f36 => ?_
    replace f30 := f30.st st34 (by decide)
    replace fg0 := fg0.st st34 (by decide)
    replace hs := hs.loc0 st34 (by decide)
    have hk := hk.put 5 (.pointer (some ⟨bx35, 0, none⟩)) rfl
    refine x_op hk rfl ?_
    refine op_store tab hk (t := 25) (v := .agg #[.int .u8 t23.1.Lead, .int .i32 t23.1.Rune, .int .i64 t23.1.Need]) (b := bx35) (k := 0) (cs' := [.int .u8 t23.1.Lead, .int .i32 t23.1.Rune, .int .i64 t23.1.Need]) rfl rfl rfl rfl rfl rfl f36 rfl rfl fun w37 o38 st39 f36_ => ?_
    replace f30 := f30.st st39 (by decide)
    replace fg0 := fg0.st st39 (by decide)
    replace hs := hs.loc0 st39 (by decide)
    replace f36 := f36_
    refine x_run tab hk (k := 1) (lv := []) (ks := [0, 1, 5, 6]) (e' := [(0, .string t13), (1, .int .i64 (if (if ((t13).size : Int) < p1 then ((t13).size : Int) else p1) > 0 then (if ((t13).size : Int) < p1 then ((t13).size : Int) else p1) else 0)), (5, .pointer (some ⟨bx35, 0, none⟩)), (6, .slice A28 (t23.2).length c29)]) rfl trivial fun a hk => ?_
    refine wpList_nil ?_
    refine then_n ?_
    refine x_seq ?_
    refine x_cut (fun a_ w_ => ∃ o187 : Nat → Nat, ∃ bx188 : Nat, ∃ x190 : T24, ∃ A191 : Option Addr, ∃ c192 : Nat, ∃ l193 : List Int, Kn 95 a_ [(0, .string t13), (6, .slice A28 (t23.2).length c29), (7, .pointer (some ⟨bx188, 0, none⟩)), (8, .slice A191 (l193).length c192)] ∧ St [] w (fun _ => 0) w_ o187 ∧ Ft (Bx bx188 25 [.int .u8 x190.Lead, .int .i32 x190.Rune, .int .i64 x190.Need]) w_ o187 18 ∧ Ft (Own (encInt .i32) 21 (.slice A191 (l193).length c192) l193) w_ o187 19 ∧ Ft (Own (encInt .i32) 21 (.slice A28 (t23.2).length c29) t23.2) w_ o187 17 ∧ Ft (RdC ET47 (some ⟨0, 0, none⟩) glob0) w_ o187 0 ∧ (l193).length ≤ c192 ∧ tidewracklaw05_GlyphParts_j1 K t13 t23 x190 l193 = some r) ?_ ?_
    rotate_left
    · rintro a w196 ⟨o187, bx188, x190, A191, c192, l193, hk, hs, f189, f194, f30, fg0, hc195, H⟩
      rw [tidewracklaw05_GlyphParts_j1] at H
      refine then_n ?_
      refine x_seq ?_
      refine wp_region_lit ?_
      refine x_run tab hk (k := 2) (lv := []) (ks := [0, 6, 7, 8, 43, 44]) (e' := [(0, .string t13), (6, .slice A28 (t23.2).length c29), (7, .pointer (some ⟨bx188, 0, none⟩)), (8, .slice A191 (l193).length c192), (43, .agg #[.int .u8 0, .int .i32 0, .int .i64 0]), (44, .string t13)]) rfl trivial fun a hk => ?_
      refine x_op hk rfl ?_
      obtain ⟨t200, hc201, H⟩ := bindS H
      refine op_call hk ent_10 (vs := [.agg #[.int .u8 0, .int .i32 0, .int .i64 0], .string t13]) rfl (glyph_Decoder_Run_calls K (⟨0, 0, 0⟩ : T24) t13 _ o187 0 fg0 20  _ hc201) ?_
      rintro _ w202 ⟨o203, A205, c206, rfl, st204, f207, hc208⟩
      replace f189 := f189.st st204 (by decide)
      replace f194 := f194.st st204 (by decide)
      replace f30 := f30.st st204 (by decide)
      replace fg0 := fg0.st st204 (by decide)
      replace hs := hs.loc0 st204 (by decide)
      have hk := hk.put 45 (.tuple #[.agg #[.int .u8 t200.1.Lead, .int .i32 t200.1.Rune, .int .i64 t200.1.Need], .slice A205 (t200.2).length c206]) rfl
      refine x_run tab hk (k := 3) (lv := []) (ks := [0, 6, 7, 8, 46, 47]) (e' := [(0, .string t13), (6, .slice A28 (t23.2).length c29), (7, .pointer (some ⟨bx188, 0, none⟩)), (8, .slice A191 (l193).length c192), (46, .agg #[.int .u8 t200.1.Lead, .int .i32 t200.1.Rune, .int .i64 t200.1.Need]), (47, .slice A205 (t200.2).length c206)]) rfl trivial fun a hk => ?_
      refine x_op hk rfl ?_
      refine op_alloc (o := o203) tab (t := 25) (cs := [.int .u8 0, .int .i32 0, .int .i64 0]) rfl rfl 21 fun bx212 w209 o210 st211 f213 => ?_
      replace f189 := f189.st st211 (by decide)
      replace f194 := f194.st st211 (by decide)
      replace f207 := f207.st st211 (by decide)
      replace f30 := f30.st st211 (by decide)
      replace fg0 := fg0.st st211 (by decide)
      replace hs := hs.loc0 st211 (by decide)
      have hk := hk.put 9 (.pointer (some ⟨bx212, 0, none⟩)) rfl
      refine x_op hk rfl ?_
      refine op_store tab hk (t := 25) (v := .agg #[.int .u8 t200.1.Lead, .int .i32 t200.1.Rune, .int .i64 t200.1.Need]) (b := bx212) (k := 0) (cs' := [.int .u8 t200.1.Lead, .int .i32 t200.1.Rune, .int .i64 t200.1.Need]) rfl rfl rfl rfl rfl rfl f213 rfl rfl fun w214 o215 st216 f213_ => ?_
      replace f189 := f189.st st216 (by decide)
      replace f194 := f194.st st216 (by decide)
      replace f207 := f207.st st216 (by decide)
      replace f30 := f30.st st216 (by decide)
      replace fg0 := fg0.st st216 (by decide)
      replace hs := hs.loc0 st216 (by decide)
      replace f213 := f213_
      refine x_run tab hk (k := 1) (lv := []) (ks := [0, 6, 7, 8, 9, 10]) (e' := [(0, .string t13), (6, .slice A28 (t23.2).length c29), (7, .pointer (some ⟨bx188, 0, none⟩)), (8, .slice A191 (l193).length c192), (9, .pointer (some ⟨bx212, 0, none⟩)), (10, .slice A205 (t200.2).length c206)]) rfl trivial fun a hk => ?_
      refine wpList_nil ?_
      refine then_n ?_
      refine x_seq ?_
      refine wp_region_lit ?_
      refine x_op hk rfl ?_
      refine op_alloc (o := o215) tab (t := 25) (cs := [.int .u8 0, .int .i32 0, .int .i64 0]) rfl rfl 22 fun bx220 w217 o218 st219 f221 => ?_
      replace f189 := f189.st st219 (by decide)
      replace f194 := f194.st st219 (by decide)
      replace f207 := f207.st st219 (by decide)
      replace f213 := f213.st st219 (by decide)
      replace f30 := f30.st st219 (by decide)
      replace fg0 := fg0.st st219 (by decide)
      replace hs := hs.loc0 st219 (by decide)
      have hk := hk.put 11 (.pointer (some ⟨bx220, 0, none⟩)) rfl
      refine wpList_nil ?_
      refine then_n ?_
      refine x_seq ?_
      refine wp_region_lit ?_
      refine x_run tab hk (k := 1) (lv := []) (ks := [0, 6, 7, 8, 9, 10, 11, 12]) (e' := [(0, .string t13), (6, .slice A28 (t23.2).length c29), (7, .pointer (some ⟨bx188, 0, none⟩)), (8, .slice A191 (l193).length c192), (9, .pointer (some ⟨bx212, 0, none⟩)), (10, .slice A205 (t200.2).length c206), (11, .pointer (some ⟨bx220, 0, none⟩)), (12, .slice none 0 0)]) rfl trivial fun a hk => ?_
      refine wpList_nil ?_
      refine then_n ?_
      refine x_mid (fun a_ w_ => ∃ o425 : Nat → Nat, ∃ x426 : T24, ∃ A427 : Option Addr, ∃ c428 : Nat, ∃ l429 : List Int, Kn 95 a_ [(0, .string t13), (6, .slice A28 (t23.2).length c29), (7, .pointer (some ⟨bx188, 0, none⟩)), (8, .slice A191 (l193).length c192), (9, .pointer (some ⟨bx212, 0, none⟩)), (10, .slice A205 (t200.2).length c206), (11, .pointer (some ⟨bx220, 0, none⟩)), (12, .slice A427 (l429).length c428)] ∧ St [] w (fun _ => 0) w_ o425 ∧ Ft (Bx bx188 25 [.int .u8 x190.Lead, .int .i32 x190.Rune, .int .i64 x190.Need]) w_ o425 48 ∧ Ft (Own (encInt .i32) 21 (.slice A191 (l193).length c192) l193) w_ o425 49 ∧ Ft (Own (encInt .i32) 21 (.slice A205 (t200.2).length c206) t200.2) w_ o425 51 ∧ Ft (Bx bx212 25 [.int .u8 t200.1.Lead, .int .i32 t200.1.Rune, .int .i64 t200.1.Need]) w_ o425 50 ∧ Ft (Bx bx220 25 [.int .u8 x426.Lead, .int .i32 x426.Rune, .int .i64 x426.Need]) w_ o425 52 ∧ Ft (Own (encInt .i32) 21 (.slice A28 (t23.2).length c29) t23.2) w_ o425 47 ∧ Ft (Own (encInt .i32) 21 (.slice A427 (l429).length c428) l429) w_ o425 53 ∧ Ft (RdC ET47 (some ⟨0, 0, none⟩) glob0) w_ o425 0 ∧ (l429).length ≤ c428 ∧ tidewracklaw05_GlyphParts_j2 K t13 t23 x190 l193 t200 x426 l429 = some r) ?_ ?_
      rotate_left
      · rintro a w432 ⟨o425, x426, A427, c428, l429, hk, hs, f189, f194, f207, f213, f221, f30, f430, fg0, hc431, H⟩
        rw [tidewracklaw05_GlyphParts_j2] at H
        refine x_seq ?_
        refine wp_region_lit ?_
        refine x_run tab hk (k := 1) (lv := []) (ks := [6, 7, 8, 9, 10, 11, 12, 66]) (e' := [(6, .slice A28 (t23.2).length c29), (7, .pointer (some ⟨bx188, 0, none⟩)), (8, .slice A191 (l193).length c192), (9, .pointer (some ⟨bx212, 0, none⟩)), (10, .slice A205 (t200.2).length c206), (11, .pointer (some ⟨bx220, 0, none⟩)), (12, .slice A427 (l429).length c428), (66, .string t13)]) rfl trivial fun a hk => ?_
        refine x_op hk rfl ?_
        obtain ⟨t436, hc437, H⟩ := bindS H
        refine op_call hk ent_11 (vs := [.string t13]) rfl (tidewrackref05_Runes_calls K t13 _ o425  54  _ hc437) ?_
        rintro _ w438 ⟨o439, A441, c442, rfl, st440, f443, hc444⟩
        replace f189 := f189.st st440 (by decide)
        replace f194 := f194.st st440 (by decide)
        replace f207 := f207.st st440 (by decide)
        replace f213 := f213.st st440 (by decide)
        replace f221 := f221.st st440 (by decide)
        replace f30 := f30.st st440 (by decide)
        replace f430 := f430.st st440 (by decide)
        replace fg0 := fg0.st st440 (by decide)
        replace hs := hs.loc0 st440 (by decide)
        have hk := hk.put 67 (.tuple #[.slice A441 (t436.1).length c442, .int .i64 t436.2]) rfl
        refine x_run tab hk (k := 5) (lv := []) (ks := [6, 7, 8, 9, 10, 11, 12, 15]) (e' := [(6, .slice A28 (t23.2).length c29), (7, .pointer (some ⟨bx188, 0, none⟩)), (8, .slice A191 (l193).length c192), (9, .pointer (some ⟨bx212, 0, none⟩)), (10, .slice A205 (t200.2).length c206), (11, .pointer (some ⟨bx220, 0, none⟩)), (12, .slice A427 (l429).length c428), (15, .slice A441 (t436.1).length c442)]) rfl trivial fun a hk => ?_
        refine wpList_nil ?_
        refine then_n ?_
        refine x_seq ?_
        refine wp_region_lit ?_
        refine x_run tab hk (k := 4) (lv := [.agg #[.int .u8 x190.Lead, .int .i32 x190.Rune, .int .i64 x190.Need], .agg #[.int .u8 t200.1.Lead, .int .i32 t200.1.Rune, .int .i64 t200.1.Need], .bool (eqT24 x190 t200.1)]) (ks := [6, 8, 9, 10, 11, 12, 15, 73]) (e' := [(6, .slice A28 (t23.2).length c29), (8, .slice A191 (l193).length c192), (9, .pointer (some ⟨bx212, 0, none⟩)), (10, .slice A205 (t200.2).length c206), (11, .pointer (some ⟨bx220, 0, none⟩)), (12, .slice A427 (l429).length c428), (15, .slice A441 (t436.1).length c442), (73, .bool (eqT24 x190 t200.1))]) rfl ⟨(load_box tab rfl rfl f189.now (k := 0) rfl rfl), (load_box tab rfl rfl f213.now (k := 0) rfl rfl), (ask_eq tab stood rfl rfl rfl rfl), trivial⟩ fun a hk => ?_
        cases b445 : (eqT24 x190 t200.1)
        · rw [b445] at hk H
          replace H := bifF H
          refine x_run tab hk (k := 10) (lv := []) (ks := [10, 12, 15, 78, 83]) (e' := [(10, .slice A205 (t200.2).length c206), (12, .slice A427 (l429).length c428), (15, .slice A441 (t436.1).length c442), (78, .bool false), (83, undef)]) rfl trivial fun a hk => ?_
          refine x_run tab hk (k := 10) (lv := []) (ks := [90, 93]) (e' := [(90, .bool false), (93, undef)]) rfl trivial fun a hk => ?_
          refine x_run tab hk (k := 2) (lv := []) (ks := [4]) (e' := [(4, .bool false)]) rfl trivial fun a hk => ?_
          refine wpList_nil ?_
          refine then_n ?_
          refine wp_ret ?_
          obtain rfl := Option.some.inj H
          exact x_retG hk (rs := [.tmp 4]) (vs := [.bool false]) rfl ⟨rfl, trivial⟩ ⟨fun b_ => if b_ < w.heap.size then o b_ else (fun _ => 0) (o439 b_), rfl, hs.close0 o (fun _ => 0)⟩
        · rw [b445] at hk H
          replace H := bifT H
          refine x_run tab hk (k := 5) (lv := [.agg #[.int .u8 x426.Lead, .int .i32 x426.Rune, .int .i64 x426.Need], .agg #[.int .u8 t200.1.Lead, .int .i32 t200.1.Rune, .int .i64 t200.1.Need], .bool (eqT24 x426 t200.1)]) (ks := [6, 8, 10, 12, 15, 78]) (e' := [(6, .slice A28 (t23.2).length c29), (8, .slice A191 (l193).length c192), (10, .slice A205 (t200.2).length c206), (12, .slice A427 (l429).length c428), (15, .slice A441 (t436.1).length c442), (78, .bool (eqT24 x426 t200.1))]) rfl ⟨(load_box tab rfl rfl f221.now (k := 0) rfl rfl), (load_box tab rfl rfl f213.now (k := 0) rfl rfl), (ask_eq tab stood rfl rfl rfl rfl), trivial⟩ fun a hk => ?_
          cases b446 : (eqT24 x426 t200.1)
          · rw [b446] at hk H
            replace H := bifF H
            refine x_run tab hk (k := 10) (lv := []) (ks := [12, 15, 85, 88]) (e' := [(12, .slice A427 (l429).length c428), (15, .slice A441 (t436.1).length c442), (85, .bool false), (88, undef)]) rfl trivial fun a hk => ?_
            refine x_run tab hk (k := 7) (lv := []) (ks := [4]) (e' := [(4, .bool false)]) rfl trivial fun a hk => ?_
            refine wpList_nil ?_
            refine then_n ?_
            refine wp_ret ?_
            obtain rfl := Option.some.inj H
            exact x_retG hk (rs := [.tmp 4]) (vs := [.bool false]) rfl ⟨rfl, trivial⟩ ⟨fun b_ => if b_ < w.heap.size then o b_ else (fun _ => 0) (o439 b_), rfl, hs.close0 o (fun _ => 0)⟩
          · rw [b446] at hk H
            replace H := bifT H
            refine x_run tab hk (k := 2) (lv := []) (ks := [10, 12, 15, 78, 79, 80]) (e' := [(10, .slice A205 (t200.2).length c206), (12, .slice A427 (l429).length c428), (15, .slice A441 (t436.1).length c442), (78, .bool true), (79, .slice A28 (t23.2).length c29), (80, .slice A191 (l193).length c192)]) rfl trivial fun a hk => ?_
            refine x_op hk rfl ?_
            obtain ⟨q450, H⟩ := ifS H
            refine op_append (o := o439) (E := (encInt .i32)) (xs := t23.2) (ys := l193) tab hk rfl rfl rfl rfl rfl rfl rfl f30 (Own.rd f194.now) q450 fun A451 c452 w447 o448 st449 f453 hc454 => ?_
            replace f194 := f194.st st449 (by decide)
            replace f207 := f207.st st449 (by decide)
            replace f430 := f430.st st449 (by decide)
            replace f443 := f443.st st449 (by decide)
            replace fg0 := fg0.st st449 (by decide)
            replace hs := hs.loc0 st449 (by decide)
            have hk := hk.put 81 (.slice A451 ((t23.2 ++ l193)).length c452) rfl
            refine x_run tab hk (k := 1) (lv := []) (ks := [10, 12, 15, 78, 81, 82]) (e' := [(10, .slice A205 (t200.2).length c206), (12, .slice A427 (l429).length c428), (15, .slice A441 (t436.1).length c442), (78, .bool true), (81, .slice A451 ((t23.2 ++ l193)).length c452), (82, .slice A441 (t436.1).length c442)]) rfl trivial fun a hk => ?_
            refine x_op hk rfl ?_
            obtain ⟨t458, hc459, H⟩ := bindS H
            refine op_call hk ent_12 (vs := [.slice A451 ((t23.2 ++ l193)).length c452, .slice A441 (t436.1).length c442]) rfl (tidewracklaw05_Same_calls K A451 c452 (t23.2 ++ l193) A441 c442 t436.1 _ o448 _ (f453.imp fun _ h_ => Own.rd h_) hc454 _ (f443.imp fun _ h_ => Own.rd h_) hc444   _ hc459) ?_
            rintro _ w460 ⟨o461, rfl, st462⟩
            replace f207 := f207.st st462 (by decide)
            replace f430 := f430.st st462 (by decide)
            replace f443 := f443.st st462 (by decide)
            replace f453 := f453.st st462 (by decide)
            replace fg0 := fg0.st st462 (by decide)
            replace hs := hs.loc0 st462 (by decide)
            have hk := hk.put 83 (.bool t458) rfl
            refine x_run tab hk (k := 2) (lv := []) (ks := [10, 12, 15, 85]) (e' := [(10, .slice A205 (t200.2).length c206), (12, .slice A427 (l429).length c428), (15, .slice A441 (t436.1).length c442), (85, .bool t458)]) rfl trivial fun a hk => ?_
            cases b463 : t458
            · rw [b463] at hk H
              replace H := bifF H
              refine x_run tab hk (k := 10) (lv := []) (ks := [4]) (e' := [(4, .bool false)]) rfl trivial fun a hk => ?_
              refine wpList_nil ?_
              refine then_n ?_
              refine wp_ret ?_
              obtain rfl := Option.some.inj H
              exact x_retG hk (rs := [.tmp 4]) (vs := [.bool false]) rfl ⟨rfl, trivial⟩ ⟨fun b_ => if b_ < w.heap.size then o b_ else (fun _ => 0) (o461 b_), rfl, hs.close0 o (fun _ => 0)⟩
            · rw [b463] at hk H
              replace H := bifT H
              refine x_run tab hk (k := 2) (lv := []) (ks := [12, 15, 85, 86, 87]) (e' := [(12, .slice A427 (l429).length c428), (15, .slice A441 (t436.1).length c442), (85, .bool true), (86, .slice A205 (t200.2).length c206), (87, .slice A441 (t436.1).length c442)]) rfl trivial fun a hk => ?_
              refine x_op hk rfl ?_
              obtain ⟨t467, hc468, H⟩ := bindS H
              refine op_call hk ent_12 (vs := [.slice A205 (t200.2).length c206, .slice A441 (t436.1).length c442]) rfl (tidewracklaw05_Same_calls K A205 c206 t200.2 A441 c442 t436.1 _ o461 _ (f207.imp fun _ h_ => Own.rd h_) hc208 _ (f443.imp fun _ h_ => Own.rd h_) hc444   _ hc468) ?_
              rintro _ w469 ⟨o470, rfl, st471⟩
              replace f207 := f207.st st471 (by decide)
              replace f430 := f430.st st471 (by decide)
              replace f443 := f443.st st471 (by decide)
              replace fg0 := fg0.st st471 (by decide)
              replace hs := hs.loc0 st471 (by decide)
              have hk := hk.put 88 (.bool t467) rfl
              refine x_run tab hk (k := 2) (lv := []) (ks := [12, 15, 90]) (e' := [(12, .slice A427 (l429).length c428), (15, .slice A441 (t436.1).length c442), (90, .bool t467)]) rfl trivial fun a hk => ?_
              cases b472 : t467
              · rw [b472] at hk H
                replace H := bifF H
                refine x_run tab hk (k := 5) (lv := []) (ks := [4]) (e' := [(4, .bool false)]) rfl trivial fun a hk => ?_
                refine wpList_nil ?_
                refine then_n ?_
                refine wp_ret ?_
                obtain rfl := Option.some.inj H
                exact x_retG hk (rs := [.tmp 4]) (vs := [.bool false]) rfl ⟨rfl, trivial⟩ ⟨fun b_ => if b_ < w.heap.size then o b_ else (fun _ => 0) (o470 b_), rfl, hs.close0 o (fun _ => 0)⟩
              · rw [b472] at hk H
                replace H := bifT H
                refine x_run tab hk (k := 2) (lv := []) (ks := [90, 91, 92]) (e' := [(90, .bool true), (91, .slice A427 (l429).length c428), (92, .slice A441 (t436.1).length c442)]) rfl trivial fun a hk => ?_
                refine x_op hk rfl ?_
                obtain ⟨t476, hc477, H⟩ := bindS H
                refine op_call hk ent_12 (vs := [.slice A427 (l429).length c428, .slice A441 (t436.1).length c442]) rfl (tidewracklaw05_Same_calls K A427 c428 l429 A441 c442 t436.1 _ o470 _ (f430.imp fun _ h_ => Own.rd h_) hc431 _ (f443.imp fun _ h_ => Own.rd h_) hc444   _ hc477) ?_
                rintro _ w478 ⟨o479, rfl, st480⟩
                replace f430 := f430.st st480 (by decide)
                replace f443 := f443.st st480 (by decide)
                replace fg0 := fg0.st st480 (by decide)
                replace hs := hs.loc0 st480 (by decide)
                have hk := hk.put 93 (.bool t476) rfl
                refine x_run tab hk (k := 2) (lv := []) (ks := [4]) (e' := [(4, .bool t476)]) rfl trivial fun a hk => ?_
                refine wpList_nil ?_
                refine then_n ?_
                refine wp_ret ?_
                obtain rfl := Option.some.inj H
                exact x_retG hk (rs := [.tmp 4]) (vs := [.bool t476]) rfl ⟨rfl, trivial⟩ ⟨fun b_ => if b_ < w.heap.size then o b_ else (fun _ => 0) (o479 b_), rfl, hs.close0 o (fun _ => 0)⟩
      refine x_seq ?_
      refine wp_region_lit ?_
      refine x_run tab hk (k := 1) (lv := []) (ks := [0, 6, 7, 8, 9, 10, 11, 12, 13]) (e' := [(0, .string t13), (6, .slice A28 (t23.2).length c29), (7, .pointer (some ⟨bx188, 0, none⟩)), (8, .slice A191 (l193).length c192), (9, .pointer (some ⟨bx212, 0, none⟩)), (10, .slice A205 (t200.2).length c206), (11, .pointer (some ⟨bx220, 0, none⟩)), (12, .slice none 0 0), (13, .int .i64 0)]) rfl trivial fun a hk => ?_
      refine wpList_nil ?_
      refine then_n ?_
      refine wp_block ?_
      refine x_loop (fun j_ a_ w_ => ∃ o543 : Nat → Nat, ∃ x544 : T24, ∃ A545 : Option Addr, ∃ c546 : Nat, ∃ l547 : List Int, ∃ x550 : Int, Kn 95 a_ [(0, .string t13), (6, .slice A28 (t23.2).length c29), (7, .pointer (some ⟨bx188, 0, none⟩)), (8, .slice A191 (l193).length c192), (9, .pointer (some ⟨bx212, 0, none⟩)), (10, .slice A205 (t200.2).length c206), (11, .pointer (some ⟨bx220, 0, none⟩)), (12, .slice A545 (l547).length c546), (13, .int .i64 x550)] ∧ St [] w (fun _ => 0) w_ o543 ∧ Ft (Bx bx188 25 [.int .u8 x190.Lead, .int .i32 x190.Rune, .int .i64 x190.Need]) w_ o543 66 ∧ Ft (Own (encInt .i32) 21 (.slice A191 (l193).length c192) l193) w_ o543 67 ∧ Ft (Own (encInt .i32) 21 (.slice A205 (t200.2).length c206) t200.2) w_ o543 69 ∧ Ft (Bx bx212 25 [.int .u8 t200.1.Lead, .int .i32 t200.1.Rune, .int .i64 t200.1.Need]) w_ o543 68 ∧ Ft (Bx bx220 25 [.int .u8 x544.Lead, .int .i32 x544.Rune, .int .i64 x544.Need]) w_ o543 70 ∧ Ft (Own (encInt .i32) 21 (.slice A28 (t23.2).length c29) t23.2) w_ o543 65 ∧ Ft (Own (encInt .i32) 21 (.slice A545 (l547).length c546) l547) w_ o543 71 ∧ Ft (RdC ET47 (some ⟨0, 0, none⟩) glob0) w_ o543 0 ∧ (l547).length ≤ c546 ∧ tidewracklaw05_GlyphParts_l3 K t13 t23 x190 l193 t200 j_ x544 l547 x550 = some r) (k := K) ⟨(fun b_ => (fun l_ => if l_ = 17 then 65 else if l_ = 18 then 66 else if l_ = 19 then 67 else if l_ = 20 then 69 else if l_ = 21 then 68 else if l_ = 22 then 70 else l_) (o218 b_)), (⟨0, 0, 0⟩ : T24), none, 0, ([] : List Int), 0, (by exact Kn.pick (ks := [0, 6, 7, 8, 9, 10, 11, 12, 13]) hk rfl), (hs.relab0 (fun l_ => if l_ = 17 then 65 else if l_ = 18 then 66 else if l_ = 19 then 67 else if l_ = 20 then 69 else if l_ = 21 then 68 else if l_ = 22 then 70 else l_) rfl), (f189.relab (fun l_ => if l_ = 17 then 65 else if l_ = 18 then 66 else if l_ = 19 then 67 else if l_ = 20 then 69 else if l_ = 21 then 68 else if l_ = 22 then 70 else l_) rfl), (f194.relab (fun l_ => if l_ = 17 then 65 else if l_ = 18 then 66 else if l_ = 19 then 67 else if l_ = 20 then 69 else if l_ = 21 then 68 else if l_ = 22 then 70 else l_) rfl), (f207.relab (fun l_ => if l_ = 17 then 65 else if l_ = 18 then 66 else if l_ = 19 then 67 else if l_ = 20 then 69 else if l_ = 21 then 68 else if l_ = 22 then 70 else l_) rfl), (f213.relab (fun l_ => if l_ = 17 then 65 else if l_ = 18 then 66 else if l_ = 19 then 67 else if l_ = 20 then 69 else if l_ = 21 then 68 else if l_ = 22 then 70 else l_) rfl), (f221.relab (fun l_ => if l_ = 17 then 65 else if l_ = 18 then 66 else if l_ = 19 then 67 else if l_ = 20 then 69 else if l_ = 21 then 68 else if l_ = 22 then 70 else l_) rfl), (f30.relab (fun l_ => if l_ = 17 then 65 else if l_ = 18 then 66 else if l_ = 19 then 67 else if l_ = 20 then 69 else if l_ = 21 then 68 else if l_ = 22 then 70 else l_) rfl), (Ft.of_all (fun _ => Own.nil _ _ _) _ _ _), (fg0.relab (fun l_ => if l_ = 17 then 65 else if l_ = 18 then 66 else if l_ = 19 then 67 else if l_ = 20 then 69 else if l_ = 21 then 68 else if l_ = 22 then 70 else l_) rfl), (by simp), H⟩ (by rintro _ _ ⟨_, _, _, _, _, _, _, _, _, _, _, _, _, _, _, _, _, H_⟩; exact absurd (show (none : Option Bool) = some r from H_) (by simp)) ?_
      rintro k611 a w610 ⟨o543, x544, A545, c546, l547, x550, hk, hs, f189, f194, f207, f213, f221, f30, f548, fg0, hc549, H⟩
      rw [tidewracklaw05_GlyphParts_l3] at H
      obtain ⟨lp612, hlp613⟩ : ∃ lp_, lp_ = tidewracklaw05_GlyphParts_l3 K t13 t23 x190 l193 t200 k611 := ⟨_, rfl⟩
      rw [← hlp613] at H
      refine x_seq ?_
      refine x_seq ?_
      refine wp_region_lit ?_
      refine x_run tab hk (k := 4) (lv := []) (ks := [0, 6, 7, 8, 9, 10, 11, 12, 13, 51]) (e' := [(0, .string t13), (6, .slice A28 (t23.2).length c29), (7, .pointer (some ⟨bx188, 0, none⟩)), (8, .slice A191 (l193).length c192), (9, .pointer (some ⟨bx212, 0, none⟩)), (10, .slice A205 (t200.2).length c206), (11, .pointer (some ⟨bx220, 0, none⟩)), (12, .slice A545 (l547).length c546), (13, .int .i64 x550), (51, .bool (decide (x550 < ((t13).size : Int))))]) rfl trivial fun a hk => ?_
      refine wpList_nil ?_
      refine then_n ?_
      cases b614 : (decide (x550 < ((t13).size : Int)))
      · rw [b614] at hk H
        replace H := bifF H
        refine x_if hk (b := false) rfl ?_
        refine (show Code.wp _ _ _ _ _ from ?_)
        refine wp_exit ?_
        refine then_x ?_
        refine then_x ?_
        refine blk_x ?_
        refine then_n ?_
        exact ⟨(fun b_ => (fun l_ => if l_ = 65 then 47 else if l_ = 66 then 48 else if l_ = 67 then 49 else if l_ = 68 then 50 else if l_ = 69 then 51 else if l_ = 70 then 52 else if l_ = 71 then 53 else l_) (o543 b_)), x544, A545, c546, l547, (by exact Kn.pick (ks := [0, 6, 7, 8, 9, 10, 11, 12]) hk rfl), (hs.relab0 (fun l_ => if l_ = 65 then 47 else if l_ = 66 then 48 else if l_ = 67 then 49 else if l_ = 68 then 50 else if l_ = 69 then 51 else if l_ = 70 then 52 else if l_ = 71 then 53 else l_) rfl), (f189.relab (fun l_ => if l_ = 65 then 47 else if l_ = 66 then 48 else if l_ = 67 then 49 else if l_ = 68 then 50 else if l_ = 69 then 51 else if l_ = 70 then 52 else if l_ = 71 then 53 else l_) rfl), (f194.relab (fun l_ => if l_ = 65 then 47 else if l_ = 66 then 48 else if l_ = 67 then 49 else if l_ = 68 then 50 else if l_ = 69 then 51 else if l_ = 70 then 52 else if l_ = 71 then 53 else l_) rfl), (f207.relab (fun l_ => if l_ = 65 then 47 else if l_ = 66 then 48 else if l_ = 67 then 49 else if l_ = 68 then 50 else if l_ = 69 then 51 else if l_ = 70 then 52 else if l_ = 71 then 53 else l_) rfl), (f213.relab (fun l_ => if l_ = 65 then 47 else if l_ = 66 then 48 else if l_ = 67 then 49 else if l_ = 68 then 50 else if l_ = 69 then 51 else if l_ = 70 then 52 else if l_ = 71 then 53 else l_) rfl), (f221.relab (fun l_ => if l_ = 65 then 47 else if l_ = 66 then 48 else if l_ = 67 then 49 else if l_ = 68 then 50 else if l_ = 69 then 51 else if l_ = 70 then 52 else if l_ = 71 then 53 else l_) rfl), (f30.relab (fun l_ => if l_ = 65 then 47 else if l_ = 66 then 48 else if l_ = 67 then 49 else if l_ = 68 then 50 else if l_ = 69 then 51 else if l_ = 70 then 52 else if l_ = 71 then 53 else l_) rfl), (f548.relab (fun l_ => if l_ = 65 then 47 else if l_ = 66 then 48 else if l_ = 67 then 49 else if l_ = 68 then 50 else if l_ = 69 then 51 else if l_ = 70 then 52 else if l_ = 71 then 53 else l_) rfl), (fg0.relab (fun l_ => if l_ = 65 then 47 else if l_ = 66 then 48 else if l_ = 67 then 49 else if l_ = 68 then 50 else if l_ = 69 then 51 else if l_ = 70 then 52 else if l_ = 71 then 53 else l_) rfl), hc549, H⟩
      · rw [b614] at hk H
        replace H := bifT H
        refine x_if hk (b := true) rfl ?_
        refine (show Code.wp _ _ _ _ _ from ?_)
        refine wp_skip ?_
        refine then_n ?_
        refine x_seq ?_
        refine wp_block ?_
        refine x_seq ?_
        refine wp_region_lit ?_
        refine x_run tab hk (k := 1) (lv := []) (ks := [0, 6, 7, 8, 9, 10, 11, 12, 13]) (e' := [(0, .string t13), (6, .slice A28 (t23.2).length c29), (7, .pointer (some ⟨bx188, 0, none⟩)), (8, .slice A191 (l193).length c192), (9, .pointer (some ⟨bx212, 0, none⟩)), (10, .slice A205 (t200.2).length c206), (11, .pointer (some ⟨bx220, 0, none⟩)), (12, .slice A545 (l547).length c546), (13, .int .i64 x550)]) rfl trivial fun a hk => ?_
        refine wpList_nil ?_
        refine then_n ?_
        refine x_seq ?_
        refine xd_begin (o := o543) (fun W_ => True) mixed rfl rfl fun w647 st648 => ?_
        replace f189 := f189.st st648 (by decide)
        replace f194 := f194.st st648 (by decide)
        replace f207 := f207.st st648 (by decide)
        replace f213 := f213.st st648 (by decide)
        replace f221 := f221.st st648 (by decide)
        replace f30 := f30.st st648 (by decide)
        replace f548 := f548.st st648 (by decide)
        replace fg0 := fg0.st st648 (by decide)
        replace hs := hs.loc0 st648 (by decide)
        obtain ⟨q649, H⟩ := ifS H
        refine xd_take tab hk (k := 7) (is := [1, 2, 3]) (ls' := #[false, true, true, true, false, false, false, false, false, false]) (lv := []) (ks := [0, 6, 7, 8, 9, 10, 11, 12, 13, 58]) (e' := [(0, .string t13), (6, .slice A28 (t23.2).length c29), (7, .pointer (some ⟨bx188, 0, none⟩)), (8, .slice A191 (l193).length c192), (9, .pointer (some ⟨bx212, 0, none⟩)), (10, .slice A205 (t200.2).length c206), (11, .pointer (some ⟨bx220, 0, none⟩)), (12, .slice A545 (l547).length c546), (13, .int .i64 x550), (58, .int .u8 (bt t13 x550))]) (by kernel_rfl) rfl rfl (by kernel_rfl) (np_then (np_blk (np_then (np_then (np_blk (np_then np_body)))))) trivial (fun W_ hS => ⟨q649, trivial⟩) fun a hk => ?_
        refine xd_op hk (i := 0) (by kernel_rfl) rfl rfl ?_
        refine op_quiet tab hk (lv := [.agg #[.int .u8 x544.Lead, .int .i32 x544.Rune, .int .i64 x544.Need]]) (v := .agg #[.int .u8 x544.Lead, .int .i32 x544.Rune, .int .i64 x544.Need]) rfl ⟨(load_box tab rfl rfl f221.now (k := 0) rfl rfl), trivial⟩ ?_
        have hk := hk.put 55 (.agg #[.int .u8 x544.Lead, .int .i32 x544.Rune, .int .i64 x544.Need]) rfl
        refine ⟨.inr trivial, ?_⟩
        refine xd_op hk (i := 4) (by kernel_rfl) rfl rfl ?_
        obtain ⟨t653, hc654, H⟩ := bindS H
        refine op_call hk ent_15 (vs := [.agg #[.int .u8 x544.Lead, .int .i32 x544.Rune, .int .i64 x544.Need], .int .u8 (bt t13 x550)]) rfl (glyph_Decoder_Next_calls K x544 (bt t13 x550) _ o543 0 fg0 77  _ hc654) ?_
        rintro _ w655 ⟨o656, A658, c659, rfl, st657, f660, hc661⟩
        replace f189 := f189.st st657 (by decide)
        replace f194 := f194.st st657 (by decide)
        replace f207 := f207.st st657 (by decide)
        replace f213 := f213.st st657 (by decide)
        replace f221 := f221.st st657 (by decide)
        replace f30 := f30.st st657 (by decide)
        replace f548 := f548.st st657 (by decide)
        replace fg0 := fg0.st st657 (by decide)
        replace hs := hs.loc0 st657 (by decide)
        have hk := hk.put 59 (.tuple #[.agg #[.int .u8 t653.1.Lead, .int .i32 t653.1.Rune, .int .i64 t653.1.Need], .slice A658 (t653.2).length c659]) rfl
        refine ⟨.inr trivial, ?_⟩
        refine xd_take tab hk (k := 2) (is := [5, 6, 7]) (ls' := #[true, true, true, true, true, true, true, true, false, false]) (lv := []) (ks := [0, 6, 7, 8, 9, 10, 11, 12, 13, 60, 61]) (e' := [(0, .string t13), (6, .slice A28 (t23.2).length c29), (7, .pointer (some ⟨bx188, 0, none⟩)), (8, .slice A191 (l193).length c192), (9, .pointer (some ⟨bx212, 0, none⟩)), (10, .slice A205 (t200.2).length c206), (11, .pointer (some ⟨bx220, 0, none⟩)), (12, .slice A545 (l547).length c546), (13, .int .i64 x550), (60, .agg #[.int .u8 t653.1.Lead, .int .i32 t653.1.Rune, .int .i64 t653.1.Need]), (61, .slice A658 (t653.2).length c659)]) (by kernel_rfl) rfl rfl (by kernel_rfl) (np_then (np_blk (np_then (np_then (np_blk (np_then np_body)))))) trivial (fun W_ hS => trivial) fun a hk => ?_
        refine xd_op hk (i := 8) (by kernel_rfl) rfl rfl ?_
        refine op_store tab hk (t := 25) (v := .agg #[.int .u8 t653.1.Lead, .int .i32 t653.1.Rune, .int .i64 t653.1.Need]) (b := bx220) (k := 0) (cs' := [.int .u8 t653.1.Lead, .int .i32 t653.1.Rune, .int .i64 t653.1.Need]) rfl rfl rfl rfl rfl rfl f221 rfl rfl fun w662 o663 st664 f221_ => ?_
        replace f189 := f189.st st664 (by decide)
        replace f194 := f194.st st664 (by decide)
        replace f207 := f207.st st664 (by decide)
        replace f213 := f213.st st664 (by decide)
        replace f30 := f30.st st664 (by decide)
        replace f548 := f548.st st664 (by decide)
        replace f660 := f660.st st664 (by decide)
        replace fg0 := fg0.st st664 (by decide)
        replace hs := hs.loc0 st664 (by decide)
        replace f221 := f221_
        refine ⟨.inr trivial, ?_⟩
        refine xd_take tab hk (k := 0) (is := [9]) (ls' := #[true, true, true, true, true, true, true, true, true, true]) (lv := []) (ks := [0, 6, 7, 8, 9, 10, 11, 12, 13, 14]) (e' := [(0, .string t13), (6, .slice A28 (t23.2).length c29), (7, .pointer (some ⟨bx188, 0, none⟩)), (8, .slice A191 (l193).length c192), (9, .pointer (some ⟨bx212, 0, none⟩)), (10, .slice A205 (t200.2).length c206), (11, .pointer (some ⟨bx220, 0, none⟩)), (12, .slice A545 (l547).length c546), (13, .int .i64 x550), (14, .slice A658 (t653.2).length c659)]) (by kernel_rfl) rfl rfl (by kernel_rfl) (np_then (np_blk (np_then (np_then (np_blk (np_then np_body)))))) trivial (fun W_ hS => trivial) fun a hk => ?_
        refine xd_done (by kernel_rfl) ?_
        refine then_n ?_
        refine wp_region_lit ?_
        refine x_run tab hk (k := 2) (lv := []) (ks := [0, 6, 7, 8, 9, 10, 11, 13, 62, 63]) (e' := [(0, .string t13), (6, .slice A28 (t23.2).length c29), (7, .pointer (some ⟨bx188, 0, none⟩)), (8, .slice A191 (l193).length c192), (9, .pointer (some ⟨bx212, 0, none⟩)), (10, .slice A205 (t200.2).length c206), (11, .pointer (some ⟨bx220, 0, none⟩)), (13, .int .i64 x550), (62, .slice A545 (l547).length c546), (63, .slice A658 (t653.2).length c659)]) rfl trivial fun a hk => ?_
        refine x_op hk rfl ?_
        obtain ⟨q668, H⟩ := ifS H
        refine op_append (o := o663) (E := (encInt .i32)) (xs := l547) (ys := t653.2) tab hk rfl rfl rfl rfl rfl rfl rfl f548 (Own.rd f660.now) q668 fun A669 c670 w665 o666 st667 f671 hc672 => ?_
        replace f189 := f189.st st667 (by decide)
        replace f194 := f194.st st667 (by decide)
        replace f207 := f207.st st667 (by decide)
        replace f213 := f213.st st667 (by decide)
        replace f221 := f221.st st667 (by decide)
        replace f30 := f30.st st667 (by decide)
        replace f660 := f660.st st667 (by decide)
        replace fg0 := fg0.st st667 (by decide)
        replace hs := hs.loc0 st667 (by decide)
        have hk := hk.put 64 (.slice A669 ((l547 ++ t653.2)).length c670) rfl
        refine x_run tab hk (k := 1) (lv := []) (ks := [0, 6, 7, 8, 9, 10, 11, 12, 13]) (e' := [(0, .string t13), (6, .slice A28 (t23.2).length c29), (7, .pointer (some ⟨bx188, 0, none⟩)), (8, .slice A191 (l193).length c192), (9, .pointer (some ⟨bx212, 0, none⟩)), (10, .slice A205 (t200.2).length c206), (11, .pointer (some ⟨bx220, 0, none⟩)), (12, .slice A669 ((l547 ++ t653.2)).length c670), (13, .int .i64 x550)]) rfl trivial fun a hk => ?_
        refine wpList_nil ?_
        refine blk_n ?_
        refine then_n ?_
        refine wp_region_lit ?_
        refine x_run tab hk (k := 3) (lv := []) (ks := [0, 6, 7, 8, 9, 10, 11, 12, 13]) (e' := [(0, .string t13), (6, .slice A28 (t23.2).length c29), (7, .pointer (some ⟨bx188, 0, none⟩)), (8, .slice A191 (l193).length c192), (9, .pointer (some ⟨bx212, 0, none⟩)), (10, .slice A205 (t200.2).length c206), (11, .pointer (some ⟨bx220, 0, none⟩)), (12, .slice A669 ((l547 ++ t653.2)).length c670), (13, .int .i64 (IntKind.wrap .i64 (x550 + 1)))]) rfl trivial fun a hk => ?_
        refine wpList_nil ?_
        refine then_n ?_
        exact ⟨k611, Nat.le_refl _, o666, t653.1, A669, c670, (l547 ++ t653.2), (IntKind.wrap .i64 (x550 + 1)), (by exact Kn.pick (ks := [0, 6, 7, 8, 9, 10, 11, 12, 13]) hk rfl), hs, f189, f194, f207, f213, f221, f30, f671, fg0, hc672, (hlp613 ▸ H)⟩
    obtain ⟨t696, hc697, H⟩ := bindS H
    refine xd_begin (o := o38) (fun W_ => (Bx bx35 25 [.int .u8 t23.1.Lead, .int .i32 t23.1.Rune, .int .i64 t23.1.Need]) W_ ∧ True) mixed rfl rfl fun w749 st750 => ?_
    replace f30 := f30.st st750 (by decide)
    replace f36 := f36.st st750 (by decide)
    replace fg0 := fg0.st st750 (by decide)
    replace hs := hs.loc0 st750 (by decide)
    refine xd_take tab hk (k := 7) (is := [0, 1, 2, 3]) (ls' := #[true, true, true, true, false, false, false, false, false, false, false]) (lv := [.agg #[.int .u8 t23.1.Lead, .int .i32 t23.1.Rune, .int .i64 t23.1.Need]]) (ks := [0, 6, 35, 38]) (e' := [(0, .string t13), (6, .slice A28 (t23.2).length c29), (35, .agg #[.int .u8 t23.1.Lead, .int .i32 t23.1.Rune, .int .i64 t23.1.Need]), (38, .string (ByteArray.extract t13 (Int.toNat (if (if ((t13).size : Int) < p1 then ((t13).size : Int) else p1) > 0 then (if ((t13).size : Int) < p1 then ((t13).size : Int) else p1) else 0)) (t13).size))]) (by kernel_rfl) rfl rfl (by kernel_rfl) (np_then (np_then np_body)) ⟨f36.now, trivial⟩ (fun W_ hS => ⟨(load_box tab rfl rfl hS.1 (k := 0) rfl rfl), q18, q19, trivial⟩) fun a hk => ?_
    refine xd_each [4, 8] (by kernel_rfl) rfl ⟨?_, ?_, trivial⟩
    · refine xd_one hk rfl rfl ?_
      refine op_call hk ent_10 (vs := [.agg #[.int .u8 t23.1.Lead, .int .i32 t23.1.Rune, .int .i64 t23.1.Need], .string (ByteArray.extract t13 (Int.toNat (if (if ((t13).size : Int) < p1 then ((t13).size : Int) else p1) > 0 then (if ((t13).size : Int) < p1 then ((t13).size : Int) else p1) else 0)) (t13).size)]) rfl (glyph_Decoder_Run_calls K t23.1 (ByteArray.extract t13 (Int.toNat (if (if ((t13).size : Int) < p1 then ((t13).size : Int) else p1) > 0 then (if ((t13).size : Int) < p1 then ((t13).size : Int) else p1) else 0)) (t13).size) _ o38 0 fg0 86  _ hc697) ?_
      rintro _ w754 ⟨o755, A757, c758, rfl, st756, f759, hc760⟩
      replace f30 := f30.st st756 (by decide)
      replace f36 := f36.st st756 (by decide)
      replace fg0 := fg0.st st756 (by decide)
      replace hs := hs.loc0 st756 (by decide)
      have hk := hk.put 39 (.tuple #[.agg #[.int .u8 t696.1.Lead, .int .i32 t696.1.Rune, .int .i64 t696.1.Need], .slice A757 (t696.2).length c758]) rfl
      refine ⟨.inr ⟨f36.now, trivial⟩, ?_⟩
      refine xd_take tab hk (k := 3) (is := [5, 6, 7]) (ls' := #[true, true, true, true, true, true, true, true, false, false, false]) (lv := []) (ks := [0, 6, 40, 41]) (e' := [(0, .string t13), (6, .slice A28 (t23.2).length c29), (40, .agg #[.int .u8 t696.1.Lead, .int .i32 t696.1.Rune, .int .i64 t696.1.Need]), (41, .slice A757 (t696.2).length c758)]) (by kernel_rfl) rfl rfl (by kernel_rfl) (np_then (np_then np_body)) ⟨f36.now, trivial⟩ (fun W_ hS => trivial) fun a hk => ?_
      refine xd_op hk (i := 8) (by kernel_rfl) rfl rfl ?_
      refine op_alloc (o := o755) tab (t := 25) (cs := [.int .u8 0, .int .i32 0, .int .i64 0]) rfl rfl 87 fun bx764 w761 o762 st763 f765 => ?_
      replace f30 := f30.st st763 (by decide)
      replace f36 := f36.st st763 (by decide)
      replace f759 := f759.st st763 (by decide)
      replace fg0 := fg0.st st763 (by decide)
      replace hs := hs.loc0 st763 (by decide)
      have hk := hk.put 7 (.pointer (some ⟨bx764, 0, none⟩)) rfl
      refine ⟨.inr ⟨f36.now, trivial⟩, ?_⟩
      refine xd_op hk (i := 9) (by kernel_rfl) rfl rfl ?_
      refine op_store tab hk (t := 25) (v := .agg #[.int .u8 t696.1.Lead, .int .i32 t696.1.Rune, .int .i64 t696.1.Need]) (b := bx764) (k := 0) (cs' := [.int .u8 t696.1.Lead, .int .i32 t696.1.Rune, .int .i64 t696.1.Need]) rfl rfl rfl rfl rfl rfl f765 rfl rfl fun w766 o767 st768 f765_ => ?_
      replace f30 := f30.st st768 (by decide)
      replace f36 := f36.st st768 (by decide)
      replace f759 := f759.st st768 (by decide)
      replace fg0 := fg0.st st768 (by decide)
      replace hs := hs.loc0 st768 (by decide)
      replace f765 := f765_
      refine ⟨.inr ⟨f36.now, trivial⟩, ?_⟩
      refine xd_take tab hk (k := 0) (is := [10]) (ls' := #[true, true, true, true, true, true, true, true, true, true, true]) (lv := []) (ks := [0, 6, 7, 8]) (e' := [(0, .string t13), (6, .slice A28 (t23.2).length c29), (7, .pointer (some ⟨bx764, 0, none⟩)), (8, .slice A757 (t696.2).length c758)]) (by kernel_rfl) rfl rfl (by kernel_rfl) (np_then (np_then np_body)) ⟨f36.now, trivial⟩ (fun W_ hS => trivial) fun a hk => ?_
      refine xd_done (by kernel_rfl) ?_
      refine then_n ?_
      exact ⟨(fun b_ => (fun l_ => if l_ = 1 then 17 else if l_ = 86 then 19 else if l_ = 87 then 18 else l_) (o767 b_)), bx764, t696.1, A757, c758, t696.2, (by exact Kn.pick (ks := [0, 6, 7, 8]) hk rfl), (hs.relab0 (fun l_ => if l_ = 1 then 17 else if l_ = 86 then 19 else if l_ = 87 then 18 else l_) rfl), (f765.relab (fun l_ => if l_ = 1 then 17 else if l_ = 86 then 19 else if l_ = 87 then 18 else l_) rfl), (f759.relab (fun l_ => if l_ = 1 then 17 else if l_ = 86 then 19 else if l_ = 87 then 18 else l_) rfl), (f30.relab (fun l_ => if l_ = 1 then 17 else if l_ = 86 then 19 else if l_ = 87 then 18 else l_) rfl), (fg0.relab (fun l_ => if l_ = 1 then 17 else if l_ = 86 then 19 else if l_ = 87 then 18 else l_) rfl), hc760, H⟩
    · refine xd_one hk rfl rfl ?_
      refine op_alloc (o := o38) tab (t := 25) (cs := [.int .u8 0, .int .i32 0, .int .i64 0]) rfl rfl 88 fun bx772 w769 o770 st771 f773 => ?_
      replace f30 := f30.st st771 (by decide)
      replace f36 := f36.st st771 (by decide)
      replace fg0 := fg0.st st771 (by decide)
      replace hs := hs.loc0 st771 (by decide)
      have hk := hk.put 7 (.pointer (some ⟨bx772, 0, none⟩)) rfl
      refine ⟨.inr ⟨f36.now, trivial⟩, ?_⟩
      refine xd_op hk (i := 4) (by kernel_rfl) rfl rfl ?_
      refine op_call hk ent_10 (vs := [.agg #[.int .u8 t23.1.Lead, .int .i32 t23.1.Rune, .int .i64 t23.1.Need], .string (ByteArray.extract t13 (Int.toNat (if (if ((t13).size : Int) < p1 then ((t13).size : Int) else p1) > 0 then (if ((t13).size : Int) < p1 then ((t13).size : Int) else p1) else 0)) (t13).size)]) rfl (glyph_Decoder_Run_calls K t23.1 (ByteArray.extract t13 (Int.toNat (if (if ((t13).size : Int) < p1 then ((t13).size : Int) else p1) > 0 then (if ((t13).size : Int) < p1 then ((t13).size : Int) else p1) else 0)) (t13).size) _ o770 0 fg0 89  _ hc697) ?_
      rintro _ w777 ⟨o778, A780, c781, rfl, st779, f782, hc783⟩
      replace f30 := f30.st st779 (by decide)
      replace f36 := f36.st st779 (by decide)
      replace f773 := f773.st st779 (by decide)
      replace fg0 := fg0.st st779 (by decide)
      replace hs := hs.loc0 st779 (by decide)
      have hk := hk.put 39 (.tuple #[.agg #[.int .u8 t696.1.Lead, .int .i32 t696.1.Rune, .int .i64 t696.1.Need], .slice A780 (t696.2).length c781]) rfl
      refine ⟨.inr ⟨f36.now, trivial⟩, ?_⟩
      refine xd_take tab hk (k := 2) (is := [5, 6, 7]) (ls' := #[true, true, true, true, true, true, true, true, true, false, false]) (lv := []) (ks := [0, 6, 7, 40, 41]) (e' := [(0, .string t13), (6, .slice A28 (t23.2).length c29), (7, .pointer (some ⟨bx772, 0, none⟩)), (40, .agg #[.int .u8 t696.1.Lead, .int .i32 t696.1.Rune, .int .i64 t696.1.Need]), (41, .slice A780 (t696.2).length c781)]) (by kernel_rfl) rfl rfl (by kernel_rfl) (np_then (np_then np_body)) ⟨f36.now, trivial⟩ (fun W_ hS => trivial) fun a hk => ?_
      refine xd_op hk (i := 9) (by kernel_rfl) rfl rfl ?_
      refine op_store tab hk (t := 25) (v := .agg #[.int .u8 t696.1.Lead, .int .i32 t696.1.Rune, .int .i64 t696.1.Need]) (b := bx772) (k := 0) (cs' := [.int .u8 t696.1.Lead, .int .i32 t696.1.Rune, .int .i64 t696.1.Need]) rfl rfl rfl rfl rfl rfl f773 rfl rfl fun w784 o785 st786 f773_ => ?_
      replace f30 := f30.st st786 (by decide)
      replace f36 := f36.st st786 (by decide)
      replace f782 := f782.st st786 (by decide)
      replace fg0 := fg0.st st786 (by decide)
      replace hs := hs.loc0 st786 (by decide)
      replace f773 := f773_
      refine ⟨.inr ⟨f36.now, trivial⟩, ?_⟩
      refine xd_take tab hk (k := 0) (is := [10]) (ls' := #[true, true, true, true, true, true, true, true, true, true, true]) (lv := []) (ks := [0, 6, 7, 8]) (e' := [(0, .string t13), (6, .slice A28 (t23.2).length c29), (7, .pointer (some ⟨bx772, 0, none⟩)), (8, .slice A780 (t696.2).length c781)]) (by kernel_rfl) rfl rfl (by kernel_rfl) (np_then (np_then np_body)) ⟨f36.now, trivial⟩ (fun W_ hS => trivial) fun a hk => ?_
      refine xd_done (by kernel_rfl) ?_
      refine then_n ?_
      exact ⟨(fun b_ => (fun l_ => if l_ = 1 then 17 else if l_ = 88 then 18 else if l_ = 89 then 19 else l_) (o785 b_)), bx772, t696.1, A780, c781, t696.2, (by exact Kn.pick (ks := [0, 6, 7, 8]) hk rfl), (hs.relab0 (fun l_ => if l_ = 1 then 17 else if l_ = 88 then 18 else if l_ = 89 then 19 else l_) rfl), (f773.relab (fun l_ => if l_ = 1 then 17 else if l_ = 88 then 18 else if l_ = 89 then 19 else l_) rfl), (f782.relab (fun l_ => if l_ = 1 then 17 else if l_ = 88 then 18 else if l_ = 89 then 19 else l_) rfl), (f30.relab (fun l_ => if l_ = 1 then 17 else if l_ = 88 then 18 else if l_ = 89 then 19 else l_) rfl), (fg0.relab (fun l_ => if l_ = 1 then 17 else if l_ = 88 then 18 else if l_ = 89 then 19 else l_) rfl), hc783, H⟩
  · rw [b9] at hk H
    replace H := bifT H
    refine x_if hk (b := true) rfl ?_
    refine (show Code.wp _ _ _ _ _ from ?_)
    refine x_seq ?_
    refine wp_region_lit ?_
    refine x_run tab hk (k := 1) (lv := []) (ks := [4]) (e' := [(4, .bool false)]) rfl trivial fun a hk => ?_
    refine wpList_nil ?_
    refine then_n ?_
    refine wp_ret ?_
    refine then_r ?_
    obtain rfl := Option.some.inj H
    exact x_retG hk (rs := [.tmp 4]) (vs := [.bool false]) rfl ⟨rfl, trivial⟩ ⟨fun b_ => if b_ < w.heap.size then o b_ else (fun _ => 0) (o7 b_), rfl, hs.close0 o (fun _ => 0)⟩

/-! tidewrack/tidewrackref05.Encode -/
theorem tidewrackref05_Encode_calls (p0 : Int) (w : World) (o : Nat → Nat)  (r : ByteArray) (H : tidewrackref05_Encode p0 = some r) :
    Calls Tryd.prog 16 #[.int .i64 p0] w (Ret fun v_ w' => ∃ o' : Nat → Nat, v_ = .string r ∧ St [] w o w' o') := by
  refine x_enter (vs := [.int .i64 p0]) Tryd.func16 rfl rfl rfl fun a hk => ?_
  obtain ⟨o0, hs, h0⟩ := St.start w o
  clear h0
  rw [tidewrackref05_Encode] at H
  refine x_seq ?_
  refine wp_region_lit ?_
  refine x_run tab hk (k := 1) (lv := []) (ks := [0]) (e' := [(0, .int .i64 p0)]) rfl trivial fun a hk => ?_
  refine wpList_nil ?_
  refine then_n ?_
  refine x_mid (fun a_ w_ => ∃ o11 : Nat → Nat, ∃ x12 : Int, Kn 72 a_ [(0, .int .i64 x12)] ∧ St [] w (fun _ => 0) w_ o11 ∧ tidewrackref05_Encode_j1 x12 = some r) ?_ ?_
  rotate_left
  · rintro a w13 ⟨o11, x12, hk, hs, H⟩
    rw [tidewrackref05_Encode_j1] at H
    refine x_seq ?_
    refine x_seq ?_
    refine wp_region_lit ?_
    refine x_run tab hk (k := 2) (lv := []) (ks := [0, 18]) (e' := [(0, .int .i64 x12), (18, .bool (decide (x12 < (128 : Int))))]) rfl trivial fun a hk => ?_
    refine wpList_nil ?_
    refine then_n ?_
    cases b14 : (decide (x12 < (128 : Int)))
    · rw [b14] at hk H
      replace H := bifF H
      refine x_if hk (b := false) rfl ?_
      refine (show Code.wp _ _ _ _ _ from ?_)
      refine wp_skip ?_
      refine then_n ?_
      refine x_seq ?_
      refine x_seq ?_
      refine wp_region_lit ?_
      refine x_run tab hk (k := 2) (lv := []) (ks := [0, 24]) (e' := [(0, .int .i64 x12), (24, .bool (decide (x12 < (2048 : Int))))]) rfl trivial fun a hk => ?_
      refine wpList_nil ?_
      refine then_n ?_
      cases b15 : (decide (x12 < (2048 : Int)))
      · rw [b15] at hk H
        replace H := bifF H
        refine x_if hk (b := false) rfl ?_
        refine (show Code.wp _ _ _ _ _ from ?_)
        refine wp_skip ?_
        refine then_n ?_
        refine x_seq ?_
        refine x_seq ?_
        refine wp_region_lit ?_
        refine x_run tab hk (k := 2) (lv := []) (ks := [0, 36]) (e' := [(0, .int .i64 x12), (36, .bool (decide (x12 < (65536 : Int))))]) rfl trivial fun a hk => ?_
        refine wpList_nil ?_
        refine then_n ?_
        cases b16 : (decide (x12 < (65536 : Int)))
        · rw [b16] at hk H
          replace H := bifF H
          refine x_if hk (b := false) rfl ?_
          refine (show Code.wp _ _ _ _ _ from ?_)
          refine wp_skip ?_
          refine then_n ?_
          refine x_seq ?_
          refine wp_region_lit ?_
          refine x_run tab hk (k := 10) (lv := []) (ks := [0, 55, 60, 61]) (e' := [(0, .int .i64 x12), (55, .int .u8 (IntKind.wrap .u8 (IntKind.wrap .i64 (240 + (IntKind.wrap .i64 (Int.tdiv x12 262144)))))), (60, .int .u8 (IntKind.wrap .u8 (IntKind.wrap .i64 (128 + (Int.tmod (IntKind.wrap .i64 (Int.tdiv x12 4096)) 64))))), (61, .int .i64 x12)]) rfl ⟨(show (262144 : Int) ≠ 0 from by decide), (show (4096 : Int) ≠ 0 from by decide), (show (64 : Int) ≠ 0 from by decide), trivial⟩ fun a hk => ?_
          refine x_run tab hk (k := 8) (lv := []) (ks := [55, 60, 65, 69]) (e' := [(55, .int .u8 (IntKind.wrap .u8 (IntKind.wrap .i64 (240 + (IntKind.wrap .i64 (Int.tdiv x12 262144)))))), (60, .int .u8 (IntKind.wrap .u8 (IntKind.wrap .i64 (128 + (Int.tmod (IntKind.wrap .i64 (Int.tdiv x12 4096)) 64))))), (65, .int .u8 (IntKind.wrap .u8 (IntKind.wrap .i64 (128 + (Int.tmod (IntKind.wrap .i64 (Int.tdiv x12 64)) 64))))), (69, .int .u8 (IntKind.wrap .u8 (IntKind.wrap .i64 (128 + (Int.tmod x12 64)))))]) rfl ⟨(show (64 : Int) ≠ 0 from by decide), (show (64 : Int) ≠ 0 from by decide), (show (64 : Int) ≠ 0 from by decide), trivial⟩ fun a hk => ?_
          refine x_op hk rfl ?_
          refine op_slice (o := o11) tab hk (vs := [.int .u8 (IntKind.wrap .u8 (IntKind.wrap .i64 (240 + (IntKind.wrap .i64 (Int.tdiv x12 262144))))), .int .u8 (IntKind.wrap .u8 (IntKind.wrap .i64 (128 + (Int.tmod (IntKind.wrap .i64 (Int.tdiv x12 4096)) 64)))), .int .u8 (IntKind.wrap .u8 (IntKind.wrap .i64 (128 + (Int.tmod (IntKind.wrap .i64 (Int.tdiv x12 64)) 64)))), .int .u8 (IntKind.wrap .u8 (IntKind.wrap .i64 (128 + (Int.tmod x12 64))))]) (cs := [.int .u8 (IntKind.wrap .u8 (IntKind.wrap .i64 (240 + (IntKind.wrap .i64 (Int.tdiv x12 262144))))), .int .u8 (IntKind.wrap .u8 (IntKind.wrap .i64 (128 + (Int.tmod (IntKind.wrap .i64 (Int.tdiv x12 4096)) 64)))), .int .u8 (IntKind.wrap .u8 (IntKind.wrap .i64 (128 + (Int.tmod (IntKind.wrap .i64 (Int.tdiv x12 64)) 64)))), .int .u8 (IntKind.wrap .u8 (IntKind.wrap .i64 (128 + (Int.tmod x12 64))))]) rfl rfl rfl rfl rfl rfl rfl rfl rfl 1 fun bx20 w17 o18 st19 f21 => ?_
          replace hs := hs.loc0 st19 (by decide)
          have f22 : Ft (Own (encInt .u8) 5 (.slice (some ⟨bx20, 0, none⟩) (([(IntKind.wrap .u8 (IntKind.wrap .i64 (240 + (IntKind.wrap .i64 (Int.tdiv x12 262144))))), (IntKind.wrap .u8 (IntKind.wrap .i64 (128 + (Int.tmod (IntKind.wrap .i64 (Int.tdiv x12 4096)) 64)))), (IntKind.wrap .u8 (IntKind.wrap .i64 (128 + (Int.tmod (IntKind.wrap .i64 (Int.tdiv x12 64)) 64)))), (IntKind.wrap .u8 (IntKind.wrap .i64 (128 + (Int.tmod x12 64))))] : List Int)).length 4) ([(IntKind.wrap .u8 (IntKind.wrap .i64 (240 + (IntKind.wrap .i64 (Int.tdiv x12 262144))))), (IntKind.wrap .u8 (IntKind.wrap .i64 (128 + (Int.tmod (IntKind.wrap .i64 (Int.tdiv x12 4096)) 64)))), (IntKind.wrap .u8 (IntKind.wrap .i64 (128 + (Int.tmod (IntKind.wrap .i64 (Int.tdiv x12 64)) 64)))), (IntKind.wrap .u8 (IntKind.wrap .i64 (128 + (Int.tmod x12 64))))] : List Int)) w17 o18 1 := f21.imp fun _ h_ => Own.of_box h_ rfl (by simp)
          have hk := hk.put 70 (.slice (some ⟨bx20, 0, none⟩) (([(IntKind.wrap .u8 (IntKind.wrap .i64 (240 + (IntKind.wrap .i64 (Int.tdiv x12 262144))))), (IntKind.wrap .u8 (IntKind.wrap .i64 (128 + (Int.tmod (IntKind.wrap .i64 (Int.tdiv x12 4096)) 64)))), (IntKind.wrap .u8 (IntKind.wrap .i64 (128 + (Int.tmod (IntKind.wrap .i64 (Int.tdiv x12 64)) 64)))), (IntKind.wrap .u8 (IntKind.wrap .i64 (128 + (Int.tmod x12 64))))] : List Int)).length 4) rfl
          refine x_run tab hk (k := 2) (lv := [.string (strOfNums ([(IntKind.wrap .u8 (IntKind.wrap .i64 (240 + (IntKind.wrap .i64 (Int.tdiv x12 262144))))), (IntKind.wrap .u8 (IntKind.wrap .i64 (128 + (Int.tmod (IntKind.wrap .i64 (Int.tdiv x12 4096)) 64)))), (IntKind.wrap .u8 (IntKind.wrap .i64 (128 + (Int.tmod (IntKind.wrap .i64 (Int.tdiv x12 64)) 64)))), (IntKind.wrap .u8 (IntKind.wrap .i64 (128 + (Int.tmod x12 64))))] : List Int))]) (ks := [2]) (e' := [(2, .string (strOfNums ([(IntKind.wrap .u8 (IntKind.wrap .i64 (240 + (IntKind.wrap .i64 (Int.tdiv x12 262144))))), (IntKind.wrap .u8 (IntKind.wrap .i64 (128 + (Int.tmod (IntKind.wrap .i64 (Int.tdiv x12 4096)) 64)))), (IntKind.wrap .u8 (IntKind.wrap .i64 (128 + (Int.tmod (IntKind.wrap .i64 (Int.tdiv x12 64)) 64)))), (IntKind.wrap .u8 (IntKind.wrap .i64 (128 + (Int.tmod x12 64))))] : List Int)))]) rfl ⟨(ask_str tab rfl rfl rfl rfl (Own.rd f22.now) (Own.plain f22.now _ _ _ rfl)), trivial⟩ fun a hk => ?_
          refine wpList_nil ?_
          refine then_n ?_
          refine wp_ret ?_
          obtain rfl := Option.some.inj H
          exact x_retG hk (rs := [.tmp 2]) (vs := [.string (strOfNums ([(IntKind.wrap .u8 (IntKind.wrap .i64 (240 + (IntKind.wrap .i64 (Int.tdiv x12 262144))))), (IntKind.wrap .u8 (IntKind.wrap .i64 (128 + (Int.tmod (IntKind.wrap .i64 (Int.tdiv x12 4096)) 64)))), (IntKind.wrap .u8 (IntKind.wrap .i64 (128 + (Int.tmod (IntKind.wrap .i64 (Int.tdiv x12 64)) 64)))), (IntKind.wrap .u8 (IntKind.wrap .i64 (128 + (Int.tmod x12 64))))] : List Int))]) rfl ⟨rfl, trivial⟩ ⟨fun b_ => if b_ < w.heap.size then o b_ else (fun _ => 0) (o18 b_), rfl, hs.close0 o (fun _ => 0)⟩
        · rw [b16] at hk H
          replace H := bifT H
          refine x_if hk (b := true) rfl ?_
          refine (show Code.wp _ _ _ _ _ from ?_)
          refine x_seq ?_
          refine wp_region_lit ?_
          refine x_run tab hk (k := 10) (lv := []) (ks := [40, 45, 46]) (e' := [(40, .int .u8 (IntKind.wrap .u8 (IntKind.wrap .i64 (224 + (IntKind.wrap .i64 (Int.tdiv x12 4096)))))), (45, .int .u8 (IntKind.wrap .u8 (IntKind.wrap .i64 (128 + (Int.tmod (IntKind.wrap .i64 (Int.tdiv x12 64)) 64))))), (46, .int .i64 x12)]) rfl ⟨(show (4096 : Int) ≠ 0 from by decide), (show (64 : Int) ≠ 0 from by decide), (show (64 : Int) ≠ 0 from by decide), trivial⟩ fun a hk => ?_
          refine x_run tab hk (k := 3) (lv := []) (ks := [40, 45, 49]) (e' := [(40, .int .u8 (IntKind.wrap .u8 (IntKind.wrap .i64 (224 + (IntKind.wrap .i64 (Int.tdiv x12 4096)))))), (45, .int .u8 (IntKind.wrap .u8 (IntKind.wrap .i64 (128 + (Int.tmod (IntKind.wrap .i64 (Int.tdiv x12 64)) 64))))), (49, .int .u8 (IntKind.wrap .u8 (IntKind.wrap .i64 (128 + (Int.tmod x12 64)))))]) rfl ⟨(show (64 : Int) ≠ 0 from by decide), trivial⟩ fun a hk => ?_
          refine x_op hk rfl ?_
          refine op_slice (o := o11) tab hk (vs := [.int .u8 (IntKind.wrap .u8 (IntKind.wrap .i64 (224 + (IntKind.wrap .i64 (Int.tdiv x12 4096))))), .int .u8 (IntKind.wrap .u8 (IntKind.wrap .i64 (128 + (Int.tmod (IntKind.wrap .i64 (Int.tdiv x12 64)) 64)))), .int .u8 (IntKind.wrap .u8 (IntKind.wrap .i64 (128 + (Int.tmod x12 64))))]) (cs := [.int .u8 (IntKind.wrap .u8 (IntKind.wrap .i64 (224 + (IntKind.wrap .i64 (Int.tdiv x12 4096))))), .int .u8 (IntKind.wrap .u8 (IntKind.wrap .i64 (128 + (Int.tmod (IntKind.wrap .i64 (Int.tdiv x12 64)) 64)))), .int .u8 (IntKind.wrap .u8 (IntKind.wrap .i64 (128 + (Int.tmod x12 64))))]) rfl rfl rfl rfl rfl rfl rfl rfl rfl 2 fun bx26 w23 o24 st25 f27 => ?_
          replace hs := hs.loc0 st25 (by decide)
          have f28 : Ft (Own (encInt .u8) 5 (.slice (some ⟨bx26, 0, none⟩) (([(IntKind.wrap .u8 (IntKind.wrap .i64 (224 + (IntKind.wrap .i64 (Int.tdiv x12 4096))))), (IntKind.wrap .u8 (IntKind.wrap .i64 (128 + (Int.tmod (IntKind.wrap .i64 (Int.tdiv x12 64)) 64)))), (IntKind.wrap .u8 (IntKind.wrap .i64 (128 + (Int.tmod x12 64))))] : List Int)).length 3) ([(IntKind.wrap .u8 (IntKind.wrap .i64 (224 + (IntKind.wrap .i64 (Int.tdiv x12 4096))))), (IntKind.wrap .u8 (IntKind.wrap .i64 (128 + (Int.tmod (IntKind.wrap .i64 (Int.tdiv x12 64)) 64)))), (IntKind.wrap .u8 (IntKind.wrap .i64 (128 + (Int.tmod x12 64))))] : List Int)) w23 o24 2 := f27.imp fun _ h_ => Own.of_box h_ rfl (by simp)
          have hk := hk.put 50 (.slice (some ⟨bx26, 0, none⟩) (([(IntKind.wrap .u8 (IntKind.wrap .i64 (224 + (IntKind.wrap .i64 (Int.tdiv x12 4096))))), (IntKind.wrap .u8 (IntKind.wrap .i64 (128 + (Int.tmod (IntKind.wrap .i64 (Int.tdiv x12 64)) 64)))), (IntKind.wrap .u8 (IntKind.wrap .i64 (128 + (Int.tmod x12 64))))] : List Int)).length 3) rfl
          refine x_run tab hk (k := 2) (lv := [.string (strOfNums ([(IntKind.wrap .u8 (IntKind.wrap .i64 (224 + (IntKind.wrap .i64 (Int.tdiv x12 4096))))), (IntKind.wrap .u8 (IntKind.wrap .i64 (128 + (Int.tmod (IntKind.wrap .i64 (Int.tdiv x12 64)) 64)))), (IntKind.wrap .u8 (IntKind.wrap .i64 (128 + (Int.tmod x12 64))))] : List Int))]) (ks := [2]) (e' := [(2, .string (strOfNums ([(IntKind.wrap .u8 (IntKind.wrap .i64 (224 + (IntKind.wrap .i64 (Int.tdiv x12 4096))))), (IntKind.wrap .u8 (IntKind.wrap .i64 (128 + (Int.tmod (IntKind.wrap .i64 (Int.tdiv x12 64)) 64)))), (IntKind.wrap .u8 (IntKind.wrap .i64 (128 + (Int.tmod x12 64))))] : List Int)))]) rfl ⟨(ask_str tab rfl rfl rfl rfl (Own.rd f28.now) (Own.plain f28.now _ _ _ rfl)), trivial⟩ fun a hk => ?_
          refine wpList_nil ?_
          refine then_n ?_
          refine wp_ret ?_
          refine then_r ?_
          obtain rfl := Option.some.inj H
          exact x_retG hk (rs := [.tmp 2]) (vs := [.string (strOfNums ([(IntKind.wrap .u8 (IntKind.wrap .i64 (224 + (IntKind.wrap .i64 (Int.tdiv x12 4096))))), (IntKind.wrap .u8 (IntKind.wrap .i64 (128 + (Int.tmod (IntKind.wrap .i64 (Int.tdiv x12 64)) 64)))), (IntKind.wrap .u8 (IntKind.wrap .i64 (128 + (Int.tmod x12 64))))] : List Int))]) rfl ⟨rfl, trivial⟩ ⟨fun b_ => if b_ < w.heap.size then o b_ else (fun _ => 0) (o24 b_), rfl, hs.close0 o (fun _ => 0)⟩
      · rw [b15] at hk H
        replace H := bifT H
        refine x_if hk (b := true) rfl ?_
        refine (show Code.wp _ _ _ _ _ from ?_)
        refine x_seq ?_
        refine wp_region_lit ?_
        refine x_run tab hk (k := 8) (lv := []) (ks := [28, 32]) (e' := [(28, .int .u8 (IntKind.wrap .u8 (IntKind.wrap .i64 (192 + (IntKind.wrap .i64 (Int.tdiv x12 64)))))), (32, .int .u8 (IntKind.wrap .u8 (IntKind.wrap .i64 (128 + (Int.tmod x12 64)))))]) rfl ⟨(show (64 : Int) ≠ 0 from by decide), (show (64 : Int) ≠ 0 from by decide), trivial⟩ fun a hk => ?_
        refine x_op hk rfl ?_
        refine op_slice (o := o11) tab hk (vs := [.int .u8 (IntKind.wrap .u8 (IntKind.wrap .i64 (192 + (IntKind.wrap .i64 (Int.tdiv x12 64))))), .int .u8 (IntKind.wrap .u8 (IntKind.wrap .i64 (128 + (Int.tmod x12 64))))]) (cs := [.int .u8 (IntKind.wrap .u8 (IntKind.wrap .i64 (192 + (IntKind.wrap .i64 (Int.tdiv x12 64))))), .int .u8 (IntKind.wrap .u8 (IntKind.wrap .i64 (128 + (Int.tmod x12 64))))]) rfl rfl rfl rfl rfl rfl rfl rfl rfl 3 fun bx32 w29 o30 st31 f33 => ?_
        replace hs := hs.loc0 st31 (by decide)
        have f34 : Ft (Own (encInt .u8) 5 (.slice (some ⟨bx32, 0, none⟩) (([(IntKind.wrap .u8 (IntKind.wrap .i64 (192 + (IntKind.wrap .i64 (Int.tdiv x12 64))))), (IntKind.wrap .u8 (IntKind.wrap .i64 (128 + (Int.tmod x12 64))))] : List Int)).length 2) ([(IntKind.wrap .u8 (IntKind.wrap .i64 (192 + (IntKind.wrap .i64 (Int.tdiv x12 64))))), (IntKind.wrap .u8 (IntKind.wrap .i64 (128 + (Int.tmod x12 64))))] : List Int)) w29 o30 3 := f33.imp fun _ h_ => Own.of_box h_ rfl (by simp)
        have hk := hk.put 33 (.slice (some ⟨bx32, 0, none⟩) (([(IntKind.wrap .u8 (IntKind.wrap .i64 (192 + (IntKind.wrap .i64 (Int.tdiv x12 64))))), (IntKind.wrap .u8 (IntKind.wrap .i64 (128 + (Int.tmod x12 64))))] : List Int)).length 2) rfl
        refine x_run tab hk (k := 2) (lv := [.string (strOfNums ([(IntKind.wrap .u8 (IntKind.wrap .i64 (192 + (IntKind.wrap .i64 (Int.tdiv x12 64))))), (IntKind.wrap .u8 (IntKind.wrap .i64 (128 + (Int.tmod x12 64))))] : List Int))]) (ks := [2]) (e' := [(2, .string (strOfNums ([(IntKind.wrap .u8 (IntKind.wrap .i64 (192 + (IntKind.wrap .i64 (Int.tdiv x12 64))))), (IntKind.wrap .u8 (IntKind.wrap .i64 (128 + (Int.tmod x12 64))))] : List Int)))]) rfl ⟨(ask_str tab rfl rfl rfl rfl (Own.rd f34.now) (Own.plain f34.now _ _ _ rfl)), trivial⟩ fun a hk => ?_
        refine wpList_nil ?_
        refine then_n ?_
        refine wp_ret ?_
        refine then_r ?_
        obtain rfl := Option.some.inj H
        exact x_retG hk (rs := [.tmp 2]) (vs := [.string (strOfNums ([(IntKind.wrap .u8 (IntKind.wrap .i64 (192 + (IntKind.wrap .i64 (Int.tdiv x12 64))))), (IntKind.wrap .u8 (IntKind.wrap .i64 (128 + (Int.tmod x12 64))))] : List Int))]) rfl ⟨rfl, trivial⟩ ⟨fun b_ => if b_ < w.heap.size then o b_ else (fun _ => 0) (o30 b_), rfl, hs.close0 o (fun _ => 0)⟩
    · rw [b14] at hk H
      replace H := bifT H
      refine x_if hk (b := true) rfl ?_
      refine (show Code.wp _ _ _ _ _ from ?_)
      refine x_seq ?_
      refine wp_region_lit ?_
      refine x_run tab hk (k := 2) (lv := []) (ks := [20]) (e' := [(20, .int .u8 (IntKind.wrap .u8 x12))]) rfl trivial fun a hk => ?_
      refine x_op hk rfl ?_
      refine op_slice (o := o11) tab hk (vs := [.int .u8 (IntKind.wrap .u8 x12)]) (cs := [.int .u8 (IntKind.wrap .u8 x12)]) rfl rfl rfl rfl rfl rfl rfl rfl rfl 4 fun bx38 w35 o36 st37 f39 => ?_
      replace hs := hs.loc0 st37 (by decide)
      have f40 : Ft (Own (encInt .u8) 5 (.slice (some ⟨bx38, 0, none⟩) (([(IntKind.wrap .u8 x12)] : List Int)).length 1) ([(IntKind.wrap .u8 x12)] : List Int)) w35 o36 4 := f39.imp fun _ h_ => Own.of_box h_ rfl (by simp)
      have hk := hk.put 21 (.slice (some ⟨bx38, 0, none⟩) (([(IntKind.wrap .u8 x12)] : List Int)).length 1) rfl
      refine x_run tab hk (k := 2) (lv := [.string (strOfNums ([(IntKind.wrap .u8 x12)] : List Int))]) (ks := [2]) (e' := [(2, .string (strOfNums ([(IntKind.wrap .u8 x12)] : List Int)))]) rfl ⟨(ask_str tab rfl rfl rfl rfl (Own.rd f40.now) (Own.plain f40.now _ _ _ rfl)), trivial⟩ fun a hk => ?_
      refine wpList_nil ?_
      refine then_n ?_
      refine wp_ret ?_
      refine then_r ?_
      obtain rfl := Option.some.inj H
      exact x_retG hk (rs := [.tmp 2]) (vs := [.string (strOfNums ([(IntKind.wrap .u8 x12)] : List Int))]) rfl ⟨rfl, trivial⟩ ⟨fun b_ => if b_ < w.heap.size then o b_ else (fun _ => 0) (o36 b_), rfl, hs.close0 o (fun _ => 0)⟩
  refine x_seq ?_
  refine wp_region_lit ?_
  refine x_run tab hk (k := 3) (lv := []) (ks := [0, 5]) (e' := [(0, .int .i64 p0), (5, .bool (decide (p0 < (0 : Int))))]) rfl trivial fun a hk => ?_
  cases b41 : (decide (p0 < (0 : Int)))
  · rw [b41] at hk H
    replace H := bifF H
    refine x_run tab hk (k := 4) (lv := []) (ks := [0, 9]) (e' := [(0, .int .i64 p0), (9, .bool (decide (p0 > (1114111 : Int))))]) rfl trivial fun a hk => ?_
    cases b42 : (decide (p0 > (1114111 : Int)))
    · rw [b42] at hk H
      replace H := bifF H
      refine x_run tab hk (k := 3) (lv := []) (ks := [0, 9, 12]) (e' := [(0, .int .i64 p0), (9, .bool false), (12, .bool (decide (p0 ≥ (55296 : Int))))]) rfl trivial fun a hk => ?_
      cases b43 : (decide (p0 ≥ (55296 : Int)))
      · rw [b43] at hk H
        replace H := bifF H
        refine x_run tab hk (k := 4) (lv := []) (ks := [0, 16]) (e' := [(0, .int .i64 p0), (16, .bool false)]) rfl trivial fun a hk => ?_
        refine wpList_nil ?_
        refine then_n ?_
        refine x_if hk (b := false) rfl ?_
        refine (show Code.wp _ _ _ _ _ from ?_)
        refine wp_skip ?_
        refine then_n ?_
        exact ⟨o0, p0, (by exact Kn.pick (ks := [0]) hk rfl), hs, H⟩
      · rw [b43] at hk H
        replace H := bifT H
        refine x_run tab hk (k := 4) (lv := []) (ks := [0, 16]) (e' := [(0, .int .i64 p0), (16, .bool (decide (p0 ≤ (57343 : Int))))]) rfl trivial fun a hk => ?_
        refine wpList_nil ?_
        refine then_n ?_
        cases b44 : (decide (p0 ≤ (57343 : Int)))
        · rw [b44] at hk H
          replace H := bifF H
          refine x_if hk (b := false) rfl ?_
          refine (show Code.wp _ _ _ _ _ from ?_)
          refine wp_skip ?_
          refine then_n ?_
          exact ⟨o0, p0, (by exact Kn.pick (ks := [0]) hk rfl), hs, H⟩
        · rw [b44] at hk H
          replace H := bifT H
          refine x_if hk (b := true) rfl ?_
          refine (show Code.wp _ _ _ _ _ from ?_)
          refine wp_region_lit ?_
          refine x_run tab hk (k := 1) (lv := []) (ks := [0]) (e' := [(0, .int .i64 65533)]) rfl trivial fun a hk => ?_
          refine wpList_nil ?_
          refine then_n ?_
          exact ⟨o0, 65533, (by exact Kn.pick (ks := [0]) hk rfl), hs, H⟩
    · rw [b42] at hk H
      replace H := bifT H
      refine x_run tab hk (k := 7) (lv := []) (ks := [0, 16]) (e' := [(0, .int .i64 p0), (16, .bool true)]) rfl trivial fun a hk => ?_
      refine wpList_nil ?_
      refine then_n ?_
      refine x_if hk (b := true) rfl ?_
      refine (show Code.wp _ _ _ _ _ from ?_)
      refine wp_region_lit ?_
      refine x_run tab hk (k := 1) (lv := []) (ks := [0]) (e' := [(0, .int .i64 65533)]) rfl trivial fun a hk => ?_
      refine wpList_nil ?_
      refine then_n ?_
      exact ⟨o0, 65533, (by exact Kn.pick (ks := [0]) hk rfl), hs, H⟩
  · rw [b41] at hk H
    replace H := bifT H
    refine x_run tab hk (k := 10) (lv := []) (ks := [0, 9, 15]) (e' := [(0, .int .i64 p0), (9, .bool true), (15, undef)]) rfl trivial fun a hk => ?_
    refine x_run tab hk (k := 1) (lv := []) (ks := [0, 16]) (e' := [(0, .int .i64 p0), (16, .bool true)]) rfl trivial fun a hk => ?_
    refine wpList_nil ?_
    refine then_n ?_
    refine x_if hk (b := true) rfl ?_
    refine (show Code.wp _ _ _ _ _ from ?_)
    refine wp_region_lit ?_
    refine x_run tab hk (k := 1) (lv := []) (ks := [0]) (e' := [(0, .int .i64 65533)]) rfl trivial fun a hk => ?_
    refine wpList_nil ?_
    refine then_n ?_
    exact ⟨o0, 65533, (by exact Kn.pick (ks := [0]) hk rfl), hs, H⟩

/-! tidewrack/tidewracklaw05.GlyphBack -/
theorem tidewracklaw05_GlyphBack_calls (K : Nat) (Ap0 : Option Addr) (cp0 : Nat) (p0 : List Int) (w : World) (o : Nat → Nat) (Lg0 : Nat) (hg0 : Ft (RdC ET47 (some ⟨0, 0, none⟩) glob0) w o Lg0) (Lp0 : Nat) (hp0 : Ft (RdC (encInt .i32) Ap0 p0) w o Lp0) (hcp0 : p0.length ≤ cp0) (r : Bool) (H : tidewracklaw05_GlyphBack K p0 = some r) :
    Calls Tryd.prog 5 #[.slice Ap0 (p0).length cp0] w (Ret fun v_ w' => ∃ o' : Nat → Nat, v_ = .bool r ∧ St [] w o w' o') := by
  refine x_enter (vs := [.slice Ap0 (p0).length cp0]) Tryd.func5 rfl rfl rfl fun a hk => ?_
  obtain ⟨o0, hs, h0⟩ := St.start w o
  have fg0 := h0 _ _ hg0
  have f900 := h0 _ _ hp0
  clear h0
  rw [tidewracklaw05_GlyphBack] at H
  refine x_seq ?_
  refine wp_region_lit ?_
  refine x_run tab hk (k := 1) (lv := []) (ks := [0]) (e' := [(0, .slice Ap0 (p0).length cp0)]) rfl trivial fun a hk => ?_
  refine wpList_nil ?_
  refine then_n ?_
  refine x_seq ?_
  refine x_seq ?_
  refine wp_region_lit ?_
  refine x_op hk rfl ?_
  obtain ⟨t4, hc5, H⟩ := bindS H
  refine op_call hk ent_8 (vs := []) rfl (tidewracklaw05_awake_calls K  _ o0 0 fg0   _ hc5) ?_
  rintro _ w6 ⟨o7, rfl, st8⟩
  replace f900 := f900.st st8 (by decide)
  replace fg0 := fg0.st st8 (by decide)
  replace hs := hs.loc0 st8 (by decide)
  have hk := hk.put 8 (.bool t4) rfl
  refine x_run tab hk (k := 1) (lv := []) (ks := [0, 9]) (e' := [(0, .slice Ap0 (p0).length cp0), (9, .bool (!t4))]) rfl trivial fun a hk => ?_
  refine wpList_nil ?_
  refine then_n ?_
  cases b9 : (!t4)
  · rw [b9] at hk H
    replace H := bifF H
    refine x_if hk (b := false) rfl ?_
    refine (show Code.wp _ _ _ _ _ from ?_)
    refine wp_skip ?_
    refine then_n ?_
    refine x_seq ?_
    refine wp_region_lit ?_
    obtain ⟨q10, H⟩ := ifS H
    obtain ⟨q11, H⟩ := ifS H
    obtain ⟨A12, c13, ak15, f14, hc16⟩ := ask_cut (P := Tryd.prog) tab (t := 26) rfl rfl f900 hcp0 none (some (.int .i64 (if 40 < ((p0).length : Int) then 40 else ((p0).length : Int)))) rfl ⟨q10, (by have := q11; have := hcp0; omega), trivial⟩ (by have := q10; have := q11; omega) (by have := q10; have := q11; omega)
    refine x_run tab hk (k := 6) (lv := [.slice A12 ((List.drop 0 (List.take (Int.toNat (if 40 < ((p0).length : Int) then 40 else ((p0).length : Int))) p0))).length c13]) (ks := [0]) (e' := [(0, .slice A12 ((List.drop 0 (List.take (Int.toNat (if 40 < ((p0).length : Int) then 40 else ((p0).length : Int))) p0))).length c13)]) rfl ⟨(ak15 rfl rfl rfl _), trivial⟩ fun a hk => ?_
    refine wpList_nil ?_
    refine then_n ?_
    refine x_seq ?_
    refine wp_region_lit ?_
    refine x_run tab hk (k := 1) (lv := []) (ks := [0, 3]) (e' := [(0, .slice A12 ((List.drop 0 (List.take (Int.toNat (if 40 < ((p0).length : Int) then 40 else ((p0).length : Int))) p0))).length c13), (3, .string (⟨#[]⟩ : ByteArray))]) rfl trivial fun a hk => ?_
    refine wpList_nil ?_
    refine then_n ?_
    refine x_seq ?_
    refine wp_region_lit ?_
    refine x_run tab hk (k := 1) (lv := []) (ks := [0, 3, 4]) (e' := [(0, .slice A12 ((List.drop 0 (List.take (Int.toNat (if 40 < ((p0).length : Int) then 40 else ((p0).length : Int))) p0))).length c13), (3, .string (⟨#[]⟩ : ByteArray)), (4, .slice none 0 0)]) rfl trivial fun a hk => ?_
    refine wpList_nil ?_
    refine then_n ?_
    refine x_mid (fun a_ w_ => ∃ o302 : Nat → Nat, ∃ x303 : ByteArray, ∃ A304 : Option Addr, ∃ c305 : Nat, ∃ l306 : List Int, Kn 57 a_ [(0, .slice A12 ((List.drop 0 (List.take (Int.toNat (if 40 < ((p0).length : Int) then 40 else ((p0).length : Int))) p0))).length c13), (3, .string x303), (4, .slice A304 (l306).length c305)] ∧ St [] w (fun _ => 0) w_ o302 ∧ Ft (RdC (encInt .i32) A12 (List.drop 0 (List.take (Int.toNat (if 40 < ((p0).length : Int) then 40 else ((p0).length : Int))) p0))) w_ o302 0 ∧ Ft (Own (encInt .i64) 3 (.slice A304 (l306).length c305) l306) w_ o302 25 ∧ Ft (RdC ET47 (some ⟨0, 0, none⟩) glob0) w_ o302 0 ∧ (l306).length ≤ c305 ∧ tidewracklaw05_GlyphBack_j1 K p0 x303 l306 = some r) ?_ ?_
    rotate_left
    · rintro a w309 ⟨o302, x303, A304, c305, l306, hk, hs, f14, f307, fg0, hc308, H⟩
      rw [tidewracklaw05_GlyphBack_j1] at H
      refine x_seq ?_
      refine wp_region_lit ?_
      refine x_run tab hk (k := 1) (lv := []) (ks := [3, 4, 47]) (e' := [(3, .string x303), (4, .slice A304 (l306).length c305), (47, .slice A12 ((List.drop 0 (List.take (Int.toNat (if 40 < ((p0).length : Int) then 40 else ((p0).length : Int))) p0))).length c13)]) rfl trivial fun a hk => ?_
      refine x_op hk rfl ?_
      obtain ⟨t313, hc314, H⟩ := bindS H
      refine op_call hk ent_17 (vs := [.slice A12 ((List.drop 0 (List.take (Int.toNat (if 40 < ((p0).length : Int) then 40 else ((p0).length : Int))) p0))).length c13]) rfl (glyph_Encode_calls K A12 c13 (List.drop 0 (List.take (Int.toNat (if 40 < ((p0).length : Int) then 40 else ((p0).length : Int))) p0)) _ o302 _ f14 hc16   _ hc314) ?_
      rintro _ w315 ⟨o316, rfl, st317⟩
      replace f14 := f14.st st317 (by decide)
      replace f307 := f307.st st317 (by decide)
      replace fg0 := fg0.st st317 (by decide)
      replace hs := hs.loc0 st317 (by decide)
      have hk := hk.put 48 (.string t313) rfl
      refine x_run tab hk (k := 3) (lv := []) (ks := [3, 4, 51]) (e' := [(3, .string x303), (4, .slice A304 (l306).length c305), (51, .bool (ByteArray.toList t313 == ByteArray.toList x303))]) rfl trivial fun a hk => ?_
      cases b318 : (ByteArray.toList t313 == ByteArray.toList x303)
      · rw [b318] at hk H
        replace H := bifF H
        refine x_run tab hk (k := 6) (lv := []) (ks := [2]) (e' := [(2, .bool false)]) rfl trivial fun a hk => ?_
        refine wpList_nil ?_
        refine then_n ?_
        refine wp_ret ?_
        obtain rfl := Option.some.inj H
        exact x_retG hk (rs := [.tmp 2]) (vs := [.bool false]) rfl ⟨rfl, trivial⟩ ⟨fun b_ => if b_ < w.heap.size then o b_ else (fun _ => 0) (o316 b_), rfl, hs.close0 o (fun _ => 0)⟩
      · rw [b318] at hk H
        replace H := bifT H
        refine x_run tab hk (k := 1) (lv := []) (ks := [4, 51, 52]) (e' := [(4, .slice A304 (l306).length c305), (51, .bool true), (52, .string x303)]) rfl trivial fun a hk => ?_
        refine x_op hk rfl ?_
        obtain ⟨t322, hc323, H⟩ := bindS H
        refine op_call hk ent_13 (vs := [.string x303]) rfl (glyph_Decode_calls K x303 _ o316 0 fg0 26  _ hc323) ?_
        rintro _ w324 ⟨o325, A327, c328, rfl, st326, f329, hc330⟩
        replace f307 := f307.st st326 (by decide)
        replace fg0 := fg0.st st326 (by decide)
        replace hs := hs.loc0 st326 (by decide)
        have hk := hk.put 53 (.slice A327 (t322).length c328) rfl
        refine x_run tab hk (k := 1) (lv := []) (ks := [51, 53, 54]) (e' := [(51, .bool true), (53, .slice A327 (t322).length c328), (54, .slice A304 (l306).length c305)]) rfl trivial fun a hk => ?_
        refine x_op hk rfl ?_
        obtain ⟨t334, hc335, H⟩ := bindS H
        refine op_call hk ent_12 (vs := [.slice A327 (t322).length c328, .slice A304 (l306).length c305]) rfl (tidewracklaw05_Same_calls K A327 c328 t322 A304 c305 l306 _ o325 _ (f329.imp fun _ h_ => Own.rd h_) hc330 _ (f307.imp fun _ h_ => Own.rd h_) hc308   _ hc335) ?_
        rintro _ w336 ⟨o337, rfl, st338⟩
        replace f307 := f307.st st338 (by decide)
        replace f329 := f329.st st338 (by decide)
        replace fg0 := fg0.st st338 (by decide)
        replace hs := hs.loc0 st338 (by decide)
        have hk := hk.put 55 (.bool t334) rfl
        refine x_run tab hk (k := 2) (lv := []) (ks := [2]) (e' := [(2, .bool t334)]) rfl trivial fun a hk => ?_
        refine wpList_nil ?_
        refine then_n ?_
        refine wp_ret ?_
        obtain rfl := Option.some.inj H
        exact x_retG hk (rs := [.tmp 2]) (vs := [.bool t334]) rfl ⟨rfl, trivial⟩ ⟨fun b_ => if b_ < w.heap.size then o b_ else (fun _ => 0) (o337 b_), rfl, hs.close0 o (fun _ => 0)⟩
    refine x_seq ?_
    refine wp_region_lit ?_
    refine x_run tab hk (k := 3) (lv := []) (ks := [0, 3, 4, 15, 16, 17]) (e' := [(0, .slice A12 ((List.drop 0 (List.take (Int.toNat (if 40 < ((p0).length : Int) then 40 else ((p0).length : Int))) p0))).length c13), (3, .string (⟨#[]⟩ : ByteArray)), (4, .slice none 0 0), (15, .slice A12 ((List.drop 0 (List.take (Int.toNat (if 40 < ((p0).length : Int) then 40 else ((p0).length : Int))) p0))).length c13), (16, .int .i64 (((List.drop 0 (List.take (Int.toNat (if 40 < ((p0).length : Int) then 40 else ((p0).length : Int))) p0))).length : Int)), (17, .int .i64 0)]) rfl trivial fun a hk => ?_
    refine wpList_nil ?_
    refine then_n ?_
    refine wp_block ?_
    refine x_loop (fun j_ a_ w_ => ∃ o429 : Nat → Nat, ∃ x430 : ByteArray, ∃ A431 : Option Addr, ∃ c432 : Nat, ∃ l433 : List Int, ∃ x436 : Int, Kn 57 a_ [(0, .slice A12 ((List.drop 0 (List.take (Int.toNat (if 40 < ((p0).length : Int) then 40 else ((p0).length : Int))) p0))).length c13), (3, .string x430), (4, .slice A431 (l433).length c432), (15, .slice A12 ((List.drop 0 (List.take (Int.toNat (if 40 < ((p0).length : Int) then 40 else ((p0).length : Int))) p0))).length c13), (16, .int .i64 (((List.drop 0 (List.take (Int.toNat (if 40 < ((p0).length : Int) then 40 else ((p0).length : Int))) p0))).length : Int)), (17, .int .i64 x436)] ∧ St [] w (fun _ => 0) w_ o429 ∧ Ft (RdC (encInt .i32) A12 (List.drop 0 (List.take (Int.toNat (if 40 < ((p0).length : Int) then 40 else ((p0).length : Int))) p0))) w_ o429 0 ∧ Ft (Own (encInt .i64) 3 (.slice A431 (l433).length c432) l433) w_ o429 39 ∧ Ft (RdC ET47 (some ⟨0, 0, none⟩) glob0) w_ o429 0 ∧ (l433).length ≤ c432 ∧ tidewracklaw05_GlyphBack_l2 K p0 j_ x430 l433 x436 = some r) (k := K) ⟨o7, (⟨#[]⟩ : ByteArray), none, 0, ([] : List Int), 0, (by exact Kn.pick (ks := [0, 3, 4, 15, 16, 17]) hk rfl), hs, f14, (Ft.of_all (fun _ => Own.nil _ _ _) _ _ _), fg0, (by simp), H⟩ (by rintro _ _ ⟨_, _, _, _, _, _, _, _, _, _, _, _, H_⟩; exact absurd (show (none : Option Bool) = some r from H_) (by simp)) ?_
    rintro k524 a w523 ⟨o429, x430, A431, c432, l433, x436, hk, hs, f14, f434, fg0, hc435, H⟩
    rw [tidewracklaw05_GlyphBack_l2] at H
    obtain ⟨lp525, hlp526⟩ : ∃ lp_, lp_ = tidewracklaw05_GlyphBack_l2 K p0 k524 := ⟨_, rfl⟩
    rw [← hlp526] at H
    refine x_seq ?_
    refine wp_region_lit ?_
    refine x_run tab hk (k := 1) (lv := []) (ks := [0, 3, 4, 15, 16, 17, 18]) (e' := [(0, .slice A12 ((List.drop 0 (List.take (Int.toNat (if 40 < ((p0).length : Int) then 40 else ((p0).length : Int))) p0))).length c13), (3, .string x430), (4, .slice A431 (l433).length c432), (15, .slice A12 ((List.drop 0 (List.take (Int.toNat (if 40 < ((p0).length : Int) then 40 else ((p0).length : Int))) p0))).length c13), (16, .int .i64 (((List.drop 0 (List.take (Int.toNat (if 40 < ((p0).length : Int) then 40 else ((p0).length : Int))) p0))).length : Int)), (17, .int .i64 x436), (18, .bool (decide (x436 < (((List.drop 0 (List.take (Int.toNat (if 40 < ((p0).length : Int) then 40 else ((p0).length : Int))) p0))).length : Int))))]) rfl trivial fun a hk => ?_
    refine wpList_nil ?_
    refine then_n ?_
    refine x_seq ?_
    cases b527 : (decide (x436 < (((List.drop 0 (List.take (Int.toNat (if 40 < ((p0).length : Int) then 40 else ((p0).length : Int))) p0))).length : Int)))
    · rw [b527] at hk H
      replace H := bifF H
      refine x_if hk (b := false) rfl ?_
      refine (show Code.wp _ _ _ _ _ from ?_)
      refine wp_exit ?_
      refine then_x ?_
      refine then_x ?_
      refine blk_x ?_
      refine then_n ?_
      exact ⟨(fun b_ => (fun l_ => if l_ = 39 then 25 else l_) (o429 b_)), x430, A431, c432, l433, (by exact Kn.pick (ks := [0, 3, 4]) hk rfl), (hs.relab0 (fun l_ => if l_ = 39 then 25 else l_) rfl), (f14.relab (fun l_ => if l_ = 39 then 25 else l_) rfl), (f434.relab (fun l_ => if l_ = 39 then 25 else l_) rfl), (fg0.relab (fun l_ => if l_ = 39 then 25 else l_) rfl), hc435, H⟩
    · rw [b527] at hk H
      replace H := bifT H
      refine x_if hk (b := true) rfl ?_
      refine (show Code.wp _ _ _ _ _ from ?_)
      refine wp_skip ?_
      refine then_n ?_
      refine x_seq ?_
      refine wp_block ?_
      refine x_seq ?_
      refine wp_region_lit ?_
      obtain ⟨q528, H⟩ := ifS H
      obtain ⟨ad529, hAad529⟩ := RdC.addr f14.now q528
      subst hAad529
      refine x_run tab hk (k := 3) (lv := [.int .i32 (rdD 0 (List.drop 0 (List.take (Int.toNat (if 40 < ((p0).length : Int) then 40 else ((p0).length : Int))) p0)) x436)]) (ks := [0, 3, 4, 6, 15, 16, 17]) (e' := [(0, .slice (some ad529) ((List.drop 0 (List.take (Int.toNat (if 40 < ((p0).length : Int) then 40 else ((p0).length : Int))) p0))).length c13), (3, .string x430), (4, .slice A431 (l433).length c432), (6, .int .i32 (rdD 0 (List.drop 0 (List.take (Int.toNat (if 40 < ((p0).length : Int) then 40 else ((p0).length : Int))) p0)) x436)), (15, .slice (some ad529) ((List.drop 0 (List.take (Int.toNat (if 40 < ((p0).length : Int) then 40 else ((p0).length : Int))) p0))).length c13), (16, .int .i64 (((List.drop 0 (List.take (Int.toNat (if 40 < ((p0).length : Int) then 40 else ((p0).length : Int))) p0))).length : Int)), (17, .int .i64 x436)]) rfl ⟨q528, (load1 tab rfl (RdC.at0 (E := (encInt .i32)) (d := 0) (i := x436) f14.now q528 rfl)), trivial⟩ fun a hk => ?_
      refine wpList_nil ?_
      refine then_n ?_
      refine x_seq ?_
      refine wp_region_lit ?_
      refine x_run tab hk (k := 3) (lv := []) (ks := [0, 4, 6, 15, 16, 17, 21, 23]) (e' := [(0, .slice (some ad529) ((List.drop 0 (List.take (Int.toNat (if 40 < ((p0).length : Int) then 40 else ((p0).length : Int))) p0))).length c13), (4, .slice A431 (l433).length c432), (6, .int .i32 (rdD 0 (List.drop 0 (List.take (Int.toNat (if 40 < ((p0).length : Int) then 40 else ((p0).length : Int))) p0)) x436)), (15, .slice (some ad529) ((List.drop 0 (List.take (Int.toNat (if 40 < ((p0).length : Int) then 40 else ((p0).length : Int))) p0))).length c13), (16, .int .i64 (((List.drop 0 (List.take (Int.toNat (if 40 < ((p0).length : Int) then 40 else ((p0).length : Int))) p0))).length : Int)), (17, .int .i64 x436), (21, .string x430), (23, .int .i64 (IntKind.wrap .i64 (rdD 0 (List.drop 0 (List.take (Int.toNat (if 40 < ((p0).length : Int) then 40 else ((p0).length : Int))) p0)) x436)))]) rfl trivial fun a hk => ?_
      refine x_op hk rfl ?_
      obtain ⟨t533, hc534, H⟩ := bindS H
      refine op_call hk ent_16 (vs := [.int .i64 (IntKind.wrap .i64 (rdD 0 (List.drop 0 (List.take (Int.toNat (if 40 < ((p0).length : Int) then 40 else ((p0).length : Int))) p0)) x436))]) rfl (tidewrackref05_Encode_calls (IntKind.wrap .i64 (rdD 0 (List.drop 0 (List.take (Int.toNat (if 40 < ((p0).length : Int) then 40 else ((p0).length : Int))) p0)) x436)) _ o429    _ hc534) ?_
      rintro _ w535 ⟨o536, rfl, st537⟩
      replace f14 := f14.st st537 (by decide)
      replace f434 := f434.st st537 (by decide)
      replace fg0 := fg0.st st537 (by decide)
      replace hs := hs.loc0 st537 (by decide)
      have hk := hk.put 24 (.string t533) rfl
      obtain ⟨q538, H⟩ := ifS H
      refine x_run tab hk (k := 2) (lv := []) (ks := [0, 3, 4, 6, 15, 16, 17]) (e' := [(0, .slice (some ad529) ((List.drop 0 (List.take (Int.toNat (if 40 < ((p0).length : Int) then 40 else ((p0).length : Int))) p0))).length c13), (3, .string (x430 ++ t533)), (4, .slice A431 (l433).length c432), (6, .int .i32 (rdD 0 (List.drop 0 (List.take (Int.toNat (if 40 < ((p0).length : Int) then 40 else ((p0).length : Int))) p0)) x436)), (15, .slice (some ad529) ((List.drop 0 (List.take (Int.toNat (if 40 < ((p0).length : Int) then 40 else ((p0).length : Int))) p0))).length c13), (16, .int .i64 (((List.drop 0 (List.take (Int.toNat (if 40 < ((p0).length : Int) then 40 else ((p0).length : Int))) p0))).length : Int)), (17, .int .i64 x436)]) rfl ⟨q538, trivial⟩ fun a hk => ?_
      refine wpList_nil ?_
      refine then_n ?_
      refine x_seq ?_
      refine wp_region_lit ?_
      refine x_run tab hk (k := 3) (lv := []) (ks := [0, 3, 4, 7, 15, 16, 17]) (e' := [(0, .slice (some ad529) ((List.drop 0 (List.take (Int.toNat (if 40 < ((p0).length : Int) then 40 else ((p0).length : Int))) p0))).length c13), (3, .string (x430 ++ t533)), (4, .slice A431 (l433).length c432), (7, .int .i64 (IntKind.wrap .i64 (rdD 0 (List.drop 0 (List.take (Int.toNat (if 40 < ((p0).length : Int) then 40 else ((p0).length : Int))) p0)) x436))), (15, .slice (some ad529) ((List.drop 0 (List.take (Int.toNat (if 40 < ((p0).length : Int) then 40 else ((p0).length : Int))) p0))).length c13), (16, .int .i64 (((List.drop 0 (List.take (Int.toNat (if 40 < ((p0).length : Int) then 40 else ((p0).length : Int))) p0))).length : Int)), (17, .int .i64 x436)]) rfl trivial fun a hk => ?_
      refine wpList_nil ?_
      refine then_n ?_
      refine x_seq ?_
      refine x_seq ?_
      refine wp_region_lit ?_
      refine x_run tab hk (k := 3) (lv := []) (ks := [0, 3, 4, 7, 15, 16, 17, 30]) (e' := [(0, .slice (some ad529) ((List.drop 0 (List.take (Int.toNat (if 40 < ((p0).length : Int) then 40 else ((p0).length : Int))) p0))).length c13), (3, .string (x430 ++ t533)), (4, .slice A431 (l433).length c432), (7, .int .i64 (IntKind.wrap .i64 (rdD 0 (List.drop 0 (List.take (Int.toNat (if 40 < ((p0).length : Int) then 40 else ((p0).length : Int))) p0)) x436))), (15, .slice (some ad529) ((List.drop 0 (List.take (Int.toNat (if 40 < ((p0).length : Int) then 40 else ((p0).length : Int))) p0))).length c13), (16, .int .i64 (((List.drop 0 (List.take (Int.toNat (if 40 < ((p0).length : Int) then 40 else ((p0).length : Int))) p0))).length : Int)), (17, .int .i64 x436), (30, .bool (decide ((IntKind.wrap .i64 (rdD 0 (List.drop 0 (List.take (Int.toNat (if 40 < ((p0).length : Int) then 40 else ((p0).length : Int))) p0)) x436)) < (0 : Int))))]) rfl trivial fun a hk => ?_
      cases b539 : (decide ((IntKind.wrap .i64 (rdD 0 (List.drop 0 (List.take (Int.toNat (if 40 < ((p0).length : Int) then 40 else ((p0).length : Int))) p0)) x436)) < (0 : Int)))
      · rw [b539] at hk H
        replace H := bifF H
        refine x_run tab hk (k := 4) (lv := []) (ks := [0, 3, 4, 7, 15, 16, 17, 34]) (e' := [(0, .slice (some ad529) ((List.drop 0 (List.take (Int.toNat (if 40 < ((p0).length : Int) then 40 else ((p0).length : Int))) p0))).length c13), (3, .string (x430 ++ t533)), (4, .slice A431 (l433).length c432), (7, .int .i64 (IntKind.wrap .i64 (rdD 0 (List.drop 0 (List.take (Int.toNat (if 40 < ((p0).length : Int) then 40 else ((p0).length : Int))) p0)) x436))), (15, .slice (some ad529) ((List.drop 0 (List.take (Int.toNat (if 40 < ((p0).length : Int) then 40 else ((p0).length : Int))) p0))).length c13), (16, .int .i64 (((List.drop 0 (List.take (Int.toNat (if 40 < ((p0).length : Int) then 40 else ((p0).length : Int))) p0))).length : Int)), (17, .int .i64 x436), (34, .bool (decide ((IntKind.wrap .i64 (rdD 0 (List.drop 0 (List.take (Int.toNat (if 40 < ((p0).length : Int) then 40 else ((p0).length : Int))) p0)) x436)) > (1114111 : Int))))]) rfl trivial fun a hk => ?_
        cases b540 : (decide ((IntKind.wrap .i64 (rdD 0 (List.drop 0 (List.take (Int.toNat (if 40 < ((p0).length : Int) then 40 else ((p0).length : Int))) p0)) x436)) > (1114111 : Int)))
        · rw [b540] at hk H
          replace H := bifF H
          refine x_run tab hk (k := 3) (lv := []) (ks := [0, 3, 4, 7, 15, 16, 17, 34, 37]) (e' := [(0, .slice (some ad529) ((List.drop 0 (List.take (Int.toNat (if 40 < ((p0).length : Int) then 40 else ((p0).length : Int))) p0))).length c13), (3, .string (x430 ++ t533)), (4, .slice A431 (l433).length c432), (7, .int .i64 (IntKind.wrap .i64 (rdD 0 (List.drop 0 (List.take (Int.toNat (if 40 < ((p0).length : Int) then 40 else ((p0).length : Int))) p0)) x436))), (15, .slice (some ad529) ((List.drop 0 (List.take (Int.toNat (if 40 < ((p0).length : Int) then 40 else ((p0).length : Int))) p0))).length c13), (16, .int .i64 (((List.drop 0 (List.take (Int.toNat (if 40 < ((p0).length : Int) then 40 else ((p0).length : Int))) p0))).length : Int)), (17, .int .i64 x436), (34, .bool false), (37, .bool (decide ((IntKind.wrap .i64 (rdD 0 (List.drop 0 (List.take (Int.toNat (if 40 < ((p0).length : Int) then 40 else ((p0).length : Int))) p0)) x436)) ≥ (55296 : Int))))]) rfl trivial fun a hk => ?_
          cases b541 : (decide ((IntKind.wrap .i64 (rdD 0 (List.drop 0 (List.take (Int.toNat (if 40 < ((p0).length : Int) then 40 else ((p0).length : Int))) p0)) x436)) ≥ (55296 : Int)))
          · rw [b541] at hk H
            replace H := bifF H
            refine x_run tab hk (k := 4) (lv := []) (ks := [0, 3, 4, 7, 15, 16, 17, 41]) (e' := [(0, .slice (some ad529) ((List.drop 0 (List.take (Int.toNat (if 40 < ((p0).length : Int) then 40 else ((p0).length : Int))) p0))).length c13), (3, .string (x430 ++ t533)), (4, .slice A431 (l433).length c432), (7, .int .i64 (IntKind.wrap .i64 (rdD 0 (List.drop 0 (List.take (Int.toNat (if 40 < ((p0).length : Int) then 40 else ((p0).length : Int))) p0)) x436))), (15, .slice (some ad529) ((List.drop 0 (List.take (Int.toNat (if 40 < ((p0).length : Int) then 40 else ((p0).length : Int))) p0))).length c13), (16, .int .i64 (((List.drop 0 (List.take (Int.toNat (if 40 < ((p0).length : Int) then 40 else ((p0).length : Int))) p0))).length : Int)), (17, .int .i64 x436), (41, .bool false)]) rfl trivial fun a hk => ?_
            refine wpList_nil ?_
            refine then_n ?_
            refine x_if hk (b := false) rfl ?_
            refine (show Code.wp _ _ _ _ _ from ?_)
            refine wp_skip ?_
            refine then_n ?_
            refine wp_region_lit ?_
            refine x_run tab hk (k := 2) (lv := []) (ks := [0, 3, 15, 16, 17, 42, 43]) (e' := [(0, .slice (some ad529) ((List.drop 0 (List.take (Int.toNat (if 40 < ((p0).length : Int) then 40 else ((p0).length : Int))) p0))).length c13), (3, .string (x430 ++ t533)), (15, .slice (some ad529) ((List.drop 0 (List.take (Int.toNat (if 40 < ((p0).length : Int) then 40 else ((p0).length : Int))) p0))).length c13), (16, .int .i64 (((List.drop 0 (List.take (Int.toNat (if 40 < ((p0).length : Int) then 40 else ((p0).length : Int))) p0))).length : Int)), (17, .int .i64 x436), (42, .slice A431 (l433).length c432), (43, .int .i64 (IntKind.wrap .i64 (rdD 0 (List.drop 0 (List.take (Int.toNat (if 40 < ((p0).length : Int) then 40 else ((p0).length : Int))) p0)) x436)))]) rfl trivial fun a hk => ?_
            refine x_op hk rfl ?_
            refine op_slice (o := o536) tab hk (vs := [.int .i64 (IntKind.wrap .i64 (rdD 0 (List.drop 0 (List.take (Int.toNat (if 40 < ((p0).length : Int) then 40 else ((p0).length : Int))) p0)) x436))]) (cs := [.int .i64 (IntKind.wrap .i64 (rdD 0 (List.drop 0 (List.take (Int.toNat (if 40 < ((p0).length : Int) then 40 else ((p0).length : Int))) p0)) x436))]) rfl rfl rfl rfl rfl rfl rfl rfl rfl 45 fun bx545 w542 o543 st544 f546 => ?_
            replace f14 := f14.st st544 (by decide)
            replace f434 := f434.st st544 (by decide)
            replace fg0 := fg0.st st544 (by decide)
            replace hs := hs.loc0 st544 (by decide)
            have f547 : Ft (Own (encInt .i64) 3 (.slice (some ⟨bx545, 0, none⟩) (([(IntKind.wrap .i64 (rdD 0 (List.drop 0 (List.take (Int.toNat (if 40 < ((p0).length : Int) then 40 else ((p0).length : Int))) p0)) x436))] : List Int)).length 1) ([(IntKind.wrap .i64 (rdD 0 (List.drop 0 (List.take (Int.toNat (if 40 < ((p0).length : Int) then 40 else ((p0).length : Int))) p0)) x436))] : List Int)) w542 o543 45 := f546.imp fun _ h_ => Own.of_box h_ rfl (by simp)
            have hk := hk.put 44 (.slice (some ⟨bx545, 0, none⟩) (([(IntKind.wrap .i64 (rdD 0 (List.drop 0 (List.take (Int.toNat (if 40 < ((p0).length : Int) then 40 else ((p0).length : Int))) p0)) x436))] : List Int)).length 1) rfl
            refine x_op hk rfl ?_
            obtain ⟨q551, H⟩ := ifS H
            refine op_append (o := o543) (E := (encInt .i64)) (xs := l433) (ys := ([(IntKind.wrap .i64 (rdD 0 (List.drop 0 (List.take (Int.toNat (if 40 < ((p0).length : Int) then 40 else ((p0).length : Int))) p0)) x436))] : List Int)) tab hk rfl rfl rfl rfl rfl rfl rfl f434 (Own.rd f547.now) q551 fun A552 c553 w548 o549 st550 f554 hc555 => ?_
            replace f14 := f14.st st550 (by decide)
            replace f547 := f547.st st550 (by decide)
            replace fg0 := fg0.st st550 (by decide)
            replace hs := hs.loc0 st550 (by decide)
            have hk := hk.put 45 (.slice A552 ((l433 ++ ([(IntKind.wrap .i64 (rdD 0 (List.drop 0 (List.take (Int.toNat (if 40 < ((p0).length : Int) then 40 else ((p0).length : Int))) p0)) x436))] : List Int))).length c553) rfl
            refine x_run tab hk (k := 1) (lv := []) (ks := [0, 3, 4, 15, 16, 17]) (e' := [(0, .slice (some ad529) ((List.drop 0 (List.take (Int.toNat (if 40 < ((p0).length : Int) then 40 else ((p0).length : Int))) p0))).length c13), (3, .string (x430 ++ t533)), (4, .slice A552 ((l433 ++ ([(IntKind.wrap .i64 (rdD 0 (List.drop 0 (List.take (Int.toNat (if 40 < ((p0).length : Int) then 40 else ((p0).length : Int))) p0)) x436))] : List Int))).length c553), (15, .slice (some ad529) ((List.drop 0 (List.take (Int.toNat (if 40 < ((p0).length : Int) then 40 else ((p0).length : Int))) p0))).length c13), (16, .int .i64 (((List.drop 0 (List.take (Int.toNat (if 40 < ((p0).length : Int) then 40 else ((p0).length : Int))) p0))).length : Int)), (17, .int .i64 x436)]) rfl trivial fun a hk => ?_
            refine wpList_nil ?_
            refine blk_n ?_
            refine then_n ?_
            refine wp_region_lit ?_
            refine x_run tab hk (k := 2) (lv := []) (ks := [0, 3, 4, 15, 16, 17]) (e' := [(0, .slice (some ad529) ((List.drop 0 (List.take (Int.toNat (if 40 < ((p0).length : Int) then 40 else ((p0).length : Int))) p0))).length c13), (3, .string (x430 ++ t533)), (4, .slice A552 ((l433 ++ ([(IntKind.wrap .i64 (rdD 0 (List.drop 0 (List.take (Int.toNat (if 40 < ((p0).length : Int) then 40 else ((p0).length : Int))) p0)) x436))] : List Int))).length c553), (15, .slice (some ad529) ((List.drop 0 (List.take (Int.toNat (if 40 < ((p0).length : Int) then 40 else ((p0).length : Int))) p0))).length c13), (16, .int .i64 (((List.drop 0 (List.take (Int.toNat (if 40 < ((p0).length : Int) then 40 else ((p0).length : Int))) p0))).length : Int)), (17, .int .i64 (IntKind.wrap .i64 (x436 + 1)))]) rfl trivial fun a hk => ?_
            refine wpList_nil ?_
            refine then_n ?_
            exact ⟨k524, Nat.le_refl _, o549, (x430 ++ t533), A552, c553, (l433 ++ ([(IntKind.wrap .i64 (rdD 0 (List.drop 0 (List.take (Int.toNat (if 40 < ((p0).length : Int) then 40 else ((p0).length : Int))) p0)) x436))] : List Int)), (IntKind.wrap .i64 (x436 + 1)), (by exact Kn.pick (ks := [0, 3, 4, 15, 16, 17]) hk rfl), hs, f14, f554, fg0, hc555, (hlp526 ▸ H)⟩
          · rw [b541] at hk H
            replace H := bifT H
            refine x_run tab hk (k := 4) (lv := []) (ks := [0, 3, 4, 7, 15, 16, 17, 41]) (e' := [(0, .slice (some ad529) ((List.drop 0 (List.take (Int.toNat (if 40 < ((p0).length : Int) then 40 else ((p0).length : Int))) p0))).length c13), (3, .string (x430 ++ t533)), (4, .slice A431 (l433).length c432), (7, .int .i64 (IntKind.wrap .i64 (rdD 0 (List.drop 0 (List.take (Int.toNat (if 40 < ((p0).length : Int) then 40 else ((p0).length : Int))) p0)) x436))), (15, .slice (some ad529) ((List.drop 0 (List.take (Int.toNat (if 40 < ((p0).length : Int) then 40 else ((p0).length : Int))) p0))).length c13), (16, .int .i64 (((List.drop 0 (List.take (Int.toNat (if 40 < ((p0).length : Int) then 40 else ((p0).length : Int))) p0))).length : Int)), (17, .int .i64 x436), (41, .bool (decide ((IntKind.wrap .i64 (rdD 0 (List.drop 0 (List.take (Int.toNat (if 40 < ((p0).length : Int) then 40 else ((p0).length : Int))) p0)) x436)) ≤ (57343 : Int))))]) rfl trivial fun a hk => ?_
            refine wpList_nil ?_
            refine then_n ?_
            cases b556 : (decide ((IntKind.wrap .i64 (rdD 0 (List.drop 0 (List.take (Int.toNat (if 40 < ((p0).length : Int) then 40 else ((p0).length : Int))) p0)) x436)) ≤ (57343 : Int)))
            · rw [b556] at hk H
              replace H := bifF H
              refine x_if hk (b := false) rfl ?_
              refine (show Code.wp _ _ _ _ _ from ?_)
              refine wp_skip ?_
              refine then_n ?_
              refine wp_region_lit ?_
              refine x_run tab hk (k := 2) (lv := []) (ks := [0, 3, 15, 16, 17, 42, 43]) (e' := [(0, .slice (some ad529) ((List.drop 0 (List.take (Int.toNat (if 40 < ((p0).length : Int) then 40 else ((p0).length : Int))) p0))).length c13), (3, .string (x430 ++ t533)), (15, .slice (some ad529) ((List.drop 0 (List.take (Int.toNat (if 40 < ((p0).length : Int) then 40 else ((p0).length : Int))) p0))).length c13), (16, .int .i64 (((List.drop 0 (List.take (Int.toNat (if 40 < ((p0).length : Int) then 40 else ((p0).length : Int))) p0))).length : Int)), (17, .int .i64 x436), (42, .slice A431 (l433).length c432), (43, .int .i64 (IntKind.wrap .i64 (rdD 0 (List.drop 0 (List.take (Int.toNat (if 40 < ((p0).length : Int) then 40 else ((p0).length : Int))) p0)) x436)))]) rfl trivial fun a hk => ?_
              refine x_op hk rfl ?_
              refine op_slice (o := o536) tab hk (vs := [.int .i64 (IntKind.wrap .i64 (rdD 0 (List.drop 0 (List.take (Int.toNat (if 40 < ((p0).length : Int) then 40 else ((p0).length : Int))) p0)) x436))]) (cs := [.int .i64 (IntKind.wrap .i64 (rdD 0 (List.drop 0 (List.take (Int.toNat (if 40 < ((p0).length : Int) then 40 else ((p0).length : Int))) p0)) x436))]) rfl rfl rfl rfl rfl rfl rfl rfl rfl 46 fun bx560 w557 o558 st559 f561 => ?_
              replace f14 := f14.st st559 (by decide)
              replace f434 := f434.st st559 (by decide)
              replace fg0 := fg0.st st559 (by decide)
              replace hs := hs.loc0 st559 (by decide)
              have f562 : Ft (Own (encInt .i64) 3 (.slice (some ⟨bx560, 0, none⟩) (([(IntKind.wrap .i64 (rdD 0 (List.drop 0 (List.take (Int.toNat (if 40 < ((p0).length : Int) then 40 else ((p0).length : Int))) p0)) x436))] : List Int)).length 1) ([(IntKind.wrap .i64 (rdD 0 (List.drop 0 (List.take (Int.toNat (if 40 < ((p0).length : Int) then 40 else ((p0).length : Int))) p0)) x436))] : List Int)) w557 o558 46 := f561.imp fun _ h_ => Own.of_box h_ rfl (by simp)
              have hk := hk.put 44 (.slice (some ⟨bx560, 0, none⟩) (([(IntKind.wrap .i64 (rdD 0 (List.drop 0 (List.take (Int.toNat (if 40 < ((p0).length : Int) then 40 else ((p0).length : Int))) p0)) x436))] : List Int)).length 1) rfl
              refine x_op hk rfl ?_
              obtain ⟨q566, H⟩ := ifS H
              refine op_append (o := o558) (E := (encInt .i64)) (xs := l433) (ys := ([(IntKind.wrap .i64 (rdD 0 (List.drop 0 (List.take (Int.toNat (if 40 < ((p0).length : Int) then 40 else ((p0).length : Int))) p0)) x436))] : List Int)) tab hk rfl rfl rfl rfl rfl rfl rfl f434 (Own.rd f562.now) q566 fun A567 c568 w563 o564 st565 f569 hc570 => ?_
              replace f14 := f14.st st565 (by decide)
              replace f562 := f562.st st565 (by decide)
              replace fg0 := fg0.st st565 (by decide)
              replace hs := hs.loc0 st565 (by decide)
              have hk := hk.put 45 (.slice A567 ((l433 ++ ([(IntKind.wrap .i64 (rdD 0 (List.drop 0 (List.take (Int.toNat (if 40 < ((p0).length : Int) then 40 else ((p0).length : Int))) p0)) x436))] : List Int))).length c568) rfl
              refine x_run tab hk (k := 1) (lv := []) (ks := [0, 3, 4, 15, 16, 17]) (e' := [(0, .slice (some ad529) ((List.drop 0 (List.take (Int.toNat (if 40 < ((p0).length : Int) then 40 else ((p0).length : Int))) p0))).length c13), (3, .string (x430 ++ t533)), (4, .slice A567 ((l433 ++ ([(IntKind.wrap .i64 (rdD 0 (List.drop 0 (List.take (Int.toNat (if 40 < ((p0).length : Int) then 40 else ((p0).length : Int))) p0)) x436))] : List Int))).length c568), (15, .slice (some ad529) ((List.drop 0 (List.take (Int.toNat (if 40 < ((p0).length : Int) then 40 else ((p0).length : Int))) p0))).length c13), (16, .int .i64 (((List.drop 0 (List.take (Int.toNat (if 40 < ((p0).length : Int) then 40 else ((p0).length : Int))) p0))).length : Int)), (17, .int .i64 x436)]) rfl trivial fun a hk => ?_
              refine wpList_nil ?_
              refine blk_n ?_
              refine then_n ?_
              refine wp_region_lit ?_
              refine x_run tab hk (k := 2) (lv := []) (ks := [0, 3, 4, 15, 16, 17]) (e' := [(0, .slice (some ad529) ((List.drop 0 (List.take (Int.toNat (if 40 < ((p0).length : Int) then 40 else ((p0).length : Int))) p0))).length c13), (3, .string (x430 ++ t533)), (4, .slice A567 ((l433 ++ ([(IntKind.wrap .i64 (rdD 0 (List.drop 0 (List.take (Int.toNat (if 40 < ((p0).length : Int) then 40 else ((p0).length : Int))) p0)) x436))] : List Int))).length c568), (15, .slice (some ad529) ((List.drop 0 (List.take (Int.toNat (if 40 < ((p0).length : Int) then 40 else ((p0).length : Int))) p0))).length c13), (16, .int .i64 (((List.drop 0 (List.take (Int.toNat (if 40 < ((p0).length : Int) then 40 else ((p0).length : Int))) p0))).length : Int)), (17, .int .i64 (IntKind.wrap .i64 (x436 + 1)))]) rfl trivial fun a hk => ?_
              refine wpList_nil ?_
              refine then_n ?_
              exact ⟨k524, Nat.le_refl _, o564, (x430 ++ t533), A567, c568, (l433 ++ ([(IntKind.wrap .i64 (rdD 0 (List.drop 0 (List.take (Int.toNat (if 40 < ((p0).length : Int) then 40 else ((p0).length : Int))) p0)) x436))] : List Int)), (IntKind.wrap .i64 (x436 + 1)), (by exact Kn.pick (ks := [0, 3, 4, 15, 16, 17]) hk rfl), hs, f14, f569, fg0, hc570, (hlp526 ▸ H)⟩
            · rw [b556] at hk H
              replace H := bifT H
              refine x_if hk (b := true) rfl ?_
              refine (show Code.wp _ _ _ _ _ from ?_)
              refine wp_region_lit ?_
              refine x_run tab hk (k := 1) (lv := []) (ks := [0, 3, 4, 7, 15, 16, 17]) (e' := [(0, .slice (some ad529) ((List.drop 0 (List.take (Int.toNat (if 40 < ((p0).length : Int) then 40 else ((p0).length : Int))) p0))).length c13), (3, .string (x430 ++ t533)), (4, .slice A431 (l433).length c432), (7, .int .i64 65533), (15, .slice (some ad529) ((List.drop 0 (List.take (Int.toNat (if 40 < ((p0).length : Int) then 40 else ((p0).length : Int))) p0))).length c13), (16, .int .i64 (((List.drop 0 (List.take (Int.toNat (if 40 < ((p0).length : Int) then 40 else ((p0).length : Int))) p0))).length : Int)), (17, .int .i64 x436)]) rfl trivial fun a hk => ?_
              refine wpList_nil ?_
              refine then_n ?_
              refine wp_region_lit ?_
              refine x_run tab hk (k := 2) (lv := []) (ks := [0, 3, 15, 16, 17, 42, 43]) (e' := [(0, .slice (some ad529) ((List.drop 0 (List.take (Int.toNat (if 40 < ((p0).length : Int) then 40 else ((p0).length : Int))) p0))).length c13), (3, .string (x430 ++ t533)), (15, .slice (some ad529) ((List.drop 0 (List.take (Int.toNat (if 40 < ((p0).length : Int) then 40 else ((p0).length : Int))) p0))).length c13), (16, .int .i64 (((List.drop 0 (List.take (Int.toNat (if 40 < ((p0).length : Int) then 40 else ((p0).length : Int))) p0))).length : Int)), (17, .int .i64 x436), (42, .slice A431 (l433).length c432), (43, .int .i64 65533)]) rfl trivial fun a hk => ?_
              refine x_op hk rfl ?_
              refine op_slice (o := o536) tab hk (vs := [.int .i64 65533]) (cs := [.int .i64 65533]) rfl rfl rfl rfl rfl rfl rfl rfl rfl 47 fun bx574 w571 o572 st573 f575 => ?_
              replace f14 := f14.st st573 (by decide)
              replace f434 := f434.st st573 (by decide)
              replace fg0 := fg0.st st573 (by decide)
              replace hs := hs.loc0 st573 (by decide)
              have f576 : Ft (Own (encInt .i64) 3 (.slice (some ⟨bx574, 0, none⟩) (([65533] : List Int)).length 1) ([65533] : List Int)) w571 o572 47 := f575.imp fun _ h_ => Own.of_box h_ rfl (by simp)
              have hk := hk.put 44 (.slice (some ⟨bx574, 0, none⟩) (([65533] : List Int)).length 1) rfl
              refine x_op hk rfl ?_
              obtain ⟨q580, H⟩ := ifS H
              refine op_append (o := o572) (E := (encInt .i64)) (xs := l433) (ys := ([65533] : List Int)) tab hk rfl rfl rfl rfl rfl rfl rfl f434 (Own.rd f576.now) q580 fun A581 c582 w577 o578 st579 f583 hc584 => ?_
              replace f14 := f14.st st579 (by decide)
              replace f576 := f576.st st579 (by decide)
              replace fg0 := fg0.st st579 (by decide)
              replace hs := hs.loc0 st579 (by decide)
              have hk := hk.put 45 (.slice A581 ((l433 ++ ([65533] : List Int))).length c582) rfl
              refine x_run tab hk (k := 1) (lv := []) (ks := [0, 3, 4, 15, 16, 17]) (e' := [(0, .slice (some ad529) ((List.drop 0 (List.take (Int.toNat (if 40 < ((p0).length : Int) then 40 else ((p0).length : Int))) p0))).length c13), (3, .string (x430 ++ t533)), (4, .slice A581 ((l433 ++ ([65533] : List Int))).length c582), (15, .slice (some ad529) ((List.drop 0 (List.take (Int.toNat (if 40 < ((p0).length : Int) then 40 else ((p0).length : Int))) p0))).length c13), (16, .int .i64 (((List.drop 0 (List.take (Int.toNat (if 40 < ((p0).length : Int) then 40 else ((p0).length : Int))) p0))).length : Int)), (17, .int .i64 x436)]) rfl trivial fun a hk => ?_
              refine wpList_nil ?_
              refine blk_n ?_
              refine then_n ?_
              refine wp_region_lit ?_
              refine x_run tab hk (k := 2) (lv := []) (ks := [0, 3, 4, 15, 16, 17]) (e' := [(0, .slice (some ad529) ((List.drop 0 (List.take (Int.toNat (if 40 < ((p0).length : Int) then 40 else ((p0).length : Int))) p0))).length c13), (3, .string (x430 ++ t533)), (4, .slice A581 ((l433 ++ ([65533] : List Int))).length c582), (15, .slice (some ad529) ((List.drop 0 (List.take (Int.toNat (if 40 < ((p0).length : Int) then 40 else ((p0).length : Int))) p0))).length c13), (16, .int .i64 (((List.drop 0 (List.take (Int.toNat (if 40 < ((p0).length : Int) then 40 else ((p0).length : Int))) p0))).length : Int)), (17, .int .i64 (IntKind.wrap .i64 (x436 + 1)))]) rfl trivial fun a hk => ?_
              refine wpList_nil ?_
              refine then_n ?_
              exact ⟨k524, Nat.le_refl _, o578, (x430 ++ t533), A581, c582, (l433 ++ ([65533] : List Int)), (IntKind.wrap .i64 (x436 + 1)), (by exact Kn.pick (ks := [0, 3, 4, 15, 16, 17]) hk rfl), hs, f14, f583, fg0, hc584, (hlp526 ▸ H)⟩
        · rw [b540] at hk H
          replace H := bifT H
          refine x_run tab hk (k := 7) (lv := []) (ks := [0, 3, 4, 7, 15, 16, 17, 41]) (e' := [(0, .slice (some ad529) ((List.drop 0 (List.take (Int.toNat (if 40 < ((p0).length : Int) then 40 else ((p0).length : Int))) p0))).length c13), (3, .string (x430 ++ t533)), (4, .slice A431 (l433).length c432), (7, .int .i64 (IntKind.wrap .i64 (rdD 0 (List.drop 0 (List.take (Int.toNat (if 40 < ((p0).length : Int) then 40 else ((p0).length : Int))) p0)) x436))), (15, .slice (some ad529) ((List.drop 0 (List.take (Int.toNat (if 40 < ((p0).length : Int) then 40 else ((p0).length : Int))) p0))).length c13), (16, .int .i64 (((List.drop 0 (List.take (Int.toNat (if 40 < ((p0).length : Int) then 40 else ((p0).length : Int))) p0))).length : Int)), (17, .int .i64 x436), (41, .bool true)]) rfl trivial fun a hk => ?_
          refine wpList_nil ?_
          refine then_n ?_
          refine x_if hk (b := true) rfl ?_
          refine (show Code.wp _ _ _ _ _ from ?_)
          refine wp_region_lit ?_
          refine x_run tab hk (k := 1) (lv := []) (ks := [0, 3, 4, 7, 15, 16, 17]) (e' := [(0, .slice (some ad529) ((List.drop 0 (List.take (Int.toNat (if 40 < ((p0).length : Int) then 40 else ((p0).length : Int))) p0))).length c13), (3, .string (x430 ++ t533)), (4, .slice A431 (l433).length c432), (7, .int .i64 65533), (15, .slice (some ad529) ((List.drop 0 (List.take (Int.toNat (if 40 < ((p0).length : Int) then 40 else ((p0).length : Int))) p0))).length c13), (16, .int .i64 (((List.drop 0 (List.take (Int.toNat (if 40 < ((p0).length : Int) then 40 else ((p0).length : Int))) p0))).length : Int)), (17, .int .i64 x436)]) rfl trivial fun a hk => ?_
          refine wpList_nil ?_
          refine then_n ?_
          refine wp_region_lit ?_
          refine x_run tab hk (k := 2) (lv := []) (ks := [0, 3, 15, 16, 17, 42, 43]) (e' := [(0, .slice (some ad529) ((List.drop 0 (List.take (Int.toNat (if 40 < ((p0).length : Int) then 40 else ((p0).length : Int))) p0))).length c13), (3, .string (x430 ++ t533)), (15, .slice (some ad529) ((List.drop 0 (List.take (Int.toNat (if 40 < ((p0).length : Int) then 40 else ((p0).length : Int))) p0))).length c13), (16, .int .i64 (((List.drop 0 (List.take (Int.toNat (if 40 < ((p0).length : Int) then 40 else ((p0).length : Int))) p0))).length : Int)), (17, .int .i64 x436), (42, .slice A431 (l433).length c432), (43, .int .i64 65533)]) rfl trivial fun a hk => ?_
          refine x_op hk rfl ?_
          refine op_slice (o := o536) tab hk (vs := [.int .i64 65533]) (cs := [.int .i64 65533]) rfl rfl rfl rfl rfl rfl rfl rfl rfl 48 fun bx588 w585 o586 st587 f589 => ?_
          replace f14 := f14.st st587 (by decide)
          replace f434 := f434.st st587 (by decide)
          replace fg0 := fg0.st st587 (by decide)
          replace hs := hs.loc0 st587 (by decide)
          have f590 : Ft (Own (encInt .i64) 3 (.slice (some ⟨bx588, 0, none⟩) (([65533] : List Int)).length 1) ([65533] : List Int)) w585 o586 48 := f589.imp fun _ h_ => Own.of_box h_ rfl (by simp)
          have hk := hk.put 44 (.slice (some ⟨bx588, 0, none⟩) (([65533] : List Int)).length 1) rfl
          refine x_op hk rfl ?_
          obtain ⟨q594, H⟩ := ifS H
          refine op_append (o := o586) (E := (encInt .i64)) (xs := l433) (ys := ([65533] : List Int)) tab hk rfl rfl rfl rfl rfl rfl rfl f434 (Own.rd f590.now) q594 fun A595 c596 w591 o592 st593 f597 hc598 => ?_
          replace f14 := f14.st st593 (by decide)
          replace f590 := f590.st st593 (by decide)
          replace fg0 := fg0.st st593 (by decide)
          replace hs := hs.loc0 st593 (by decide)
          have hk := hk.put 45 (.slice A595 ((l433 ++ ([65533] : List Int))).length c596) rfl
          refine x_run tab hk (k := 1) (lv := []) (ks := [0, 3, 4, 15, 16, 17]) (e' := [(0, .slice (some ad529) ((List.drop 0 (List.take (Int.toNat (if 40 < ((p0).length : Int) then 40 else ((p0).length : Int))) p0))).length c13), (3, .string (x430 ++ t533)), (4, .slice A595 ((l433 ++ ([65533] : List Int))).length c596), (15, .slice (some ad529) ((List.drop 0 (List.take (Int.toNat (if 40 < ((p0).length : Int) then 40 else ((p0).length : Int))) p0))).length c13), (16, .int .i64 (((List.drop 0 (List.take (Int.toNat (if 40 < ((p0).length : Int) then 40 else ((p0).length : Int))) p0))).length : Int)), (17, .int .i64 x436)]) rfl trivial fun a hk => ?_
          refine wpList_nil ?_
          refine blk_n ?_
          refine then_n ?_
          refine wp_region_lit ?_
          refine x_run tab hk (k := 2) (lv := []) (ks := [0, 3, 4, 15, 16, 17]) (e' := [(0, .slice (some ad529) ((List.drop 0 (List.take (Int.toNat (if 40 < ((p0).length : Int) then 40 else ((p0).length : Int))) p0))).length c13), (3, .string (x430 ++ t533)), (4, .slice A595 ((l433 ++ ([65533] : List Int))).length c596), (15, .slice (some ad529) ((List.drop 0 (List.take (Int.toNat (if 40 < ((p0).length : Int) then 40 else ((p0).length : Int))) p0))).length c13), (16, .int .i64 (((List.drop 0 (List.take (Int.toNat (if 40 < ((p0).length : Int) then 40 else ((p0).length : Int))) p0))).length : Int)), (17, .int .i64 (IntKind.wrap .i64 (x436 + 1)))]) rfl trivial fun a hk => ?_
          refine wpList_nil ?_
          refine then_n ?_
          exact ⟨k524, Nat.le_refl _, o592, (x430 ++ t533), A595, c596, (l433 ++ ([65533] : List Int)), (IntKind.wrap .i64 (x436 + 1)), (by exact Kn.pick (ks := [0, 3, 4, 15, 16, 17]) hk rfl), hs, f14, f597, fg0, hc598, (hlp526 ▸ H)⟩
      · rw [b539] at hk H
        replace H := bifT H
        refine x_run tab hk (k := 10) (lv := []) (ks := [0, 3, 4, 7, 15, 16, 17, 34, 40]) (e' := [(0, .slice (some ad529) ((List.drop 0 (List.take (Int.toNat (if 40 < ((p0).length : Int) then 40 else ((p0).length : Int))) p0))).length c13), (3, .string (x430 ++ t533)), (4, .slice A431 (l433).length c432), (7, .int .i64 (IntKind.wrap .i64 (rdD 0 (List.drop 0 (List.take (Int.toNat (if 40 < ((p0).length : Int) then 40 else ((p0).length : Int))) p0)) x436))), (15, .slice (some ad529) ((List.drop 0 (List.take (Int.toNat (if 40 < ((p0).length : Int) then 40 else ((p0).length : Int))) p0))).length c13), (16, .int .i64 (((List.drop 0 (List.take (Int.toNat (if 40 < ((p0).length : Int) then 40 else ((p0).length : Int))) p0))).length : Int)), (17, .int .i64 x436), (34, .bool true), (40, undef)]) rfl trivial fun a hk => ?_
        refine x_run tab hk (k := 1) (lv := []) (ks := [0, 3, 4, 7, 15, 16, 17, 41]) (e' := [(0, .slice (some ad529) ((List.drop 0 (List.take (Int.toNat (if 40 < ((p0).length : Int) then 40 else ((p0).length : Int))) p0))).length c13), (3, .string (x430 ++ t533)), (4, .slice A431 (l433).length c432), (7, .int .i64 (IntKind.wrap .i64 (rdD 0 (List.drop 0 (List.take (Int.toNat (if 40 < ((p0).length : Int) then 40 else ((p0).length : Int))) p0)) x436))), (15, .slice (some ad529) ((List.drop 0 (List.take (Int.toNat (if 40 < ((p0).length : Int) then 40 else ((p0).length : Int))) p0))).length c13), (16, .int .i64 (((List.drop 0 (List.take (Int.toNat (if 40 < ((p0).length : Int) then 40 else ((p0).length : Int))) p0))).length : Int)), (17, .int .i64 x436), (41, .bool true)]) rfl trivial fun a hk => ?_
        refine wpList_nil ?_
        refine then_n ?_
        refine x_if hk (b := true) rfl ?_
        refine (show Code.wp _ _ _ _ _ from ?_)
        refine wp_region_lit ?_
        refine x_run tab hk (k := 1) (lv := []) (ks := [0, 3, 4, 7, 15, 16, 17]) (e' := [(0, .slice (some ad529) ((List.drop 0 (List.take (Int.toNat (if 40 < ((p0).length : Int) then 40 else ((p0).length : Int))) p0))).length c13), (3, .string (x430 ++ t533)), (4, .slice A431 (l433).length c432), (7, .int .i64 65533), (15, .slice (some ad529) ((List.drop 0 (List.take (Int.toNat (if 40 < ((p0).length : Int) then 40 else ((p0).length : Int))) p0))).length c13), (16, .int .i64 (((List.drop 0 (List.take (Int.toNat (if 40 < ((p0).length : Int) then 40 else ((p0).length : Int))) p0))).length : Int)), (17, .int .i64 x436)]) rfl trivial fun a hk => ?_
        refine wpList_nil ?_
        refine then_n ?_
        refine wp_region_lit ?_
        refine x_run tab hk (k := 2) (lv := []) (ks := [0, 3, 15, 16, 17, 42, 43]) (e' := [(0, .slice (some ad529) ((List.drop 0 (List.take (Int.toNat (if 40 < ((p0).length : Int) then 40 else ((p0).length : Int))) p0))).length c13), (3, .string (x430 ++ t533)), (15, .slice (some ad529) ((List.drop 0 (List.take (Int.toNat (if 40 < ((p0).length : Int) then 40 else ((p0).length : Int))) p0))).length c13), (16, .int .i64 (((List.drop 0 (List.take (Int.toNat (if 40 < ((p0).length : Int) then 40 else ((p0).length : Int))) p0))).length : Int)), (17, .int .i64 x436), (42, .slice A431 (l433).length c432), (43, .int .i64 65533)]) rfl trivial fun a hk => ?_
        refine x_op hk rfl ?_
        refine op_slice (o := o536) tab hk (vs := [.int .i64 65533]) (cs := [.int .i64 65533]) rfl rfl rfl rfl rfl rfl rfl rfl rfl 49 fun bx602 w599 o600 st601 f603 => ?_
        replace f14 := f14.st st601 (by decide)
        replace f434 := f434.st st601 (by decide)
        replace fg0 := fg0.st st601 (by decide)
        replace hs := hs.loc0 st601 (by decide)
        have f604 : Ft (Own (encInt .i64) 3 (.slice (some ⟨bx602, 0, none⟩) (([65533] : List Int)).length 1) ([65533] : List Int)) w599 o600 49 := f603.imp fun _ h_ => Own.of_box h_ rfl (by simp)
        have hk := hk.put 44 (.slice (some ⟨bx602, 0, none⟩) (([65533] : List Int)).length 1) rfl
        refine x_op hk rfl ?_
        obtain ⟨q608, H⟩ := ifS H
        refine op_append (o := o600) (E := (encInt .i64)) (xs := l433) (ys := ([65533] : List Int)) tab hk rfl rfl rfl rfl rfl rfl rfl f434 (Own.rd f604.now) q608 fun A609 c610 w605 o606 st607 f611 hc612 => ?_
        replace f14 := f14.st st607 (by decide)
        replace f604 := f604.st st607 (by decide)
        replace fg0 := fg0.st st607 (by decide)
        replace hs := hs.loc0 st607 (by decide)
        have hk := hk.put 45 (.slice A609 ((l433 ++ ([65533] : List Int))).length c610) rfl
        refine x_run tab hk (k := 1) (lv := []) (ks := [0, 3, 4, 15, 16, 17]) (e' := [(0, .slice (some ad529) ((List.drop 0 (List.take (Int.toNat (if 40 < ((p0).length : Int) then 40 else ((p0).length : Int))) p0))).length c13), (3, .string (x430 ++ t533)), (4, .slice A609 ((l433 ++ ([65533] : List Int))).length c610), (15, .slice (some ad529) ((List.drop 0 (List.take (Int.toNat (if 40 < ((p0).length : Int) then 40 else ((p0).length : Int))) p0))).length c13), (16, .int .i64 (((List.drop 0 (List.take (Int.toNat (if 40 < ((p0).length : Int) then 40 else ((p0).length : Int))) p0))).length : Int)), (17, .int .i64 x436)]) rfl trivial fun a hk => ?_
        refine wpList_nil ?_
        refine blk_n ?_
        refine then_n ?_
        refine wp_region_lit ?_
        refine x_run tab hk (k := 2) (lv := []) (ks := [0, 3, 4, 15, 16, 17]) (e' := [(0, .slice (some ad529) ((List.drop 0 (List.take (Int.toNat (if 40 < ((p0).length : Int) then 40 else ((p0).length : Int))) p0))).length c13), (3, .string (x430 ++ t533)), (4, .slice A609 ((l433 ++ ([65533] : List Int))).length c610), (15, .slice (some ad529) ((List.drop 0 (List.take (Int.toNat (if 40 < ((p0).length : Int) then 40 else ((p0).length : Int))) p0))).length c13), (16, .int .i64 (((List.drop 0 (List.take (Int.toNat (if 40 < ((p0).length : Int) then 40 else ((p0).length : Int))) p0))).length : Int)), (17, .int .i64 (IntKind.wrap .i64 (x436 + 1)))]) rfl trivial fun a hk => ?_
        refine wpList_nil ?_
        refine then_n ?_
        exact ⟨k524, Nat.le_refl _, o606, (x430 ++ t533), A609, c610, (l433 ++ ([65533] : List Int)), (IntKind.wrap .i64 (x436 + 1)), (by exact Kn.pick (ks := [0, 3, 4, 15, 16, 17]) hk rfl), hs, f14, f611, fg0, hc612, (hlp526 ▸ H)⟩
  · rw [b9] at hk H
    replace H := bifT H
    refine x_if hk (b := true) rfl ?_
    refine (show Code.wp _ _ _ _ _ from ?_)
    refine x_seq ?_
    refine wp_region_lit ?_
    refine x_run tab hk (k := 1) (lv := []) (ks := [2]) (e' := [(2, .bool false)]) rfl trivial fun a hk => ?_
    refine wpList_nil ?_
    refine then_n ?_
    refine wp_ret ?_
    refine then_r ?_
    obtain rfl := Option.some.inj H
    exact x_retG hk (rs := [.tmp 2]) (vs := [.bool false]) rfl ⟨rfl, trivial⟩ ⟨fun b_ => if b_ < w.heap.size then o b_ else (fun _ => 0) (o7 b_), rfl, hs.close0 o (fun _ => 0)⟩

/-! tidewrack/tidewracklaw05.GlyphHeals -/
theorem tidewracklaw05_GlyphHeals_calls (K : Nat) (p0 : ByteArray) (p1 : Int) (w : World) (o : Nat → Nat) (Lg0 : Nat) (hg0 : Ft (RdC ET47 (some ⟨0, 0, none⟩) glob0) w o Lg0)  (r : Bool) (H : tidewracklaw05_GlyphHeals K p0 p1 = some r) :
    Calls Tryd.prog 6 #[.string p0, .int .i32 p1] w (Ret fun v_ w' => ∃ o' : Nat → Nat, v_ = .bool r ∧ St [] w o w' o') := by
  refine x_enter (vs := [.string p0, .int .i32 p1]) Tryd.func6 rfl rfl rfl fun a hk => ?_
  obtain ⟨o0, hs, h0⟩ := St.start w o
  have fg0 := h0 _ _ hg0
  clear h0
  rw [tidewracklaw05_GlyphHeals] at H
  refine x_seq ?_
  refine wp_region_lit ?_
  refine x_run tab hk (k := 1) (lv := []) (ks := [0, 1]) (e' := [(0, .string p0), (1, .int .i32 p1)]) rfl trivial fun a hk => ?_
  refine wpList_nil ?_
  refine then_n ?_
  refine x_seq ?_
  refine x_seq ?_
  refine wp_region_lit ?_
  refine x_op hk rfl ?_
  obtain ⟨t4, hc5, H⟩ := bindS H
  refine op_call hk ent_8 (vs := []) rfl (tidewracklaw05_awake_calls K  _ o0 0 fg0   _ hc5) ?_
  rintro _ w6 ⟨o7, rfl, st8⟩
  replace fg0 := fg0.st st8 (by decide)
  replace hs := hs.loc0 st8 (by decide)
  have hk := hk.put 7 (.bool t4) rfl
  refine x_run tab hk (k := 1) (lv := []) (ks := [0, 1, 8]) (e' := [(0, .string p0), (1, .int .i32 p1), (8, .bool (!t4))]) rfl trivial fun a hk => ?_
  refine wpList_nil ?_
  refine then_n ?_
  cases b9 : (!t4)
  · rw [b9] at hk H
    replace H := bifF H
    refine x_if hk (b := false) rfl ?_
    refine (show Code.wp _ _ _ _ _ from ?_)
    refine wp_skip ?_
    refine then_n ?_
    refine x_seq ?_
    refine wp_region_lit ?_
    refine x_run tab hk (k := 1) (lv := []) (ks := [1, 9]) (e' := [(1, .int .i32 p1), (9, .string p0)]) rfl trivial fun a hk => ?_
    refine x_op hk rfl ?_
    obtain ⟨t13, hc14, H⟩ := bindS H
    refine op_call hk ent_9 (vs := [.string p0, .int .i64 60]) rfl (tidewracklaw01_Cut_calls p0 60 _ o7    _ hc14) ?_
    rintro _ w15 ⟨o16, rfl, st17⟩
    replace fg0 := fg0.st st17 (by decide)
    replace hs := hs.loc0 st17 (by decide)
    have hk := hk.put 10 (.string t13) rfl
    refine x_run tab hk (k := 1) (lv := []) (ks := [0, 1]) (e' := [(0, .string t13), (1, .int .i32 p1)]) rfl trivial fun a hk => ?_
    refine wpList_nil ?_
    refine then_n ?_
    refine x_seq ?_
    refine wp_region_lit ?_
    refine x_run tab hk (k := 2) (lv := []) (ks := [1, 11, 12]) (e' := [(1, .int .i32 p1), (11, .string t13), (12, .int .i32 p1)]) rfl trivial fun a hk => ?_
    refine x_op hk rfl ?_
    refine op_slice (o := o16) tab hk (vs := [.int .i32 p1]) (cs := [.int .i32 p1]) rfl rfl rfl rfl rfl rfl rfl rfl rfl 1 fun bx21 w18 o19 st20 f22 => ?_
    replace fg0 := fg0.st st20 (by decide)
    replace hs := hs.loc0 st20 (by decide)
    have f23 : Ft (Own (encInt .i32) 21 (.slice (some ⟨bx21, 0, none⟩) (([p1] : List Int)).length 1) ([p1] : List Int)) w18 o19 1 := f22.imp fun _ h_ => Own.of_box h_ rfl (by simp)
    have hk := hk.put 13 (.slice (some ⟨bx21, 0, none⟩) (([p1] : List Int)).length 1) rfl
    refine x_op hk rfl ?_
    obtain ⟨t27, hc28, H⟩ := bindS H
    refine op_call hk ent_17 (vs := [.slice (some ⟨bx21, 0, none⟩) (([p1] : List Int)).length 1]) rfl (glyph_Encode_calls K (some ⟨bx21, 0, none⟩) 1 ([p1] : List Int) _ o19 _ (f23.imp fun _ h_ => Own.rd h_) (Nat.le_refl _)   _ hc28) ?_
    rintro _ w29 ⟨o30, rfl, st31⟩
    replace f23 := f23.st st31 (by decide)
    replace fg0 := fg0.st st31 (by decide)
    replace hs := hs.loc0 st31 (by decide)
    have hk := hk.put 14 (.string t27) rfl
    obtain ⟨q32, H⟩ := ifS H
    refine x_run tab hk (k := 1) (lv := []) (ks := [1, 15]) (e' := [(1, .int .i32 p1), (15, .string (t13 ++ t27))]) rfl ⟨q32, trivial⟩ fun a hk => ?_
    refine x_op hk rfl ?_
    obtain ⟨t36, hc37, H⟩ := bindS H
    refine op_call hk ent_13 (vs := [.string (t13 ++ t27)]) rfl (glyph_Decode_calls K (t13 ++ t27) _ o30 0 fg0 2  _ hc37) ?_
    rintro _ w38 ⟨o39, A41, c42, rfl, st40, f43, hc44⟩
    replace fg0 := fg0.st st40 (by decide)
    replace hs := hs.loc0 st40 (by decide)
    have hk := hk.put 16 (.slice A41 (t36).length c42) rfl
    refine x_run tab hk (k := 1) (lv := []) (ks := [1, 5]) (e' := [(1, .int .i32 p1), (5, .slice A41 (t36).length c42)]) rfl trivial fun a hk => ?_
    refine wpList_nil ?_
    refine then_n ?_
    refine x_seq ?_
    refine wp_region_lit ?_
    refine x_run tab hk (k := 3) (lv := []) (ks := [1, 5, 6]) (e' := [(1, .int .i32 p1), (5, .slice A41 (t36).length c42), (6, .int .i64 (IntKind.wrap .i64 p1))]) rfl trivial fun a hk => ?_
    refine wpList_nil ?_
    refine then_n ?_
    refine x_mid (fun a_ w_ => ∃ o55 : Nat → Nat, ∃ x56 : Int, Kn 47 a_ [(5, .slice A41 (t36).length c42), (6, .int .i64 x56)] ∧ St [] w (fun _ => 0) w_ o55 ∧ Ft (Own (encInt .i32) 21 (.slice A41 (t36).length c42) t36) w_ o55 3 ∧ Ft (RdC ET47 (some ⟨0, 0, none⟩) glob0) w_ o55 0 ∧ tidewracklaw05_GlyphHeals_j1 t36 x56 = some r) ?_ ?_
    rotate_left
    · rintro a w57 ⟨o55, x56, hk, hs, f43, fg0, H⟩
      rw [tidewracklaw05_GlyphHeals_j1] at H
      refine x_seq ?_
      refine wp_region_lit ?_
      refine x_run tab hk (k := 4) (lv := []) (ks := [5, 6, 36]) (e' := [(5, .slice A41 (t36).length c42), (6, .int .i64 x56), (36, .bool (decide (((t36).length : Int) > (0 : Int))))]) rfl trivial fun a hk => ?_
      cases b58 : (decide (((t36).length : Int) > (0 : Int)))
      · rw [b58] at hk H
        replace H := bifF H
        refine x_run tab hk (k := 10) (lv := []) (ks := [46]) (e' := [(46, .bool false)]) rfl trivial fun a hk => ?_
        refine x_run tab hk (k := 1) (lv := []) (ks := [4]) (e' := [(4, .bool false)]) rfl trivial fun a hk => ?_
        refine wpList_nil ?_
        refine then_n ?_
        refine wp_ret ?_
        obtain rfl := Option.some.inj H
        exact x_retG hk (rs := [.tmp 4]) (vs := [.bool false]) rfl ⟨rfl, trivial⟩ ⟨fun b_ => if b_ < w.heap.size then o b_ else (fun _ => 0) (o55 b_), rfl, hs.close0 o (fun _ => 0)⟩
      · rw [b58] at hk H
        replace H := bifT H
        obtain ⟨q59, H⟩ := ifS H
        obtain ⟨ad60, hAad60⟩ := RdC.addr (Own.rd f43.now) q59
        subst hAad60
        refine x_run tab hk (k := 10) (lv := [.int .i32 (rdD 0 t36 (IntKind.wrap .i64 (((t36).length : Int) - 1)))]) (ks := [46]) (e' := [(46, .bool ((IntKind.wrap .i64 (rdD 0 t36 (IntKind.wrap .i64 (((t36).length : Int) - 1)))) == x56))]) rfl ⟨q59, (load1 tab rfl (RdC.at0 (E := (encInt .i32)) (d := 0) (i := (IntKind.wrap .i64 (((t36).length : Int) - 1))) (Own.rd f43.now) q59 rfl)), trivial⟩ fun a hk => ?_
        refine x_run tab hk (k := 1) (lv := []) (ks := [4]) (e' := [(4, .bool ((IntKind.wrap .i64 (rdD 0 t36 (IntKind.wrap .i64 (((t36).length : Int) - 1)))) == x56))]) rfl trivial fun a hk => ?_
        refine wpList_nil ?_
        refine then_n ?_
        refine wp_ret ?_
        obtain rfl := Option.some.inj H
        exact x_retG hk (rs := [.tmp 4]) (vs := [.bool ((IntKind.wrap .i64 (rdD 0 t36 (IntKind.wrap .i64 (((t36).length : Int) - 1)))) == x56)]) rfl ⟨rfl, trivial⟩ ⟨fun b_ => if b_ < w.heap.size then o b_ else (fun _ => 0) (o55 b_), rfl, hs.close0 o (fun _ => 0)⟩
    refine x_seq ?_
    refine wp_region_lit ?_
    refine x_run tab hk (k := 3) (lv := []) (ks := [1, 5, 6, 21]) (e' := [(1, .int .i32 p1), (5, .slice A41 (t36).length c42), (6, .int .i64 (IntKind.wrap .i64 p1)), (21, .bool (decide (p1 < (0 : Int))))]) rfl trivial fun a hk => ?_
    cases b61 : (decide (p1 < (0 : Int)))
    · rw [b61] at hk H
      replace H := bifF H
      refine x_run tab hk (k := 4) (lv := []) (ks := [1, 5, 6, 25]) (e' := [(1, .int .i32 p1), (5, .slice A41 (t36).length c42), (6, .int .i64 (IntKind.wrap .i64 p1)), (25, .bool (decide (p1 > (1114111 : Int))))]) rfl trivial fun a hk => ?_
      cases b62 : (decide (p1 > (1114111 : Int)))
      · rw [b62] at hk H
        replace H := bifF H
        refine x_run tab hk (k := 3) (lv := []) (ks := [1, 5, 6, 25, 28]) (e' := [(1, .int .i32 p1), (5, .slice A41 (t36).length c42), (6, .int .i64 (IntKind.wrap .i64 p1)), (25, .bool false), (28, .bool (decide (p1 ≥ (55296 : Int))))]) rfl trivial fun a hk => ?_
        cases b63 : (decide (p1 ≥ (55296 : Int)))
        · rw [b63] at hk H
          replace H := bifF H
          refine x_run tab hk (k := 4) (lv := []) (ks := [5, 6, 32]) (e' := [(5, .slice A41 (t36).length c42), (6, .int .i64 (IntKind.wrap .i64 p1)), (32, .bool false)]) rfl trivial fun a hk => ?_
          refine wpList_nil ?_
          refine then_n ?_
          refine x_if hk (b := false) rfl ?_
          refine (show Code.wp _ _ _ _ _ from ?_)
          refine wp_skip ?_
          refine then_n ?_
          exact ⟨(fun b_ => (fun l_ => if l_ = 2 then 3 else l_) (o39 b_)), (IntKind.wrap .i64 p1), (by exact Kn.pick (ks := [5, 6]) hk rfl), (hs.relab0 (fun l_ => if l_ = 2 then 3 else l_) rfl), (f43.relab (fun l_ => if l_ = 2 then 3 else l_) rfl), (fg0.relab (fun l_ => if l_ = 2 then 3 else l_) rfl), H⟩
        · rw [b63] at hk H
          replace H := bifT H
          refine x_run tab hk (k := 4) (lv := []) (ks := [5, 6, 32]) (e' := [(5, .slice A41 (t36).length c42), (6, .int .i64 (IntKind.wrap .i64 p1)), (32, .bool (decide (p1 ≤ (57343 : Int))))]) rfl trivial fun a hk => ?_
          refine wpList_nil ?_
          refine then_n ?_
          cases b64 : (decide (p1 ≤ (57343 : Int)))
          · rw [b64] at hk H
            replace H := bifF H
            refine x_if hk (b := false) rfl ?_
            refine (show Code.wp _ _ _ _ _ from ?_)
            refine wp_skip ?_
            refine then_n ?_
            exact ⟨(fun b_ => (fun l_ => if l_ = 2 then 3 else l_) (o39 b_)), (IntKind.wrap .i64 p1), (by exact Kn.pick (ks := [5, 6]) hk rfl), (hs.relab0 (fun l_ => if l_ = 2 then 3 else l_) rfl), (f43.relab (fun l_ => if l_ = 2 then 3 else l_) rfl), (fg0.relab (fun l_ => if l_ = 2 then 3 else l_) rfl), H⟩
          · rw [b64] at hk H
            replace H := bifT H
            refine x_if hk (b := true) rfl ?_
            refine (show Code.wp _ _ _ _ _ from ?_)
            refine wp_region_lit ?_
            refine x_run tab hk (k := 1) (lv := []) (ks := [5, 6]) (e' := [(5, .slice A41 (t36).length c42), (6, .int .i64 65533)]) rfl trivial fun a hk => ?_
            refine wpList_nil ?_
            refine then_n ?_
            exact ⟨(fun b_ => (fun l_ => if l_ = 2 then 3 else l_) (o39 b_)), 65533, (by exact Kn.pick (ks := [5, 6]) hk rfl), (hs.relab0 (fun l_ => if l_ = 2 then 3 else l_) rfl), (f43.relab (fun l_ => if l_ = 2 then 3 else l_) rfl), (fg0.relab (fun l_ => if l_ = 2 then 3 else l_) rfl), H⟩
      · rw [b62] at hk H
        replace H := bifT H
        refine x_run tab hk (k := 7) (lv := []) (ks := [5, 6, 32]) (e' := [(5, .slice A41 (t36).length c42), (6, .int .i64 (IntKind.wrap .i64 p1)), (32, .bool true)]) rfl trivial fun a hk => ?_
        refine wpList_nil ?_
        refine then_n ?_
        refine x_if hk (b := true) rfl ?_
        refine (show Code.wp _ _ _ _ _ from ?_)
        refine wp_region_lit ?_
        refine x_run tab hk (k := 1) (lv := []) (ks := [5, 6]) (e' := [(5, .slice A41 (t36).length c42), (6, .int .i64 65533)]) rfl trivial fun a hk => ?_
        refine wpList_nil ?_
        refine then_n ?_
        exact ⟨(fun b_ => (fun l_ => if l_ = 2 then 3 else l_) (o39 b_)), 65533, (by exact Kn.pick (ks := [5, 6]) hk rfl), (hs.relab0 (fun l_ => if l_ = 2 then 3 else l_) rfl), (f43.relab (fun l_ => if l_ = 2 then 3 else l_) rfl), (fg0.relab (fun l_ => if l_ = 2 then 3 else l_) rfl), H⟩
    · rw [b61] at hk H
      replace H := bifT H
      refine x_run tab hk (k := 10) (lv := []) (ks := [5, 6, 25, 31]) (e' := [(5, .slice A41 (t36).length c42), (6, .int .i64 (IntKind.wrap .i64 p1)), (25, .bool true), (31, undef)]) rfl trivial fun a hk => ?_
      refine x_run tab hk (k := 1) (lv := []) (ks := [5, 6, 32]) (e' := [(5, .slice A41 (t36).length c42), (6, .int .i64 (IntKind.wrap .i64 p1)), (32, .bool true)]) rfl trivial fun a hk => ?_
      refine wpList_nil ?_
      refine then_n ?_
      refine x_if hk (b := true) rfl ?_
      refine (show Code.wp _ _ _ _ _ from ?_)
      refine wp_region_lit ?_
      refine x_run tab hk (k := 1) (lv := []) (ks := [5, 6]) (e' := [(5, .slice A41 (t36).length c42), (6, .int .i64 65533)]) rfl trivial fun a hk => ?_
      refine wpList_nil ?_
      refine then_n ?_
      exact ⟨(fun b_ => (fun l_ => if l_ = 2 then 3 else l_) (o39 b_)), 65533, (by exact Kn.pick (ks := [5, 6]) hk rfl), (hs.relab0 (fun l_ => if l_ = 2 then 3 else l_) rfl), (f43.relab (fun l_ => if l_ = 2 then 3 else l_) rfl), (fg0.relab (fun l_ => if l_ = 2 then 3 else l_) rfl), H⟩
  · rw [b9] at hk H
    replace H := bifT H
    refine x_if hk (b := true) rfl ?_
    refine (show Code.wp _ _ _ _ _ from ?_)
    refine x_seq ?_
    refine wp_region_lit ?_
    refine x_run tab hk (k := 1) (lv := []) (ks := [4]) (e' := [(4, .bool false)]) rfl trivial fun a hk => ?_
    refine wpList_nil ?_
    refine then_n ?_
    refine wp_ret ?_
    refine then_r ?_
    obtain rfl := Option.some.inj H
    exact x_retG hk (rs := [.tmp 4]) (vs := [.bool false]) rfl ⟨rfl, trivial⟩ ⟨fun b_ => if b_ < w.heap.size then o b_ else (fun _ => 0) (o7 b_), rfl, hs.close0 o (fun _ => 0)⟩

/-! tidewrack/tidewracklaw05.GlyphValid -/
theorem tidewracklaw05_GlyphValid_calls (K : Nat) (p0 : ByteArray) (w : World) (o : Nat → Nat) (Lg0 : Nat) (hg0 : Ft (RdC ET47 (some ⟨0, 0, none⟩) glob0) w o Lg0)  (r : Bool) (H : tidewracklaw05_GlyphValid K p0 = some r) :
    Calls Tryd.prog 7 #[.string p0] w (Ret fun v_ w' => ∃ o' : Nat → Nat, v_ = .bool r ∧ St [] w o w' o') := by
  refine x_enter (vs := [.string p0]) Tryd.func7 rfl rfl rfl fun a hk => ?_
  obtain ⟨o0, hs, h0⟩ := St.start w o
  have fg0 := h0 _ _ hg0
  clear h0
  rw [tidewracklaw05_GlyphValid] at H
  refine x_seq ?_
  refine wp_region_lit ?_
  refine x_run tab hk (k := 1) (lv := []) (ks := [0]) (e' := [(0, .string p0)]) rfl trivial fun a hk => ?_
  refine wpList_nil ?_
  refine then_n ?_
  refine x_seq ?_
  refine x_seq ?_
  refine wp_region_lit ?_
  refine x_op hk rfl ?_
  obtain ⟨t4, hc5, H⟩ := bindS H
  refine op_call hk ent_8 (vs := []) rfl (tidewracklaw05_awake_calls K  _ o0 0 fg0   _ hc5) ?_
  rintro _ w6 ⟨o7, rfl, st8⟩
  replace fg0 := fg0.st st8 (by decide)
  replace hs := hs.loc0 st8 (by decide)
  have hk := hk.put 6 (.bool t4) rfl
  refine x_run tab hk (k := 1) (lv := []) (ks := [0, 7]) (e' := [(0, .string p0), (7, .bool (!t4))]) rfl trivial fun a hk => ?_
  refine wpList_nil ?_
  refine then_n ?_
  cases b9 : (!t4)
  · rw [b9] at hk H
    replace H := bifF H
    refine x_if hk (b := false) rfl ?_
    refine (show Code.wp _ _ _ _ _ from ?_)
    refine wp_skip ?_
    refine then_n ?_
    refine x_seq ?_
    refine wp_region_lit ?_
    refine x_run tab hk (k := 1) (lv := []) (ks := [8]) (e' := [(8, .string p0)]) rfl trivial fun a hk => ?_
    refine x_op hk rfl ?_
    obtain ⟨t13, hc14, H⟩ := bindS H
    refine op_call hk ent_9 (vs := [.string p0, .int .i64 80]) rfl (tidewracklaw01_Cut_calls p0 80 _ o7    _ hc14) ?_
    rintro _ w15 ⟨o16, rfl, st17⟩
    replace fg0 := fg0.st st17 (by decide)
    replace hs := hs.loc0 st17 (by decide)
    have hk := hk.put 9 (.string t13) rfl
    refine x_run tab hk (k := 1) (lv := []) (ks := [0]) (e' := [(0, .string t13)]) rfl trivial fun a hk => ?_
    refine wpList_nil ?_
    refine then_n ?_
    refine x_seq ?_
    refine wp_region_lit ?_
    refine x_run tab hk (k := 1) (lv := []) (ks := [0, 10]) (e' := [(0, .string t13), (10, .string t13)]) rfl trivial fun a hk => ?_
    refine x_op hk rfl ?_
    obtain ⟨t21, hc22, H⟩ := bindS H
    refine op_call hk ent_13 (vs := [.string t13]) rfl (glyph_Decode_calls K t13 _ o16 0 fg0 1  _ hc22) ?_
    rintro _ w23 ⟨o24, A26, c27, rfl, st25, f28, hc29⟩
    replace fg0 := fg0.st st25 (by decide)
    replace hs := hs.loc0 st25 (by decide)
    have hk := hk.put 11 (.slice A26 (t21).length c27) rfl
    refine x_run tab hk (k := 1) (lv := []) (ks := [0, 3]) (e' := [(0, .string t13), (3, .slice A26 (t21).length c27)]) rfl trivial fun a hk => ?_
    refine wpList_nil ?_
    refine then_n ?_
    refine x_mid (fun a_ w_ => ∃ o64 : Nat → Nat, Kn 47 a_ [(0, .string t13), (3, .slice A26 (t21).length c27)] ∧ St [] w (fun _ => 0) w_ o64 ∧ Ft (Own (encInt .i32) 21 (.slice A26 (t21).length c27) t21) w_ o64 5 ∧ Ft (RdC ET47 (some ⟨0, 0, none⟩) glob0) w_ o64 0 ∧ tidewracklaw05_GlyphValid_j1 t13 t21 = some r) ?_ ?_
    rotate_left
    · rintro a w65 ⟨o64, hk, hs, f28, fg0, H⟩
      rw [tidewracklaw05_GlyphValid_j1] at H
      refine x_seq ?_
      refine wp_region_lit ?_
      refine x_run tab hk (k := 6) (lv := []) (ks := [0, 3, 38]) (e' := [(0, .string t13), (3, .slice A26 (t21).length c27), (38, .bool (decide (((t21).length : Int) ≤ ((t13).size : Int))))]) rfl trivial fun a hk => ?_
      cases b66 : (decide (((t21).length : Int) ≤ ((t13).size : Int)))
      · rw [b66] at hk H
        replace H := bifF H
        refine x_run tab hk (k := 9) (lv := []) (ks := [2]) (e' := [(2, .bool false)]) rfl trivial fun a hk => ?_
        refine wpList_nil ?_
        refine then_n ?_
        refine wp_ret ?_
        obtain rfl := Option.some.inj H
        exact x_retG hk (rs := [.tmp 2]) (vs := [.bool false]) rfl ⟨rfl, trivial⟩ ⟨fun b_ => if b_ < w.heap.size then o b_ else (fun _ => 0) (o64 b_), rfl, hs.close0 o (fun _ => 0)⟩
      · rw [b66] at hk H
        replace H := bifT H
        refine x_run tab hk (k := 3) (lv := []) (ks := [3, 38, 41]) (e' := [(3, .slice A26 (t21).length c27), (38, .bool true), (41, .bool (ByteArray.toList t13 == ByteArray.toList (⟨#[]⟩ : ByteArray)))]) rfl trivial fun a hk => ?_
        cases b67 : (ByteArray.toList t13 == ByteArray.toList (⟨#[]⟩ : ByteArray))
        · rw [b67] at hk H
          replace H := bifF H
          refine x_run tab hk (k := 6) (lv := []) (ks := [2]) (e' := [(2, .bool (decide (((t21).length : Int) > (0 : Int))))]) rfl trivial fun a hk => ?_
          refine wpList_nil ?_
          refine then_n ?_
          refine wp_ret ?_
          obtain rfl := Option.some.inj H
          exact x_retG hk (rs := [.tmp 2]) (vs := [.bool (decide (((t21).length : Int) > (0 : Int)))]) rfl ⟨rfl, trivial⟩ ⟨fun b_ => if b_ < w.heap.size then o b_ else (fun _ => 0) (o64 b_), rfl, hs.close0 o (fun _ => 0)⟩
        · rw [b67] at hk H
          replace H := bifT H
          refine x_run tab hk (k := 6) (lv := []) (ks := [2]) (e' := [(2, .bool true)]) rfl trivial fun a hk => ?_
          refine wpList_nil ?_
          refine then_n ?_
          refine wp_ret ?_
          obtain rfl := Option.some.inj H
          exact x_retG hk (rs := [.tmp 2]) (vs := [.bool true]) rfl ⟨rfl, trivial⟩ ⟨fun b_ => if b_ < w.heap.size then o b_ else (fun _ => 0) (o64 b_), rfl, hs.close0 o (fun _ => 0)⟩
    refine x_seq ?_
    refine wp_region_lit ?_
    refine x_run tab hk (k := 3) (lv := []) (ks := [0, 3, 12, 13, 14]) (e' := [(0, .string t13), (3, .slice A26 (t21).length c27), (12, .slice A26 (t21).length c27), (13, .int .i64 ((t21).length : Int)), (14, .int .i64 0)]) rfl trivial fun a hk => ?_
    refine wpList_nil ?_
    refine then_n ?_
    refine wp_block ?_
    refine x_loop (fun j_ a_ w_ => ∃ o79 : Nat → Nat, ∃ x80 : Int, Kn 47 a_ [(0, .string t13), (3, .slice A26 (t21).length c27), (12, .slice A26 (t21).length c27), (13, .int .i64 ((t21).length : Int)), (14, .int .i64 x80)] ∧ St [] w (fun _ => 0) w_ o79 ∧ Ft (Own (encInt .i32) 21 (.slice A26 (t21).length c27) t21) w_ o79 8 ∧ Ft (RdC ET47 (some ⟨0, 0, none⟩) glob0) w_ o79 0 ∧ tidewracklaw05_GlyphValid_l2 t13 t21 j_ x80 = some r) (k := K) ⟨(fun b_ => (fun l_ => if l_ = 1 then 8 else l_) (o24 b_)), 0, (by exact Kn.pick (ks := [0, 3, 12, 13, 14]) hk rfl), (hs.relab0 (fun l_ => if l_ = 1 then 8 else l_) rfl), (f28.relab (fun l_ => if l_ = 1 then 8 else l_) rfl), (fg0.relab (fun l_ => if l_ = 1 then 8 else l_) rfl), H⟩ (by rintro _ _ ⟨_, _, _, _, _, _, H_⟩; exact absurd (show (none : Option Bool) = some r from H_) (by simp)) ?_
    rintro k89 a w88 ⟨o79, x80, hk, hs, f28, fg0, H⟩
    rw [tidewracklaw05_GlyphValid_l2] at H
    obtain ⟨lp90, hlp91⟩ : ∃ lp_, lp_ = tidewracklaw05_GlyphValid_l2 t13 t21 k89 := ⟨_, rfl⟩
    rw [← hlp91] at H
    refine x_seq ?_
    refine wp_region_lit ?_
    refine x_run tab hk (k := 1) (lv := []) (ks := [0, 3, 12, 13, 14, 15]) (e' := [(0, .string t13), (3, .slice A26 (t21).length c27), (12, .slice A26 (t21).length c27), (13, .int .i64 ((t21).length : Int)), (14, .int .i64 x80), (15, .bool (decide (x80 < ((t21).length : Int))))]) rfl trivial fun a hk => ?_
    refine wpList_nil ?_
    refine then_n ?_
    refine x_seq ?_
    cases b92 : (decide (x80 < ((t21).length : Int)))
    · rw [b92] at hk H
      replace H := bifF H
      refine x_if hk (b := false) rfl ?_
      refine (show Code.wp _ _ _ _ _ from ?_)
      refine wp_exit ?_
      refine then_x ?_
      refine then_x ?_
      refine blk_x ?_
      refine then_n ?_
      exact ⟨(fun b_ => (fun l_ => if l_ = 8 then 5 else l_) (o79 b_)), (by exact Kn.pick (ks := [0, 3]) hk rfl), (hs.relab0 (fun l_ => if l_ = 8 then 5 else l_) rfl), (f28.relab (fun l_ => if l_ = 8 then 5 else l_) rfl), (fg0.relab (fun l_ => if l_ = 8 then 5 else l_) rfl), H⟩
    · rw [b92] at hk H
      replace H := bifT H
      refine x_if hk (b := true) rfl ?_
      refine (show Code.wp _ _ _ _ _ from ?_)
      refine wp_skip ?_
      refine then_n ?_
      refine x_seq ?_
      refine wp_block ?_
      refine x_seq ?_
      refine wp_region_lit ?_
      obtain ⟨q93, H⟩ := ifS H
      obtain ⟨ad94, hAad94⟩ := RdC.addr (Own.rd f28.now) q93
      subst hAad94
      refine x_run tab hk (k := 3) (lv := [.int .i32 (rdD 0 t21 x80)]) (ks := [0, 3, 5, 12, 13, 14]) (e' := [(0, .string t13), (3, .slice (some ad94) (t21).length c27), (5, .int .i32 (rdD 0 t21 x80)), (12, .slice (some ad94) (t21).length c27), (13, .int .i64 ((t21).length : Int)), (14, .int .i64 x80)]) rfl ⟨q93, (load1 tab rfl (RdC.at0 (E := (encInt .i32)) (d := 0) (i := x80) (Own.rd f28.now) q93 rfl)), trivial⟩ fun a hk => ?_
      refine wpList_nil ?_
      refine then_n ?_
      refine x_seq ?_
      refine wp_region_lit ?_
      refine x_run tab hk (k := 3) (lv := []) (ks := [0, 3, 5, 12, 13, 14, 20]) (e' := [(0, .string t13), (3, .slice (some ad94) (t21).length c27), (5, .int .i32 (rdD 0 t21 x80)), (12, .slice (some ad94) (t21).length c27), (13, .int .i64 ((t21).length : Int)), (14, .int .i64 x80), (20, .bool (decide ((rdD 0 t21 x80) < (0 : Int))))]) rfl trivial fun a hk => ?_
      cases b95 : (decide ((rdD 0 t21 x80) < (0 : Int)))
      · rw [b95] at hk H
        replace H := bifF H
        refine x_run tab hk (k := 4) (lv := []) (ks := [0, 3, 5, 12, 13, 14, 24]) (e' := [(0, .string t13), (3, .slice (some ad94) (t21).length c27), (5, .int .i32 (rdD 0 t21 x80)), (12, .slice (some ad94) (t21).length c27), (13, .int .i64 ((t21).length : Int)), (14, .int .i64 x80), (24, .bool (decide ((rdD 0 t21 x80) > (1114111 : Int))))]) rfl trivial fun a hk => ?_
        cases b96 : (decide ((rdD 0 t21 x80) > (1114111 : Int)))
        · rw [b96] at hk H
          replace H := bifF H
          refine x_run tab hk (k := 3) (lv := []) (ks := [0, 3, 5, 12, 13, 14, 24, 27]) (e' := [(0, .string t13), (3, .slice (some ad94) (t21).length c27), (5, .int .i32 (rdD 0 t21 x80)), (12, .slice (some ad94) (t21).length c27), (13, .int .i64 ((t21).length : Int)), (14, .int .i64 x80), (24, .bool false), (27, .bool (decide ((rdD 0 t21 x80) ≥ (55296 : Int))))]) rfl trivial fun a hk => ?_
          cases b97 : (decide ((rdD 0 t21 x80) ≥ (55296 : Int)))
          · rw [b97] at hk H
            replace H := bifF H
            refine x_run tab hk (k := 4) (lv := []) (ks := [0, 3, 12, 13, 14, 31]) (e' := [(0, .string t13), (3, .slice (some ad94) (t21).length c27), (12, .slice (some ad94) (t21).length c27), (13, .int .i64 ((t21).length : Int)), (14, .int .i64 x80), (31, .bool false)]) rfl trivial fun a hk => ?_
            refine wpList_nil ?_
            refine then_n ?_
            refine x_if hk (b := false) rfl ?_
            refine (show Code.wp _ _ _ _ _ from ?_)
            refine wp_skip ?_
            refine blk_n ?_
            refine then_n ?_
            refine wp_region_lit ?_
            refine x_run tab hk (k := 2) (lv := []) (ks := [0, 3, 12, 13, 14]) (e' := [(0, .string t13), (3, .slice (some ad94) (t21).length c27), (12, .slice (some ad94) (t21).length c27), (13, .int .i64 ((t21).length : Int)), (14, .int .i64 (IntKind.wrap .i64 (x80 + 1)))]) rfl trivial fun a hk => ?_
            refine wpList_nil ?_
            refine then_n ?_
            exact ⟨k89, Nat.le_refl _, o79, (IntKind.wrap .i64 (x80 + 1)), (by exact Kn.pick (ks := [0, 3, 12, 13, 14]) hk rfl), hs, f28, fg0, (hlp91 ▸ H)⟩
          · rw [b97] at hk H
            replace H := bifT H
            refine x_run tab hk (k := 4) (lv := []) (ks := [0, 3, 12, 13, 14, 31]) (e' := [(0, .string t13), (3, .slice (some ad94) (t21).length c27), (12, .slice (some ad94) (t21).length c27), (13, .int .i64 ((t21).length : Int)), (14, .int .i64 x80), (31, .bool (decide ((rdD 0 t21 x80) ≤ (57343 : Int))))]) rfl trivial fun a hk => ?_
            refine wpList_nil ?_
            refine then_n ?_
            cases b98 : (decide ((rdD 0 t21 x80) ≤ (57343 : Int)))
            · rw [b98] at hk H
              replace H := bifF H
              refine x_if hk (b := false) rfl ?_
              refine (show Code.wp _ _ _ _ _ from ?_)
              refine wp_skip ?_
              refine blk_n ?_
              refine then_n ?_
              refine wp_region_lit ?_
              refine x_run tab hk (k := 2) (lv := []) (ks := [0, 3, 12, 13, 14]) (e' := [(0, .string t13), (3, .slice (some ad94) (t21).length c27), (12, .slice (some ad94) (t21).length c27), (13, .int .i64 ((t21).length : Int)), (14, .int .i64 (IntKind.wrap .i64 (x80 + 1)))]) rfl trivial fun a hk => ?_
              refine wpList_nil ?_
              refine then_n ?_
              exact ⟨k89, Nat.le_refl _, o79, (IntKind.wrap .i64 (x80 + 1)), (by exact Kn.pick (ks := [0, 3, 12, 13, 14]) hk rfl), hs, f28, fg0, (hlp91 ▸ H)⟩
            · rw [b98] at hk H
              replace H := bifT H
              refine x_if hk (b := true) rfl ?_
              refine (show Code.wp _ _ _ _ _ from ?_)
              refine x_seq ?_
              refine wp_region_lit ?_
              refine x_run tab hk (k := 1) (lv := []) (ks := [2]) (e' := [(2, .bool false)]) rfl trivial fun a hk => ?_
              refine wpList_nil ?_
              refine then_n ?_
              refine wp_ret ?_
              refine blk_r ?_
              refine then_r ?_
              refine then_r ?_
              refine blk_r ?_
              refine then_r ?_
              obtain rfl := Option.some.inj H
              exact x_retG hk (rs := [.tmp 2]) (vs := [.bool false]) rfl ⟨rfl, trivial⟩ ⟨fun b_ => if b_ < w.heap.size then o b_ else (fun _ => 0) (o79 b_), rfl, hs.close0 o (fun _ => 0)⟩
        · rw [b96] at hk H
          replace H := bifT H
          refine x_run tab hk (k := 7) (lv := []) (ks := [0, 3, 12, 13, 14, 31]) (e' := [(0, .string t13), (3, .slice (some ad94) (t21).length c27), (12, .slice (some ad94) (t21).length c27), (13, .int .i64 ((t21).length : Int)), (14, .int .i64 x80), (31, .bool true)]) rfl trivial fun a hk => ?_
          refine wpList_nil ?_
          refine then_n ?_
          refine x_if hk (b := true) rfl ?_
          refine (show Code.wp _ _ _ _ _ from ?_)
          refine x_seq ?_
          refine wp_region_lit ?_
          refine x_run tab hk (k := 1) (lv := []) (ks := [2]) (e' := [(2, .bool false)]) rfl trivial fun a hk => ?_
          refine wpList_nil ?_
          refine then_n ?_
          refine wp_ret ?_
          refine blk_r ?_
          refine then_r ?_
          refine then_r ?_
          refine blk_r ?_
          refine then_r ?_
          obtain rfl := Option.some.inj H
          exact x_retG hk (rs := [.tmp 2]) (vs := [.bool false]) rfl ⟨rfl, trivial⟩ ⟨fun b_ => if b_ < w.heap.size then o b_ else (fun _ => 0) (o79 b_), rfl, hs.close0 o (fun _ => 0)⟩
      · rw [b95] at hk H
        replace H := bifT H
        refine x_run tab hk (k := 10) (lv := []) (ks := [0, 3, 12, 13, 14, 24, 30]) (e' := [(0, .string t13), (3, .slice (some ad94) (t21).length c27), (12, .slice (some ad94) (t21).length c27), (13, .int .i64 ((t21).length : Int)), (14, .int .i64 x80), (24, .bool true), (30, undef)]) rfl trivial fun a hk => ?_
        refine x_run tab hk (k := 1) (lv := []) (ks := [0, 3, 12, 13, 14, 31]) (e' := [(0, .string t13), (3, .slice (some ad94) (t21).length c27), (12, .slice (some ad94) (t21).length c27), (13, .int .i64 ((t21).length : Int)), (14, .int .i64 x80), (31, .bool true)]) rfl trivial fun a hk => ?_
        refine wpList_nil ?_
        refine then_n ?_
        refine x_if hk (b := true) rfl ?_
        refine (show Code.wp _ _ _ _ _ from ?_)
        refine x_seq ?_
        refine wp_region_lit ?_
        refine x_run tab hk (k := 1) (lv := []) (ks := [2]) (e' := [(2, .bool false)]) rfl trivial fun a hk => ?_
        refine wpList_nil ?_
        refine then_n ?_
        refine wp_ret ?_
        refine blk_r ?_
        refine then_r ?_
        refine then_r ?_
        refine blk_r ?_
        refine then_r ?_
        obtain rfl := Option.some.inj H
        exact x_retG hk (rs := [.tmp 2]) (vs := [.bool false]) rfl ⟨rfl, trivial⟩ ⟨fun b_ => if b_ < w.heap.size then o b_ else (fun _ => 0) (o79 b_), rfl, hs.close0 o (fun _ => 0)⟩
  · rw [b9] at hk H
    replace H := bifT H
    refine x_if hk (b := true) rfl ?_
    refine (show Code.wp _ _ _ _ _ from ?_)
    refine x_seq ?_
    refine wp_region_lit ?_
    refine x_run tab hk (k := 1) (lv := []) (ks := [2]) (e' := [(2, .bool false)]) rfl trivial fun a hk => ?_
    refine wpList_nil ?_
    refine then_n ?_
    refine wp_ret ?_
    refine then_r ?_
    obtain rfl := Option.some.inj H
    exact x_retG hk (rs := [.tmp 2]) (vs := [.bool false]) rfl ⟨rfl, trivial⟩ ⟨fun b_ => if b_ < w.heap.size then o b_ else (fun _ => 0) (o7 b_), rfl, hs.close0 o (fun _ => 0)⟩

end Go.Proofs.YtaojnfjidbppjaaDoor
