/- Walks, printed by an own program: the machine's calls compute the plain functions. -/
import Derived.Test.YtmolecadkgffkaaDoorW2
set_option linter.unusedVariables false
set_option linter.unusedSimpArgs false
namespace Go.Proofs.YtmolecadkgffkaaDoor
open Go Go.Proofs.XC
/-! tidewrack/tidewracklaw27.LineWords -/
set_option maxHeartbeats 4000000 in
set_option maxRecDepth 20000 in
theorem tidewracklaw27_LineWords_calls (K : Nat) (p0 : Int) (p1 : Int) (p2 : ByteArray) (w : World) (o : Nat → Nat) (Lg0 : Nat) (hg0 : Ft (RdC ET47 (some ⟨0, 0, none⟩) glob0) w o Lg0) (Lg1 : Nat) (hg1 : Ft (GInt 1) w o Lg1) (Lg2 : Nat) (hg2 : Ft (GIface 2) w o Lg2) (Lg3 : Nat) (hg3 : Ft (GIface 3) w o Lg3) (Lg4 : Nat) (hg4 : Ft (GTab Tryd.prog "internal/strconv.uint64pow10" .u64 Lib.pow10Tab) w o Lg4)   (r : Bool) (H : tidewracklaw27_LineWords K p0 p1 p2 = some r) :
    Calls Tryd.prog 6 #[.int .i64 p0, .int .u32 p1, .string p2] w (Ret fun v_ w' => ∃ o' : Nat → Nat, v_ = .bool r ∧ St [] w o w' o') := by
  refine x_enter (vs := [.int .i64 p0, .int .u32 p1, .string p2]) Tryd.func6 rfl rfl rfl fun a hk => ?_
  obtain ⟨o0, hs, h0⟩ := St.start w o
  have fg0 := h0 _ _ hg0
  have fg1 := h0 _ _ hg1
  have fg2 := h0 _ _ hg2
  have fg3 := h0 _ _ hg3
  have fg4 := h0 _ _ hg4
  clear h0
  rw [tidewracklaw27_LineWords] at H
  refine x_seq ?_
  refine wpIn_region_lit ?_
  refine x_run tab hk (k := 1) (lv := []) (ks := [0, 1, 2]) (e' := [(0, .int .i64 p0), (1, .int .u32 p1), (2, .string p2)]) rfl trivial fun a hk => ?_
  refine wpListIn_nil ?_
  refine then_n ?_
  refine x_seq ?_
  refine x_seq ?_
  refine wpIn_region_lit ?_
  refine x_op hk rfl ?_
  obtain ⟨t4, hc5, H⟩ := bindS H
  refine op_call hk ent_7 (vs := []) rfl (tidewracklaw27_awake_calls K  _ o0 0 fg0 0 fg1 0 fg2 0 fg3 0 fg4   _ hc5) ?_
  rintro _ w6 ⟨o7, rfl, st8⟩
  replace fg0 := fg0.st st8 (by decide)
  replace fg1 := fg1.st st8 (by decide)
  replace fg2 := fg2.st st8 (by decide)
  replace fg3 := fg3.st st8 (by decide)
  replace fg4 := fg4.st st8 (by decide)
  replace hs := hs.loc0 st8 (by decide)
  have hk := hk.put 14 (.bool t4) rfl
  refine x_run tab hk (k := 1) (lv := []) (ks := [0, 1, 2, 15]) (e' := [(0, .int .i64 p0), (1, .int .u32 p1), (2, .string p2), (15, .bool (!t4))]) rfl trivial fun a hk => ?_
  refine wpListIn_nil ?_
  refine then_n ?_
  cases b9 : (!t4)
  · rw [b9] at hk H
    replace H := bifF H
    refine x_if hk (b := false) rfl ?_
    refine (show Code.wpIn _ _ _ _ _ _ _ from ?_)
    refine wpIn_skip ?_
    refine then_n ?_
    refine x_seq ?_
    refine wpIn_region_lit ?_
    refine x_op hk rfl ?_
    obtain ⟨t13, hc14, H⟩ := bindS H
    refine op_call hk ent_14 (vs := []) rfl (line_Words_calls K  _ o7 0 fg0 1  _ hc14) ?_
    rintro _ w15 ⟨o16, A18, c19, rfl, st17, f20, hc21⟩
    replace fg0 := fg0.st st17 (by decide)
    replace fg1 := fg1.st st17 (by decide)
    replace fg2 := fg2.st st17 (by decide)
    replace fg3 := fg3.st st17 (by decide)
    replace fg4 := fg4.st st17 (by decide)
    replace hs := hs.loc0 st17 (by decide)
    have hk := hk.put 16 (.slice A18 (t13).length c19) rfl
    refine x_run tab hk (k := 1) (lv := []) (ks := [0, 1, 2, 7]) (e' := [(0, .int .i64 p0), (1, .int .u32 p1), (2, .string p2), (7, .slice A18 (t13).length c19)]) rfl trivial fun a hk => ?_
    refine wpListIn_nil ?_
    refine then_n ?_
    refine x_seq ?_
    refine x_seq ?_
    refine wpIn_region_lit ?_
    refine x_run tab hk (k := 3) (lv := []) (ks := [0, 1, 2, 7, 19]) (e' := [(0, .int .i64 p0), (1, .int .u32 p1), (2, .string p2), (7, .slice A18 (t13).length c19), (19, .bool (((t13).length : Int) != (20 : Int)))]) rfl trivial fun a hk => ?_
    refine wpListIn_nil ?_
    refine then_n ?_
    cases b22 : (((t13).length : Int) != (20 : Int))
    · rw [b22] at hk H
      replace H := bifF H
      refine x_if hk (b := false) rfl ?_
      refine (show Code.wpIn _ _ _ _ _ _ _ from ?_)
      refine wpIn_skip ?_
      refine then_n ?_
      refine x_seq ?_
      refine wpIn_region_lit ?_
      obtain ⟨q23, H⟩ := ifS H
      obtain ⟨ad24, hAad24⟩ := RdC.addr (Own.rd f20.now) q23
      have hk_C := hk
      have f20_C := f20
      have fg0_C := fg0
      have fg1_C := fg1
      have fg2_C := fg2
      have fg3_C := fg3
      have fg4_C := fg4
      subst hAad24
      have hk := hk_C
      clear hk_C
      have f20 := f20_C
      clear f20_C
      have fg0 := fg0_C
      clear fg0_C
      have fg1 := fg1_C
      clear fg1_C
      have fg2 := fg2_C
      clear fg2_C
      have fg3 := fg3_C
      clear fg3_C
      have fg4 := fg4_C
      clear fg4_C
      refine x_run tab hk (k := 7) (lv := [.string (rdD (⟨#[]⟩ : ByteArray) t13 (Int.tmod (bits .and .i64 p0 65535) 20))]) (ks := [1, 2, 8]) (e' := [(1, .int .u32 p1), (2, .string p2), (8, .string (rdD (⟨#[]⟩ : ByteArray) t13 (Int.tmod (bits .and .i64 p0 65535) 20)))]) rfl ⟨(show (20 : Int) ≠ 0 from by decide), q23, (load1 tab rfl (RdC.at0 (E := encStr) (d := (⟨#[]⟩ : ByteArray)) (i := (Int.tmod (bits .and .i64 p0 65535) 20)) (Own.rd f20.now) q23 rfl)), trivial⟩ fun a hk => ?_
      refine wpListIn_nil ?_
      refine then_n ?_
      refine x_seq ?_
      refine wpIn_region_lit ?_
      refine x_run tab hk (k := 1) (lv := []) (ks := [1, 2, 8, 27]) (e' := [(1, .int .u32 p1), (2, .string p2), (8, .string (rdD (⟨#[]⟩ : ByteArray) t13 (Int.tmod (bits .and .i64 p0 65535) 20))), (27, .string (rdD (⟨#[]⟩ : ByteArray) t13 (Int.tmod (bits .and .i64 p0 65535) 20)))]) rfl trivial fun a hk => ?_
      refine x_op hk rfl ?_
      obtain ⟨t28, hc29, H⟩ := bindS H
      refine op_call hk ent_16 (vs := [.string (rdD (⟨#[]⟩ : ByteArray) t13 (Int.tmod (bits .and .i64 p0 65535) 20))]) rfl (tidewrackref27_Form_calls (rdD (⟨#[]⟩ : ByteArray) t13 (Int.tmod (bits .and .i64 p0 65535) 20)) _ o16    _ hc29) ?_
      rintro _ w30 ⟨o31, rfl, st32⟩
      replace fg0 := fg0.st st32 (by decide)
      replace fg1 := fg1.st st32 (by decide)
      replace fg2 := fg2.st st32 (by decide)
      replace fg3 := fg3.st st32 (by decide)
      replace fg4 := fg4.st st32 (by decide)
      replace hs := hs.loc0 st32 (by decide)
      have hk := hk.put 28 (.tuple #[.int .i64 t28.1, .bool t28.2]) rfl
      refine x_run tab hk (k := 5) (lv := []) (ks := [1, 2, 8, 9, 10]) (e' := [(1, .int .u32 p1), (2, .string p2), (8, .string (rdD (⟨#[]⟩ : ByteArray) t13 (Int.tmod (bits .and .i64 p0 65535) 20))), (9, .int .i64 t28.1), (10, .bool t28.2)]) rfl trivial fun a hk => ?_
      refine wpListIn_nil ?_
      refine then_n ?_
      refine x_seq ?_
      refine wpIn_region_lit ?_
      refine x_run tab hk (k := 2) (lv := []) (ks := [1, 2, 8, 9, 10, 32]) (e' := [(1, .int .u32 p1), (2, .string p2), (8, .string (rdD (⟨#[]⟩ : ByteArray) t13 (Int.tmod (bits .and .i64 p0 65535) 20))), (9, .int .i64 t28.1), (10, .bool t28.2), (32, .agg #[.string (rdD (⟨#[]⟩ : ByteArray) t13 (Int.tmod (bits .and .i64 p0 65535) 20)), .slice none 0 0, .string (⟨#[]⟩ : ByteArray)])]) rfl trivial fun a hk => ?_
      refine x_op hk rfl ?_
      refine op_alloc (o := o31) tab (t := 30) (cs := [.string (⟨#[]⟩ : ByteArray), .slice none 0 0, .string (⟨#[]⟩ : ByteArray)]) rfl rfl 2 fun bx36 w33 o34 st35 f37 => ?_
      replace fg0 := fg0.st st35 (by decide)
      replace fg1 := fg1.st st35 (by decide)
      replace fg2 := fg2.st st35 (by decide)
      replace fg3 := fg3.st st35 (by decide)
      replace fg4 := fg4.st st35 (by decide)
      replace hs := hs.loc0 st35 (by decide)
      have hk := hk.put 11 (.pointer (some ⟨bx36, 0, none⟩)) rfl
      refine x_op hk rfl ?_
      refine op_store tab hk (t := 30) (v := .agg #[.string (rdD (⟨#[]⟩ : ByteArray) t13 (Int.tmod (bits .and .i64 p0 65535) 20)), .slice none 0 0, .string (⟨#[]⟩ : ByteArray)]) (b := bx36) (k := 0) (cs' := [.string (rdD (⟨#[]⟩ : ByteArray) t13 (Int.tmod (bits .and .i64 p0 65535) 20)), .slice none 0 0, .string (⟨#[]⟩ : ByteArray)]) rfl rfl rfl rfl rfl rfl f37 rfl rfl fun w38 o39 st40 f37_ => ?_
      replace fg0 := fg0.st st40 (by decide)
      replace fg1 := fg1.st st40 (by decide)
      replace fg2 := fg2.st st40 (by decide)
      replace fg3 := fg3.st st40 (by decide)
      replace fg4 := fg4.st st40 (by decide)
      replace hs := hs.loc0 st40 (by decide)
      replace f37 := f37_
      refine wpListIn_nil ?_
      refine then_n ?_
      refine x_mid (fun a_ w_ => ∃ o119 : Nat → Nat, ∃ A120 : Option Addr, ∃ c121 : Nat, ∃ l122 : List Int, Kn 87 a_ [(2, .string p2), (8, .string (rdD (⟨#[]⟩ : ByteArray) t13 (Int.tmod (bits .and .i64 p0 65535) 20))), (10, .bool t28.2), (11, .pointer (some ⟨bx36, 0, none⟩))] ∧ St [] w (fun _ => 0) w_ o119 ∧ Ft (Own (encInt .i64) 3 (.slice A120 (l122).length c121) l122) w_ o119 11 ∧ Ft (Bx bx36 30 [.string (rdD (⟨#[]⟩ : ByteArray) t13 (Int.tmod (bits .and .i64 p0 65535) 20)), .slice A120 (l122).length c121, .string (⟨#[]⟩ : ByteArray)]) w_ o119 12 ∧ Ft (RdC ET47 (some ⟨0, 0, none⟩) glob0) w_ o119 0 ∧ Ft (GInt 1) w_ o119 0 ∧ Ft (GIface 2) w_ o119 0 ∧ Ft (GIface 3) w_ o119 0 ∧ Ft (GTab Tryd.prog "internal/strconv.uint64pow10" .u64 Lib.pow10Tab) w_ o119 0 ∧ (l122).length ≤ c121 ∧ tidewracklaw27_LineWords_j1 K p0 p2 t13 t28 l122 = some r) ?_ ?_
      rotate_left
      · rintro a w125 ⟨o119, A120, c121, l122, hk, hs, f123, f37, fg0, fg1, fg2, fg3, fg4, hc124, H⟩
        unfold tidewracklaw27_LineWords_j1 at H
        refine x_mid (fun a_ w_ => ∃ o144 : Nat → Nat, ∃ x145 : ByteArray, Kn 87 a_ [(8, .string (rdD (⟨#[]⟩ : ByteArray) t13 (Int.tmod (bits .and .i64 p0 65535) 20))), (11, .pointer (some ⟨bx36, 0, none⟩))] ∧ St [] w (fun _ => 0) w_ o144 ∧ Ft (Own (encInt .i64) 3 (.slice A120 (l122).length c121) l122) w_ o144 13 ∧ Ft (Bx bx36 30 [.string (rdD (⟨#[]⟩ : ByteArray) t13 (Int.tmod (bits .and .i64 p0 65535) 20)), .slice A120 (l122).length c121, .string x145]) w_ o144 14 ∧ Ft (RdC ET47 (some ⟨0, 0, none⟩) glob0) w_ o144 0 ∧ Ft (GInt 1) w_ o144 0 ∧ Ft (GIface 2) w_ o144 0 ∧ Ft (GIface 3) w_ o144 0 ∧ Ft (GTab Tryd.prog "internal/strconv.uint64pow10" .u64 Lib.pow10Tab) w_ o144 0 ∧ tidewracklaw27_LineWords_j2 K p0 t13 l122 x145 = some r) ?_ ?_
        rotate_left
        · rintro a w146 ⟨o144, x145, hk, hs, f123, f37, fg0, fg1, fg2, fg3, fg4, H⟩
          unfold tidewracklaw27_LineWords_j2 at H
          refine x_seq ?_
          refine wpIn_region_lit ?_
          refine x_run tab hk (k := 1) (lv := [.agg #[.string (rdD (⟨#[]⟩ : ByteArray) t13 (Int.tmod (bits .and .i64 p0 65535) 20)), .slice A120 (l122).length c121, .string x145]]) (ks := [8, 11, 49]) (e' := [(8, .string (rdD (⟨#[]⟩ : ByteArray) t13 (Int.tmod (bits .and .i64 p0 65535) 20))), (11, .pointer (some ⟨bx36, 0, none⟩)), (49, .agg #[.string (rdD (⟨#[]⟩ : ByteArray) t13 (Int.tmod (bits .and .i64 p0 65535) 20)), .slice A120 (l122).length c121, .string x145])]) rfl ⟨(load_box tab rfl rfl f37.now (k := 0) rfl rfl), trivial⟩ fun a hk => ?_
          refine x_op hk rfl ?_
          obtain ⟨t150, hc151, H⟩ := bindS H
          refine op_call hk ent_13 (vs := [.agg #[.string (rdD (⟨#[]⟩ : ByteArray) t13 (Int.tmod (bits .and .i64 p0 65535) 20)), .slice A120 (l122).length c121, .string x145]]) rfl (tidewrackref27_Line_calls K A120 c121 (⟨(rdD (⟨#[]⟩ : ByteArray) t13 (Int.tmod (bits .and .i64 p0 65535) 20)), l122, x145⟩ : T25) _ o144 0 fg4 _ (f123.imp fun _ h_ => Own.rd h_) hc124   _ hc151) ?_
          rintro _ w152 ⟨o153, rfl, st154⟩
          replace f123 := f123.st st154 (by decide)
          replace f37 := f37.st st154 (by decide)
          replace fg0 := fg0.st st154 (by decide)
          replace fg1 := fg1.st st154 (by decide)
          replace fg2 := fg2.st st154 (by decide)
          replace fg3 := fg3.st st154 (by decide)
          replace fg4 := fg4.st st154 (by decide)
          replace hs := hs.loc0 st154 (by decide)
          have hk := hk.put 50 (.string t150) rfl
          refine x_op hk rfl ?_
          obtain ⟨t158, hc159, H⟩ := bindS H
          refine op_call hk ent_9 (vs := [.string t150]) rfl (line_Parse_calls K t150 _ o153 0 fg0 0 fg1 0 fg2 0 fg3 0 fg4 15  _ hc159) ?_
          rintro _ w160 ⟨o161, A163, c164, rfl, st162, f165, hc166⟩
          replace f123 := f123.st st162 (by decide)
          replace f37 := f37.st st162 (by decide)
          replace fg0 := fg0.st st162 (by decide)
          replace fg1 := fg1.st st162 (by decide)
          replace fg2 := fg2.st st162 (by decide)
          replace fg3 := fg3.st st162 (by decide)
          replace fg4 := fg4.st st162 (by decide)
          replace hs := hs.loc0 st162 (by decide)
          have hk := hk.put 51 (.tuple #[.agg #[.string t158.1.Word, .slice A163 (t158.1.Nums).length c164, .string t158.1.Text], .int .i64 t158.2]) rfl
          refine x_run tab hk (k := 3) (lv := []) (ks := [8, 11, 52, 53]) (e' := [(8, .string (rdD (⟨#[]⟩ : ByteArray) t13 (Int.tmod (bits .and .i64 p0 65535) 20))), (11, .pointer (some ⟨bx36, 0, none⟩)), (52, .agg #[.string t158.1.Word, .slice A163 (t158.1.Nums).length c164, .string t158.1.Text]), (53, .int .i64 t158.2)]) rfl trivial fun a hk => ?_
          refine x_op hk rfl ?_
          refine op_alloc (o := o161) tab (t := 26) (cs := [.string (⟨#[]⟩ : ByteArray), .slice none 0 0, .string (⟨#[]⟩ : ByteArray)]) rfl rfl 16 fun bx170 w167 o168 st169 f171 => ?_
          replace f123 := f123.st st169 (by decide)
          replace f165 := f165.st st169 (by decide)
          replace f37 := f37.st st169 (by decide)
          replace fg0 := fg0.st st169 (by decide)
          replace fg1 := fg1.st st169 (by decide)
          replace fg2 := fg2.st st169 (by decide)
          replace fg3 := fg3.st st169 (by decide)
          replace fg4 := fg4.st st169 (by decide)
          replace hs := hs.loc0 st169 (by decide)
          have hk := hk.put 12 (.pointer (some ⟨bx170, 0, none⟩)) rfl
          refine x_op hk rfl ?_
          refine op_store tab hk (t := 26) (v := .agg #[.string t158.1.Word, .slice A163 (t158.1.Nums).length c164, .string t158.1.Text]) (b := bx170) (k := 0) (cs' := [.string t158.1.Word, .slice A163 (t158.1.Nums).length c164, .string t158.1.Text]) rfl rfl rfl rfl rfl rfl f171 rfl rfl fun w172 o173 st174 f171_ => ?_
          replace f123 := f123.st st174 (by decide)
          replace f165 := f165.st st174 (by decide)
          replace f37 := f37.st st174 (by decide)
          replace fg0 := fg0.st st174 (by decide)
          replace fg1 := fg1.st st174 (by decide)
          replace fg2 := fg2.st st174 (by decide)
          replace fg3 := fg3.st st174 (by decide)
          replace fg4 := fg4.st st174 (by decide)
          replace hs := hs.loc0 st174 (by decide)
          replace f171 := f171_
          refine x_run tab hk (k := 1) (lv := []) (ks := [8, 11, 12, 13]) (e' := [(8, .string (rdD (⟨#[]⟩ : ByteArray) t13 (Int.tmod (bits .and .i64 p0 65535) 20))), (11, .pointer (some ⟨bx36, 0, none⟩)), (12, .pointer (some ⟨bx170, 0, none⟩)), (13, .int .i64 t158.2)]) rfl trivial fun a hk => ?_
          refine wpListIn_nil ?_
          refine then_n ?_
          refine x_seq ?_
          refine x_cut (fun a_ w_ => ∃ o990 : Nat → Nat, ∃ x991 : Bool, Kn 87 a_ [(6, .bool x991)] ∧ St [] w (fun _ => 0) w_ o990 ∧ Ft (RdC ET47 (some ⟨0, 0, none⟩) glob0) w_ o990 0 ∧ Ft (GInt 1) w_ o990 0 ∧ Ft (GIface 2) w_ o990 0 ∧ Ft (GIface 3) w_ o990 0 ∧ Ft (GTab Tryd.prog "internal/strconv.uint64pow10" .u64 Lib.pow10Tab) w_ o990 0 ∧ tidewracklaw27_LineWords_j3 x991 = some r) ?_ ?_
          rotate_left
          · rintro a w992 ⟨o990, x991, hk, hs, fg0, fg1, fg2, fg3, fg4, H⟩
            unfold tidewracklaw27_LineWords_j3 at H
            refine then_n ?_
            refine wpIn_ret ?_
            obtain rfl := Option.some.inj H
            exact x_retG hk (rs := [.tmp 6]) (vs := [.bool x991]) rfl ⟨rfl, trivial⟩ ⟨fun b_ => if b_ < w.heap.size then o b_ else (fun _ => 0) (o990 b_), rfl, hs.close0 o (fun _ => 0)⟩
          cases b1056 : (t158.2 == (0 : Int))
          · rw [b1056] at H
            replace H := bifF H
            refine xd_begin (o := o173) (fun W_ => True) mixed rfl rfl fun w1057 st1058 => ?_
            replace f123 := f123.st st1058 (by decide)
            replace f165 := f165.st st1058 (by decide)
            replace f171 := f171.st st1058 (by decide)
            replace f37 := f37.st st1058 (by decide)
            replace fg0 := fg0.st st1058 (by decide)
            replace fg1 := fg1.st st1058 (by decide)
            replace fg2 := fg2.st st1058 (by decide)
            replace fg3 := fg3.st st1058 (by decide)
            replace fg4 := fg4.st st1058 (by decide)
            replace hs := hs.loc0 st1058 (by decide)
            refine xd_abs fun G hG => ?_
            refine xd_of hG ?_
            refine xd_take tab hk (k := 31) (is := [0, 1, 2]) (ls' := #[true, true, true, false, false, false, false, false, false, false, false, false, false, false, false, false, false, false, false, false, false, false, false, false, false, false, false, false, false, false, false, false, false, false]) (lv := []) (ks := [8, 11, 12, 56]) (e' := [(8, .string (rdD (⟨#[]⟩ : ByteArray) t13 (Int.tmod (bits .and .i64 p0 65535) 20))), (11, .pointer (some ⟨bx36, 0, none⟩)), (12, .pointer (some ⟨bx170, 0, none⟩)), (56, .bool (t158.2 == (0 : Int)))]) (by kernel_rfl) rfl rfl (by kernel_rfl) (np_then (np_then np_body)) trivial (fun W_ hS => trivial) fun a hk => ?_
            rw [b1056] at hk
            refine xd_take tab hk (k := 25) (is := [3, 4, 5, 6, 7, 8]) (ls' := #[true, true, true, true, true, true, true, true, true, false, false, false, false, false, false, false, false, false, false, false, false, false, false, false, false, false, false, false, false, false, false, false, false, false]) (lv := []) (ks := [8, 11, 61, 62]) (e' := [(8, .string (rdD (⟨#[]⟩ : ByteArray) t13 (Int.tmod (bits .and .i64 p0 65535) 20))), (11, .pointer (some ⟨bx36, 0, none⟩)), (61, .bool false), (62, undef)]) (by kernel_rfl) rfl rfl (by kernel_rfl) (np_then (np_then np_body)) trivial (fun W_ hS => trivial) fun a hk => ?_
            refine xd_take tab hk (k := 19) (is := [9, 10, 11, 12, 13, 14]) (ls' := #[true, true, true, true, true, true, true, true, true, true, true, true, true, true, true, false, false, false, false, false, false, false, false, false, false, false, false, false, false, false, false, false, false, false]) (lv := []) (ks := [8, 11, 61, 62, 68]) (e' := [(8, .string (rdD (⟨#[]⟩ : ByteArray) t13 (Int.tmod (bits .and .i64 p0 65535) 20))), (11, .pointer (some ⟨bx36, 0, none⟩)), (61, .bool false), (62, undef), (68, undef)]) (by kernel_rfl) rfl rfl (by kernel_rfl) (np_then (np_then np_body)) trivial (fun W_ hS => trivial) fun a hk => ?_
            refine xd_take tab hk (k := 13) (is := [15, 16, 17, 18, 19, 20]) (ls' := #[true, true, true, true, true, true, true, true, true, true, true, true, true, true, true, true, true, true, true, true, true, false, false, false, false, false, false, false, false, false, false, false, false, false]) (lv := []) (ks := [8, 11, 74]) (e' := [(8, .string (rdD (⟨#[]⟩ : ByteArray) t13 (Int.tmod (bits .and .i64 p0 65535) 20))), (11, .pointer (some ⟨bx36, 0, none⟩)), (74, .bool false)]) (by kernel_rfl) rfl rfl (by kernel_rfl) (np_then (np_then np_body)) trivial (fun W_ hS => trivial) fun a hk => ?_
            refine xd_take tab hk (k := 7) (is := [21, 22, 23, 24, 25, 26]) (ls' := #[true, true, true, true, true, true, true, true, true, true, true, true, true, true, true, true, true, true, true, true, true, true, true, true, true, true, true, false, false, false, false, false, false, false]) (lv := []) (ks := [11, 75, 76, 78, 80]) (e' := [(11, .pointer (some ⟨bx36, 0, none⟩)), (75, .bool false), (76, undef), (78, undef), (80, undef)]) (by kernel_rfl) rfl rfl (by kernel_rfl) (np_then (np_then np_body)) trivial (fun W_ hS => trivial) fun a hk => ?_
            refine xd_take tab hk (k := 1) (is := [27, 28, 29, 30, 31, 32]) (ls' := #[true, true, true, true, true, true, true, true, true, true, true, true, true, true, true, true, true, true, true, true, true, true, true, true, true, true, true, true, true, true, true, true, true, false]) (lv := []) (ks := [86]) (e' := [(86, .bool false)]) (by kernel_rfl) rfl rfl (by kernel_rfl) (np_then (np_then np_body)) trivial (fun W_ hS => trivial) fun a hk => ?_
            refine xd_take tab hk (k := 0) (is := [33]) (ls' := #[true, true, true, true, true, true, true, true, true, true, true, true, true, true, true, true, true, true, true, true, true, true, true, true, true, true, true, true, true, true, true, true, true, true]) (lv := []) (ks := [6]) (e' := [(6, .bool false)]) (by kernel_rfl) rfl rfl (by kernel_rfl) (np_then (np_then np_body)) trivial (fun W_ hS => trivial) fun a hk => ?_
            refine xd_done (by kernel_rfl) ?_
            refine then_n ?_
            exact ⟨o173, false, (by exact Kn.pick (ks := [6]) hk rfl), hs, fg0, fg1, fg2, fg3, fg4, H⟩
          · rw [b1056] at H
            replace H := bifT H
            obtain ⟨t1062, hc1063, H⟩ := bindS H
            cases b1067 : t1062
            · rw [b1067] at H
              replace H := bifF H
              refine xd_begin (o := o173) (fun W_ => (Bx bx170 26 [.string t158.1.Word, .slice A163 (t158.1.Nums).length c164, .string t158.1.Text]) W_ ∧ (Bx bx36 30 [.string (rdD (⟨#[]⟩ : ByteArray) t13 (Int.tmod (bits .and .i64 p0 65535) 20)), .slice A120 (l122).length c121, .string x145]) W_ ∧ True) mixed rfl rfl fun w1074 st1075 => ?_
              replace f123 := f123.st st1075 (by decide)
              replace f165 := f165.st st1075 (by decide)
              replace f171 := f171.st st1075 (by decide)
              replace f37 := f37.st st1075 (by decide)
              replace fg0 := fg0.st st1075 (by decide)
              replace fg1 := fg1.st st1075 (by decide)
              replace fg2 := fg2.st st1075 (by decide)
              replace fg3 := fg3.st st1075 (by decide)
              replace fg4 := fg4.st st1075 (by decide)
              replace hs := hs.loc0 st1075 (by decide)
              refine xd_abs fun G hG => ?_
              refine xd_of hG ?_
              refine xd_take tab hk (k := 31) (is := [0, 1, 2]) (ls' := #[true, true, true, false, false, false, false, false, false, false, false, false, false, false, false, false, false, false, false, false, false, false, false, false, false, false, false, false, false, false, false, false, false, false]) (lv := []) (ks := [8, 11, 12, 56]) (e' := [(8, .string (rdD (⟨#[]⟩ : ByteArray) t13 (Int.tmod (bits .and .i64 p0 65535) 20))), (11, .pointer (some ⟨bx36, 0, none⟩)), (12, .pointer (some ⟨bx170, 0, none⟩)), (56, .bool (t158.2 == (0 : Int)))]) (by kernel_rfl) rfl rfl (by kernel_rfl) (np_then (np_then np_body)) ⟨f171.now, f37.now, trivial⟩ (fun W_ hS => trivial) fun a hk => ?_
              rw [b1056] at hk
              refine xd_take tab hk (k := 29) (is := [3, 4]) (ls' := #[true, true, true, true, true, false, false, false, false, false, false, false, false, false, false, false, false, false, false, false, false, false, false, false, false, false, false, false, false, false, false, false, false, false]) (lv := [.agg #[.string t158.1.Word, .slice A163 (t158.1.Nums).length c164, .string t158.1.Text], .agg #[.string (rdD (⟨#[]⟩ : ByteArray) t13 (Int.tmod (bits .and .i64 p0 65535) 20)), .slice A120 (l122).length c121, .string x145]]) (ks := [8, 11, 56, 57, 58]) (e' := [(8, .string (rdD (⟨#[]⟩ : ByteArray) t13 (Int.tmod (bits .and .i64 p0 65535) 20))), (11, .pointer (some ⟨bx36, 0, none⟩)), (56, .bool true), (57, .agg #[.string t158.1.Word, .slice A163 (t158.1.Nums).length c164, .string t158.1.Text]), (58, .agg #[.string (rdD (⟨#[]⟩ : ByteArray) t13 (Int.tmod (bits .and .i64 p0 65535) 20)), .slice A120 (l122).length c121, .string x145])]) (by kernel_rfl) rfl rfl (by kernel_rfl) (np_then (np_then np_body)) ⟨f171.now, f37.now, trivial⟩ (fun W_ hS => ⟨(load_box tab rfl rfl hS.1 (k := 0) rfl rfl), (load_box tab rfl rfl hS.2.1 (k := 0) rfl rfl), trivial⟩) fun a hk => ?_
              refine xd_op hk (i := 5) (by kernel_rfl) rfl rfl ?_
              refine op_call hk ent_11 (vs := [.agg #[.string t158.1.Word, .slice A163 (t158.1.Nums).length c164, .string t158.1.Text], .agg #[.string (rdD (⟨#[]⟩ : ByteArray) t13 (Int.tmod (bits .and .i64 p0 65535) 20)), .slice A120 (l122).length c121, .string x145]]) rfl (tidewracklaw27_Is_calls K A163 c164 t158.1 A120 c121 (⟨(rdD (⟨#[]⟩ : ByteArray) t13 (Int.tmod (bits .and .i64 p0 65535) 20)), l122, x145⟩ : T25) _ o173 _ (f165.imp fun _ h_ => Own.rd h_) hc166 _ (f123.imp fun _ h_ => Own.rd h_) hc124   _ hc1063) ?_
              rintro _ w1079 ⟨o1080, rfl, st1081⟩
              replace f123 := f123.st st1081 (by decide)
              replace f165 := f165.st st1081 (by decide)
              replace f171 := f171.st st1081 (by decide)
              replace f37 := f37.st st1081 (by decide)
              replace fg0 := fg0.st st1081 (by decide)
              replace fg1 := fg1.st st1081 (by decide)
              replace fg2 := fg2.st st1081 (by decide)
              replace fg3 := fg3.st st1081 (by decide)
              replace fg4 := fg4.st st1081 (by decide)
              replace hs := hs.loc0 st1081 (by decide)
              have hk := hk.put 59 (.bool t1062) rfl
              refine ⟨.inr ⟨f171.now, f37.now, trivial⟩, ?_⟩
              refine xd_take tab hk (k := 26) (is := [6, 7]) (ls' := #[true, true, true, true, true, true, true, true, false, false, false, false, false, false, false, false, false, false, false, false, false, false, false, false, false, false, false, false, false, false, false, false, false, false]) (lv := []) (ks := [8, 11, 61]) (e' := [(8, .string (rdD (⟨#[]⟩ : ByteArray) t13 (Int.tmod (bits .and .i64 p0 65535) 20))), (11, .pointer (some ⟨bx36, 0, none⟩)), (61, .bool t1062)]) (by kernel_rfl) rfl rfl (by kernel_rfl) (np_then (np_then np_body)) ⟨f171.now, f37.now, trivial⟩ (fun W_ hS => trivial) fun a hk => ?_
              rw [b1067] at hk
              refine xd_take tab hk (k := 20) (is := [8, 9, 10, 11, 12, 13]) (ls' := #[true, true, true, true, true, true, true, true, true, true, true, true, true, true, false, false, false, false, false, false, false, false, false, false, false, false, false, false, false, false, false, false, false, false]) (lv := []) (ks := [8, 11, 61, 62, 66, 67]) (e' := [(8, .string (rdD (⟨#[]⟩ : ByteArray) t13 (Int.tmod (bits .and .i64 p0 65535) 20))), (11, .pointer (some ⟨bx36, 0, none⟩)), (61, .bool false), (62, undef), (66, undef), (67, undef)]) (by kernel_rfl) rfl rfl (by kernel_rfl) (np_then (np_then np_body)) ⟨f171.now, f37.now, trivial⟩ (fun W_ hS => trivial) fun a hk => ?_
              refine xd_take tab hk (k := 14) (is := [14, 15, 16, 17, 18, 19]) (ls' := #[true, true, true, true, true, true, true, true, true, true, true, true, true, true, true, true, true, true, true, true, false, false, false, false, false, false, false, false, false, false, false, false, false, false]) (lv := []) (ks := [8, 11, 61, 73]) (e' := [(8, .string (rdD (⟨#[]⟩ : ByteArray) t13 (Int.tmod (bits .and .i64 p0 65535) 20))), (11, .pointer (some ⟨bx36, 0, none⟩)), (61, .bool false), (73, undef)]) (by kernel_rfl) rfl rfl (by kernel_rfl) (np_then (np_then np_body)) ⟨f171.now, f37.now, trivial⟩ (fun W_ hS => trivial) fun a hk => ?_
              refine xd_take tab hk (k := 8) (is := [20, 21, 22, 23, 24, 25]) (ls' := #[true, true, true, true, true, true, true, true, true, true, true, true, true, true, true, true, true, true, true, true, true, true, true, true, true, true, false, false, false, false, false, false, false, false]) (lv := []) (ks := [11, 75, 76, 78, 79]) (e' := [(11, .pointer (some ⟨bx36, 0, none⟩)), (75, .bool false), (76, undef), (78, undef), (79, undef)]) (by kernel_rfl) rfl rfl (by kernel_rfl) (np_then (np_then np_body)) ⟨f171.now, f37.now, trivial⟩ (fun W_ hS => trivial) fun a hk => ?_
              refine xd_take tab hk (k := 2) (is := [26, 27, 28, 29, 30, 31]) (ls' := #[true, true, true, true, true, true, true, true, true, true, true, true, true, true, true, true, true, true, true, true, true, true, true, true, true, true, true, true, true, true, true, true, false, false]) (lv := []) (ks := [75, 85]) (e' := [(75, .bool false), (85, undef)]) (by kernel_rfl) rfl rfl (by kernel_rfl) (np_then (np_then np_body)) ⟨f171.now, f37.now, trivial⟩ (fun W_ hS => trivial) fun a hk => ?_
              refine xd_take tab hk (k := 0) (is := [32, 33]) (ls' := #[true, true, true, true, true, true, true, true, true, true, true, true, true, true, true, true, true, true, true, true, true, true, true, true, true, true, true, true, true, true, true, true, true, true]) (lv := []) (ks := [6]) (e' := [(6, .bool false)]) (by kernel_rfl) rfl rfl (by kernel_rfl) (np_then (np_then np_body)) ⟨f171.now, f37.now, trivial⟩ (fun W_ hS => trivial) fun a hk => ?_
              refine xd_done (by kernel_rfl) ?_
              refine then_n ?_
              exact ⟨o1080, false, (by exact Kn.pick (ks := [6]) hk rfl), hs, fg0, fg1, fg2, fg3, fg4, H⟩
            · rw [b1067] at H
              replace H := bifT H
              obtain ⟨q1091, H⟩ := ifS H
              obtain ⟨q1105, H⟩ := ifS H
              obtain ⟨t1113, hc1114, H⟩ := bindS H
              cases b1118 : (ByteArray.toList t1113 == ByteArray.toList (⟨#[]⟩ : ByteArray))
              · rw [b1118] at H
                replace H := bifF H
                refine xd_begin (o := o173) (fun W_ => (Bx bx170 26 [.string t158.1.Word, .slice A163 (t158.1.Nums).length c164, .string t158.1.Text]) W_ ∧ (Bx bx36 30 [.string (rdD (⟨#[]⟩ : ByteArray) t13 (Int.tmod (bits .and .i64 p0 65535) 20)), .slice A120 (l122).length c121, .string x145]) W_ ∧ True) mixed rfl rfl fun w1215 st1216 => ?_
                replace f123 := f123.st st1216 (by decide)
                replace f165 := f165.st st1216 (by decide)
                replace f171 := f171.st st1216 (by decide)
                replace f37 := f37.st st1216 (by decide)
                replace fg0 := fg0.st st1216 (by decide)
                replace fg1 := fg1.st st1216 (by decide)
                replace fg2 := fg2.st st1216 (by decide)
                replace fg3 := fg3.st st1216 (by decide)
                replace fg4 := fg4.st st1216 (by decide)
                replace hs := hs.loc0 st1216 (by decide)
                refine xd_abs fun G hG => ?_
                have N1267 : ∀ (a_ : Act) (w_ : World), (∃ o1261 : Nat → Nat, ∃ A1262 : Option Addr, ∃ c1263 : Nat, Kn 87 a_ [(8, .string (rdD (⟨#[]⟩ : ByteArray) t13 (Int.tmod (bits .and .i64 p0 65535) 20))), (11, .pointer (some ⟨bx36, 0, none⟩)), (61, .bool true), (62, .string (rdD (⟨#[]⟩ : ByteArray) t13 (Int.tmod (bits .and .i64 p0 65535) 20))), (66, .slice A1262 ((([] : List Int) ++ l122)).length c1263), (70, .string x145)] ∧ St [] w (fun _ => 0) w_ o1261 ∧ Ft (Own (encInt .i64) 3 (.slice A120 (l122).length c121) l122) w_ o1261 100 ∧ Ft (Own (encInt .i64) 3 (.slice A1262 ((([] : List Int) ++ l122)).length c1263) (([] : List Int) ++ l122)) w_ o1261 104 ∧ Ft (Own (encInt .i64) 3 (.slice A163 (t158.1.Nums).length c164) t158.1.Nums) w_ o1261 102 ∧ Ft (Bx bx170 26 [.string t158.1.Word, .slice A163 (t158.1.Nums).length c164, .string t158.1.Text]) w_ o1261 103 ∧ Ft (Bx bx36 30 [.string (rdD (⟨#[]⟩ : ByteArray) t13 (Int.tmod (bits .and .i64 p0 65535) 20)), .slice A120 (l122).length c121, .string x145]) w_ o1261 101 ∧ Ft (RdC ET47 (some ⟨0, 0, none⟩) glob0) w_ o1261 0 ∧ Ft (GInt 1) w_ o1261 0 ∧ Ft (GIface 2) w_ o1261 0 ∧ Ft (GIface 3) w_ o1261 0 ∧ Ft (GTab Tryd.prog "internal/strconv.uint64pow10" .u64 Lib.pow10Tab) w_ o1261 0 ∧ ((([] : List Int) ++ l122)).length ≤ c1263) → G 19 #[true, true, true, true, true, true, true, true, true, true, true, true, true, false, false, true, true, false, false, false, false, false, false, false, false, false, false, false, false, false, false, false, false, false] a_ w_ := by
                  rintro a w1266 ⟨o1261, A1262, c1263, hk, hs, f123, f1264, f165, f171, f37, fg0, fg1, fg2, fg3, fg4, hc1265⟩
                  refine xd_of hG ?_
                  refine xd_op hk (i := 13) (by kernel_rfl) rfl rfl ?_
                  refine op_slice (o := o1261) tab hk (vs := [.int .i64 1]) (cs := [.int .i64 1]) rfl rfl rfl rfl rfl rfl rfl rfl rfl 105 fun bx1271 w1268 o1269 st1270 f1272 => ?_
                  replace f123 := f123.st st1270 (by decide)
                  replace f1264 := f1264.st st1270 (by decide)
                  replace f165 := f165.st st1270 (by decide)
                  replace f171 := f171.st st1270 (by decide)
                  replace f37 := f37.st st1270 (by decide)
                  replace fg0 := fg0.st st1270 (by decide)
                  replace fg1 := fg1.st st1270 (by decide)
                  replace fg2 := fg2.st st1270 (by decide)
                  replace fg3 := fg3.st st1270 (by decide)
                  replace fg4 := fg4.st st1270 (by decide)
                  replace hs := hs.loc0 st1270 (by decide)
                  have f1273 : Ft (Own (encInt .i64) 3 (.slice (some ⟨bx1271, 0, none⟩) (([1] : List Int)).length 1) ([1] : List Int)) w1268 o1269 105 := f1272.imp fun _ h_ => Own.of_box h_ rfl (by simp)
                  have hk := hk.put 67 (.slice (some ⟨bx1271, 0, none⟩) (([1] : List Int)).length 1) rfl
                  refine ⟨.inr ⟨f171.now, f37.now, trivial⟩, ?_⟩
                  refine xd_op hk (i := 14) (by kernel_rfl) rfl rfl ?_
                  refine op_append (o := o1269) (E := (encInt .i64)) (xs := (([] : List Int) ++ l122)) (ys := ([1] : List Int)) tab hk rfl rfl rfl rfl rfl rfl rfl f1264 (Own.rd f1273.now) q1105 fun A1277 c1278 w1274 o1275 st1276 f1279 hc1280 => ?_
                  replace f123 := f123.st st1276 (by decide)
                  replace f1273 := f1273.st st1276 (by decide)
                  replace f165 := f165.st st1276 (by decide)
                  replace f171 := f171.st st1276 (by decide)
                  replace f37 := f37.st st1276 (by decide)
                  replace fg0 := fg0.st st1276 (by decide)
                  replace fg1 := fg1.st st1276 (by decide)
                  replace fg2 := fg2.st st1276 (by decide)
                  replace fg3 := fg3.st st1276 (by decide)
                  replace fg4 := fg4.st st1276 (by decide)
                  replace hs := hs.loc0 st1276 (by decide)
                  have hk := hk.put 68 (.slice A1277 (((([] : List Int) ++ l122) ++ ([1] : List Int))).length c1278) rfl
                  refine ⟨.inr ⟨f171.now, f37.now, trivial⟩, ?_⟩
                  refine xd_take tab hk (k := 16) (is := [17]) (ls' := #[true, true, true, true, true, true, true, true, true, true, true, true, true, true, true, true, true, true, false, false, false, false, false, false, false, false, false, false, false, false, false, false, false, false]) (lv := []) (ks := [8, 11, 61, 71]) (e' := [(8, .string (rdD (⟨#[]⟩ : ByteArray) t13 (Int.tmod (bits .and .i64 p0 65535) 20))), (11, .pointer (some ⟨bx36, 0, none⟩)), (61, .bool true), (71, .agg #[.string (rdD (⟨#[]⟩ : ByteArray) t13 (Int.tmod (bits .and .i64 p0 65535) 20)), .slice A1277 (((([] : List Int) ++ l122) ++ ([1] : List Int))).length c1278, .string x145])]) (by kernel_rfl) rfl rfl (by kernel_rfl) (np_then (np_then np_body)) ⟨f171.now, f37.now, trivial⟩ (fun W_ hS => trivial) fun a hk => ?_
                  refine xd_op hk (i := 18) (by kernel_rfl) rfl rfl ?_
                  refine op_call hk ent_12 (vs := [.agg #[.string (rdD (⟨#[]⟩ : ByteArray) t13 (Int.tmod (bits .and .i64 p0 65535) 20)), .slice A1277 (((([] : List Int) ++ l122) ++ ([1] : List Int))).length c1278, .string x145]]) rfl (line_Step_Line_calls K A1277 c1278 (⟨(rdD (⟨#[]⟩ : ByteArray) t13 (Int.tmod (bits .and .i64 p0 65535) 20)), ((([] : List Int) ++ l122) ++ ([1] : List Int)), x145⟩ : T25) _ o1275 0 fg0 0 fg4 _ (f1279.imp fun _ h_ => Own.rd h_) hc1280   _ hc1114) ?_
                  rintro _ w1284 ⟨o1285, rfl, st1286⟩
                  replace f123 := f123.st st1286 (by decide)
                  replace f1273 := f1273.st st1286 (by decide)
                  replace f1279 := f1279.st st1286 (by decide)
                  replace f165 := f165.st st1286 (by decide)
                  replace f171 := f171.st st1286 (by decide)
                  replace f37 := f37.st st1286 (by decide)
                  replace fg0 := fg0.st st1286 (by decide)
                  replace fg1 := fg1.st st1286 (by decide)
                  replace fg2 := fg2.st st1286 (by decide)
                  replace fg3 := fg3.st st1286 (by decide)
                  replace fg4 := fg4.st st1286 (by decide)
                  replace hs := hs.loc0 st1286 (by decide)
                  have hk := hk.put 72 (.string t1113) rfl
                  refine ⟨.inr ⟨f171.now, f37.now, trivial⟩, ?_⟩
                  refine xd_take tab hk (k := 12) (is := [19, 20, 21]) (ls' := #[true, true, true, true, true, true, true, true, true, true, true, true, true, true, true, true, true, true, true, true, true, true, false, false, false, false, false, false, false, false, false, false, false, false]) (lv := []) (ks := [8, 11, 75]) (e' := [(8, .string (rdD (⟨#[]⟩ : ByteArray) t13 (Int.tmod (bits .and .i64 p0 65535) 20))), (11, .pointer (some ⟨bx36, 0, none⟩)), (75, .bool (ByteArray.toList t1113 == ByteArray.toList (⟨#[]⟩ : ByteArray)))]) (by kernel_rfl) rfl rfl (by kernel_rfl) (np_then (np_then np_body)) ⟨f171.now, f37.now, trivial⟩ (fun W_ hS => trivial) fun a hk => ?_
                  rw [b1118] at hk
                  refine xd_take tab hk (k := 6) (is := [22, 23, 24, 25, 26, 27]) (ls' := #[true, true, true, true, true, true, true, true, true, true, true, true, true, true, true, true, true, true, true, true, true, true, true, true, true, true, true, true, false, false, false, false, false, false]) (lv := []) (ks := [11, 75, 81]) (e' := [(11, .pointer (some ⟨bx36, 0, none⟩)), (75, .bool false), (81, undef)]) (by kernel_rfl) rfl rfl (by kernel_rfl) (np_then (np_then np_body)) ⟨f171.now, f37.now, trivial⟩ (fun W_ hS => trivial) fun a hk => ?_
                  refine xd_take tab hk (k := 0) (is := [28, 29, 30, 31, 32, 33]) (ls' := #[true, true, true, true, true, true, true, true, true, true, true, true, true, true, true, true, true, true, true, true, true, true, true, true, true, true, true, true, true, true, true, true, true, true]) (lv := []) (ks := [6]) (e' := [(6, .bool false)]) (by kernel_rfl) rfl rfl (by kernel_rfl) (np_then (np_then np_body)) ⟨f171.now, f37.now, trivial⟩ (fun W_ hS => trivial) fun a hk => ?_
                  refine xd_done (by kernel_rfl) ?_
                  refine then_n ?_
                  exact ⟨o1285, false, (by exact Kn.pick (ks := [6]) hk rfl), hs, fg0, fg1, fg2, fg3, fg4, H⟩
                have N1316 : ∀ (a_ : Act) (w_ : World), (∃ o1306 : Nat → Nat, ∃ A1307 : Option Addr, ∃ c1308 : Nat, ∃ A1311 : Option Addr, ∃ c1312 : Nat, Kn 87 a_ [(8, .string (rdD (⟨#[]⟩ : ByteArray) t13 (Int.tmod (bits .and .i64 p0 65535) 20))), (11, .pointer (some ⟨bx36, 0, none⟩)), (61, .bool true), (62, .string (rdD (⟨#[]⟩ : ByteArray) t13 (Int.tmod (bits .and .i64 p0 65535) 20))), (63, .slice A1307 (([] : List Int)).length c1308), (65, .slice A120 (l122).length c121), (67, .slice A1311 (([1] : List Int)).length c1312), (70, .string x145)] ∧ St [] w (fun _ => 0) w_ o1306 ∧ Ft (Own (encInt .i64) 3 (.slice A120 (l122).length c121) l122) w_ o1306 107 ∧ Ft (Own (encInt .i64) 3 (.slice A1307 (([] : List Int)).length c1308) ([] : List Int)) w_ o1306 111 ∧ Ft (Own (encInt .i64) 3 (.slice A1311 (([1] : List Int)).length c1312) ([1] : List Int)) w_ o1306 112 ∧ Ft (Own (encInt .i64) 3 (.slice A163 (t158.1.Nums).length c164) t158.1.Nums) w_ o1306 109 ∧ Ft (Bx bx170 26 [.string t158.1.Word, .slice A163 (t158.1.Nums).length c164, .string t158.1.Text]) w_ o1306 110 ∧ Ft (Bx bx36 30 [.string (rdD (⟨#[]⟩ : ByteArray) t13 (Int.tmod (bits .and .i64 p0 65535) 20)), .slice A120 (l122).length c121, .string x145]) w_ o1306 108 ∧ Ft (RdC ET47 (some ⟨0, 0, none⟩) glob0) w_ o1306 0 ∧ Ft (GInt 1) w_ o1306 0 ∧ Ft (GIface 2) w_ o1306 0 ∧ Ft (GIface 3) w_ o1306 0 ∧ Ft (GTab Tryd.prog "internal/strconv.uint64pow10" .u64 Lib.pow10Tab) w_ o1306 0 ∧ (([] : List Int)).length ≤ c1308 ∧ (([1] : List Int)).length ≤ c1312) → G 19 #[true, true, true, true, true, true, true, true, true, true, true, true, false, true, false, true, true, false, false, false, false, false, false, false, false, false, false, false, false, false, false, false, false, false] a_ w_ := by
                  rintro a w1315 ⟨o1306, A1307, c1308, A1311, c1312, hk, hs, f123, f1309, f1313, f165, f171, f37, fg0, fg1, fg2, fg3, fg4, hc1310, hc1314⟩
                  refine xd_of hG ?_
                  refine xd_op hk (i := 12) (by kernel_rfl) rfl rfl ?_
                  refine op_append (o := o1306) (E := (encInt .i64)) (xs := ([] : List Int)) (ys := l122) tab hk rfl rfl rfl rfl rfl rfl rfl f1309 (Own.rd f123.now) q1091 fun A1320 c1321 w1317 o1318 st1319 f1322 hc1323 => ?_
                  replace f123 := f123.st st1319 (by decide)
                  replace f1313 := f1313.st st1319 (by decide)
                  replace f165 := f165.st st1319 (by decide)
                  replace f171 := f171.st st1319 (by decide)
                  replace f37 := f37.st st1319 (by decide)
                  replace fg0 := fg0.st st1319 (by decide)
                  replace fg1 := fg1.st st1319 (by decide)
                  replace fg2 := fg2.st st1319 (by decide)
                  replace fg3 := fg3.st st1319 (by decide)
                  replace fg4 := fg4.st st1319 (by decide)
                  replace hs := hs.loc0 st1319 (by decide)
                  have hk := hk.put 66 (.slice A1320 ((([] : List Int) ++ l122)).length c1321) rfl
                  refine ⟨.inr ⟨f171.now, f37.now, trivial⟩, ?_⟩
                  refine xd_op hk (i := 14) (by kernel_rfl) rfl rfl ?_
                  refine op_append (o := o1318) (E := (encInt .i64)) (xs := (([] : List Int) ++ l122)) (ys := ([1] : List Int)) tab hk rfl rfl rfl rfl rfl rfl rfl f1322 (Own.rd f1313.now) q1105 fun A1327 c1328 w1324 o1325 st1326 f1329 hc1330 => ?_
                  replace f123 := f123.st st1326 (by decide)
                  replace f1313 := f1313.st st1326 (by decide)
                  replace f165 := f165.st st1326 (by decide)
                  replace f171 := f171.st st1326 (by decide)
                  replace f37 := f37.st st1326 (by decide)
                  replace fg0 := fg0.st st1326 (by decide)
                  replace fg1 := fg1.st st1326 (by decide)
                  replace fg2 := fg2.st st1326 (by decide)
                  replace fg3 := fg3.st st1326 (by decide)
                  replace fg4 := fg4.st st1326 (by decide)
                  replace hs := hs.loc0 st1326 (by decide)
                  have hk := hk.put 68 (.slice A1327 (((([] : List Int) ++ l122) ++ ([1] : List Int))).length c1328) rfl
                  refine ⟨.inr ⟨f171.now, f37.now, trivial⟩, ?_⟩
                  refine xd_take tab hk (k := 16) (is := [17]) (ls' := #[true, true, true, true, true, true, true, true, true, true, true, true, true, true, true, true, true, true, false, false, false, false, false, false, false, false, false, false, false, false, false, false, false, false]) (lv := []) (ks := [8, 11, 61, 71]) (e' := [(8, .string (rdD (⟨#[]⟩ : ByteArray) t13 (Int.tmod (bits .and .i64 p0 65535) 20))), (11, .pointer (some ⟨bx36, 0, none⟩)), (61, .bool true), (71, .agg #[.string (rdD (⟨#[]⟩ : ByteArray) t13 (Int.tmod (bits .and .i64 p0 65535) 20)), .slice A1327 (((([] : List Int) ++ l122) ++ ([1] : List Int))).length c1328, .string x145])]) (by kernel_rfl) rfl rfl (by kernel_rfl) (np_then (np_then np_body)) ⟨f171.now, f37.now, trivial⟩ (fun W_ hS => trivial) fun a hk => ?_
                  refine xd_op hk (i := 18) (by kernel_rfl) rfl rfl ?_
                  refine op_call hk ent_12 (vs := [.agg #[.string (rdD (⟨#[]⟩ : ByteArray) t13 (Int.tmod (bits .and .i64 p0 65535) 20)), .slice A1327 (((([] : List Int) ++ l122) ++ ([1] : List Int))).length c1328, .string x145]]) rfl (line_Step_Line_calls K A1327 c1328 (⟨(rdD (⟨#[]⟩ : ByteArray) t13 (Int.tmod (bits .and .i64 p0 65535) 20)), ((([] : List Int) ++ l122) ++ ([1] : List Int)), x145⟩ : T25) _ o1325 0 fg0 0 fg4 _ (f1329.imp fun _ h_ => Own.rd h_) hc1330   _ hc1114) ?_
                  rintro _ w1334 ⟨o1335, rfl, st1336⟩
                  replace f123 := f123.st st1336 (by decide)
                  replace f1313 := f1313.st st1336 (by decide)
                  replace f1329 := f1329.st st1336 (by decide)
                  replace f165 := f165.st st1336 (by decide)
                  replace f171 := f171.st st1336 (by decide)
                  replace f37 := f37.st st1336 (by decide)
                  replace fg0 := fg0.st st1336 (by decide)
                  replace fg1 := fg1.st st1336 (by decide)
                  replace fg2 := fg2.st st1336 (by decide)
                  replace fg3 := fg3.st st1336 (by decide)
                  replace fg4 := fg4.st st1336 (by decide)
                  replace hs := hs.loc0 st1336 (by decide)
                  have hk := hk.put 72 (.string t1113) rfl
                  refine ⟨.inr ⟨f171.now, f37.now, trivial⟩, ?_⟩
                  refine xd_take tab hk (k := 12) (is := [19, 20, 21]) (ls' := #[true, true, true, true, true, true, true, true, true, true, true, true, true, true, true, true, true, true, true, true, true, true, false, false, false, false, false, false, false, false, false, false, false, false]) (lv := []) (ks := [8, 11, 75]) (e' := [(8, .string (rdD (⟨#[]⟩ : ByteArray) t13 (Int.tmod (bits .and .i64 p0 65535) 20))), (11, .pointer (some ⟨bx36, 0, none⟩)), (75, .bool (ByteArray.toList t1113 == ByteArray.toList (⟨#[]⟩ : ByteArray)))]) (by kernel_rfl) rfl rfl (by kernel_rfl) (np_then (np_then np_body)) ⟨f171.now, f37.now, trivial⟩ (fun W_ hS => trivial) fun a hk => ?_
                  rw [b1118] at hk
                  refine xd_take tab hk (k := 6) (is := [22, 23, 24, 25, 26, 27]) (ls' := #[true, true, true, true, true, true, true, true, true, true, true, true, true, true, true, true, true, true, true, true, true, true, true, true, true, true, true, true, false, false, false, false, false, false]) (lv := []) (ks := [11, 75, 81]) (e' := [(11, .pointer (some ⟨bx36, 0, none⟩)), (75, .bool false), (81, undef)]) (by kernel_rfl) rfl rfl (by kernel_rfl) (np_then (np_then np_body)) ⟨f171.now, f37.now, trivial⟩ (fun W_ hS => trivial) fun a hk => ?_
                  refine xd_take tab hk (k := 0) (is := [28, 29, 30, 31, 32, 33]) (ls' := #[true, true, true, true, true, true, true, true, true, true, true, true, true, true, true, true, true, true, true, true, true, true, true, true, true, true, true, true, true, true, true, true, true, true]) (lv := []) (ks := [6]) (e' := [(6, .bool false)]) (by kernel_rfl) rfl rfl (by kernel_rfl) (np_then (np_then np_body)) ⟨f171.now, f37.now, trivial⟩ (fun W_ hS => trivial) fun a hk => ?_
                  refine xd_done (by kernel_rfl) ?_
                  refine then_n ?_
                  exact ⟨o1335, false, (by exact Kn.pick (ks := [6]) hk rfl), hs, fg0, fg1, fg2, fg3, fg4, H⟩
                have N1244 : ∀ (a_ : Act) (w_ : World), (∃ o1238 : Nat → Nat, ∃ A1239 : Option Addr, ∃ c1240 : Nat, Kn 87 a_ [(8, .string (rdD (⟨#[]⟩ : ByteArray) t13 (Int.tmod (bits .and .i64 p0 65535) 20))), (11, .pointer (some ⟨bx36, 0, none⟩)), (61, .bool true), (62, .string (rdD (⟨#[]⟩ : ByteArray) t13 (Int.tmod (bits .and .i64 p0 65535) 20))), (63, .slice A1239 (([] : List Int)).length c1240), (65, .slice A120 (l122).length c121), (70, .string x145)] ∧ St [] w (fun _ => 0) w_ o1238 ∧ Ft (Own (encInt .i64) 3 (.slice A120 (l122).length c121) l122) w_ o1238 95 ∧ Ft (Own (encInt .i64) 3 (.slice A1239 (([] : List Int)).length c1240) ([] : List Int)) w_ o1238 99 ∧ Ft (Own (encInt .i64) 3 (.slice A163 (t158.1.Nums).length c164) t158.1.Nums) w_ o1238 97 ∧ Ft (Bx bx170 26 [.string t158.1.Word, .slice A163 (t158.1.Nums).length c164, .string t158.1.Text]) w_ o1238 98 ∧ Ft (Bx bx36 30 [.string (rdD (⟨#[]⟩ : ByteArray) t13 (Int.tmod (bits .and .i64 p0 65535) 20)), .slice A120 (l122).length c121, .string x145]) w_ o1238 96 ∧ Ft (RdC ET47 (some ⟨0, 0, none⟩) glob0) w_ o1238 0 ∧ Ft (GInt 1) w_ o1238 0 ∧ Ft (GIface 2) w_ o1238 0 ∧ Ft (GIface 3) w_ o1238 0 ∧ Ft (GTab Tryd.prog "internal/strconv.uint64pow10" .u64 Lib.pow10Tab) w_ o1238 0 ∧ (([] : List Int)).length ≤ c1240) → G 20 #[true, true, true, true, true, true, true, true, true, true, true, true, false, false, false, true, true, false, false, false, false, false, false, false, false, false, false, false, false, false, false, false, false, false] a_ w_ := by
                  rintro a w1243 ⟨o1238, A1239, c1240, hk, hs, f123, f1241, f165, f171, f37, fg0, fg1, fg2, fg3, fg4, hc1242⟩
                  refine xd_of hG ?_
                  refine xd_each [12, 13] (by kernel_rfl) rfl ⟨?_, ?_, trivial⟩
                  · refine xd_one hk rfl rfl ?_
                    refine op_append (o := o1238) (E := (encInt .i64)) (xs := ([] : List Int)) (ys := l122) tab hk rfl rfl rfl rfl rfl rfl rfl f1241 (Own.rd f123.now) q1091 fun A1248 c1249 w1245 o1246 st1247 f1250 hc1251 => ?_
                    replace f123 := f123.st st1247 (by decide)
                    replace f165 := f165.st st1247 (by decide)
                    replace f171 := f171.st st1247 (by decide)
                    replace f37 := f37.st st1247 (by decide)
                    replace fg0 := fg0.st st1247 (by decide)
                    replace fg1 := fg1.st st1247 (by decide)
                    replace fg2 := fg2.st st1247 (by decide)
                    replace fg3 := fg3.st st1247 (by decide)
                    replace fg4 := fg4.st st1247 (by decide)
                    replace hs := hs.loc0 st1247 (by decide)
                    have hk := hk.put 66 (.slice A1248 ((([] : List Int) ++ l122)).length c1249) rfl
                    refine ⟨.inr ⟨f171.now, f37.now, trivial⟩, ?_⟩
                    exact xd_to hG rfl (N1267 _ _ ⟨(fun b_ => (fun l_ => if l_ = 95 then 100 else if l_ = 96 then 101 else if l_ = 97 then 102 else if l_ = 98 then 103 else if l_ = 99 then 104 else l_) (o1246 b_)), A1248, c1249, (by exact Kn.pick (ks := [8, 11, 61, 62, 66, 70]) hk rfl), (hs.relab0 (fun l_ => if l_ = 95 then 100 else if l_ = 96 then 101 else if l_ = 97 then 102 else if l_ = 98 then 103 else if l_ = 99 then 104 else l_) rfl), (f123.relab (fun l_ => if l_ = 95 then 100 else if l_ = 96 then 101 else if l_ = 97 then 102 else if l_ = 98 then 103 else if l_ = 99 then 104 else l_) rfl), (f1250.relab (fun l_ => if l_ = 95 then 100 else if l_ = 96 then 101 else if l_ = 97 then 102 else if l_ = 98 then 103 else if l_ = 99 then 104 else l_) rfl), (f165.relab (fun l_ => if l_ = 95 then 100 else if l_ = 96 then 101 else if l_ = 97 then 102 else if l_ = 98 then 103 else if l_ = 99 then 104 else l_) rfl), (f171.relab (fun l_ => if l_ = 95 then 100 else if l_ = 96 then 101 else if l_ = 97 then 102 else if l_ = 98 then 103 else if l_ = 99 then 104 else l_) rfl), (f37.relab (fun l_ => if l_ = 95 then 100 else if l_ = 96 then 101 else if l_ = 97 then 102 else if l_ = 98 then 103 else if l_ = 99 then 104 else l_) rfl), (fg0.relab (fun l_ => if l_ = 95 then 100 else if l_ = 96 then 101 else if l_ = 97 then 102 else if l_ = 98 then 103 else if l_ = 99 then 104 else l_) rfl), (fg1.relab (fun l_ => if l_ = 95 then 100 else if l_ = 96 then 101 else if l_ = 97 then 102 else if l_ = 98 then 103 else if l_ = 99 then 104 else l_) rfl), (fg2.relab (fun l_ => if l_ = 95 then 100 else if l_ = 96 then 101 else if l_ = 97 then 102 else if l_ = 98 then 103 else if l_ = 99 then 104 else l_) rfl), (fg3.relab (fun l_ => if l_ = 95 then 100 else if l_ = 96 then 101 else if l_ = 97 then 102 else if l_ = 98 then 103 else if l_ = 99 then 104 else l_) rfl), (fg4.relab (fun l_ => if l_ = 95 then 100 else if l_ = 96 then 101 else if l_ = 97 then 102 else if l_ = 98 then 103 else if l_ = 99 then 104 else l_) rfl), hc1251⟩)
                  · refine xd_one hk rfl rfl ?_
                    refine op_slice (o := o1238) tab hk (vs := [.int .i64 1]) (cs := [.int .i64 1]) rfl rfl rfl rfl rfl rfl rfl rfl rfl 106 fun bx1290 w1287 o1288 st1289 f1291 => ?_
                    replace f123 := f123.st st1289 (by decide)
                    replace f1241 := f1241.st st1289 (by decide)
                    replace f165 := f165.st st1289 (by decide)
                    replace f171 := f171.st st1289 (by decide)
                    replace f37 := f37.st st1289 (by decide)
                    replace fg0 := fg0.st st1289 (by decide)
                    replace fg1 := fg1.st st1289 (by decide)
                    replace fg2 := fg2.st st1289 (by decide)
                    replace fg3 := fg3.st st1289 (by decide)
                    replace fg4 := fg4.st st1289 (by decide)
                    replace hs := hs.loc0 st1289 (by decide)
                    have f1292 : Ft (Own (encInt .i64) 3 (.slice (some ⟨bx1290, 0, none⟩) (([1] : List Int)).length 1) ([1] : List Int)) w1287 o1288 106 := f1291.imp fun _ h_ => Own.of_box h_ rfl (by simp)
                    have hk := hk.put 67 (.slice (some ⟨bx1290, 0, none⟩) (([1] : List Int)).length 1) rfl
                    refine ⟨.inr ⟨f171.now, f37.now, trivial⟩, ?_⟩
                    exact xd_to hG rfl (N1316 _ _ ⟨(fun b_ => (fun l_ => if l_ = 95 then 107 else if l_ = 96 then 108 else if l_ = 97 then 109 else if l_ = 98 then 110 else if l_ = 99 then 111 else if l_ = 106 then 112 else l_) (o1288 b_)), A1239, c1240, (some ⟨bx1290, 0, none⟩), 1, (by exact Kn.pick (ks := [8, 11, 61, 62, 63, 65, 67, 70]) hk rfl), (hs.relab0 (fun l_ => if l_ = 95 then 107 else if l_ = 96 then 108 else if l_ = 97 then 109 else if l_ = 98 then 110 else if l_ = 99 then 111 else if l_ = 106 then 112 else l_) rfl), (f123.relab (fun l_ => if l_ = 95 then 107 else if l_ = 96 then 108 else if l_ = 97 then 109 else if l_ = 98 then 110 else if l_ = 99 then 111 else if l_ = 106 then 112 else l_) rfl), (f1241.relab (fun l_ => if l_ = 95 then 107 else if l_ = 96 then 108 else if l_ = 97 then 109 else if l_ = 98 then 110 else if l_ = 99 then 111 else if l_ = 106 then 112 else l_) rfl), (f1292.relab (fun l_ => if l_ = 95 then 107 else if l_ = 96 then 108 else if l_ = 97 then 109 else if l_ = 98 then 110 else if l_ = 99 then 111 else if l_ = 106 then 112 else l_) rfl), (f165.relab (fun l_ => if l_ = 95 then 107 else if l_ = 96 then 108 else if l_ = 97 then 109 else if l_ = 98 then 110 else if l_ = 99 then 111 else if l_ = 106 then 112 else l_) rfl), (f171.relab (fun l_ => if l_ = 95 then 107 else if l_ = 96 then 108 else if l_ = 97 then 109 else if l_ = 98 then 110 else if l_ = 99 then 111 else if l_ = 106 then 112 else l_) rfl), (f37.relab (fun l_ => if l_ = 95 then 107 else if l_ = 96 then 108 else if l_ = 97 then 109 else if l_ = 98 then 110 else if l_ = 99 then 111 else if l_ = 106 then 112 else l_) rfl), (fg0.relab (fun l_ => if l_ = 95 then 107 else if l_ = 96 then 108 else if l_ = 97 then 109 else if l_ = 98 then 110 else if l_ = 99 then 111 else if l_ = 106 then 112 else l_) rfl), (fg1.relab (fun l_ => if l_ = 95 then 107 else if l_ = 96 then 108 else if l_ = 97 then 109 else if l_ = 98 then 110 else if l_ = 99 then 111 else if l_ = 106 then 112 else l_) rfl), (fg2.relab (fun l_ => if l_ = 95 then 107 else if l_ = 96 then 108 else if l_ = 97 then 109 else if l_ = 98 then 110 else if l_ = 99 then 111 else if l_ = 106 then 112 else l_) rfl), (fg3.relab (fun l_ => if l_ = 95 then 107 else if l_ = 96 then 108 else if l_ = 97 then 109 else if l_ = 98 then 110 else if l_ = 99 then 111 else if l_ = 106 then 112 else l_) rfl), (fg4.relab (fun l_ => if l_ = 95 then 107 else if l_ = 96 then 108 else if l_ = 97 then 109 else if l_ = 98 then 110 else if l_ = 99 then 111 else if l_ = 106 then 112 else l_) rfl), hc1242, (Nat.le_refl _)⟩)
                have N1358 : ∀ (a_ : Act) (w_ : World), (∃ o1352 : Nat → Nat, ∃ A1353 : Option Addr, ∃ c1354 : Nat, Kn 87 a_ [(8, .string (rdD (⟨#[]⟩ : ByteArray) t13 (Int.tmod (bits .and .i64 p0 65535) 20))), (11, .pointer (some ⟨bx36, 0, none⟩)), (61, .bool true), (62, .string (rdD (⟨#[]⟩ : ByteArray) t13 (Int.tmod (bits .and .i64 p0 65535) 20))), (65, .slice A120 (l122).length c121), (67, .slice A1353 (([1] : List Int)).length c1354), (70, .string x145)] ∧ St [] w (fun _ => 0) w_ o1352 ∧ Ft (Own (encInt .i64) 3 (.slice A120 (l122).length c121) l122) w_ o1352 114 ∧ Ft (Own (encInt .i64) 3 (.slice A1353 (([1] : List Int)).length c1354) ([1] : List Int)) w_ o1352 118 ∧ Ft (Own (encInt .i64) 3 (.slice A163 (t158.1.Nums).length c164) t158.1.Nums) w_ o1352 116 ∧ Ft (Bx bx170 26 [.string t158.1.Word, .slice A163 (t158.1.Nums).length c164, .string t158.1.Text]) w_ o1352 117 ∧ Ft (Bx bx36 30 [.string (rdD (⟨#[]⟩ : ByteArray) t13 (Int.tmod (bits .and .i64 p0 65535) 20)), .slice A120 (l122).length c121, .string x145]) w_ o1352 115 ∧ Ft (RdC ET47 (some ⟨0, 0, none⟩) glob0) w_ o1352 0 ∧ Ft (GInt 1) w_ o1352 0 ∧ Ft (GIface 2) w_ o1352 0 ∧ Ft (GIface 3) w_ o1352 0 ∧ Ft (GTab Tryd.prog "internal/strconv.uint64pow10" .u64 Lib.pow10Tab) w_ o1352 0 ∧ (([1] : List Int)).length ≤ c1354) → G 20 #[true, true, true, true, true, true, true, true, true, false, true, true, false, true, false, true, true, false, false, false, false, false, false, false, false, false, false, false, false, false, false, false, false, false] a_ w_ := by
                  rintro a w1357 ⟨o1352, A1353, c1354, hk, hs, f123, f1355, f165, f171, f37, fg0, fg1, fg2, fg3, fg4, hc1356⟩
                  refine xd_of hG ?_
                  refine xd_op hk (i := 9) (by kernel_rfl) rfl rfl ?_
                  refine op_slice (o := o1352) tab hk (vs := []) (cs := []) rfl rfl rfl rfl rfl rfl rfl rfl rfl 119 fun bx1362 w1359 o1360 st1361 f1363 => ?_
                  replace f123 := f123.st st1361 (by decide)
                  replace f1355 := f1355.st st1361 (by decide)
                  replace f165 := f165.st st1361 (by decide)
                  replace f171 := f171.st st1361 (by decide)
                  replace f37 := f37.st st1361 (by decide)
                  replace fg0 := fg0.st st1361 (by decide)
                  replace fg1 := fg1.st st1361 (by decide)
                  replace fg2 := fg2.st st1361 (by decide)
                  replace fg3 := fg3.st st1361 (by decide)
                  replace fg4 := fg4.st st1361 (by decide)
                  replace hs := hs.loc0 st1361 (by decide)
                  have f1364 : Ft (Own (encInt .i64) 3 (.slice (some ⟨bx1362, 0, none⟩) (([] : List Int)).length 0) ([] : List Int)) w1359 o1360 119 := f1363.imp fun _ h_ => Own.of_box h_ rfl (by simp)
                  have hk := hk.put 63 (.slice (some ⟨bx1362, 0, none⟩) (([] : List Int)).length 0) rfl
                  refine ⟨.inr ⟨f171.now, f37.now, trivial⟩, ?_⟩
                  refine xd_op hk (i := 12) (by kernel_rfl) rfl rfl ?_
                  refine op_append (o := o1360) (E := (encInt .i64)) (xs := ([] : List Int)) (ys := l122) tab hk rfl rfl rfl rfl rfl rfl rfl f1364 (Own.rd f123.now) q1091 fun A1368 c1369 w1365 o1366 st1367 f1370 hc1371 => ?_
                  replace f123 := f123.st st1367 (by decide)
                  replace f1355 := f1355.st st1367 (by decide)
                  replace f165 := f165.st st1367 (by decide)
                  replace f171 := f171.st st1367 (by decide)
                  replace f37 := f37.st st1367 (by decide)
                  replace fg0 := fg0.st st1367 (by decide)
                  replace fg1 := fg1.st st1367 (by decide)
                  replace fg2 := fg2.st st1367 (by decide)
                  replace fg3 := fg3.st st1367 (by decide)
                  replace fg4 := fg4.st st1367 (by decide)
                  replace hs := hs.loc0 st1367 (by decide)
                  have hk := hk.put 66 (.slice A1368 ((([] : List Int) ++ l122)).length c1369) rfl
                  refine ⟨.inr ⟨f171.now, f37.now, trivial⟩, ?_⟩
                  refine xd_op hk (i := 14) (by kernel_rfl) rfl rfl ?_
                  refine op_append (o := o1366) (E := (encInt .i64)) (xs := (([] : List Int) ++ l122)) (ys := ([1] : List Int)) tab hk rfl rfl rfl rfl rfl rfl rfl f1370 (Own.rd f1355.now) q1105 fun A1375 c1376 w1372 o1373 st1374 f1377 hc1378 => ?_
                  replace f123 := f123.st st1374 (by decide)
                  replace f1355 := f1355.st st1374 (by decide)
                  replace f165 := f165.st st1374 (by decide)
                  replace f171 := f171.st st1374 (by decide)
                  replace f37 := f37.st st1374 (by decide)
                  replace fg0 := fg0.st st1374 (by decide)
                  replace fg1 := fg1.st st1374 (by decide)
                  replace fg2 := fg2.st st1374 (by decide)
                  replace fg3 := fg3.st st1374 (by decide)
                  replace fg4 := fg4.st st1374 (by decide)
                  replace hs := hs.loc0 st1374 (by decide)
                  have hk := hk.put 68 (.slice A1375 (((([] : List Int) ++ l122) ++ ([1] : List Int))).length c1376) rfl
                  refine ⟨.inr ⟨f171.now, f37.now, trivial⟩, ?_⟩
                  refine xd_take tab hk (k := 16) (is := [17]) (ls' := #[true, true, true, true, true, true, true, true, true, true, true, true, true, true, true, true, true, true, false, false, false, false, false, false, false, false, false, false, false, false, false, false, false, false]) (lv := []) (ks := [8, 11, 61, 71]) (e' := [(8, .string (rdD (⟨#[]⟩ : ByteArray) t13 (Int.tmod (bits .and .i64 p0 65535) 20))), (11, .pointer (some ⟨bx36, 0, none⟩)), (61, .bool true), (71, .agg #[.string (rdD (⟨#[]⟩ : ByteArray) t13 (Int.tmod (bits .and .i64 p0 65535) 20)), .slice A1375 (((([] : List Int) ++ l122) ++ ([1] : List Int))).length c1376, .string x145])]) (by kernel_rfl) rfl rfl (by kernel_rfl) (np_then (np_then np_body)) ⟨f171.now, f37.now, trivial⟩ (fun W_ hS => trivial) fun a hk => ?_
                  refine xd_op hk (i := 18) (by kernel_rfl) rfl rfl ?_
                  refine op_call hk ent_12 (vs := [.agg #[.string (rdD (⟨#[]⟩ : ByteArray) t13 (Int.tmod (bits .and .i64 p0 65535) 20)), .slice A1375 (((([] : List Int) ++ l122) ++ ([1] : List Int))).length c1376, .string x145]]) rfl (line_Step_Line_calls K A1375 c1376 (⟨(rdD (⟨#[]⟩ : ByteArray) t13 (Int.tmod (bits .and .i64 p0 65535) 20)), ((([] : List Int) ++ l122) ++ ([1] : List Int)), x145⟩ : T25) _ o1373 0 fg0 0 fg4 _ (f1377.imp fun _ h_ => Own.rd h_) hc1378   _ hc1114) ?_
                  rintro _ w1382 ⟨o1383, rfl, st1384⟩
                  replace f123 := f123.st st1384 (by decide)
                  replace f1355 := f1355.st st1384 (by decide)
                  replace f1377 := f1377.st st1384 (by decide)
                  replace f165 := f165.st st1384 (by decide)
                  replace f171 := f171.st st1384 (by decide)
                  replace f37 := f37.st st1384 (by decide)
                  replace fg0 := fg0.st st1384 (by decide)
                  replace fg1 := fg1.st st1384 (by decide)
                  replace fg2 := fg2.st st1384 (by decide)
                  replace fg3 := fg3.st st1384 (by decide)
                  replace fg4 := fg4.st st1384 (by decide)
                  replace hs := hs.loc0 st1384 (by decide)
                  have hk := hk.put 72 (.string t1113) rfl
                  refine ⟨.inr ⟨f171.now, f37.now, trivial⟩, ?_⟩
                  refine xd_take tab hk (k := 12) (is := [19, 20, 21]) (ls' := #[true, true, true, true, true, true, true, true, true, true, true, true, true, true, true, true, true, true, true, true, true, true, false, false, false, false, false, false, false, false, false, false, false, false]) (lv := []) (ks := [8, 11, 75]) (e' := [(8, .string (rdD (⟨#[]⟩ : ByteArray) t13 (Int.tmod (bits .and .i64 p0 65535) 20))), (11, .pointer (some ⟨bx36, 0, none⟩)), (75, .bool (ByteArray.toList t1113 == ByteArray.toList (⟨#[]⟩ : ByteArray)))]) (by kernel_rfl) rfl rfl (by kernel_rfl) (np_then (np_then np_body)) ⟨f171.now, f37.now, trivial⟩ (fun W_ hS => trivial) fun a hk => ?_
                  rw [b1118] at hk
                  refine xd_take tab hk (k := 6) (is := [22, 23, 24, 25, 26, 27]) (ls' := #[true, true, true, true, true, true, true, true, true, true, true, true, true, true, true, true, true, true, true, true, true, true, true, true, true, true, true, true, false, false, false, false, false, false]) (lv := []) (ks := [11, 75, 81]) (e' := [(11, .pointer (some ⟨bx36, 0, none⟩)), (75, .bool false), (81, undef)]) (by kernel_rfl) rfl rfl (by kernel_rfl) (np_then (np_then np_body)) ⟨f171.now, f37.now, trivial⟩ (fun W_ hS => trivial) fun a hk => ?_
                  refine xd_take tab hk (k := 0) (is := [28, 29, 30, 31, 32, 33]) (ls' := #[true, true, true, true, true, true, true, true, true, true, true, true, true, true, true, true, true, true, true, true, true, true, true, true, true, true, true, true, true, true, true, true, true, true]) (lv := []) (ks := [6]) (e' := [(6, .bool false)]) (by kernel_rfl) rfl rfl (by kernel_rfl) (np_then (np_then np_body)) ⟨f171.now, f37.now, trivial⟩ (fun W_ hS => trivial) fun a hk => ?_
                  refine xd_done (by kernel_rfl) ?_
                  refine then_n ?_
                  exact ⟨o1383, false, (by exact Kn.pick (ks := [6]) hk rfl), hs, fg0, fg1, fg2, fg3, fg4, H⟩
                refine xd_of hG ?_
                refine xd_take tab hk (k := 31) (is := [0, 1, 2]) (ls' := #[true, true, true, false, false, false, false, false, false, false, false, false, false, false, false, false, false, false, false, false, false, false, false, false, false, false, false, false, false, false, false, false, false, false]) (lv := []) (ks := [8, 11, 12, 56]) (e' := [(8, .string (rdD (⟨#[]⟩ : ByteArray) t13 (Int.tmod (bits .and .i64 p0 65535) 20))), (11, .pointer (some ⟨bx36, 0, none⟩)), (12, .pointer (some ⟨bx170, 0, none⟩)), (56, .bool (t158.2 == (0 : Int)))]) (by kernel_rfl) rfl rfl (by kernel_rfl) (np_then (np_then np_body)) ⟨f171.now, f37.now, trivial⟩ (fun W_ hS => trivial) fun a hk => ?_
                rw [b1056] at hk
                refine xd_take tab hk (k := 29) (is := [3, 4]) (ls' := #[true, true, true, true, true, false, false, false, false, false, false, false, false, false, false, false, false, false, false, false, false, false, false, false, false, false, false, false, false, false, false, false, false, false]) (lv := [.agg #[.string t158.1.Word, .slice A163 (t158.1.Nums).length c164, .string t158.1.Text], .agg #[.string (rdD (⟨#[]⟩ : ByteArray) t13 (Int.tmod (bits .and .i64 p0 65535) 20)), .slice A120 (l122).length c121, .string x145]]) (ks := [8, 11, 56, 57, 58]) (e' := [(8, .string (rdD (⟨#[]⟩ : ByteArray) t13 (Int.tmod (bits .and .i64 p0 65535) 20))), (11, .pointer (some ⟨bx36, 0, none⟩)), (56, .bool true), (57, .agg #[.string t158.1.Word, .slice A163 (t158.1.Nums).length c164, .string t158.1.Text]), (58, .agg #[.string (rdD (⟨#[]⟩ : ByteArray) t13 (Int.tmod (bits .and .i64 p0 65535) 20)), .slice A120 (l122).length c121, .string x145])]) (by kernel_rfl) rfl rfl (by kernel_rfl) (np_then (np_then np_body)) ⟨f171.now, f37.now, trivial⟩ (fun W_ hS => ⟨(load_box tab rfl rfl hS.1 (k := 0) rfl rfl), (load_box tab rfl rfl hS.2.1 (k := 0) rfl rfl), trivial⟩) fun a hk => ?_
                refine xd_op hk (i := 5) (by kernel_rfl) rfl rfl ?_
                refine op_call hk ent_11 (vs := [.agg #[.string t158.1.Word, .slice A163 (t158.1.Nums).length c164, .string t158.1.Text], .agg #[.string (rdD (⟨#[]⟩ : ByteArray) t13 (Int.tmod (bits .and .i64 p0 65535) 20)), .slice A120 (l122).length c121, .string x145]]) rfl (tidewracklaw27_Is_calls K A163 c164 t158.1 A120 c121 (⟨(rdD (⟨#[]⟩ : ByteArray) t13 (Int.tmod (bits .and .i64 p0 65535) 20)), l122, x145⟩ : T25) _ o173 _ (f165.imp fun _ h_ => Own.rd h_) hc166 _ (f123.imp fun _ h_ => Own.rd h_) hc124   _ hc1063) ?_
                rintro _ w1220 ⟨o1221, rfl, st1222⟩
                replace f123 := f123.st st1222 (by decide)
                replace f165 := f165.st st1222 (by decide)
                replace f171 := f171.st st1222 (by decide)
                replace f37 := f37.st st1222 (by decide)
                replace fg0 := fg0.st st1222 (by decide)
                replace fg1 := fg1.st st1222 (by decide)
                replace fg2 := fg2.st st1222 (by decide)
                replace fg3 := fg3.st st1222 (by decide)
                replace fg4 := fg4.st st1222 (by decide)
                replace hs := hs.loc0 st1222 (by decide)
                have hk := hk.put 59 (.bool t1062) rfl
                refine ⟨.inr ⟨f171.now, f37.now, trivial⟩, ?_⟩
                refine xd_take tab hk (k := 26) (is := [6, 7]) (ls' := #[true, true, true, true, true, true, true, true, false, false, false, false, false, false, false, false, false, false, false, false, false, false, false, false, false, false, false, false, false, false, false, false, false, false]) (lv := []) (ks := [8, 11, 61]) (e' := [(8, .string (rdD (⟨#[]⟩ : ByteArray) t13 (Int.tmod (bits .and .i64 p0 65535) 20))), (11, .pointer (some ⟨bx36, 0, none⟩)), (61, .bool t1062)]) (by kernel_rfl) rfl rfl (by kernel_rfl) (np_then (np_then np_body)) ⟨f171.now, f37.now, trivial⟩ (fun W_ hS => trivial) fun a hk => ?_
                rw [b1067] at hk
                refine xd_take tab hk (k := 21) (is := [8, 10, 11, 15, 16]) (ls' := #[true, true, true, true, true, true, true, true, true, false, true, true, false, false, false, true, true, false, false, false, false, false, false, false, false, false, false, false, false, false, false, false, false, false]) (lv := [.slice A120 (l122).length c121, .string x145]) (ks := [8, 11, 61, 62, 65, 70]) (e' := [(8, .string (rdD (⟨#[]⟩ : ByteArray) t13 (Int.tmod (bits .and .i64 p0 65535) 20))), (11, .pointer (some ⟨bx36, 0, none⟩)), (61, .bool true), (62, .string (rdD (⟨#[]⟩ : ByteArray) t13 (Int.tmod (bits .and .i64 p0 65535) 20))), (65, .slice A120 (l122).length c121), (70, .string x145)]) (by kernel_rfl) rfl rfl (by kernel_rfl) (np_then (np_then np_body)) ⟨f171.now, f37.now, trivial⟩ (fun W_ hS => ⟨(load1 tab rfl ((Bx.cell hS.2.1 1).trans rfl)), (load1 tab rfl ((Bx.cell hS.2.1 2).trans rfl)), trivial⟩) fun a hk => ?_
                refine xd_each [9, 13] (by kernel_rfl) rfl ⟨?_, ?_, trivial⟩
                · refine xd_one hk rfl rfl ?_
                  refine op_slice (o := o1221) tab hk (vs := []) (cs := []) rfl rfl rfl rfl rfl rfl rfl rfl rfl 94 fun bx1226 w1223 o1224 st1225 f1227 => ?_
                  replace f123 := f123.st st1225 (by decide)
                  replace f165 := f165.st st1225 (by decide)
                  replace f171 := f171.st st1225 (by decide)
                  replace f37 := f37.st st1225 (by decide)
                  replace fg0 := fg0.st st1225 (by decide)
                  replace fg1 := fg1.st st1225 (by decide)
                  replace fg2 := fg2.st st1225 (by decide)
                  replace fg3 := fg3.st st1225 (by decide)
                  replace fg4 := fg4.st st1225 (by decide)
                  replace hs := hs.loc0 st1225 (by decide)
                  have f1228 : Ft (Own (encInt .i64) 3 (.slice (some ⟨bx1226, 0, none⟩) (([] : List Int)).length 0) ([] : List Int)) w1223 o1224 94 := f1227.imp fun _ h_ => Own.of_box h_ rfl (by simp)
                  have hk := hk.put 63 (.slice (some ⟨bx1226, 0, none⟩) (([] : List Int)).length 0) rfl
                  refine ⟨.inr ⟨f171.now, f37.now, trivial⟩, ?_⟩
                  exact xd_to hG rfl (N1244 _ _ ⟨(fun b_ => (fun l_ => if l_ = 13 then 95 else if l_ = 14 then 96 else if l_ = 15 then 97 else if l_ = 16 then 98 else if l_ = 94 then 99 else l_) (o1224 b_)), (some ⟨bx1226, 0, none⟩), 0, (by exact Kn.pick (ks := [8, 11, 61, 62, 63, 65, 70]) hk rfl), (hs.relab0 (fun l_ => if l_ = 13 then 95 else if l_ = 14 then 96 else if l_ = 15 then 97 else if l_ = 16 then 98 else if l_ = 94 then 99 else l_) rfl), (f123.relab (fun l_ => if l_ = 13 then 95 else if l_ = 14 then 96 else if l_ = 15 then 97 else if l_ = 16 then 98 else if l_ = 94 then 99 else l_) rfl), (f1228.relab (fun l_ => if l_ = 13 then 95 else if l_ = 14 then 96 else if l_ = 15 then 97 else if l_ = 16 then 98 else if l_ = 94 then 99 else l_) rfl), (f165.relab (fun l_ => if l_ = 13 then 95 else if l_ = 14 then 96 else if l_ = 15 then 97 else if l_ = 16 then 98 else if l_ = 94 then 99 else l_) rfl), (f171.relab (fun l_ => if l_ = 13 then 95 else if l_ = 14 then 96 else if l_ = 15 then 97 else if l_ = 16 then 98 else if l_ = 94 then 99 else l_) rfl), (f37.relab (fun l_ => if l_ = 13 then 95 else if l_ = 14 then 96 else if l_ = 15 then 97 else if l_ = 16 then 98 else if l_ = 94 then 99 else l_) rfl), (fg0.relab (fun l_ => if l_ = 13 then 95 else if l_ = 14 then 96 else if l_ = 15 then 97 else if l_ = 16 then 98 else if l_ = 94 then 99 else l_) rfl), (fg1.relab (fun l_ => if l_ = 13 then 95 else if l_ = 14 then 96 else if l_ = 15 then 97 else if l_ = 16 then 98 else if l_ = 94 then 99 else l_) rfl), (fg2.relab (fun l_ => if l_ = 13 then 95 else if l_ = 14 then 96 else if l_ = 15 then 97 else if l_ = 16 then 98 else if l_ = 94 then 99 else l_) rfl), (fg3.relab (fun l_ => if l_ = 13 then 95 else if l_ = 14 then 96 else if l_ = 15 then 97 else if l_ = 16 then 98 else if l_ = 94 then 99 else l_) rfl), (fg4.relab (fun l_ => if l_ = 13 then 95 else if l_ = 14 then 96 else if l_ = 15 then 97 else if l_ = 16 then 98 else if l_ = 94 then 99 else l_) rfl), (Nat.le_refl _)⟩)
                · refine xd_one hk rfl rfl ?_
                  refine op_slice (o := o1221) tab hk (vs := [.int .i64 1]) (cs := [.int .i64 1]) rfl rfl rfl rfl rfl rfl rfl rfl rfl 113 fun bx1340 w1337 o1338 st1339 f1341 => ?_
                  replace f123 := f123.st st1339 (by decide)
                  replace f165 := f165.st st1339 (by decide)
                  replace f171 := f171.st st1339 (by decide)
                  replace f37 := f37.st st1339 (by decide)
                  replace fg0 := fg0.st st1339 (by decide)
                  replace fg1 := fg1.st st1339 (by decide)
                  replace fg2 := fg2.st st1339 (by decide)
                  replace fg3 := fg3.st st1339 (by decide)
                  replace fg4 := fg4.st st1339 (by decide)
                  replace hs := hs.loc0 st1339 (by decide)
                  have f1342 : Ft (Own (encInt .i64) 3 (.slice (some ⟨bx1340, 0, none⟩) (([1] : List Int)).length 1) ([1] : List Int)) w1337 o1338 113 := f1341.imp fun _ h_ => Own.of_box h_ rfl (by simp)
                  have hk := hk.put 67 (.slice (some ⟨bx1340, 0, none⟩) (([1] : List Int)).length 1) rfl
                  refine ⟨.inr ⟨f171.now, f37.now, trivial⟩, ?_⟩
                  exact xd_to hG rfl (N1358 _ _ ⟨(fun b_ => (fun l_ => if l_ = 13 then 114 else if l_ = 14 then 115 else if l_ = 15 then 116 else if l_ = 16 then 117 else if l_ = 113 then 118 else l_) (o1338 b_)), (some ⟨bx1340, 0, none⟩), 1, (by exact Kn.pick (ks := [8, 11, 61, 62, 65, 67, 70]) hk rfl), (hs.relab0 (fun l_ => if l_ = 13 then 114 else if l_ = 14 then 115 else if l_ = 15 then 116 else if l_ = 16 then 117 else if l_ = 113 then 118 else l_) rfl), (f123.relab (fun l_ => if l_ = 13 then 114 else if l_ = 14 then 115 else if l_ = 15 then 116 else if l_ = 16 then 117 else if l_ = 113 then 118 else l_) rfl), (f1342.relab (fun l_ => if l_ = 13 then 114 else if l_ = 14 then 115 else if l_ = 15 then 116 else if l_ = 16 then 117 else if l_ = 113 then 118 else l_) rfl), (f165.relab (fun l_ => if l_ = 13 then 114 else if l_ = 14 then 115 else if l_ = 15 then 116 else if l_ = 16 then 117 else if l_ = 113 then 118 else l_) rfl), (f171.relab (fun l_ => if l_ = 13 then 114 else if l_ = 14 then 115 else if l_ = 15 then 116 else if l_ = 16 then 117 else if l_ = 113 then 118 else l_) rfl), (f37.relab (fun l_ => if l_ = 13 then 114 else if l_ = 14 then 115 else if l_ = 15 then 116 else if l_ = 16 then 117 else if l_ = 113 then 118 else l_) rfl), (fg0.relab (fun l_ => if l_ = 13 then 114 else if l_ = 14 then 115 else if l_ = 15 then 116 else if l_ = 16 then 117 else if l_ = 113 then 118 else l_) rfl), (fg1.relab (fun l_ => if l_ = 13 then 114 else if l_ = 14 then 115 else if l_ = 15 then 116 else if l_ = 16 then 117 else if l_ = 113 then 118 else l_) rfl), (fg2.relab (fun l_ => if l_ = 13 then 114 else if l_ = 14 then 115 else if l_ = 15 then 116 else if l_ = 16 then 117 else if l_ = 113 then 118 else l_) rfl), (fg3.relab (fun l_ => if l_ = 13 then 114 else if l_ = 14 then 115 else if l_ = 15 then 116 else if l_ = 16 then 117 else if l_ = 113 then 118 else l_) rfl), (fg4.relab (fun l_ => if l_ = 13 then 114 else if l_ = 14 then 115 else if l_ = 15 then 116 else if l_ = 16 then 117 else if l_ = 113 then 118 else l_) rfl), (Nat.le_refl _)⟩)
              · rw [b1118] at H
                replace H := bifT H
                obtain ⟨t1388, hc1389, H⟩ := bindS H
                obtain ⟨t1396, hc1397, H⟩ := bindS H
                refine xd_begin (o := o173) (fun W_ => (Bx bx170 26 [.string t158.1.Word, .slice A163 (t158.1.Nums).length c164, .string t158.1.Text]) W_ ∧ (Bx bx36 30 [.string (rdD (⟨#[]⟩ : ByteArray) t13 (Int.tmod (bits .and .i64 p0 65535) 20)), .slice A120 (l122).length c121, .string x145]) W_ ∧ True) mixed rfl rfl fun w1533 st1534 => ?_
                replace f123 := f123.st st1534 (by decide)
                replace f165 := f165.st st1534 (by decide)
                replace f171 := f171.st st1534 (by decide)
                replace f37 := f37.st st1534 (by decide)
                replace fg0 := fg0.st st1534 (by decide)
                replace fg1 := fg1.st st1534 (by decide)
                replace fg2 := fg2.st st1534 (by decide)
                replace fg3 := fg3.st st1534 (by decide)
                replace fg4 := fg4.st st1534 (by decide)
                replace hs := hs.loc0 st1534 (by decide)
                refine xd_abs fun G hG => ?_
                have N1585 : ∀ (a_ : Act) (w_ : World), (∃ o1579 : Nat → Nat, ∃ A1580 : Option Addr, ∃ c1581 : Nat, Kn 87 a_ [(8, .string (rdD (⟨#[]⟩ : ByteArray) t13 (Int.tmod (bits .and .i64 p0 65535) 20))), (11, .pointer (some ⟨bx36, 0, none⟩)), (61, .bool true), (62, .string (rdD (⟨#[]⟩ : ByteArray) t13 (Int.tmod (bits .and .i64 p0 65535) 20))), (66, .slice A1580 ((([] : List Int) ++ l122)).length c1581), (70, .string x145)] ∧ St [] w (fun _ => 0) w_ o1579 ∧ Ft (Own (encInt .i64) 3 (.slice A120 (l122).length c121) l122) w_ o1579 131 ∧ Ft (Own (encInt .i64) 3 (.slice A1580 ((([] : List Int) ++ l122)).length c1581) (([] : List Int) ++ l122)) w_ o1579 135 ∧ Ft (Own (encInt .i64) 3 (.slice A163 (t158.1.Nums).length c164) t158.1.Nums) w_ o1579 133 ∧ Ft (Bx bx170 26 [.string t158.1.Word, .slice A163 (t158.1.Nums).length c164, .string t158.1.Text]) w_ o1579 134 ∧ Ft (Bx bx36 30 [.string (rdD (⟨#[]⟩ : ByteArray) t13 (Int.tmod (bits .and .i64 p0 65535) 20)), .slice A120 (l122).length c121, .string x145]) w_ o1579 132 ∧ Ft (RdC ET47 (some ⟨0, 0, none⟩) glob0) w_ o1579 0 ∧ Ft (GInt 1) w_ o1579 0 ∧ Ft (GIface 2) w_ o1579 0 ∧ Ft (GIface 3) w_ o1579 0 ∧ Ft (GTab Tryd.prog "internal/strconv.uint64pow10" .u64 Lib.pow10Tab) w_ o1579 0 ∧ ((([] : List Int) ++ l122)).length ≤ c1581) → G 19 #[true, true, true, true, true, true, true, true, true, true, true, true, true, false, false, true, true, false, false, false, false, false, false, false, false, false, false, false, false, false, false, false, false, false] a_ w_ := by
                  rintro a w1584 ⟨o1579, A1580, c1581, hk, hs, f123, f1582, f165, f171, f37, fg0, fg1, fg2, fg3, fg4, hc1583⟩
                  refine xd_of hG ?_
                  refine xd_op hk (i := 13) (by kernel_rfl) rfl rfl ?_
                  refine op_slice (o := o1579) tab hk (vs := [.int .i64 1]) (cs := [.int .i64 1]) rfl rfl rfl rfl rfl rfl rfl rfl rfl 136 fun bx1589 w1586 o1587 st1588 f1590 => ?_
                  replace f123 := f123.st st1588 (by decide)
                  replace f1582 := f1582.st st1588 (by decide)
                  replace f165 := f165.st st1588 (by decide)
                  replace f171 := f171.st st1588 (by decide)
                  replace f37 := f37.st st1588 (by decide)
                  replace fg0 := fg0.st st1588 (by decide)
                  replace fg1 := fg1.st st1588 (by decide)
                  replace fg2 := fg2.st st1588 (by decide)
                  replace fg3 := fg3.st st1588 (by decide)
                  replace fg4 := fg4.st st1588 (by decide)
                  replace hs := hs.loc0 st1588 (by decide)
                  have f1591 : Ft (Own (encInt .i64) 3 (.slice (some ⟨bx1589, 0, none⟩) (([1] : List Int)).length 1) ([1] : List Int)) w1586 o1587 136 := f1590.imp fun _ h_ => Own.of_box h_ rfl (by simp)
                  have hk := hk.put 67 (.slice (some ⟨bx1589, 0, none⟩) (([1] : List Int)).length 1) rfl
                  refine ⟨.inr ⟨f171.now, f37.now, trivial⟩, ?_⟩
                  refine xd_op hk (i := 14) (by kernel_rfl) rfl rfl ?_
                  refine op_append (o := o1587) (E := (encInt .i64)) (xs := (([] : List Int) ++ l122)) (ys := ([1] : List Int)) tab hk rfl rfl rfl rfl rfl rfl rfl f1582 (Own.rd f1591.now) q1105 fun A1595 c1596 w1592 o1593 st1594 f1597 hc1598 => ?_
                  replace f123 := f123.st st1594 (by decide)
                  replace f1591 := f1591.st st1594 (by decide)
                  replace f165 := f165.st st1594 (by decide)
                  replace f171 := f171.st st1594 (by decide)
                  replace f37 := f37.st st1594 (by decide)
                  replace fg0 := fg0.st st1594 (by decide)
                  replace fg1 := fg1.st st1594 (by decide)
                  replace fg2 := fg2.st st1594 (by decide)
                  replace fg3 := fg3.st st1594 (by decide)
                  replace fg4 := fg4.st st1594 (by decide)
                  replace hs := hs.loc0 st1594 (by decide)
                  have hk := hk.put 68 (.slice A1595 (((([] : List Int) ++ l122) ++ ([1] : List Int))).length c1596) rfl
                  refine ⟨.inr ⟨f171.now, f37.now, trivial⟩, ?_⟩
                  refine xd_take tab hk (k := 16) (is := [17]) (ls' := #[true, true, true, true, true, true, true, true, true, true, true, true, true, true, true, true, true, true, false, false, false, false, false, false, false, false, false, false, false, false, false, false, false, false]) (lv := []) (ks := [8, 11, 61, 71]) (e' := [(8, .string (rdD (⟨#[]⟩ : ByteArray) t13 (Int.tmod (bits .and .i64 p0 65535) 20))), (11, .pointer (some ⟨bx36, 0, none⟩)), (61, .bool true), (71, .agg #[.string (rdD (⟨#[]⟩ : ByteArray) t13 (Int.tmod (bits .and .i64 p0 65535) 20)), .slice A1595 (((([] : List Int) ++ l122) ++ ([1] : List Int))).length c1596, .string x145])]) (by kernel_rfl) rfl rfl (by kernel_rfl) (np_then (np_then np_body)) ⟨f171.now, f37.now, trivial⟩ (fun W_ hS => trivial) fun a hk => ?_
                  refine xd_op hk (i := 18) (by kernel_rfl) rfl rfl ?_
                  refine op_call hk ent_12 (vs := [.agg #[.string (rdD (⟨#[]⟩ : ByteArray) t13 (Int.tmod (bits .and .i64 p0 65535) 20)), .slice A1595 (((([] : List Int) ++ l122) ++ ([1] : List Int))).length c1596, .string x145]]) rfl (line_Step_Line_calls K A1595 c1596 (⟨(rdD (⟨#[]⟩ : ByteArray) t13 (Int.tmod (bits .and .i64 p0 65535) 20)), ((([] : List Int) ++ l122) ++ ([1] : List Int)), x145⟩ : T25) _ o1593 0 fg0 0 fg4 _ (f1597.imp fun _ h_ => Own.rd h_) hc1598   _ hc1114) ?_
                  rintro _ w1602 ⟨o1603, rfl, st1604⟩
                  replace f123 := f123.st st1604 (by decide)
                  replace f1591 := f1591.st st1604 (by decide)
                  replace f1597 := f1597.st st1604 (by decide)
                  replace f165 := f165.st st1604 (by decide)
                  replace f171 := f171.st st1604 (by decide)
                  replace f37 := f37.st st1604 (by decide)
                  replace fg0 := fg0.st st1604 (by decide)
                  replace fg1 := fg1.st st1604 (by decide)
                  replace fg2 := fg2.st st1604 (by decide)
                  replace fg3 := fg3.st st1604 (by decide)
                  replace fg4 := fg4.st st1604 (by decide)
                  replace hs := hs.loc0 st1604 (by decide)
                  have hk := hk.put 72 (.string t1113) rfl
                  refine ⟨.inr ⟨f171.now, f37.now, trivial⟩, ?_⟩
                  refine xd_take tab hk (k := 12) (is := [19, 20, 21]) (ls' := #[true, true, true, true, true, true, true, true, true, true, true, true, true, true, true, true, true, true, true, true, true, true, false, false, false, false, false, false, false, false, false, false, false, false]) (lv := []) (ks := [8, 11, 75]) (e' := [(8, .string (rdD (⟨#[]⟩ : ByteArray) t13 (Int.tmod (bits .and .i64 p0 65535) 20))), (11, .pointer (some ⟨bx36, 0, none⟩)), (75, .bool (ByteArray.toList t1113 == ByteArray.toList (⟨#[]⟩ : ByteArray)))]) (by kernel_rfl) rfl rfl (by kernel_rfl) (np_then (np_then np_body)) ⟨f171.now, f37.now, trivial⟩ (fun W_ hS => trivial) fun a hk => ?_
                  rw [b1118] at hk
                  refine xd_take tab hk (k := 6) (is := [22, 23, 24, 25, 26, 27]) (ls' := #[true, true, true, true, true, true, true, true, true, true, true, true, true, true, true, true, true, true, true, true, true, true, true, true, true, true, true, true, false, false, false, false, false, false]) (lv := [.slice A120 (l122).length c121, .string x145]) (ks := [11, 75, 81]) (e' := [(11, .pointer (some ⟨bx36, 0, none⟩)), (75, .bool true), (81, .agg #[.string (rdD (⟨#[]⟩ : ByteArray) t13 (Int.tmod (bits .and .i64 p0 65535) 20)), .slice A120 (l122).length c121, .string x145])]) (by kernel_rfl) rfl rfl (by kernel_rfl) (np_then (np_then np_body)) ⟨f171.now, f37.now, trivial⟩ (fun W_ hS => ⟨(load1 tab rfl ((Bx.cell hS.2.1 1).trans rfl)), (load1 tab rfl ((Bx.cell hS.2.1 2).trans rfl)), trivial⟩) fun a hk => ?_
                  refine xd_take tab hk (k := 5) (is := [29]) (ls' := #[true, true, true, true, true, true, true, true, true, true, true, true, true, true, true, true, true, true, true, true, true, true, true, true, true, true, true, true, false, true, false, false, false, false]) (lv := [.agg #[.string (rdD (⟨#[]⟩ : ByteArray) t13 (Int.tmod (bits .and .i64 p0 65535) 20)), .slice A120 (l122).length c121, .string x145]]) (ks := [75, 81, 83]) (e' := [(75, .bool true), (81, .agg #[.string (rdD (⟨#[]⟩ : ByteArray) t13 (Int.tmod (bits .and .i64 p0 65535) 20)), .slice A120 (l122).length c121, .string x145]), (83, .agg #[.string (rdD (⟨#[]⟩ : ByteArray) t13 (Int.tmod (bits .and .i64 p0 65535) 20)), .slice A120 (l122).length c121, .string x145])]) (by kernel_rfl) rfl rfl (by kernel_rfl) (np_then (np_then np_body)) ⟨f171.now, f37.now, trivial⟩ (fun W_ hS => ⟨(load_box tab rfl rfl hS.2.1 (k := 0) rfl rfl), trivial⟩) fun a hk => ?_
                  refine xd_op hk (i := 28) (by kernel_rfl) rfl rfl ?_
                  refine op_call hk ent_12 (vs := [.agg #[.string (rdD (⟨#[]⟩ : ByteArray) t13 (Int.tmod (bits .and .i64 p0 65535) 20)), .slice A120 (l122).length c121, .string x145]]) rfl (line_Step_Line_calls K A120 c121 (⟨(rdD (⟨#[]⟩ : ByteArray) t13 (Int.tmod (bits .and .i64 p0 65535) 20)), l122, x145⟩ : T25) _ o1603 0 fg0 0 fg4 _ (f123.imp fun _ h_ => Own.rd h_) hc124   _ hc1389) ?_
                  rintro _ w1608 ⟨o1609, rfl, st1610⟩
                  replace f123 := f123.st st1610 (by decide)
                  replace f1591 := f1591.st st1610 (by decide)
                  replace f1597 := f1597.st st1610 (by decide)
                  replace f165 := f165.st st1610 (by decide)
                  replace f171 := f171.st st1610 (by decide)
                  replace f37 := f37.st st1610 (by decide)
                  replace fg0 := fg0.st st1610 (by decide)
                  replace fg1 := fg1.st st1610 (by decide)
                  replace fg2 := fg2.st st1610 (by decide)
                  replace fg3 := fg3.st st1610 (by decide)
                  replace fg4 := fg4.st st1610 (by decide)
                  replace hs := hs.loc0 st1610 (by decide)
                  have hk := hk.put 82 (.string t1388) rfl
                  refine ⟨.inr ⟨f171.now, f37.now, trivial⟩, ?_⟩
                  refine xd_op hk (i := 30) (by kernel_rfl) rfl rfl ?_
                  refine op_call hk ent_13 (vs := [.agg #[.string (rdD (⟨#[]⟩ : ByteArray) t13 (Int.tmod (bits .and .i64 p0 65535) 20)), .slice A120 (l122).length c121, .string x145]]) rfl (tidewrackref27_Line_calls K A120 c121 (⟨(rdD (⟨#[]⟩ : ByteArray) t13 (Int.tmod (bits .and .i64 p0 65535) 20)), l122, x145⟩ : T25) _ o1609 0 fg4 _ (f123.imp fun _ h_ => Own.rd h_) hc124   _ hc1397) ?_
                  rintro _ w1614 ⟨o1615, rfl, st1616⟩
                  replace f123 := f123.st st1616 (by decide)
                  replace f1591 := f1591.st st1616 (by decide)
                  replace f1597 := f1597.st st1616 (by decide)
                  replace f165 := f165.st st1616 (by decide)
                  replace f171 := f171.st st1616 (by decide)
                  replace f37 := f37.st st1616 (by decide)
                  replace fg0 := fg0.st st1616 (by decide)
                  replace fg1 := fg1.st st1616 (by decide)
                  replace fg2 := fg2.st st1616 (by decide)
                  replace fg3 := fg3.st st1616 (by decide)
                  replace fg4 := fg4.st st1616 (by decide)
                  replace hs := hs.loc0 st1616 (by decide)
                  have hk := hk.put 84 (.string t1396) rfl
                  refine ⟨.inr ⟨f171.now, f37.now, trivial⟩, ?_⟩
                  refine xd_take tab hk (k := 0) (is := [31, 32, 33]) (ls' := #[true, true, true, true, true, true, true, true, true, true, true, true, true, true, true, true, true, true, true, true, true, true, true, true, true, true, true, true, true, true, true, true, true, true]) (lv := []) (ks := [6]) (e' := [(6, .bool (ByteArray.toList t1388 == ByteArray.toList t1396))]) (by kernel_rfl) rfl rfl (by kernel_rfl) (np_then (np_then np_body)) ⟨f171.now, f37.now, trivial⟩ (fun W_ hS => trivial) fun a hk => ?_
                  refine xd_done (by kernel_rfl) ?_
                  refine then_n ?_
                  exact ⟨o1615, (ByteArray.toList t1388 == ByteArray.toList t1396), (by exact Kn.pick (ks := [6]) hk rfl), hs, fg0, fg1, fg2, fg3, fg4, H⟩
                have N1646 : ∀ (a_ : Act) (w_ : World), (∃ o1636 : Nat → Nat, ∃ A1637 : Option Addr, ∃ c1638 : Nat, ∃ A1641 : Option Addr, ∃ c1642 : Nat, Kn 87 a_ [(8, .string (rdD (⟨#[]⟩ : ByteArray) t13 (Int.tmod (bits .and .i64 p0 65535) 20))), (11, .pointer (some ⟨bx36, 0, none⟩)), (61, .bool true), (62, .string (rdD (⟨#[]⟩ : ByteArray) t13 (Int.tmod (bits .and .i64 p0 65535) 20))), (63, .slice A1637 (([] : List Int)).length c1638), (65, .slice A120 (l122).length c121), (67, .slice A1641 (([1] : List Int)).length c1642), (70, .string x145)] ∧ St [] w (fun _ => 0) w_ o1636 ∧ Ft (Own (encInt .i64) 3 (.slice A120 (l122).length c121) l122) w_ o1636 138 ∧ Ft (Own (encInt .i64) 3 (.slice A1637 (([] : List Int)).length c1638) ([] : List Int)) w_ o1636 142 ∧ Ft (Own (encInt .i64) 3 (.slice A1641 (([1] : List Int)).length c1642) ([1] : List Int)) w_ o1636 143 ∧ Ft (Own (encInt .i64) 3 (.slice A163 (t158.1.Nums).length c164) t158.1.Nums) w_ o1636 140 ∧ Ft (Bx bx170 26 [.string t158.1.Word, .slice A163 (t158.1.Nums).length c164, .string t158.1.Text]) w_ o1636 141 ∧ Ft (Bx bx36 30 [.string (rdD (⟨#[]⟩ : ByteArray) t13 (Int.tmod (bits .and .i64 p0 65535) 20)), .slice A120 (l122).length c121, .string x145]) w_ o1636 139 ∧ Ft (RdC ET47 (some ⟨0, 0, none⟩) glob0) w_ o1636 0 ∧ Ft (GInt 1) w_ o1636 0 ∧ Ft (GIface 2) w_ o1636 0 ∧ Ft (GIface 3) w_ o1636 0 ∧ Ft (GTab Tryd.prog "internal/strconv.uint64pow10" .u64 Lib.pow10Tab) w_ o1636 0 ∧ (([] : List Int)).length ≤ c1638 ∧ (([1] : List Int)).length ≤ c1642) → G 19 #[true, true, true, true, true, true, true, true, true, true, true, true, false, true, false, true, true, false, false, false, false, false, false, false, false, false, false, false, false, false, false, false, false, false] a_ w_ := by
                  rintro a w1645 ⟨o1636, A1637, c1638, A1641, c1642, hk, hs, f123, f1639, f1643, f165, f171, f37, fg0, fg1, fg2, fg3, fg4, hc1640, hc1644⟩
                  refine xd_of hG ?_
                  refine xd_op hk (i := 12) (by kernel_rfl) rfl rfl ?_
                  refine op_append (o := o1636) (E := (encInt .i64)) (xs := ([] : List Int)) (ys := l122) tab hk rfl rfl rfl rfl rfl rfl rfl f1639 (Own.rd f123.now) q1091 fun A1650 c1651 w1647 o1648 st1649 f1652 hc1653 => ?_
                  replace f123 := f123.st st1649 (by decide)
                  replace f1643 := f1643.st st1649 (by decide)
                  replace f165 := f165.st st1649 (by decide)
                  replace f171 := f171.st st1649 (by decide)
                  replace f37 := f37.st st1649 (by decide)
                  replace fg0 := fg0.st st1649 (by decide)
                  replace fg1 := fg1.st st1649 (by decide)
                  replace fg2 := fg2.st st1649 (by decide)
                  replace fg3 := fg3.st st1649 (by decide)
                  replace fg4 := fg4.st st1649 (by decide)
                  replace hs := hs.loc0 st1649 (by decide)
                  have hk := hk.put 66 (.slice A1650 ((([] : List Int) ++ l122)).length c1651) rfl
                  refine ⟨.inr ⟨f171.now, f37.now, trivial⟩, ?_⟩
                  refine xd_op hk (i := 14) (by kernel_rfl) rfl rfl ?_
                  refine op_append (o := o1648) (E := (encInt .i64)) (xs := (([] : List Int) ++ l122)) (ys := ([1] : List Int)) tab hk rfl rfl rfl rfl rfl rfl rfl f1652 (Own.rd f1643.now) q1105 fun A1657 c1658 w1654 o1655 st1656 f1659 hc1660 => ?_
                  replace f123 := f123.st st1656 (by decide)
                  replace f1643 := f1643.st st1656 (by decide)
                  replace f165 := f165.st st1656 (by decide)
                  replace f171 := f171.st st1656 (by decide)
                  replace f37 := f37.st st1656 (by decide)
                  replace fg0 := fg0.st st1656 (by decide)
                  replace fg1 := fg1.st st1656 (by decide)
                  replace fg2 := fg2.st st1656 (by decide)
                  replace fg3 := fg3.st st1656 (by decide)
                  replace fg4 := fg4.st st1656 (by decide)
                  replace hs := hs.loc0 st1656 (by decide)
                  have hk := hk.put 68 (.slice A1657 (((([] : List Int) ++ l122) ++ ([1] : List Int))).length c1658) rfl
                  refine ⟨.inr ⟨f171.now, f37.now, trivial⟩, ?_⟩
                  refine xd_take tab hk (k := 16) (is := [17]) (ls' := #[true, true, true, true, true, true, true, true, true, true, true, true, true, true, true, true, true, true, false, false, false, false, false, false, false, false, false, false, false, false, false, false, false, false]) (lv := []) (ks := [8, 11, 61, 71]) (e' := [(8, .string (rdD (⟨#[]⟩ : ByteArray) t13 (Int.tmod (bits .and .i64 p0 65535) 20))), (11, .pointer (some ⟨bx36, 0, none⟩)), (61, .bool true), (71, .agg #[.string (rdD (⟨#[]⟩ : ByteArray) t13 (Int.tmod (bits .and .i64 p0 65535) 20)), .slice A1657 (((([] : List Int) ++ l122) ++ ([1] : List Int))).length c1658, .string x145])]) (by kernel_rfl) rfl rfl (by kernel_rfl) (np_then (np_then np_body)) ⟨f171.now, f37.now, trivial⟩ (fun W_ hS => trivial) fun a hk => ?_
                  refine xd_op hk (i := 18) (by kernel_rfl) rfl rfl ?_
                  refine op_call hk ent_12 (vs := [.agg #[.string (rdD (⟨#[]⟩ : ByteArray) t13 (Int.tmod (bits .and .i64 p0 65535) 20)), .slice A1657 (((([] : List Int) ++ l122) ++ ([1] : List Int))).length c1658, .string x145]]) rfl (line_Step_Line_calls K A1657 c1658 (⟨(rdD (⟨#[]⟩ : ByteArray) t13 (Int.tmod (bits .and .i64 p0 65535) 20)), ((([] : List Int) ++ l122) ++ ([1] : List Int)), x145⟩ : T25) _ o1655 0 fg0 0 fg4 _ (f1659.imp fun _ h_ => Own.rd h_) hc1660   _ hc1114) ?_
                  rintro _ w1664 ⟨o1665, rfl, st1666⟩
                  replace f123 := f123.st st1666 (by decide)
                  replace f1643 := f1643.st st1666 (by decide)
                  replace f165 := f165.st st1666 (by decide)
                  replace f1659 := f1659.st st1666 (by decide)
                  replace f171 := f171.st st1666 (by decide)
                  replace f37 := f37.st st1666 (by decide)
                  replace fg0 := fg0.st st1666 (by decide)
                  replace fg1 := fg1.st st1666 (by decide)
                  replace fg2 := fg2.st st1666 (by decide)
                  replace fg3 := fg3.st st1666 (by decide)
                  replace fg4 := fg4.st st1666 (by decide)
                  replace hs := hs.loc0 st1666 (by decide)
                  have hk := hk.put 72 (.string t1113) rfl
                  refine ⟨.inr ⟨f171.now, f37.now, trivial⟩, ?_⟩
                  refine xd_take tab hk (k := 12) (is := [19, 20, 21]) (ls' := #[true, true, true, true, true, true, true, true, true, true, true, true, true, true, true, true, true, true, true, true, true, true, false, false, false, false, false, false, false, false, false, false, false, false]) (lv := []) (ks := [8, 11, 75]) (e' := [(8, .string (rdD (⟨#[]⟩ : ByteArray) t13 (Int.tmod (bits .and .i64 p0 65535) 20))), (11, .pointer (some ⟨bx36, 0, none⟩)), (75, .bool (ByteArray.toList t1113 == ByteArray.toList (⟨#[]⟩ : ByteArray)))]) (by kernel_rfl) rfl rfl (by kernel_rfl) (np_then (np_then np_body)) ⟨f171.now, f37.now, trivial⟩ (fun W_ hS => trivial) fun a hk => ?_
                  rw [b1118] at hk
                  refine xd_take tab hk (k := 6) (is := [22, 23, 24, 25, 26, 27]) (ls' := #[true, true, true, true, true, true, true, true, true, true, true, true, true, true, true, true, true, true, true, true, true, true, true, true, true, true, true, true, false, false, false, false, false, false]) (lv := [.slice A120 (l122).length c121, .string x145]) (ks := [11, 75, 81]) (e' := [(11, .pointer (some ⟨bx36, 0, none⟩)), (75, .bool true), (81, .agg #[.string (rdD (⟨#[]⟩ : ByteArray) t13 (Int.tmod (bits .and .i64 p0 65535) 20)), .slice A120 (l122).length c121, .string x145])]) (by kernel_rfl) rfl rfl (by kernel_rfl) (np_then (np_then np_body)) ⟨f171.now, f37.now, trivial⟩ (fun W_ hS => ⟨(load1 tab rfl ((Bx.cell hS.2.1 1).trans rfl)), (load1 tab rfl ((Bx.cell hS.2.1 2).trans rfl)), trivial⟩) fun a hk => ?_
                  refine xd_take tab hk (k := 5) (is := [29]) (ls' := #[true, true, true, true, true, true, true, true, true, true, true, true, true, true, true, true, true, true, true, true, true, true, true, true, true, true, true, true, false, true, false, false, false, false]) (lv := [.agg #[.string (rdD (⟨#[]⟩ : ByteArray) t13 (Int.tmod (bits .and .i64 p0 65535) 20)), .slice A120 (l122).length c121, .string x145]]) (ks := [75, 81, 83]) (e' := [(75, .bool true), (81, .agg #[.string (rdD (⟨#[]⟩ : ByteArray) t13 (Int.tmod (bits .and .i64 p0 65535) 20)), .slice A120 (l122).length c121, .string x145]), (83, .agg #[.string (rdD (⟨#[]⟩ : ByteArray) t13 (Int.tmod (bits .and .i64 p0 65535) 20)), .slice A120 (l122).length c121, .string x145])]) (by kernel_rfl) rfl rfl (by kernel_rfl) (np_then (np_then np_body)) ⟨f171.now, f37.now, trivial⟩ (fun W_ hS => ⟨(load_box tab rfl rfl hS.2.1 (k := 0) rfl rfl), trivial⟩) fun a hk => ?_
                  refine xd_op hk (i := 28) (by kernel_rfl) rfl rfl ?_
                  refine op_call hk ent_12 (vs := [.agg #[.string (rdD (⟨#[]⟩ : ByteArray) t13 (Int.tmod (bits .and .i64 p0 65535) 20)), .slice A120 (l122).length c121, .string x145]]) rfl (line_Step_Line_calls K A120 c121 (⟨(rdD (⟨#[]⟩ : ByteArray) t13 (Int.tmod (bits .and .i64 p0 65535) 20)), l122, x145⟩ : T25) _ o1665 0 fg0 0 fg4 _ (f123.imp fun _ h_ => Own.rd h_) hc124   _ hc1389) ?_
                  rintro _ w1670 ⟨o1671, rfl, st1672⟩
                  replace f123 := f123.st st1672 (by decide)
                  replace f1643 := f1643.st st1672 (by decide)
                  replace f165 := f165.st st1672 (by decide)
                  replace f1659 := f1659.st st1672 (by decide)
                  replace f171 := f171.st st1672 (by decide)
                  replace f37 := f37.st st1672 (by decide)
                  replace fg0 := fg0.st st1672 (by decide)
                  replace fg1 := fg1.st st1672 (by decide)
                  replace fg2 := fg2.st st1672 (by decide)
                  replace fg3 := fg3.st st1672 (by decide)
                  replace fg4 := fg4.st st1672 (by decide)
                  replace hs := hs.loc0 st1672 (by decide)
                  have hk := hk.put 82 (.string t1388) rfl
                  refine ⟨.inr ⟨f171.now, f37.now, trivial⟩, ?_⟩
                  refine xd_op hk (i := 30) (by kernel_rfl) rfl rfl ?_
                  refine op_call hk ent_13 (vs := [.agg #[.string (rdD (⟨#[]⟩ : ByteArray) t13 (Int.tmod (bits .and .i64 p0 65535) 20)), .slice A120 (l122).length c121, .string x145]]) rfl (tidewrackref27_Line_calls K A120 c121 (⟨(rdD (⟨#[]⟩ : ByteArray) t13 (Int.tmod (bits .and .i64 p0 65535) 20)), l122, x145⟩ : T25) _ o1671 0 fg4 _ (f123.imp fun _ h_ => Own.rd h_) hc124   _ hc1397) ?_
                  rintro _ w1676 ⟨o1677, rfl, st1678⟩
                  replace f123 := f123.st st1678 (by decide)
                  replace f1643 := f1643.st st1678 (by decide)
                  replace f165 := f165.st st1678 (by decide)
                  replace f1659 := f1659.st st1678 (by decide)
                  replace f171 := f171.st st1678 (by decide)
                  replace f37 := f37.st st1678 (by decide)
                  replace fg0 := fg0.st st1678 (by decide)
                  replace fg1 := fg1.st st1678 (by decide)
                  replace fg2 := fg2.st st1678 (by decide)
                  replace fg3 := fg3.st st1678 (by decide)
                  replace fg4 := fg4.st st1678 (by decide)
                  replace hs := hs.loc0 st1678 (by decide)
                  have hk := hk.put 84 (.string t1396) rfl
                  refine ⟨.inr ⟨f171.now, f37.now, trivial⟩, ?_⟩
                  refine xd_take tab hk (k := 0) (is := [31, 32, 33]) (ls' := #[true, true, true, true, true, true, true, true, true, true, true, true, true, true, true, true, true, true, true, true, true, true, true, true, true, true, true, true, true, true, true, true, true, true]) (lv := []) (ks := [6]) (e' := [(6, .bool (ByteArray.toList t1388 == ByteArray.toList t1396))]) (by kernel_rfl) rfl rfl (by kernel_rfl) (np_then (np_then np_body)) ⟨f171.now, f37.now, trivial⟩ (fun W_ hS => trivial) fun a hk => ?_
                  refine xd_done (by kernel_rfl) ?_
                  refine then_n ?_
                  exact ⟨o1677, (ByteArray.toList t1388 == ByteArray.toList t1396), (by exact Kn.pick (ks := [6]) hk rfl), hs, fg0, fg1, fg2, fg3, fg4, H⟩
                have N1562 : ∀ (a_ : Act) (w_ : World), (∃ o1556 : Nat → Nat, ∃ A1557 : Option Addr, ∃ c1558 : Nat, Kn 87 a_ [(8, .string (rdD (⟨#[]⟩ : ByteArray) t13 (Int.tmod (bits .and .i64 p0 65535) 20))), (11, .pointer (some ⟨bx36, 0, none⟩)), (61, .bool true), (62, .string (rdD (⟨#[]⟩ : ByteArray) t13 (Int.tmod (bits .and .i64 p0 65535) 20))), (63, .slice A1557 (([] : List Int)).length c1558), (65, .slice A120 (l122).length c121), (70, .string x145)] ∧ St [] w (fun _ => 0) w_ o1556 ∧ Ft (Own (encInt .i64) 3 (.slice A120 (l122).length c121) l122) w_ o1556 126 ∧ Ft (Own (encInt .i64) 3 (.slice A1557 (([] : List Int)).length c1558) ([] : List Int)) w_ o1556 130 ∧ Ft (Own (encInt .i64) 3 (.slice A163 (t158.1.Nums).length c164) t158.1.Nums) w_ o1556 128 ∧ Ft (Bx bx170 26 [.string t158.1.Word, .slice A163 (t158.1.Nums).length c164, .string t158.1.Text]) w_ o1556 129 ∧ Ft (Bx bx36 30 [.string (rdD (⟨#[]⟩ : ByteArray) t13 (Int.tmod (bits .and .i64 p0 65535) 20)), .slice A120 (l122).length c121, .string x145]) w_ o1556 127 ∧ Ft (RdC ET47 (some ⟨0, 0, none⟩) glob0) w_ o1556 0 ∧ Ft (GInt 1) w_ o1556 0 ∧ Ft (GIface 2) w_ o1556 0 ∧ Ft (GIface 3) w_ o1556 0 ∧ Ft (GTab Tryd.prog "internal/strconv.uint64pow10" .u64 Lib.pow10Tab) w_ o1556 0 ∧ (([] : List Int)).length ≤ c1558) → G 20 #[true, true, true, true, true, true, true, true, true, true, true, true, false, false, false, true, true, false, false, false, false, false, false, false, false, false, false, false, false, false, false, false, false, false] a_ w_ := by
                  rintro a w1561 ⟨o1556, A1557, c1558, hk, hs, f123, f1559, f165, f171, f37, fg0, fg1, fg2, fg3, fg4, hc1560⟩
                  refine xd_of hG ?_
                  refine xd_each [12, 13] (by kernel_rfl) rfl ⟨?_, ?_, trivial⟩
                  · refine xd_one hk rfl rfl ?_
                    refine op_append (o := o1556) (E := (encInt .i64)) (xs := ([] : List Int)) (ys := l122) tab hk rfl rfl rfl rfl rfl rfl rfl f1559 (Own.rd f123.now) q1091 fun A1566 c1567 w1563 o1564 st1565 f1568 hc1569 => ?_
                    replace f123 := f123.st st1565 (by decide)
                    replace f165 := f165.st st1565 (by decide)
                    replace f171 := f171.st st1565 (by decide)
                    replace f37 := f37.st st1565 (by decide)
                    replace fg0 := fg0.st st1565 (by decide)
                    replace fg1 := fg1.st st1565 (by decide)
                    replace fg2 := fg2.st st1565 (by decide)
                    replace fg3 := fg3.st st1565 (by decide)
                    replace fg4 := fg4.st st1565 (by decide)
                    replace hs := hs.loc0 st1565 (by decide)
                    have hk := hk.put 66 (.slice A1566 ((([] : List Int) ++ l122)).length c1567) rfl
                    refine ⟨.inr ⟨f171.now, f37.now, trivial⟩, ?_⟩
                    exact xd_to hG rfl (N1585 _ _ ⟨(fun b_ => (fun l_ => if l_ = 126 then 131 else if l_ = 127 then 132 else if l_ = 128 then 133 else if l_ = 129 then 134 else if l_ = 130 then 135 else l_) (o1564 b_)), A1566, c1567, (by exact Kn.pick (ks := [8, 11, 61, 62, 66, 70]) hk rfl), (hs.relab0 (fun l_ => if l_ = 126 then 131 else if l_ = 127 then 132 else if l_ = 128 then 133 else if l_ = 129 then 134 else if l_ = 130 then 135 else l_) rfl), (f123.relab (fun l_ => if l_ = 126 then 131 else if l_ = 127 then 132 else if l_ = 128 then 133 else if l_ = 129 then 134 else if l_ = 130 then 135 else l_) rfl), (f1568.relab (fun l_ => if l_ = 126 then 131 else if l_ = 127 then 132 else if l_ = 128 then 133 else if l_ = 129 then 134 else if l_ = 130 then 135 else l_) rfl), (f165.relab (fun l_ => if l_ = 126 then 131 else if l_ = 127 then 132 else if l_ = 128 then 133 else if l_ = 129 then 134 else if l_ = 130 then 135 else l_) rfl), (f171.relab (fun l_ => if l_ = 126 then 131 else if l_ = 127 then 132 else if l_ = 128 then 133 else if l_ = 129 then 134 else if l_ = 130 then 135 else l_) rfl), (f37.relab (fun l_ => if l_ = 126 then 131 else if l_ = 127 then 132 else if l_ = 128 then 133 else if l_ = 129 then 134 else if l_ = 130 then 135 else l_) rfl), (fg0.relab (fun l_ => if l_ = 126 then 131 else if l_ = 127 then 132 else if l_ = 128 then 133 else if l_ = 129 then 134 else if l_ = 130 then 135 else l_) rfl), (fg1.relab (fun l_ => if l_ = 126 then 131 else if l_ = 127 then 132 else if l_ = 128 then 133 else if l_ = 129 then 134 else if l_ = 130 then 135 else l_) rfl), (fg2.relab (fun l_ => if l_ = 126 then 131 else if l_ = 127 then 132 else if l_ = 128 then 133 else if l_ = 129 then 134 else if l_ = 130 then 135 else l_) rfl), (fg3.relab (fun l_ => if l_ = 126 then 131 else if l_ = 127 then 132 else if l_ = 128 then 133 else if l_ = 129 then 134 else if l_ = 130 then 135 else l_) rfl), (fg4.relab (fun l_ => if l_ = 126 then 131 else if l_ = 127 then 132 else if l_ = 128 then 133 else if l_ = 129 then 134 else if l_ = 130 then 135 else l_) rfl), hc1569⟩)
                  · refine xd_one hk rfl rfl ?_
                    refine op_slice (o := o1556) tab hk (vs := [.int .i64 1]) (cs := [.int .i64 1]) rfl rfl rfl rfl rfl rfl rfl rfl rfl 137 fun bx1620 w1617 o1618 st1619 f1621 => ?_
                    replace f123 := f123.st st1619 (by decide)
                    replace f1559 := f1559.st st1619 (by decide)
                    replace f165 := f165.st st1619 (by decide)
                    replace f171 := f171.st st1619 (by decide)
                    replace f37 := f37.st st1619 (by decide)
                    replace fg0 := fg0.st st1619 (by decide)
                    replace fg1 := fg1.st st1619 (by decide)
                    replace fg2 := fg2.st st1619 (by decide)
                    replace fg3 := fg3.st st1619 (by decide)
                    replace fg4 := fg4.st st1619 (by decide)
                    replace hs := hs.loc0 st1619 (by decide)
                    have f1622 : Ft (Own (encInt .i64) 3 (.slice (some ⟨bx1620, 0, none⟩) (([1] : List Int)).length 1) ([1] : List Int)) w1617 o1618 137 := f1621.imp fun _ h_ => Own.of_box h_ rfl (by simp)
                    have hk := hk.put 67 (.slice (some ⟨bx1620, 0, none⟩) (([1] : List Int)).length 1) rfl
                    refine ⟨.inr ⟨f171.now, f37.now, trivial⟩, ?_⟩
                    exact xd_to hG rfl (N1646 _ _ ⟨(fun b_ => (fun l_ => if l_ = 126 then 138 else if l_ = 127 then 139 else if l_ = 128 then 140 else if l_ = 129 then 141 else if l_ = 130 then 142 else if l_ = 137 then 143 else l_) (o1618 b_)), A1557, c1558, (some ⟨bx1620, 0, none⟩), 1, (by exact Kn.pick (ks := [8, 11, 61, 62, 63, 65, 67, 70]) hk rfl), (hs.relab0 (fun l_ => if l_ = 126 then 138 else if l_ = 127 then 139 else if l_ = 128 then 140 else if l_ = 129 then 141 else if l_ = 130 then 142 else if l_ = 137 then 143 else l_) rfl), (f123.relab (fun l_ => if l_ = 126 then 138 else if l_ = 127 then 139 else if l_ = 128 then 140 else if l_ = 129 then 141 else if l_ = 130 then 142 else if l_ = 137 then 143 else l_) rfl), (f1559.relab (fun l_ => if l_ = 126 then 138 else if l_ = 127 then 139 else if l_ = 128 then 140 else if l_ = 129 then 141 else if l_ = 130 then 142 else if l_ = 137 then 143 else l_) rfl), (f1622.relab (fun l_ => if l_ = 126 then 138 else if l_ = 127 then 139 else if l_ = 128 then 140 else if l_ = 129 then 141 else if l_ = 130 then 142 else if l_ = 137 then 143 else l_) rfl), (f165.relab (fun l_ => if l_ = 126 then 138 else if l_ = 127 then 139 else if l_ = 128 then 140 else if l_ = 129 then 141 else if l_ = 130 then 142 else if l_ = 137 then 143 else l_) rfl), (f171.relab (fun l_ => if l_ = 126 then 138 else if l_ = 127 then 139 else if l_ = 128 then 140 else if l_ = 129 then 141 else if l_ = 130 then 142 else if l_ = 137 then 143 else l_) rfl), (f37.relab (fun l_ => if l_ = 126 then 138 else if l_ = 127 then 139 else if l_ = 128 then 140 else if l_ = 129 then 141 else if l_ = 130 then 142 else if l_ = 137 then 143 else l_) rfl), (fg0.relab (fun l_ => if l_ = 126 then 138 else if l_ = 127 then 139 else if l_ = 128 then 140 else if l_ = 129 then 141 else if l_ = 130 then 142 else if l_ = 137 then 143 else l_) rfl), (fg1.relab (fun l_ => if l_ = 126 then 138 else if l_ = 127 then 139 else if l_ = 128 then 140 else if l_ = 129 then 141 else if l_ = 130 then 142 else if l_ = 137 then 143 else l_) rfl), (fg2.relab (fun l_ => if l_ = 126 then 138 else if l_ = 127 then 139 else if l_ = 128 then 140 else if l_ = 129 then 141 else if l_ = 130 then 142 else if l_ = 137 then 143 else l_) rfl), (fg3.relab (fun l_ => if l_ = 126 then 138 else if l_ = 127 then 139 else if l_ = 128 then 140 else if l_ = 129 then 141 else if l_ = 130 then 142 else if l_ = 137 then 143 else l_) rfl), (fg4.relab (fun l_ => if l_ = 126 then 138 else if l_ = 127 then 139 else if l_ = 128 then 140 else if l_ = 129 then 141 else if l_ = 130 then 142 else if l_ = 137 then 143 else l_) rfl), hc1560, (Nat.le_refl _)⟩)
                have N1700 : ∀ (a_ : Act) (w_ : World), (∃ o1694 : Nat → Nat, ∃ A1695 : Option Addr, ∃ c1696 : Nat, Kn 87 a_ [(8, .string (rdD (⟨#[]⟩ : ByteArray) t13 (Int.tmod (bits .and .i64 p0 65535) 20))), (11, .pointer (some ⟨bx36, 0, none⟩)), (61, .bool true), (62, .string (rdD (⟨#[]⟩ : ByteArray) t13 (Int.tmod (bits .and .i64 p0 65535) 20))), (65, .slice A120 (l122).length c121), (67, .slice A1695 (([1] : List Int)).length c1696), (70, .string x145)] ∧ St [] w (fun _ => 0) w_ o1694 ∧ Ft (Own (encInt .i64) 3 (.slice A120 (l122).length c121) l122) w_ o1694 145 ∧ Ft (Own (encInt .i64) 3 (.slice A163 (t158.1.Nums).length c164) t158.1.Nums) w_ o1694 147 ∧ Ft (Own (encInt .i64) 3 (.slice A1695 (([1] : List Int)).length c1696) ([1] : List Int)) w_ o1694 149 ∧ Ft (Bx bx170 26 [.string t158.1.Word, .slice A163 (t158.1.Nums).length c164, .string t158.1.Text]) w_ o1694 148 ∧ Ft (Bx bx36 30 [.string (rdD (⟨#[]⟩ : ByteArray) t13 (Int.tmod (bits .and .i64 p0 65535) 20)), .slice A120 (l122).length c121, .string x145]) w_ o1694 146 ∧ Ft (RdC ET47 (some ⟨0, 0, none⟩) glob0) w_ o1694 0 ∧ Ft (GInt 1) w_ o1694 0 ∧ Ft (GIface 2) w_ o1694 0 ∧ Ft (GIface 3) w_ o1694 0 ∧ Ft (GTab Tryd.prog "internal/strconv.uint64pow10" .u64 Lib.pow10Tab) w_ o1694 0 ∧ (([1] : List Int)).length ≤ c1696) → G 20 #[true, true, true, true, true, true, true, true, true, false, true, true, false, true, false, true, true, false, false, false, false, false, false, false, false, false, false, false, false, false, false, false, false, false] a_ w_ := by
                  rintro a w1699 ⟨o1694, A1695, c1696, hk, hs, f123, f165, f1697, f171, f37, fg0, fg1, fg2, fg3, fg4, hc1698⟩
                  refine xd_of hG ?_
                  refine xd_op hk (i := 9) (by kernel_rfl) rfl rfl ?_
                  refine op_slice (o := o1694) tab hk (vs := []) (cs := []) rfl rfl rfl rfl rfl rfl rfl rfl rfl 150 fun bx1704 w1701 o1702 st1703 f1705 => ?_
                  replace f123 := f123.st st1703 (by decide)
                  replace f165 := f165.st st1703 (by decide)
                  replace f1697 := f1697.st st1703 (by decide)
                  replace f171 := f171.st st1703 (by decide)
                  replace f37 := f37.st st1703 (by decide)
                  replace fg0 := fg0.st st1703 (by decide)
                  replace fg1 := fg1.st st1703 (by decide)
                  replace fg2 := fg2.st st1703 (by decide)
                  replace fg3 := fg3.st st1703 (by decide)
                  replace fg4 := fg4.st st1703 (by decide)
                  replace hs := hs.loc0 st1703 (by decide)
                  have f1706 : Ft (Own (encInt .i64) 3 (.slice (some ⟨bx1704, 0, none⟩) (([] : List Int)).length 0) ([] : List Int)) w1701 o1702 150 := f1705.imp fun _ h_ => Own.of_box h_ rfl (by simp)
                  have hk := hk.put 63 (.slice (some ⟨bx1704, 0, none⟩) (([] : List Int)).length 0) rfl
                  refine ⟨.inr ⟨f171.now, f37.now, trivial⟩, ?_⟩
                  refine xd_op hk (i := 12) (by kernel_rfl) rfl rfl ?_
                  refine op_append (o := o1702) (E := (encInt .i64)) (xs := ([] : List Int)) (ys := l122) tab hk rfl rfl rfl rfl rfl rfl rfl f1706 (Own.rd f123.now) q1091 fun A1710 c1711 w1707 o1708 st1709 f1712 hc1713 => ?_
                  replace f123 := f123.st st1709 (by decide)
                  replace f165 := f165.st st1709 (by decide)
                  replace f1697 := f1697.st st1709 (by decide)
                  replace f171 := f171.st st1709 (by decide)
                  replace f37 := f37.st st1709 (by decide)
                  replace fg0 := fg0.st st1709 (by decide)
                  replace fg1 := fg1.st st1709 (by decide)
                  replace fg2 := fg2.st st1709 (by decide)
                  replace fg3 := fg3.st st1709 (by decide)
                  replace fg4 := fg4.st st1709 (by decide)
                  replace hs := hs.loc0 st1709 (by decide)
                  have hk := hk.put 66 (.slice A1710 ((([] : List Int) ++ l122)).length c1711) rfl
                  refine ⟨.inr ⟨f171.now, f37.now, trivial⟩, ?_⟩
                  refine xd_op hk (i := 14) (by kernel_rfl) rfl rfl ?_
                  refine op_append (o := o1708) (E := (encInt .i64)) (xs := (([] : List Int) ++ l122)) (ys := ([1] : List Int)) tab hk rfl rfl rfl rfl rfl rfl rfl f1712 (Own.rd f1697.now) q1105 fun A1717 c1718 w1714 o1715 st1716 f1719 hc1720 => ?_
                  replace f123 := f123.st st1716 (by decide)
                  replace f165 := f165.st st1716 (by decide)
                  replace f1697 := f1697.st st1716 (by decide)
                  replace f171 := f171.st st1716 (by decide)
                  replace f37 := f37.st st1716 (by decide)
                  replace fg0 := fg0.st st1716 (by decide)
                  replace fg1 := fg1.st st1716 (by decide)
                  replace fg2 := fg2.st st1716 (by decide)
                  replace fg3 := fg3.st st1716 (by decide)
                  replace fg4 := fg4.st st1716 (by decide)
                  replace hs := hs.loc0 st1716 (by decide)
                  have hk := hk.put 68 (.slice A1717 (((([] : List Int) ++ l122) ++ ([1] : List Int))).length c1718) rfl
                  refine ⟨.inr ⟨f171.now, f37.now, trivial⟩, ?_⟩
                  refine xd_take tab hk (k := 16) (is := [17]) (ls' := #[true, true, true, true, true, true, true, true, true, true, true, true, true, true, true, true, true, true, false, false, false, false, false, false, false, false, false, false, false, false, false, false, false, false]) (lv := []) (ks := [8, 11, 61, 71]) (e' := [(8, .string (rdD (⟨#[]⟩ : ByteArray) t13 (Int.tmod (bits .and .i64 p0 65535) 20))), (11, .pointer (some ⟨bx36, 0, none⟩)), (61, .bool true), (71, .agg #[.string (rdD (⟨#[]⟩ : ByteArray) t13 (Int.tmod (bits .and .i64 p0 65535) 20)), .slice A1717 (((([] : List Int) ++ l122) ++ ([1] : List Int))).length c1718, .string x145])]) (by kernel_rfl) rfl rfl (by kernel_rfl) (np_then (np_then np_body)) ⟨f171.now, f37.now, trivial⟩ (fun W_ hS => trivial) fun a hk => ?_
                  refine xd_op hk (i := 18) (by kernel_rfl) rfl rfl ?_
                  refine op_call hk ent_12 (vs := [.agg #[.string (rdD (⟨#[]⟩ : ByteArray) t13 (Int.tmod (bits .and .i64 p0 65535) 20)), .slice A1717 (((([] : List Int) ++ l122) ++ ([1] : List Int))).length c1718, .string x145]]) rfl (line_Step_Line_calls K A1717 c1718 (⟨(rdD (⟨#[]⟩ : ByteArray) t13 (Int.tmod (bits .and .i64 p0 65535) 20)), ((([] : List Int) ++ l122) ++ ([1] : List Int)), x145⟩ : T25) _ o1715 0 fg0 0 fg4 _ (f1719.imp fun _ h_ => Own.rd h_) hc1720   _ hc1114) ?_
                  rintro _ w1724 ⟨o1725, rfl, st1726⟩
                  replace f123 := f123.st st1726 (by decide)
                  replace f165 := f165.st st1726 (by decide)
                  replace f1697 := f1697.st st1726 (by decide)
                  replace f171 := f171.st st1726 (by decide)
                  replace f1719 := f1719.st st1726 (by decide)
                  replace f37 := f37.st st1726 (by decide)
                  replace fg0 := fg0.st st1726 (by decide)
                  replace fg1 := fg1.st st1726 (by decide)
                  replace fg2 := fg2.st st1726 (by decide)
                  replace fg3 := fg3.st st1726 (by decide)
                  replace fg4 := fg4.st st1726 (by decide)
                  replace hs := hs.loc0 st1726 (by decide)
                  have hk := hk.put 72 (.string t1113) rfl
                  refine ⟨.inr ⟨f171.now, f37.now, trivial⟩, ?_⟩
                  refine xd_take tab hk (k := 12) (is := [19, 20, 21]) (ls' := #[true, true, true, true, true, true, true, true, true, true, true, true, true, true, true, true, true, true, true, true, true, true, false, false, false, false, false, false, false, false, false, false, false, false]) (lv := []) (ks := [8, 11, 75]) (e' := [(8, .string (rdD (⟨#[]⟩ : ByteArray) t13 (Int.tmod (bits .and .i64 p0 65535) 20))), (11, .pointer (some ⟨bx36, 0, none⟩)), (75, .bool (ByteArray.toList t1113 == ByteArray.toList (⟨#[]⟩ : ByteArray)))]) (by kernel_rfl) rfl rfl (by kernel_rfl) (np_then (np_then np_body)) ⟨f171.now, f37.now, trivial⟩ (fun W_ hS => trivial) fun a hk => ?_
                  rw [b1118] at hk
                  refine xd_take tab hk (k := 6) (is := [22, 23, 24, 25, 26, 27]) (ls' := #[true, true, true, true, true, true, true, true, true, true, true, true, true, true, true, true, true, true, true, true, true, true, true, true, true, true, true, true, false, false, false, false, false, false]) (lv := [.slice A120 (l122).length c121, .string x145]) (ks := [11, 75, 81]) (e' := [(11, .pointer (some ⟨bx36, 0, none⟩)), (75, .bool true), (81, .agg #[.string (rdD (⟨#[]⟩ : ByteArray) t13 (Int.tmod (bits .and .i64 p0 65535) 20)), .slice A120 (l122).length c121, .string x145])]) (by kernel_rfl) rfl rfl (by kernel_rfl) (np_then (np_then np_body)) ⟨f171.now, f37.now, trivial⟩ (fun W_ hS => ⟨(load1 tab rfl ((Bx.cell hS.2.1 1).trans rfl)), (load1 tab rfl ((Bx.cell hS.2.1 2).trans rfl)), trivial⟩) fun a hk => ?_
                  refine xd_take tab hk (k := 5) (is := [29]) (ls' := #[true, true, true, true, true, true, true, true, true, true, true, true, true, true, true, true, true, true, true, true, true, true, true, true, true, true, true, true, false, true, false, false, false, false]) (lv := [.agg #[.string (rdD (⟨#[]⟩ : ByteArray) t13 (Int.tmod (bits .and .i64 p0 65535) 20)), .slice A120 (l122).length c121, .string x145]]) (ks := [75, 81, 83]) (e' := [(75, .bool true), (81, .agg #[.string (rdD (⟨#[]⟩ : ByteArray) t13 (Int.tmod (bits .and .i64 p0 65535) 20)), .slice A120 (l122).length c121, .string x145]), (83, .agg #[.string (rdD (⟨#[]⟩ : ByteArray) t13 (Int.tmod (bits .and .i64 p0 65535) 20)), .slice A120 (l122).length c121, .string x145])]) (by kernel_rfl) rfl rfl (by kernel_rfl) (np_then (np_then np_body)) ⟨f171.now, f37.now, trivial⟩ (fun W_ hS => ⟨(load_box tab rfl rfl hS.2.1 (k := 0) rfl rfl), trivial⟩) fun a hk => ?_
                  refine xd_op hk (i := 28) (by kernel_rfl) rfl rfl ?_
                  refine op_call hk ent_12 (vs := [.agg #[.string (rdD (⟨#[]⟩ : ByteArray) t13 (Int.tmod (bits .and .i64 p0 65535) 20)), .slice A120 (l122).length c121, .string x145]]) rfl (line_Step_Line_calls K A120 c121 (⟨(rdD (⟨#[]⟩ : ByteArray) t13 (Int.tmod (bits .and .i64 p0 65535) 20)), l122, x145⟩ : T25) _ o1725 0 fg0 0 fg4 _ (f123.imp fun _ h_ => Own.rd h_) hc124   _ hc1389) ?_
                  rintro _ w1730 ⟨o1731, rfl, st1732⟩
                  replace f123 := f123.st st1732 (by decide)
                  replace f165 := f165.st st1732 (by decide)
                  replace f1697 := f1697.st st1732 (by decide)
                  replace f171 := f171.st st1732 (by decide)
                  replace f1719 := f1719.st st1732 (by decide)
                  replace f37 := f37.st st1732 (by decide)
                  replace fg0 := fg0.st st1732 (by decide)
                  replace fg1 := fg1.st st1732 (by decide)
                  replace fg2 := fg2.st st1732 (by decide)
                  replace fg3 := fg3.st st1732 (by decide)
                  replace fg4 := fg4.st st1732 (by decide)
                  replace hs := hs.loc0 st1732 (by decide)
                  have hk := hk.put 82 (.string t1388) rfl
                  refine ⟨.inr ⟨f171.now, f37.now, trivial⟩, ?_⟩
                  refine xd_op hk (i := 30) (by kernel_rfl) rfl rfl ?_
                  refine op_call hk ent_13 (vs := [.agg #[.string (rdD (⟨#[]⟩ : ByteArray) t13 (Int.tmod (bits .and .i64 p0 65535) 20)), .slice A120 (l122).length c121, .string x145]]) rfl (tidewrackref27_Line_calls K A120 c121 (⟨(rdD (⟨#[]⟩ : ByteArray) t13 (Int.tmod (bits .and .i64 p0 65535) 20)), l122, x145⟩ : T25) _ o1731 0 fg4 _ (f123.imp fun _ h_ => Own.rd h_) hc124   _ hc1397) ?_
                  rintro _ w1736 ⟨o1737, rfl, st1738⟩
                  replace f123 := f123.st st1738 (by decide)
                  replace f165 := f165.st st1738 (by decide)
                  replace f1697 := f1697.st st1738 (by decide)
                  replace f171 := f171.st st1738 (by decide)
                  replace f1719 := f1719.st st1738 (by decide)
                  replace f37 := f37.st st1738 (by decide)
                  replace fg0 := fg0.st st1738 (by decide)
                  replace fg1 := fg1.st st1738 (by decide)
                  replace fg2 := fg2.st st1738 (by decide)
                  replace fg3 := fg3.st st1738 (by decide)
                  replace fg4 := fg4.st st1738 (by decide)
                  replace hs := hs.loc0 st1738 (by decide)
                  have hk := hk.put 84 (.string t1396) rfl
                  refine ⟨.inr ⟨f171.now, f37.now, trivial⟩, ?_⟩
                  refine xd_take tab hk (k := 0) (is := [31, 32, 33]) (ls' := #[true, true, true, true, true, true, true, true, true, true, true, true, true, true, true, true, true, true, true, true, true, true, true, true, true, true, true, true, true, true, true, true, true, true]) (lv := []) (ks := [6]) (e' := [(6, .bool (ByteArray.toList t1388 == ByteArray.toList t1396))]) (by kernel_rfl) rfl rfl (by kernel_rfl) (np_then (np_then np_body)) ⟨f171.now, f37.now, trivial⟩ (fun W_ hS => trivial) fun a hk => ?_
                  refine xd_done (by kernel_rfl) ?_
                  refine then_n ?_
                  exact ⟨o1737, (ByteArray.toList t1388 == ByteArray.toList t1396), (by exact Kn.pick (ks := [6]) hk rfl), hs, fg0, fg1, fg2, fg3, fg4, H⟩
                refine xd_of hG ?_
                refine xd_take tab hk (k := 31) (is := [0, 1, 2]) (ls' := #[true, true, true, false, false, false, false, false, false, false, false, false, false, false, false, false, false, false, false, false, false, false, false, false, false, false, false, false, false, false, false, false, false, false]) (lv := []) (ks := [8, 11, 12, 56]) (e' := [(8, .string (rdD (⟨#[]⟩ : ByteArray) t13 (Int.tmod (bits .and .i64 p0 65535) 20))), (11, .pointer (some ⟨bx36, 0, none⟩)), (12, .pointer (some ⟨bx170, 0, none⟩)), (56, .bool (t158.2 == (0 : Int)))]) (by kernel_rfl) rfl rfl (by kernel_rfl) (np_then (np_then np_body)) ⟨f171.now, f37.now, trivial⟩ (fun W_ hS => trivial) fun a hk => ?_
                rw [b1056] at hk
                refine xd_take tab hk (k := 29) (is := [3, 4]) (ls' := #[true, true, true, true, true, false, false, false, false, false, false, false, false, false, false, false, false, false, false, false, false, false, false, false, false, false, false, false, false, false, false, false, false, false]) (lv := [.agg #[.string t158.1.Word, .slice A163 (t158.1.Nums).length c164, .string t158.1.Text], .agg #[.string (rdD (⟨#[]⟩ : ByteArray) t13 (Int.tmod (bits .and .i64 p0 65535) 20)), .slice A120 (l122).length c121, .string x145]]) (ks := [8, 11, 56, 57, 58]) (e' := [(8, .string (rdD (⟨#[]⟩ : ByteArray) t13 (Int.tmod (bits .and .i64 p0 65535) 20))), (11, .pointer (some ⟨bx36, 0, none⟩)), (56, .bool true), (57, .agg #[.string t158.1.Word, .slice A163 (t158.1.Nums).length c164, .string t158.1.Text]), (58, .agg #[.string (rdD (⟨#[]⟩ : ByteArray) t13 (Int.tmod (bits .and .i64 p0 65535) 20)), .slice A120 (l122).length c121, .string x145])]) (by kernel_rfl) rfl rfl (by kernel_rfl) (np_then (np_then np_body)) ⟨f171.now, f37.now, trivial⟩ (fun W_ hS => ⟨(load_box tab rfl rfl hS.1 (k := 0) rfl rfl), (load_box tab rfl rfl hS.2.1 (k := 0) rfl rfl), trivial⟩) fun a hk => ?_
                refine xd_op hk (i := 5) (by kernel_rfl) rfl rfl ?_
                refine op_call hk ent_11 (vs := [.agg #[.string t158.1.Word, .slice A163 (t158.1.Nums).length c164, .string t158.1.Text], .agg #[.string (rdD (⟨#[]⟩ : ByteArray) t13 (Int.tmod (bits .and .i64 p0 65535) 20)), .slice A120 (l122).length c121, .string x145]]) rfl (tidewracklaw27_Is_calls K A163 c164 t158.1 A120 c121 (⟨(rdD (⟨#[]⟩ : ByteArray) t13 (Int.tmod (bits .and .i64 p0 65535) 20)), l122, x145⟩ : T25) _ o173 _ (f165.imp fun _ h_ => Own.rd h_) hc166 _ (f123.imp fun _ h_ => Own.rd h_) hc124   _ hc1063) ?_
                rintro _ w1538 ⟨o1539, rfl, st1540⟩
                replace f123 := f123.st st1540 (by decide)
                replace f165 := f165.st st1540 (by decide)
                replace f171 := f171.st st1540 (by decide)
                replace f37 := f37.st st1540 (by decide)
                replace fg0 := fg0.st st1540 (by decide)
                replace fg1 := fg1.st st1540 (by decide)
                replace fg2 := fg2.st st1540 (by decide)
                replace fg3 := fg3.st st1540 (by decide)
                replace fg4 := fg4.st st1540 (by decide)
                replace hs := hs.loc0 st1540 (by decide)
                have hk := hk.put 59 (.bool t1062) rfl
                refine ⟨.inr ⟨f171.now, f37.now, trivial⟩, ?_⟩
                refine xd_take tab hk (k := 26) (is := [6, 7]) (ls' := #[true, true, true, true, true, true, true, true, false, false, false, false, false, false, false, false, false, false, false, false, false, false, false, false, false, false, false, false, false, false, false, false, false, false]) (lv := []) (ks := [8, 11, 61]) (e' := [(8, .string (rdD (⟨#[]⟩ : ByteArray) t13 (Int.tmod (bits .and .i64 p0 65535) 20))), (11, .pointer (some ⟨bx36, 0, none⟩)), (61, .bool t1062)]) (by kernel_rfl) rfl rfl (by kernel_rfl) (np_then (np_then np_body)) ⟨f171.now, f37.now, trivial⟩ (fun W_ hS => trivial) fun a hk => ?_
                rw [b1067] at hk
                refine xd_take tab hk (k := 21) (is := [8, 10, 11, 15, 16]) (ls' := #[true, true, true, true, true, true, true, true, true, false, true, true, false, false, false, true, true, false, false, false, false, false, false, false, false, false, false, false, false, false, false, false, false, false]) (lv := [.slice A120 (l122).length c121, .string x145]) (ks := [8, 11, 61, 62, 65, 70]) (e' := [(8, .string (rdD (⟨#[]⟩ : ByteArray) t13 (Int.tmod (bits .and .i64 p0 65535) 20))), (11, .pointer (some ⟨bx36, 0, none⟩)), (61, .bool true), (62, .string (rdD (⟨#[]⟩ : ByteArray) t13 (Int.tmod (bits .and .i64 p0 65535) 20))), (65, .slice A120 (l122).length c121), (70, .string x145)]) (by kernel_rfl) rfl rfl (by kernel_rfl) (np_then (np_then np_body)) ⟨f171.now, f37.now, trivial⟩ (fun W_ hS => ⟨(load1 tab rfl ((Bx.cell hS.2.1 1).trans rfl)), (load1 tab rfl ((Bx.cell hS.2.1 2).trans rfl)), trivial⟩) fun a hk => ?_
                refine xd_each [9, 13] (by kernel_rfl) rfl ⟨?_, ?_, trivial⟩
                · refine xd_one hk rfl rfl ?_
                  refine op_slice (o := o1539) tab hk (vs := []) (cs := []) rfl rfl rfl rfl rfl rfl rfl rfl rfl 125 fun bx1544 w1541 o1542 st1543 f1545 => ?_
                  replace f123 := f123.st st1543 (by decide)
                  replace f165 := f165.st st1543 (by decide)
                  replace f171 := f171.st st1543 (by decide)
                  replace f37 := f37.st st1543 (by decide)
                  replace fg0 := fg0.st st1543 (by decide)
                  replace fg1 := fg1.st st1543 (by decide)
                  replace fg2 := fg2.st st1543 (by decide)
                  replace fg3 := fg3.st st1543 (by decide)
                  replace fg4 := fg4.st st1543 (by decide)
                  replace hs := hs.loc0 st1543 (by decide)
                  have f1546 : Ft (Own (encInt .i64) 3 (.slice (some ⟨bx1544, 0, none⟩) (([] : List Int)).length 0) ([] : List Int)) w1541 o1542 125 := f1545.imp fun _ h_ => Own.of_box h_ rfl (by simp)
                  have hk := hk.put 63 (.slice (some ⟨bx1544, 0, none⟩) (([] : List Int)).length 0) rfl
                  refine ⟨.inr ⟨f171.now, f37.now, trivial⟩, ?_⟩
                  exact xd_to hG rfl (N1562 _ _ ⟨(fun b_ => (fun l_ => if l_ = 13 then 126 else if l_ = 14 then 127 else if l_ = 15 then 128 else if l_ = 16 then 129 else if l_ = 125 then 130 else l_) (o1542 b_)), (some ⟨bx1544, 0, none⟩), 0, (by exact Kn.pick (ks := [8, 11, 61, 62, 63, 65, 70]) hk rfl), (hs.relab0 (fun l_ => if l_ = 13 then 126 else if l_ = 14 then 127 else if l_ = 15 then 128 else if l_ = 16 then 129 else if l_ = 125 then 130 else l_) rfl), (f123.relab (fun l_ => if l_ = 13 then 126 else if l_ = 14 then 127 else if l_ = 15 then 128 else if l_ = 16 then 129 else if l_ = 125 then 130 else l_) rfl), (f1546.relab (fun l_ => if l_ = 13 then 126 else if l_ = 14 then 127 else if l_ = 15 then 128 else if l_ = 16 then 129 else if l_ = 125 then 130 else l_) rfl), (f165.relab (fun l_ => if l_ = 13 then 126 else if l_ = 14 then 127 else if l_ = 15 then 128 else if l_ = 16 then 129 else if l_ = 125 then 130 else l_) rfl), (f171.relab (fun l_ => if l_ = 13 then 126 else if l_ = 14 then 127 else if l_ = 15 then 128 else if l_ = 16 then 129 else if l_ = 125 then 130 else l_) rfl), (f37.relab (fun l_ => if l_ = 13 then 126 else if l_ = 14 then 127 else if l_ = 15 then 128 else if l_ = 16 then 129 else if l_ = 125 then 130 else l_) rfl), (fg0.relab (fun l_ => if l_ = 13 then 126 else if l_ = 14 then 127 else if l_ = 15 then 128 else if l_ = 16 then 129 else if l_ = 125 then 130 else l_) rfl), (fg1.relab (fun l_ => if l_ = 13 then 126 else if l_ = 14 then 127 else if l_ = 15 then 128 else if l_ = 16 then 129 else if l_ = 125 then 130 else l_) rfl), (fg2.relab (fun l_ => if l_ = 13 then 126 else if l_ = 14 then 127 else if l_ = 15 then 128 else if l_ = 16 then 129 else if l_ = 125 then 130 else l_) rfl), (fg3.relab (fun l_ => if l_ = 13 then 126 else if l_ = 14 then 127 else if l_ = 15 then 128 else if l_ = 16 then 129 else if l_ = 125 then 130 else l_) rfl), (fg4.relab (fun l_ => if l_ = 13 then 126 else if l_ = 14 then 127 else if l_ = 15 then 128 else if l_ = 16 then 129 else if l_ = 125 then 130 else l_) rfl), (Nat.le_refl _)⟩)
                · refine xd_one hk rfl rfl ?_
                  refine op_slice (o := o1539) tab hk (vs := [.int .i64 1]) (cs := [.int .i64 1]) rfl rfl rfl rfl rfl rfl rfl rfl rfl 144 fun bx1682 w1679 o1680 st1681 f1683 => ?_
                  replace f123 := f123.st st1681 (by decide)
                  replace f165 := f165.st st1681 (by decide)
                  replace f171 := f171.st st1681 (by decide)
                  replace f37 := f37.st st1681 (by decide)
                  replace fg0 := fg0.st st1681 (by decide)
                  replace fg1 := fg1.st st1681 (by decide)
                  replace fg2 := fg2.st st1681 (by decide)
                  replace fg3 := fg3.st st1681 (by decide)
                  replace fg4 := fg4.st st1681 (by decide)
                  replace hs := hs.loc0 st1681 (by decide)
                  have f1684 : Ft (Own (encInt .i64) 3 (.slice (some ⟨bx1682, 0, none⟩) (([1] : List Int)).length 1) ([1] : List Int)) w1679 o1680 144 := f1683.imp fun _ h_ => Own.of_box h_ rfl (by simp)
                  have hk := hk.put 67 (.slice (some ⟨bx1682, 0, none⟩) (([1] : List Int)).length 1) rfl
                  refine ⟨.inr ⟨f171.now, f37.now, trivial⟩, ?_⟩
                  exact xd_to hG rfl (N1700 _ _ ⟨(fun b_ => (fun l_ => if l_ = 13 then 145 else if l_ = 14 then 146 else if l_ = 15 then 147 else if l_ = 16 then 148 else if l_ = 144 then 149 else l_) (o1680 b_)), (some ⟨bx1682, 0, none⟩), 1, (by exact Kn.pick (ks := [8, 11, 61, 62, 65, 67, 70]) hk rfl), (hs.relab0 (fun l_ => if l_ = 13 then 145 else if l_ = 14 then 146 else if l_ = 15 then 147 else if l_ = 16 then 148 else if l_ = 144 then 149 else l_) rfl), (f123.relab (fun l_ => if l_ = 13 then 145 else if l_ = 14 then 146 else if l_ = 15 then 147 else if l_ = 16 then 148 else if l_ = 144 then 149 else l_) rfl), (f165.relab (fun l_ => if l_ = 13 then 145 else if l_ = 14 then 146 else if l_ = 15 then 147 else if l_ = 16 then 148 else if l_ = 144 then 149 else l_) rfl), (f1684.relab (fun l_ => if l_ = 13 then 145 else if l_ = 14 then 146 else if l_ = 15 then 147 else if l_ = 16 then 148 else if l_ = 144 then 149 else l_) rfl), (f171.relab (fun l_ => if l_ = 13 then 145 else if l_ = 14 then 146 else if l_ = 15 then 147 else if l_ = 16 then 148 else if l_ = 144 then 149 else l_) rfl), (f37.relab (fun l_ => if l_ = 13 then 145 else if l_ = 14 then 146 else if l_ = 15 then 147 else if l_ = 16 then 148 else if l_ = 144 then 149 else l_) rfl), (fg0.relab (fun l_ => if l_ = 13 then 145 else if l_ = 14 then 146 else if l_ = 15 then 147 else if l_ = 16 then 148 else if l_ = 144 then 149 else l_) rfl), (fg1.relab (fun l_ => if l_ = 13 then 145 else if l_ = 14 then 146 else if l_ = 15 then 147 else if l_ = 16 then 148 else if l_ = 144 then 149 else l_) rfl), (fg2.relab (fun l_ => if l_ = 13 then 145 else if l_ = 14 then 146 else if l_ = 15 then 147 else if l_ = 16 then 148 else if l_ = 144 then 149 else l_) rfl), (fg3.relab (fun l_ => if l_ = 13 then 145 else if l_ = 14 then 146 else if l_ = 15 then 147 else if l_ = 16 then 148 else if l_ = 144 then 149 else l_) rfl), (fg4.relab (fun l_ => if l_ = 13 then 145 else if l_ = 14 then 146 else if l_ = 15 then 147 else if l_ = 16 then 148 else if l_ = 144 then 149 else l_) rfl), (Nat.le_refl _)⟩)
        refine x_seq ?_
        refine wpIn_region_lit ?_
        refine x_run tab hk (k := 1) (lv := []) (ks := [2, 8, 11, 44]) (e' := [(2, .string p2), (8, .string (rdD (⟨#[]⟩ : ByteArray) t13 (Int.tmod (bits .and .i64 p0 65535) 20))), (11, .pointer (some ⟨bx36, 0, none⟩)), (44, .bool t28.2)]) rfl trivial fun a hk => ?_
        refine wpListIn_nil ?_
        refine then_n ?_
        cases b1739 : t28.2
        · rw [b1739] at hk H
          replace H := bifF H
          refine x_if hk (b := false) rfl ?_
          refine (show Code.wpIn _ _ _ _ _ _ _ from ?_)
          refine wpIn_skip ?_
          refine then_n ?_
          exact ⟨(fun b_ => (fun l_ => if l_ = 11 then 13 else if l_ = 12 then 14 else l_) (o119 b_)), (⟨#[]⟩ : ByteArray), (by exact Kn.pick (ks := [8, 11]) hk rfl), (hs.relab0 (fun l_ => if l_ = 11 then 13 else if l_ = 12 then 14 else l_) rfl), (f123.relab (fun l_ => if l_ = 11 then 13 else if l_ = 12 then 14 else l_) rfl), (f37.relab (fun l_ => if l_ = 11 then 13 else if l_ = 12 then 14 else l_) rfl), (fg0.relab (fun l_ => if l_ = 11 then 13 else if l_ = 12 then 14 else l_) rfl), (fg1.relab (fun l_ => if l_ = 11 then 13 else if l_ = 12 then 14 else l_) rfl), (fg2.relab (fun l_ => if l_ = 11 then 13 else if l_ = 12 then 14 else l_) rfl), (fg3.relab (fun l_ => if l_ = 11 then 13 else if l_ = 12 then 14 else l_) rfl), (fg4.relab (fun l_ => if l_ = 11 then 13 else if l_ = 12 then 14 else l_) rfl), H⟩
        · rw [b1739] at hk H
          replace H := bifT H
          refine x_if hk (b := true) rfl ?_
          refine (show Code.wpIn _ _ _ _ _ _ _ from ?_)
          refine wpIn_region_lit ?_
          refine x_run tab hk (k := 1) (lv := []) (ks := [8, 11, 45]) (e' := [(8, .string (rdD (⟨#[]⟩ : ByteArray) t13 (Int.tmod (bits .and .i64 p0 65535) 20))), (11, .pointer (some ⟨bx36, 0, none⟩)), (45, .string p2)]) rfl trivial fun a hk => ?_
          refine x_op hk rfl ?_
          obtain ⟨t1743, hc1744, H⟩ := bindS H
          refine op_call hk ent_8 (vs := [.string p2, .int .i64 100]) rfl (tidewracklaw01_Cut_calls p2 100 _ o119    _ hc1744) ?_
          rintro _ w1745 ⟨o1746, rfl, st1747⟩
          replace f123 := f123.st st1747 (by decide)
          replace f37 := f37.st st1747 (by decide)
          replace fg0 := fg0.st st1747 (by decide)
          replace fg1 := fg1.st st1747 (by decide)
          replace fg2 := fg2.st st1747 (by decide)
          replace fg3 := fg3.st st1747 (by decide)
          replace fg4 := fg4.st st1747 (by decide)
          replace hs := hs.loc0 st1747 (by decide)
          have hk := hk.put 46 (.string t1743) rfl
          refine x_run tab hk (k := 1) (lv := []) (ks := [8, 11, 46, 47]) (e' := [(8, .string (rdD (⟨#[]⟩ : ByteArray) t13 (Int.tmod (bits .and .i64 p0 65535) 20))), (11, .pointer (some ⟨bx36, 0, none⟩)), (46, .string t1743), (47, .pointer (some ((⟨bx36, 0, none⟩ : Addr).add 2)))]) rfl trivial fun a hk => ?_
          refine x_op hk rfl ?_
          refine op_store tab hk (t := 9) (v := .string t1743) (b := bx36) (k := 2) (cs' := [.string (rdD (⟨#[]⟩ : ByteArray) t13 (Int.tmod (bits .and .i64 p0 65535) 20)), .slice A120 (l122).length c121, .string t1743]) rfl rfl rfl rfl rfl rfl f37 rfl rfl fun w1748 o1749 st1750 f37_ => ?_
          replace f123 := f123.st st1750 (by decide)
          replace fg0 := fg0.st st1750 (by decide)
          replace fg1 := fg1.st st1750 (by decide)
          replace fg2 := fg2.st st1750 (by decide)
          replace fg3 := fg3.st st1750 (by decide)
          replace fg4 := fg4.st st1750 (by decide)
          replace hs := hs.loc0 st1750 (by decide)
          replace f37 := f37_
          refine wpListIn_nil ?_
          refine then_n ?_
          exact ⟨(fun b_ => (fun l_ => if l_ = 11 then 13 else if l_ = 12 then 14 else l_) (o1749 b_)), t1743, (by exact Kn.pick (ks := [8, 11]) hk rfl), (hs.relab0 (fun l_ => if l_ = 11 then 13 else if l_ = 12 then 14 else l_) rfl), (f123.relab (fun l_ => if l_ = 11 then 13 else if l_ = 12 then 14 else l_) rfl), (f37.relab (fun l_ => if l_ = 11 then 13 else if l_ = 12 then 14 else l_) rfl), (fg0.relab (fun l_ => if l_ = 11 then 13 else if l_ = 12 then 14 else l_) rfl), (fg1.relab (fun l_ => if l_ = 11 then 13 else if l_ = 12 then 14 else l_) rfl), (fg2.relab (fun l_ => if l_ = 11 then 13 else if l_ = 12 then 14 else l_) rfl), (fg3.relab (fun l_ => if l_ = 11 then 13 else if l_ = 12 then 14 else l_) rfl), (fg4.relab (fun l_ => if l_ = 11 then 13 else if l_ = 12 then 14 else l_) rfl), H⟩
      refine x_seq ?_
      refine wpIn_region_lit ?_
      refine x_run tab hk (k := 2) (lv := []) (ks := [1, 2, 8, 10, 11, 33, 34]) (e' := [(1, .int .u32 p1), (2, .string p2), (8, .string (rdD (⟨#[]⟩ : ByteArray) t13 (Int.tmod (bits .and .i64 p0 65535) 20))), (10, .bool t28.2), (11, .pointer (some ⟨bx36, 0, none⟩)), (33, .int .i64 t28.1), (34, .int .i64 0)]) rfl trivial fun a hk => ?_
      refine wpListIn_nil ?_
      refine then_n ?_
      refine wpIn_block ?_
      refine x_loop (fun j_ a_ w_ => ∃ o1772 : Nat → Nat, ∃ A1773 : Option Addr, ∃ c1774 : Nat, ∃ l1775 : List Int, ∃ x1778 : Int, Kn 87 a_ [(1, .int .u32 p1), (2, .string p2), (8, .string (rdD (⟨#[]⟩ : ByteArray) t13 (Int.tmod (bits .and .i64 p0 65535) 20))), (10, .bool t28.2), (11, .pointer (some ⟨bx36, 0, none⟩)), (33, .int .i64 t28.1), (34, .int .i64 x1778)] ∧ St [] w (fun _ => 0) w_ o1772 ∧ Ft (Own (encInt .i64) 3 (.slice A1773 (l1775).length c1774) l1775) w_ o1772 154 ∧ Ft (Bx bx36 30 [.string (rdD (⟨#[]⟩ : ByteArray) t13 (Int.tmod (bits .and .i64 p0 65535) 20)), .slice A1773 (l1775).length c1774, .string (⟨#[]⟩ : ByteArray)]) w_ o1772 155 ∧ Ft (RdC ET47 (some ⟨0, 0, none⟩) glob0) w_ o1772 0 ∧ Ft (GInt 1) w_ o1772 0 ∧ Ft (GIface 2) w_ o1772 0 ∧ Ft (GIface 3) w_ o1772 0 ∧ Ft (GTab Tryd.prog "internal/strconv.uint64pow10" .u64 Lib.pow10Tab) w_ o1772 0 ∧ (l1775).length ≤ c1774 ∧ tidewracklaw27_LineWords_l4 K p0 p1 p2 t13 t28 j_ l1775 x1778 = some r) (k := K) ⟨(fun b_ => (fun l_ => if l_ = 2 then 155 else l_) (o39 b_)), none, 0, ([] : List Int), 0, (by exact Kn.pick (ks := [1, 2, 8, 10, 11, 33, 34]) hk rfl), (hs.relab0 (fun l_ => if l_ = 2 then 155 else l_) rfl), (Ft.of_all (fun _ => Own.nil _ _ _) _ _ _), (f37.relab (fun l_ => if l_ = 2 then 155 else l_) rfl), (fg0.relab (fun l_ => if l_ = 2 then 155 else l_) rfl), (fg1.relab (fun l_ => if l_ = 2 then 155 else l_) rfl), (fg2.relab (fun l_ => if l_ = 2 then 155 else l_) rfl), (fg3.relab (fun l_ => if l_ = 2 then 155 else l_) rfl), (fg4.relab (fun l_ => if l_ = 2 then 155 else l_) rfl), (by simp), H⟩ (by rintro _ _ ⟨_, _, _, _, _, _, _, _, _, _, _, _, _, _, _, H_⟩; exact absurd (show (none : Option Bool) = some r from H_) (by simp)) ?_
      rintro k1798 a w1797 ⟨o1772, A1773, c1774, l1775, x1778, hk, hs, f1776, f37, fg0, fg1, fg2, fg3, fg4, hc1777, H⟩
      rw [tidewracklaw27_LineWords_l4] at H
      obtain ⟨lp1799, hlp1800⟩ : ∃ lp_, lp_ = tidewracklaw27_LineWords_l4 K p0 p1 p2 t13 t28 k1798 := ⟨_, rfl⟩
      rw [← hlp1800] at H
      refine x_seq ?_
      refine wpIn_region_lit ?_
      refine x_run tab hk (k := 1) (lv := []) (ks := [1, 2, 8, 10, 11, 33, 34, 35]) (e' := [(1, .int .u32 p1), (2, .string p2), (8, .string (rdD (⟨#[]⟩ : ByteArray) t13 (Int.tmod (bits .and .i64 p0 65535) 20))), (10, .bool t28.2), (11, .pointer (some ⟨bx36, 0, none⟩)), (33, .int .i64 t28.1), (34, .int .i64 x1778), (35, .bool (decide (x1778 < t28.1)))]) rfl trivial fun a hk => ?_
      refine wpListIn_nil ?_
      refine then_n ?_
      refine x_seq ?_
      cases b1801 : (decide (x1778 < t28.1))
      · rw [b1801] at hk H
        replace H := bifF H
        refine x_if hk (b := false) rfl ?_
        refine (show Code.wpIn _ _ _ _ _ _ _ from ?_)
        refine wpIn_exit ?_
        refine then_x ?_
        refine then_x ?_
        refine blk_x ?_
        refine then_n ?_
        exact ⟨(fun b_ => (fun l_ => if l_ = 154 then 11 else if l_ = 155 then 12 else l_) (o1772 b_)), A1773, c1774, l1775, (by exact Kn.pick (ks := [2, 8, 10, 11]) hk rfl), (hs.relab0 (fun l_ => if l_ = 154 then 11 else if l_ = 155 then 12 else l_) rfl), (f1776.relab (fun l_ => if l_ = 154 then 11 else if l_ = 155 then 12 else l_) rfl), (f37.relab (fun l_ => if l_ = 154 then 11 else if l_ = 155 then 12 else l_) rfl), (fg0.relab (fun l_ => if l_ = 154 then 11 else if l_ = 155 then 12 else l_) rfl), (fg1.relab (fun l_ => if l_ = 154 then 11 else if l_ = 155 then 12 else l_) rfl), (fg2.relab (fun l_ => if l_ = 154 then 11 else if l_ = 155 then 12 else l_) rfl), (fg3.relab (fun l_ => if l_ = 154 then 11 else if l_ = 155 then 12 else l_) rfl), (fg4.relab (fun l_ => if l_ = 154 then 11 else if l_ = 155 then 12 else l_) rfl), hc1777, H⟩
      · rw [b1801] at hk H
        replace H := bifT H
        refine x_if hk (b := true) rfl ?_
        refine (show Code.wpIn _ _ _ _ _ _ _ from ?_)
        refine wpIn_skip ?_
        refine then_n ?_
        refine x_seq ?_
        refine wpIn_block ?_
        refine wpIn_region_lit ?_
        refine x_run tab hk (k := 4) (lv := [.slice A1773 (l1775).length c1774]) (ks := [1, 2, 8, 10, 11, 33, 34, 37, 39]) (e' := [(1, .int .u32 p1), (2, .string p2), (8, .string (rdD (⟨#[]⟩ : ByteArray) t13 (Int.tmod (bits .and .i64 p0 65535) 20))), (10, .bool t28.2), (11, .pointer (some ⟨bx36, 0, none⟩)), (33, .int .i64 t28.1), (34, .int .i64 x1778), (37, .slice A1773 (l1775).length c1774), (39, .int .i64 (IntKind.wrap .i64 p1))]) rfl ⟨(load1 tab rfl ((Bx.cell f37.now 1).trans rfl)), trivial⟩ fun a hk => ?_
        refine x_op hk rfl ?_
        refine op_slice (o := o1772) tab hk (vs := [.int .i64 (IntKind.wrap .i64 p1)]) (cs := [.int .i64 (IntKind.wrap .i64 p1)]) rfl rfl rfl rfl rfl rfl rfl rfl rfl 157 fun bx1805 w1802 o1803 st1804 f1806 => ?_
        replace f1776 := f1776.st st1804 (by decide)
        replace f37 := f37.st st1804 (by decide)
        replace fg0 := fg0.st st1804 (by decide)
        replace fg1 := fg1.st st1804 (by decide)
        replace fg2 := fg2.st st1804 (by decide)
        replace fg3 := fg3.st st1804 (by decide)
        replace fg4 := fg4.st st1804 (by decide)
        replace hs := hs.loc0 st1804 (by decide)
        have f1807 : Ft (Own (encInt .i64) 3 (.slice (some ⟨bx1805, 0, none⟩) (([(IntKind.wrap .i64 p1)] : List Int)).length 1) ([(IntKind.wrap .i64 p1)] : List Int)) w1802 o1803 157 := f1806.imp fun _ h_ => Own.of_box h_ rfl (by simp)
        have hk := hk.put 40 (.slice (some ⟨bx1805, 0, none⟩) (([(IntKind.wrap .i64 p1)] : List Int)).length 1) rfl
        refine x_op hk rfl ?_
        obtain ⟨q1811, H⟩ := ifS H
        refine op_append (o := o1803) (E := (encInt .i64)) (xs := l1775) (ys := ([(IntKind.wrap .i64 p1)] : List Int)) tab hk rfl rfl rfl rfl rfl rfl rfl f1776 (Own.rd f1807.now) q1811 fun A1812 c1813 w1808 o1809 st1810 f1814 hc1815 => ?_
        replace f1807 := f1807.st st1810 (by decide)
        replace f37 := f37.st st1810 (by decide)
        replace fg0 := fg0.st st1810 (by decide)
        replace fg1 := fg1.st st1810 (by decide)
        replace fg2 := fg2.st st1810 (by decide)
        replace fg3 := fg3.st st1810 (by decide)
        replace fg4 := fg4.st st1810 (by decide)
        replace hs := hs.loc0 st1810 (by decide)
        have hk := hk.put 41 (.slice A1812 ((l1775 ++ ([(IntKind.wrap .i64 p1)] : List Int))).length c1813) rfl
        refine x_run tab hk (k := 1) (lv := []) (ks := [1, 2, 8, 10, 11, 33, 34, 41, 42]) (e' := [(1, .int .u32 p1), (2, .string p2), (8, .string (rdD (⟨#[]⟩ : ByteArray) t13 (Int.tmod (bits .and .i64 p0 65535) 20))), (10, .bool t28.2), (11, .pointer (some ⟨bx36, 0, none⟩)), (33, .int .i64 t28.1), (34, .int .i64 x1778), (41, .slice A1812 ((l1775 ++ ([(IntKind.wrap .i64 p1)] : List Int))).length c1813), (42, .pointer (some ((⟨bx36, 0, none⟩ : Addr).add 1)))]) rfl trivial fun a hk => ?_
        refine x_op hk rfl ?_
        refine op_store tab hk (t := 24) (v := .slice A1812 ((l1775 ++ ([(IntKind.wrap .i64 p1)] : List Int))).length c1813) (b := bx36) (k := 1) (cs' := [.string (rdD (⟨#[]⟩ : ByteArray) t13 (Int.tmod (bits .and .i64 p0 65535) 20)), .slice A1812 ((l1775 ++ ([(IntKind.wrap .i64 p1)] : List Int))).length c1813, .string (⟨#[]⟩ : ByteArray)]) rfl rfl rfl rfl rfl rfl f37 rfl rfl fun w1816 o1817 st1818 f37_ => ?_
        replace f1814 := f1814.st st1818 (by decide)
        replace fg0 := fg0.st st1818 (by decide)
        replace fg1 := fg1.st st1818 (by decide)
        replace fg2 := fg2.st st1818 (by decide)
        replace fg3 := fg3.st st1818 (by decide)
        replace fg4 := fg4.st st1818 (by decide)
        replace hs := hs.loc0 st1818 (by decide)
        replace f37 := f37_
        refine wpListIn_nil ?_
        refine blk_n ?_
        refine then_n ?_
        refine wpIn_region_lit ?_
        refine x_run tab hk (k := 2) (lv := []) (ks := [1, 2, 8, 10, 11, 33, 34]) (e' := [(1, .int .u32 p1), (2, .string p2), (8, .string (rdD (⟨#[]⟩ : ByteArray) t13 (Int.tmod (bits .and .i64 p0 65535) 20))), (10, .bool t28.2), (11, .pointer (some ⟨bx36, 0, none⟩)), (33, .int .i64 t28.1), (34, .int .i64 (IntKind.wrap .i64 (x1778 + 1)))]) rfl trivial fun a hk => ?_
        refine wpListIn_nil ?_
        refine then_n ?_
        exact ⟨k1798, Nat.le_refl _, o1817, A1812, c1813, (l1775 ++ ([(IntKind.wrap .i64 p1)] : List Int)), (IntKind.wrap .i64 (x1778 + 1)), (by exact Kn.pick (ks := [1, 2, 8, 10, 11, 33, 34]) hk rfl), hs, f1814, f37, fg0, fg1, fg2, fg3, fg4, hc1815, (hlp1800 ▸ H)⟩
    · rw [b22] at hk H
      replace H := bifT H
      refine x_if hk (b := true) rfl ?_
      refine (show Code.wpIn _ _ _ _ _ _ _ from ?_)
      refine x_seq ?_
      refine wpIn_region_lit ?_
      refine x_run tab hk (k := 1) (lv := []) (ks := [6]) (e' := [(6, .bool false)]) rfl trivial fun a hk => ?_
      refine wpListIn_nil ?_
      refine then_n ?_
      refine wpIn_ret ?_
      refine then_r ?_
      obtain rfl := Option.some.inj H
      exact x_retG hk (rs := [.tmp 6]) (vs := [.bool false]) rfl ⟨rfl, trivial⟩ ⟨fun b_ => if b_ < w.heap.size then o b_ else (fun _ => 0) (o16 b_), rfl, hs.close0 o (fun _ => 0)⟩
  · rw [b9] at hk H
    replace H := bifT H
    refine x_if hk (b := true) rfl ?_
    refine (show Code.wpIn _ _ _ _ _ _ _ from ?_)
    refine x_seq ?_
    refine wpIn_region_lit ?_
    refine x_run tab hk (k := 1) (lv := []) (ks := [6]) (e' := [(6, .bool false)]) rfl trivial fun a hk => ?_
    refine wpListIn_nil ?_
    refine then_n ?_
    refine wpIn_ret ?_
    refine then_r ?_
    obtain rfl := Option.some.inj H
    exact x_retG hk (rs := [.tmp 6]) (vs := [.bool false]) rfl ⟨rfl, trivial⟩ ⟨fun b_ => if b_ < w.heap.size then o b_ else (fun _ => 0) (o7 b_), rfl, hs.close0 o (fun _ => 0)⟩

end Go.Proofs.YtmolecadkgffkaaDoor
