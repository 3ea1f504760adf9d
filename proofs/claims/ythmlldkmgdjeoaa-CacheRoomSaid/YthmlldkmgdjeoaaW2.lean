/- Walks, printed by an own program: the machine's calls compute the plain functions. -/
import Derived.Test.YthmlldkmgdjeoaaW1
set_option linter.unusedVariables false
set_option linter.unusedSimpArgs false
namespace Go.Proofs.Ythmlldkmgdjeoaa
open Go Go.Proofs.XC
/-! tidewrack/tidewracklaw14.CacheRoom -/
set_option maxHeartbeats 4000000 in
set_option maxRecDepth 20000 in
theorem tidewracklaw14_CacheRoom_calls (K : Nat) (Ap0 : Option Addr) (cp0 : Nat) (p0 : List (List T59)) (p1 : Int) (w : World) (o : Nat → Nat) (LF : Nat) (Lp0 : Nat) (Fp0 : Nat) (hp0 : NRd (dRows ET59) Ap0 p0 w o Lp0 Fp0) (hcp0 : (p0).length ≤ cp0) (hd0 : ([LF] : List Nat).Nodup) (hd1 : Lp0 ∉ [LF]) (hd2 : Fp0 ∉ [LF]) (r : Bool) (H : tidewracklaw14_CacheRoom K p0 p1 = some r) :
    Calls Try.prog 4 #[.slice Ap0 (p0).length cp0, .int .i64 p1] w (Ret fun v_ w' => ∃ o' : Nat → Nat, v_ = .bool r ∧ St [] w o w' o') := by
  refine x_enter (vs := [.slice Ap0 (p0).length cp0, .int .i64 p1]) Try.func4 rfl rfl rfl fun a hk => ?_
  obtain ⟨oi, hs0, h0, h1, hob, hoz, hoa⟩ := St.startM2 w o (m := 1) hd0 rfl
  have hs := hs0 []
  have f900000 := hp0.conv (fun P_ => h0 P_ _ hd1) (fun P_ => h0 P_ _ hd2)
  clear h0 h1 hs0
  rw [tidewracklaw14_CacheRoom] at H
  refine x_seq ?_
  refine wpIn_region_lit ?_
  refine x_run tab hk (k := 1) (lv := []) (ks := [0, 1]) (e' := [(0, .slice Ap0 (p0).length cp0), (1, .int .i64 p1)]) rfl trivial fun a hk => ?_
  refine wpListIn_nil ?_
  refine then_n ?_
  refine x_seq ?_
  refine x_seq ?_
  refine wpIn_region_lit ?_
  refine x_op hk rfl ?_
  obtain ⟨t4, hc5, H⟩ := bindS H
  refine op_call hk ent_8 (vs := []) rfl (tidewracklaw14_awake_calls K  _ oi    _ hc5) ?_
  rintro _ w6 ⟨o7, rfl, st8⟩
  replace f900000 := f900000.st st8 (by decide)
  replace hs := hs.locQ st8 hob rfl
  have hk := hk.put 16 (.bool t4) rfl
  refine x_run tab hk (k := 1) (lv := []) (ks := [0, 1, 17]) (e' := [(0, .slice Ap0 (p0).length cp0), (1, .int .i64 p1), (17, .bool (!t4))]) rfl trivial fun a hk => ?_
  refine wpListIn_nil ?_
  refine then_n ?_
  cases b9 : (!t4)
  · rw [b9] at hk H
    replace H := bifF H
    refine x_if hk (b := false) rfl ?_
    refine (show Code.wpIn _ _ _ _ _ _ _ from ?_)
    refine wpIn_skip ?_
    refine then_n ?_
    refine x_seq ?_
    refine wpIn_region_lit ?_
    refine x_run tab hk (k := 4) (lv := []) (ks := [0, 1, 5]) (e' := [(0, .slice Ap0 (p0).length cp0), (1, .int .i64 p1), (5, .int .i64 (mnI ((p0).length : Int) 20))]) rfl trivial fun a hk => ?_
    refine wpListIn_nil ?_
    refine then_n ?_
    refine x_seq ?_
    refine wpIn_region_lit ?_
    refine x_run tab hk (k := 3) (lv := []) (ks := [0, 1, 5]) (e' := [(0, .slice Ap0 (p0).length cp0), (1, .int .i64 (bits .and .i64 p1 65535)), (5, .int .i64 (mnI ((p0).length : Int) 20))]) rfl trivial fun a hk => ?_
    refine wpListIn_nil ?_
    refine then_n ?_
    refine x_seq ?_
    refine wpIn_region_lit ?_
    refine x_run tab hk (k := 1) (lv := []) (ks := [0, 1, 5, 23]) (e' := [(0, .slice Ap0 (p0).length cp0), (1, .int .i64 (bits .and .i64 p1 65535)), (5, .int .i64 (mnI ((p0).length : Int) 20)), (23, .int .i64 (mnI ((p0).length : Int) 20))]) rfl trivial fun a hk => ?_
    refine x_op hk rfl ?_
    obtain ⟨t13, hc14, H⟩ := bindS H
    refine op_call hk ent_9 (vs := [.int .i64 (mnI ((p0).length : Int) 20)]) rfl (cache_New_calls (mnI ((p0).length : Int) 20) _ o7 1 (by decide) 2 3  _ hc14) ?_
    rintro _ w15 ⟨o16, bx18, A20, c21, rfl, st17, f19, f22, hc23⟩
    replace f900000 := f900000.st st17 (by decide)
    replace hs := hs.locQ st17 hob rfl
    have hk := hk.put 24 (.pointer (some ⟨bx18, 0, none⟩)) rfl
    refine x_run tab hk (k := 1) (lv := []) (ks := [0, 1, 5, 6]) (e' := [(0, .slice Ap0 (p0).length cp0), (1, .int .i64 (bits .and .i64 p1 65535)), (5, .int .i64 (mnI ((p0).length : Int) 20)), (6, .pointer (some ⟨bx18, 0, none⟩))]) rfl trivial fun a hk => ?_
    refine wpListIn_nil ?_
    refine then_n ?_
    refine x_seq ?_
    refine x_seq ?_
    refine wpIn_region_lit ?_
    refine x_run tab hk (k := 2) (lv := []) (ks := [0, 1, 5, 6, 26]) (e' := [(0, .slice Ap0 (p0).length cp0), (1, .int .i64 (bits .and .i64 p1 65535)), (5, .int .i64 (mnI ((p0).length : Int) 20)), (6, .pointer (some ⟨bx18, 0, none⟩)), (26, .bool false)]) rfl trivial fun a hk => ?_
    refine wpListIn_nil ?_
    refine then_n ?_
    refine x_if hk (b := false) rfl ?_
    refine (show Code.wpIn _ _ _ _ _ _ _ from ?_)
    refine wpIn_skip ?_
    refine then_n ?_
    refine x_mid (fun a_ w_ => ∃ o327 : Nat → Nat, ∃ x328 : Int, ∃ x329 : Int, ∃ A330 : Option Addr, ∃ c331 : Nat, ∃ l332 : M T71, Kn 128 a_ [(0, .slice Ap0 (p0).length cp0), (1, .int .i64 (bits .and .i64 p1 65535)), (5, .int .i64 (mnI ((p0).length : Int) 20)), (6, .pointer (some ⟨bx18, 0, none⟩))] ∧ St [] w oi w_ o327 ∧ Ft (Bx bx18 63 [.int .i64 x328, .int .i64 x329, mv A330]) w_ o327 9 ∧ MpN dT71 true A330 l332 w_ o327 8 1 ∧ NRd (dRows ET59) Ap0 p0 w_ o327 0 0 ∧ (l332).length ≤ c331 ∧ tidewracklaw14_CacheRoom_j1 K p0 p1 x328 x329 l332 = some r) ?_ ?_
    rotate_left
    · rintro a w335 ⟨o327, x328, x329, A330, c331, l332, hk, hs, f19, f333, f900000, hc334, H⟩
      rw [tidewracklaw14_CacheRoom_j1] at H
      refine x_mid (fun a_ w_ => ∃ o769 : Nat → Nat, ∃ x770 : Int, ∃ x771 : Int, ∃ A772 : Option Addr, ∃ c773 : Nat, ∃ l774 : M T71, Kn 128 a_ [(1, .int .i64 (bits .and .i64 p1 65535)), (5, .int .i64 (mnI ((p0).length : Int) 20)), (6, .pointer (some ⟨bx18, 0, none⟩))] ∧ St [] w oi w_ o769 ∧ Ft (Bx bx18 63 [.int .i64 x770, .int .i64 x771, mv A772]) w_ o769 30 ∧ MpN dT71 true A772 l774 w_ o769 29 1 ∧ (l774).length ≤ c773 ∧ tidewracklaw14_CacheRoom_j2 K p0 p1 x770 x771 l774 = some r) ?_ ?_
      rotate_left
      · rintro a w777 ⟨o769, x770, x771, A772, c773, l774, hk, hs, f19, f775, hc776, H⟩
        rw [tidewracklaw14_CacheRoom_j2] at H
        refine x_seq ?_
        refine wpIn_region_lit ?_
        refine x_run tab hk (k := 1) (lv := []) (ks := [1, 5, 6, 84]) (e' := [(1, .int .i64 (bits .and .i64 p1 65535)), (5, .int .i64 (mnI ((p0).length : Int) 20)), (6, .pointer (some ⟨bx18, 0, none⟩)), (84, .pointer (some ⟨bx18, 0, none⟩))]) rfl trivial fun a hk => ?_
        refine x_op hk rfl ?_
        obtain ⟨t781, hc782, H⟩ := bindS H
        refine op_call hk ent_15 (vs := [.pointer (some ⟨bx18, 0, none⟩)]) rfl (cache_Cache_Spans_calls K bx18 A772 c773 (⟨x770, x771, l774⟩ : T62) _ o769 1 30 f19 _ f775 hc776 (by decide) (by decide) (by decide) 31  _ hc782) ?_
        rintro _ w783 ⟨o784, A786, c787, rfl, st785, f788, hc789⟩
        replace f19 := f19.st st785 (by decide)
        replace f775 := f775.st st785 (by decide)
        replace hs := hs.locQ st785 hob rfl
        have hk := hk.put 85 (.slice A786 (t781).length c787) rfl
        refine x_run tab hk (k := 1) (lv := []) (ks := [1, 5, 6, 13]) (e' := [(1, .int .i64 (bits .and .i64 p1 65535)), (5, .int .i64 (mnI ((p0).length : Int) 20)), (6, .pointer (some ⟨bx18, 0, none⟩)), (13, .slice A786 (t781).length c787)]) rfl trivial fun a hk => ?_
        refine wpListIn_nil ?_
        refine then_n ?_
        refine x_seq ?_
        refine x_seq ?_
        refine wpIn_region_lit ?_
        refine x_run tab hk (k := 2) (lv := []) (ks := [1, 5, 6, 13, 87]) (e' := [(1, .int .i64 (bits .and .i64 p1 65535)), (5, .int .i64 (mnI ((p0).length : Int) 20)), (6, .pointer (some ⟨bx18, 0, none⟩)), (13, .slice A786 (t781).length c787), (87, .bool ((mnI ((p0).length : Int) 20) == (0 : Int)))]) rfl trivial fun a hk => ?_
        refine wpListIn_nil ?_
        refine then_n ?_
        cases b790 : ((mnI ((p0).length : Int) 20) == (0 : Int))
        · rw [b790] at hk H
          replace H := bifF H
          refine x_if hk (b := false) rfl ?_
          refine (show Code.wpIn _ _ _ _ _ _ _ from ?_)
          refine wpIn_skip ?_
          refine then_n ?_
          refine x_seq ?_
          refine wpIn_region_lit ?_
          refine x_run tab hk (k := 4) (lv := []) (ks := [1, 5, 13, 92, 95]) (e' := [(1, .int .i64 (bits .and .i64 p1 65535)), (5, .int .i64 (mnI ((p0).length : Int) 20)), (13, .slice A786 (t781).length c787), (92, .pointer (some ⟨bx18, 0, none⟩)), (95, .int .i64 (IntKind.wrap .i64 ((bits .and .i64 p1 65535) + (mnI ((p0).length : Int) 20))))]) rfl trivial fun a hk => ?_
          refine x_op hk rfl ?_
          obtain ⟨t794, hc795, H⟩ := bindS H
          refine op_call hk ent_10 (vs := [.pointer (some ⟨bx18, 0, none⟩), .int .i64 (IntKind.wrap .i64 ((bits .and .i64 p1 65535) + (mnI ((p0).length : Int) 20))), .slice none 0 0]) rfl (cache_Cache_Put_calls K bx18 A772 c773 (⟨x770, x771, l774⟩ : T62) (IntKind.wrap .i64 ((bits .and .i64 p1 65535) + (mnI ((p0).length : Int) 20))) none 0 ([] : List T59) _ o784 1 30 f19 29 f775 hc776 _ (Ft.of_all (fun _ h_ => absurd h_ (by simp)) _ _ 0) (by simp) (by decide) (by decide)   _ hc795) ?_
          rintro _ w796 ⟨o797, A800, c801, rfl, st798, f799, f802, hc803⟩
          replace f788 := f788.st st798 (by decide)
          replace hs := hs.locQ st798 hob rfl
          have hk := hk.put 96 (.tuple #[.int .i64 t794.1, .bool t794.2.1]) rfl
          refine x_run tab hk (k := 5) (lv := []) (ks := [1, 5, 13, 14, 15]) (e' := [(1, .int .i64 (bits .and .i64 p1 65535)), (5, .int .i64 (mnI ((p0).length : Int) 20)), (13, .slice A786 (t781).length c787), (14, .int .i64 t794.1), (15, .bool t794.2.1)]) rfl trivial fun a hk => ?_
          refine wpListIn_nil ?_
          refine then_n ?_
          refine x_seq ?_
          refine wpIn_region_lit ?_
          refine x_run tab hk (k := 4) (lv := []) (ks := [1, 5, 13, 14, 15, 102]) (e' := [(1, .int .i64 (bits .and .i64 p1 65535)), (5, .int .i64 (mnI ((p0).length : Int) 20)), (13, .slice A786 (t781).length c787), (14, .int .i64 t794.1), (15, .bool t794.2.1), (102, .bool (((t781).length : Int) == (1 : Int)))]) rfl trivial fun a hk => ?_
          cases b804 : (((t781).length : Int) == (1 : Int))
          · rw [b804] at hk H
            replace H := bifF H
            refine x_run tab hk (k := 16) (lv := []) (ks := [1, 14, 15, 110, 118]) (e' := [(1, .int .i64 (bits .and .i64 p1 65535)), (14, .int .i64 t794.1), (15, .bool t794.2.1), (110, .bool false), (118, undef)]) rfl trivial fun a hk => ?_
            refine x_run tab hk (k := 10) (lv := []) (ks := [4]) (e' := [(4, .bool false)]) rfl trivial fun a hk => ?_
            refine wpListIn_nil ?_
            refine then_n ?_
            refine wpIn_ret ?_
            obtain rfl := Option.some.inj H
            exact x_retG hk (rs := [.tmp 4]) (vs := [.bool false]) rfl ⟨rfl, trivial⟩ ⟨cl w oi o [] (fun l_ => if l_ = 1 then LF else 0) o797, rfl, hs.closeF (Lm := []) (Sh := []) hoa rfl (fun l_ => if l_ = 1 then LF else 0)⟩
          · rw [b804] at hk H
            replace H := bifT H
            obtain ⟨q805, H⟩ := ifS H
            obtain ⟨ad806, hAad806⟩ := RdC.addr (Own.rd f788.now) q805
            have hk_C := hk
            have f788_C := f788
            subst hAad806
            have hk := hk_C
            clear hk_C
            have f788 := f788_C
            clear f788_C
            refine x_run tab hk (k := 8) (lv := [.int .i64 ((rdD zT44 t781 0).From)]) (ks := [1, 5, 13, 14, 15, 110]) (e' := [(1, .int .i64 (bits .and .i64 p1 65535)), (5, .int .i64 (mnI ((p0).length : Int) 20)), (13, .slice (some ad806) (t781).length c787), (14, .int .i64 t794.1), (15, .bool t794.2.1), (110, .bool (((rdD zT44 t781 0).From) == (bits .and .i64 p1 65535)))]) rfl ⟨q805, (load1 tab rfl (RdC.at (E := ET44) (d := zT44) (i := (0 : Int)) (j := 0) (Own.rd f788.now) q805 rfl)), trivial⟩ fun a hk => ?_
            cases b807 : (((rdD zT44 t781 0).From) == (bits .and .i64 p1 65535))
            · rw [b807] at hk H
              replace H := bifF H
              refine x_run tab hk (k := 11) (lv := []) (ks := [1, 14, 120, 121]) (e' := [(1, .int .i64 (bits .and .i64 p1 65535)), (14, .int .i64 t794.1), (120, .bool false), (121, undef)]) rfl trivial fun a hk => ?_
              refine x_run tab hk (k := 7) (lv := []) (ks := [4]) (e' := [(4, .bool false)]) rfl trivial fun a hk => ?_
              refine wpListIn_nil ?_
              refine then_n ?_
              refine wpIn_ret ?_
              obtain rfl := Option.some.inj H
              exact x_retG hk (rs := [.tmp 4]) (vs := [.bool false]) rfl ⟨rfl, trivial⟩ ⟨cl w oi o [] (fun l_ => if l_ = 1 then LF else 0) o797, rfl, hs.closeF (Lm := []) (Sh := []) hoa rfl (fun l_ => if l_ = 1 then LF else 0)⟩
            · rw [b807] at hk H
              replace H := bifT H
              refine x_run tab hk (k := 10) (lv := [.int .i64 ((rdD zT44 t781 0).To)]) (ks := [1, 14, 15, 120]) (e' := [(1, .int .i64 (bits .and .i64 p1 65535)), (14, .int .i64 t794.1), (15, .bool t794.2.1), (120, .bool (((rdD zT44 t781 0).To) == (IntKind.wrap .i64 ((bits .and .i64 p1 65535) + (mnI ((p0).length : Int) 20)))))]) rfl ⟨q805, (load1 tab rfl (RdC.at (E := ET44) (d := zT44) (i := (0 : Int)) (j := 1) (Own.rd f788.now) q805 rfl)), trivial⟩ fun a hk => ?_
              cases b808 : (((rdD zT44 t781 0).To) == (IntKind.wrap .i64 ((bits .and .i64 p1 65535) + (mnI ((p0).length : Int) 20))))
              · rw [b808] at hk H
                replace H := bifF H
                refine x_run tab hk (k := 8) (lv := []) (ks := [4]) (e' := [(4, .bool false)]) rfl trivial fun a hk => ?_
                refine wpListIn_nil ?_
                refine then_n ?_
                refine wpIn_ret ?_
                obtain rfl := Option.some.inj H
                exact x_retG hk (rs := [.tmp 4]) (vs := [.bool false]) rfl ⟨rfl, trivial⟩ ⟨cl w oi o [] (fun l_ => if l_ = 1 then LF else 0) o797, rfl, hs.closeF (Lm := []) (Sh := []) hoa rfl (fun l_ => if l_ = 1 then LF else 0)⟩
              · rw [b808] at hk H
                replace H := bifT H
                refine x_run tab hk (k := 3) (lv := []) (ks := [1, 14, 123]) (e' := [(1, .int .i64 (bits .and .i64 p1 65535)), (14, .int .i64 t794.1), (123, .bool t794.2.1)]) rfl trivial fun a hk => ?_
                cases b809 : t794.2.1
                · rw [b809] at hk H
                  replace H := bifF H
                  refine x_run tab hk (k := 5) (lv := []) (ks := [4]) (e' := [(4, .bool false)]) rfl trivial fun a hk => ?_
                  refine wpListIn_nil ?_
                  refine then_n ?_
                  refine wpIn_ret ?_
                  obtain rfl := Option.some.inj H
                  exact x_retG hk (rs := [.tmp 4]) (vs := [.bool false]) rfl ⟨rfl, trivial⟩ ⟨cl w oi o [] (fun l_ => if l_ = 1 then LF else 0) o797, rfl, hs.closeF (Lm := []) (Sh := []) hoa rfl (fun l_ => if l_ = 1 then LF else 0)⟩
                · rw [b809] at hk H
                  replace H := bifT H
                  refine x_run tab hk (k := 5) (lv := []) (ks := [4]) (e' := [(4, .bool (t794.1 == (bits .and .i64 p1 65535)))]) rfl trivial fun a hk => ?_
                  refine wpListIn_nil ?_
                  refine then_n ?_
                  refine wpIn_ret ?_
                  obtain rfl := Option.some.inj H
                  exact x_retG hk (rs := [.tmp 4]) (vs := [.bool (t794.1 == (bits .and .i64 p1 65535))]) rfl ⟨rfl, trivial⟩ ⟨cl w oi o [] (fun l_ => if l_ = 1 then LF else 0) o797, rfl, hs.closeF (Lm := []) (Sh := []) hoa rfl (fun l_ => if l_ = 1 then LF else 0)⟩
        · rw [b790] at hk H
          replace H := bifT H
          refine x_if hk (b := true) rfl ?_
          refine (show Code.wpIn _ _ _ _ _ _ _ from ?_)
          refine x_seq ?_
          refine wpIn_region_lit ?_
          refine x_run tab hk (k := 4) (lv := []) (ks := [4]) (e' := [(4, .bool (((t781).length : Int) == (0 : Int)))]) rfl trivial fun a hk => ?_
          refine wpListIn_nil ?_
          refine then_n ?_
          refine wpIn_ret ?_
          refine then_r ?_
          obtain rfl := Option.some.inj H
          exact x_retG hk (rs := [.tmp 4]) (vs := [.bool (((t781).length : Int) == (0 : Int))]) rfl ⟨rfl, trivial⟩ ⟨cl w oi o [] (fun l_ => if l_ = 1 then LF else 0) o784, rfl, hs.closeF (Lm := []) (Sh := []) hoa rfl (fun l_ => if l_ = 1 then LF else 0)⟩
      refine x_seq ?_
      refine wpIn_region_lit ?_
      refine x_run tab hk (k := 2) (lv := []) (ks := [0, 1, 5, 6, 52, 53]) (e' := [(0, .slice Ap0 (p0).length cp0), (1, .int .i64 (bits .and .i64 p1 65535)), (5, .int .i64 (mnI ((p0).length : Int) 20)), (6, .pointer (some ⟨bx18, 0, none⟩)), (52, .int .i64 (mnI ((p0).length : Int) 20)), (53, .int .i64 0)]) rfl trivial fun a hk => ?_
      refine wpListIn_nil ?_
      refine then_n ?_
      refine wpIn_block ?_
      refine x_loop (fun j_ a_ w_ => ∃ o948 : Nat → Nat, ∃ x949 : Int, ∃ x950 : Int, ∃ A951 : Option Addr, ∃ c952 : Nat, ∃ l953 : M T71, ∃ x956 : Int, Kn 128 a_ [(0, .slice Ap0 (p0).length cp0), (1, .int .i64 (bits .and .i64 p1 65535)), (5, .int .i64 (mnI ((p0).length : Int) 20)), (6, .pointer (some ⟨bx18, 0, none⟩)), (52, .int .i64 (mnI ((p0).length : Int) 20)), (53, .int .i64 x956)] ∧ St [] w oi w_ o948 ∧ Ft (Bx bx18 63 [.int .i64 x949, .int .i64 x950, mv A951]) w_ o948 40 ∧ NRd (dRows ET59) Ap0 p0 w_ o948 0 0 ∧ MpN dT71 true A951 l953 w_ o948 39 1 ∧ (l953).length ≤ c952 ∧ tidewracklaw14_CacheRoom_l3 K p0 p1 j_ x949 x950 l953 x956 = some r) (k := K) ⟨(fun b_ => (fun l_ => if l_ = 8 then 39 else if l_ = 9 then 40 else l_) (o327 b_)), x328, x329, A330, c331, l332, 0, (by exact Kn.pick (ks := [0, 1, 5, 6, 52, 53]) hk rfl), (hs.relabM hob (fun l_ => if l_ = 8 then 39 else if l_ = 9 then 40 else l_) (by decide)), (f19.relab (fun l_ => if l_ = 8 then 39 else if l_ = 9 then 40 else l_) rfl), (f900000.relab (fun l_ => if l_ = 8 then 39 else if l_ = 9 then 40 else l_) rfl), (f333.relab (fun l_ => if l_ = 8 then 39 else if l_ = 9 then 40 else l_) rfl), hc334, H⟩ (by rintro _ _ ⟨_, _, _, _, _, _, _, _, _, _, _, _, _, H_⟩; exact absurd (show (none : Option Bool) = some r from H_) (by simp)) ?_
      rintro k1093 a w1092 ⟨o948, x949, x950, A951, c952, l953, x956, hk, hs, f19, f900000, f954, hc955, H⟩
      rw [tidewracklaw14_CacheRoom_l3] at H
      obtain ⟨lp1094, hlp1095⟩ : ∃ lp_, lp_ = tidewracklaw14_CacheRoom_l3 K p0 p1 k1093 := ⟨_, rfl⟩
      rw [← hlp1095] at H
      refine x_seq ?_
      refine wpIn_region_lit ?_
      refine x_run tab hk (k := 1) (lv := []) (ks := [0, 1, 5, 6, 52, 53, 54]) (e' := [(0, .slice Ap0 (p0).length cp0), (1, .int .i64 (bits .and .i64 p1 65535)), (5, .int .i64 (mnI ((p0).length : Int) 20)), (6, .pointer (some ⟨bx18, 0, none⟩)), (52, .int .i64 (mnI ((p0).length : Int) 20)), (53, .int .i64 x956), (54, .bool (decide (x956 < (mnI ((p0).length : Int) 20))))]) rfl trivial fun a hk => ?_
      refine wpListIn_nil ?_
      refine then_n ?_
      refine x_seq ?_
      cases b1096 : (decide (x956 < (mnI ((p0).length : Int) 20)))
      · rw [b1096] at hk H
        replace H := bifF H
        refine x_if hk (b := false) rfl ?_
        refine (show Code.wpIn _ _ _ _ _ _ _ from ?_)
        refine wpIn_exit ?_
        refine then_x ?_
        refine then_x ?_
        refine blk_x ?_
        refine then_n ?_
        exact ⟨(fun b_ => (fun l_ => if l_ = 39 then 29 else if l_ = 40 then 30 else l_) (o948 b_)), x949, x950, A951, c952, l953, (by exact Kn.pick (ks := [1, 5, 6]) hk rfl), (hs.relabM hob (fun l_ => if l_ = 39 then 29 else if l_ = 40 then 30 else l_) (by decide)), (f19.relab (fun l_ => if l_ = 39 then 29 else if l_ = 40 then 30 else l_) rfl), (f954.relab (fun l_ => if l_ = 39 then 29 else if l_ = 40 then 30 else l_) rfl), hc955, H⟩
      · rw [b1096] at hk H
        replace H := bifT H
        refine x_if hk (b := true) rfl ?_
        refine (show Code.wpIn _ _ _ _ _ _ _ from ?_)
        refine wpIn_skip ?_
        refine then_n ?_
        refine x_seq ?_
        refine wpIn_block ?_
        refine x_seq ?_
        refine wpIn_region_lit ?_
        refine x_run tab hk (k := 2) (lv := []) (ks := [0, 1, 5, 6, 10, 52, 53]) (e' := [(0, .slice Ap0 (p0).length cp0), (1, .int .i64 (bits .and .i64 p1 65535)), (5, .int .i64 (mnI ((p0).length : Int) 20)), (6, .pointer (some ⟨bx18, 0, none⟩)), (10, .int .i64 x956), (52, .int .i64 (mnI ((p0).length : Int) 20)), (53, .int .i64 x956)]) rfl trivial fun a hk => ?_
        refine wpListIn_nil ?_
        refine then_n ?_
        refine x_seq ?_
        refine wpIn_region_lit ?_
        refine x_run tab hk (k := 4) (lv := []) (ks := [0, 1, 5, 6, 10, 52, 53, 57, 60]) (e' := [(0, .slice Ap0 (p0).length cp0), (1, .int .i64 (bits .and .i64 p1 65535)), (5, .int .i64 (mnI ((p0).length : Int) 20)), (6, .pointer (some ⟨bx18, 0, none⟩)), (10, .int .i64 x956), (52, .int .i64 (mnI ((p0).length : Int) 20)), (53, .int .i64 x956), (57, .pointer (some ⟨bx18, 0, none⟩)), (60, .int .i64 (IntKind.wrap .i64 ((bits .and .i64 p1 65535) + x956)))]) rfl trivial fun a hk => ?_
        refine x_op hk rfl ?_
        obtain ⟨t1100, hc1101, H⟩ := bindS H
        refine op_call hk ent_14 (vs := [.pointer (some ⟨bx18, 0, none⟩), .int .i64 (IntKind.wrap .i64 ((bits .and .i64 p1 65535) + x956))]) rfl (cache_Cache_Get_calls bx18 A951 c952 (⟨x949, x950, l953⟩ : T62) (IntKind.wrap .i64 ((bits .and .i64 p1 65535) + x956)) _ o948 1 40 f19 39 f954 hc955 (by decide) 46  _ hc1101) ?_
        rintro _ w1102 ⟨o1103, A1105, c1106, A1110, c1111, rfl, st1104, f1107, hc1108, f1109, f1112, hc1113⟩
        replace f900000 := f900000.st st1104 (by decide)
        replace hs := hs.locQ st1104 hob rfl
        have hk := hk.put 61 (.tuple #[.slice A1105 (t1100.1).length c1106, .bool t1100.2.1]) rfl
        refine x_run tab hk (k := 5) (lv := []) (ks := [0, 1, 5, 6, 10, 11, 12, 52, 53]) (e' := [(0, .slice Ap0 (p0).length cp0), (1, .int .i64 (bits .and .i64 p1 65535)), (5, .int .i64 (mnI ((p0).length : Int) 20)), (6, .pointer (some ⟨bx18, 0, none⟩)), (10, .int .i64 x956), (11, .slice A1105 (t1100.1).length c1106), (12, .bool t1100.2.1), (52, .int .i64 (mnI ((p0).length : Int) 20)), (53, .int .i64 x956)]) rfl trivial fun a hk => ?_
        refine wpListIn_nil ?_
        refine then_n ?_
        refine x_seq ?_
        cases b1149 : (!t1100.2.1)
        · rw [b1149] at H
          replace H := bifF H
          obtain ⟨q1150, H⟩ := ifS H
          obtain ⟨ad1151, hAad1151⟩ := NRd.addr f900000 q1150
          have hk_C := hk
          have f1107_C := f1107
          have f1109_C := f1109
          have f1112_C := f1112
          have f900000_C := f900000
          subst hAad1151
          have hk := hk_C
          clear hk_C
          have f1107 := f1107_C
          clear f1107_C
          have f1109 := f1109_C
          clear f1109_C
          have f1112 := f1112_C
          clear f1112_C
          have f900000 := f900000_C
          clear f900000_C
          obtain ⟨A1152, c1153, f1154, f1155, hc1156⟩ := NRd.row f900000 (P := Try.prog) tab (t := 28) rfl (i := x956) q1150
          obtain ⟨q1157, H⟩ := ifS H
          obtain ⟨q1158, H⟩ := ifS H
          obtain ⟨t1167, hc1168, H⟩ := bindS H
          obtain ⟨t1179, hc1180, H⟩ := bindS H
          refine xd_begin (o := o1103) (fun W_ => (fun W => LoadIs Try.prog 28 (ad1151.add (Int.toNat x956 * 1)) (.slice A1152 (rdD [] p0 x956).length c1153) W) W_ ∧ True) mixed rfl rfl fun w1205 st1206 => ?_
          replace f1107 := f1107.st st1206 (by decide)
          replace f1109 := f1109.st st1206 (by decide)
          replace f1112 := f1112.st st1206 (by decide)
          replace f1154 := f1154.st st1206 (by decide)
          replace f1155 := f1155.st st1206 (by decide)
          replace f900000 := f900000.st st1206 (by decide)
          replace hs := hs.locQ st1206 hob rfl
          refine xd_take tab hk (k := 16) (is := [0, 1, 2]) (ls' := #[true, true, true, false, false, false, false, false, false, false, false, false, false, false, false, false, false, false, false]) (lv := []) (ks := [0, 1, 5, 6, 10, 11, 52, 53, 66]) (e' := [(0, .slice (some ad1151) (p0).length cp0), (1, .int .i64 (bits .and .i64 p1 65535)), (5, .int .i64 (mnI ((p0).length : Int) 20)), (6, .pointer (some ⟨bx18, 0, none⟩)), (10, .int .i64 x956), (11, .slice A1105 (t1100.1).length c1106), (52, .int .i64 (mnI ((p0).length : Int) 20)), (53, .int .i64 x956), (66, .bool (!t1100.2.1))]) (by kernel_rfl) rfl rfl (by kernel_rfl) (np_then (np_blk (np_then (np_then (np_blk (np_then np_body)))))) ⟨f1154.now, trivial⟩ (fun W_ hS => trivial) fun a hk => ?_
          rw [b1149] at hk
          obtain ⟨A1207, c1208, ak1210, f1209, hc1211⟩ := ask_cut (P := Try.prog) tab (t := 28) rfl rfl f1155 hc1156 none (some (.int .i64 (mnI (((rdD [] p0 x956)).length : Int) 20))) rfl ⟨q1157, (by have := q1158; have := hc1156; omega), trivial⟩ (by have := q1157; have := q1158; omega) (by have := q1157; have := q1158; omega)
          refine xd_take tab hk (k := 4) (is := [3, 4, 5, 6, 7, 8, 9, 10, 11, 12, 13, 14]) (ls' := #[true, true, true, true, true, true, true, true, true, true, true, true, true, true, true, false, false, false, false]) (lv := [.slice A1152 ((rdD [] p0 x956)).length c1153, .slice A1152 ((rdD [] p0 x956)).length c1153, .slice A1207 ((List.drop 0 (List.take (Int.toNat (mnI (((rdD [] p0 x956)).length : Int) 20)) (rdD [] p0 x956)))).length c1208]) (ks := [0, 1, 5, 6, 52, 53, 66, 67, 78]) (e' := [(0, .slice (some ad1151) (p0).length cp0), (1, .int .i64 (bits .and .i64 p1 65535)), (5, .int .i64 (mnI ((p0).length : Int) 20)), (6, .pointer (some ⟨bx18, 0, none⟩)), (52, .int .i64 (mnI ((p0).length : Int) 20)), (53, .int .i64 x956), (66, .bool false), (67, .slice A1105 (t1100.1).length c1106), (78, .slice A1207 ((List.drop 0 (List.take (Int.toNat (mnI (((rdD [] p0 x956)).length : Int) 20)) (rdD [] p0 x956)))).length c1208)]) (by kernel_rfl) rfl rfl (by kernel_rfl) (np_then (np_blk (np_then (np_then (np_blk (np_then np_body)))))) ⟨f1154.now, trivial⟩ (fun W_ hS => ⟨q1150, hS.1, q1150, hS.1, (ak1210 rfl rfl rfl _), trivial⟩) fun a hk => ?_
          refine xd_op hk (i := 15) (by kernel_rfl) rfl rfl ?_
          refine op_call hk ent_13 (vs := [.slice A1207 ((List.drop 0 (List.take (Int.toNat (mnI (((rdD [] p0 x956)).length : Int) 20)) (rdD [] p0 x956)))).length c1208]) rfl (tidewracklaw14_Told_calls K A1207 c1208 (List.drop 0 (List.take (Int.toNat (mnI (((rdD [] p0 x956)).length : Int) 20)) (rdD [] p0 x956))) _ o1103 _ f1209 hc1211 50  _ hc1168) ?_
          rintro _ w1215 ⟨o1216, A1218, c1219, rfl, st1217, f1220, hc1221⟩
          replace f1107 := f1107.st st1217 (by decide)
          replace f1109 := f1109.st st1217 (by decide)
          replace f1112 := f1112.st st1217 (by decide)
          replace f1154 := f1154.st st1217 (by decide)
          replace f1155 := f1155.st st1217 (by decide)
          replace f1209 := f1209.st st1217 (by decide)
          replace f900000 := f900000.st st1217 (by decide)
          replace hs := hs.locQ st1217 hob rfl
          have hk := hk.put 79 (.slice A1218 (t1167).length c1219) rfl
          refine ⟨.inr ⟨f1154.now, trivial⟩, ?_⟩
          refine xd_op hk (i := 16) (by kernel_rfl) rfl rfl ?_
          refine op_call hk ent_12 (vs := [.slice A1105 (t1100.1).length c1106, .slice A1218 (t1167).length c1219]) rfl (tidewracklaw09_Glyphs_calls K A1105 c1106 t1100.1 A1218 c1219 t1167 _ o1216 _ (f1107.imp fun _ h_ => Own.rd h_) hc1108 _ (f1220.imp fun _ h_ => Own.rd h_) hc1221   _ hc1180) ?_
          rintro _ w1225 ⟨o1226, rfl, st1227⟩
          replace f1107 := f1107.st st1227 (by decide)
          replace f1109 := f1109.st st1227 (by decide)
          replace f1112 := f1112.st st1227 (by decide)
          replace f1154 := f1154.st st1227 (by decide)
          replace f1155 := f1155.st st1227 (by decide)
          replace f1209 := f1209.st st1227 (by decide)
          replace f1220 := f1220.st st1227 (by decide)
          replace f900000 := f900000.st st1227 (by decide)
          replace hs := hs.locQ st1227 hob rfl
          have hk := hk.put 80 (.bool t1179) rfl
          refine ⟨.inr ⟨f1154.now, trivial⟩, ?_⟩
          refine xd_take tab hk (k := 0) (is := [17, 18]) (ls' := #[true, true, true, true, true, true, true, true, true, true, true, true, true, true, true, true, true, true, true]) (lv := []) (ks := [0, 1, 5, 6, 52, 53, 82]) (e' := [(0, .slice (some ad1151) (p0).length cp0), (1, .int .i64 (bits .and .i64 p1 65535)), (5, .int .i64 (mnI ((p0).length : Int) 20)), (6, .pointer (some ⟨bx18, 0, none⟩)), (52, .int .i64 (mnI ((p0).length : Int) 20)), (53, .int .i64 x956), (82, .bool (!t1179))]) (by kernel_rfl) rfl rfl (by kernel_rfl) (np_then (np_blk (np_then (np_then (np_blk (np_then np_body)))))) ⟨f1154.now, trivial⟩ (fun W_ hS => trivial) fun a hk => ?_
          refine xd_done (by kernel_rfl) ?_
          refine then_n ?_
          cases b1228 : (!t1179)
          · rw [b1228] at hk H
            replace H := bifF H
            refine x_if hk (b := false) rfl ?_
            refine (show Code.wpIn _ _ _ _ _ _ _ from ?_)
            refine wpIn_skip ?_
            refine blk_n ?_
            refine then_n ?_
            refine wpIn_region_lit ?_
            refine x_run tab hk (k := 2) (lv := []) (ks := [0, 1, 5, 6, 52, 53]) (e' := [(0, .slice (some ad1151) (p0).length cp0), (1, .int .i64 (bits .and .i64 p1 65535)), (5, .int .i64 (mnI ((p0).length : Int) 20)), (6, .pointer (some ⟨bx18, 0, none⟩)), (52, .int .i64 (mnI ((p0).length : Int) 20)), (53, .int .i64 (IntKind.wrap .i64 (x956 + 1)))]) rfl trivial fun a hk => ?_
            refine wpListIn_nil ?_
            refine then_n ?_
            exact ⟨k1093, Nat.le_refl _, o1226, t1100.2.2.most, t1100.2.2.now, A1110, c1111, t1100.2.2.l, (IntKind.wrap .i64 (x956 + 1)), (by exact Kn.pick (ks := [0, 1, 5, 6, 52, 53]) hk rfl), hs, f1109, f900000, f1112, hc1113, (hlp1095 ▸ H)⟩
          · rw [b1228] at hk H
            replace H := bifT H
            refine x_if hk (b := true) rfl ?_
            refine (show Code.wpIn _ _ _ _ _ _ _ from ?_)
            refine x_seq ?_
            refine wpIn_region_lit ?_
            refine x_run tab hk (k := 1) (lv := []) (ks := [4]) (e' := [(4, .bool false)]) rfl trivial fun a hk => ?_
            refine wpListIn_nil ?_
            refine then_n ?_
            refine wpIn_ret ?_
            refine blk_r ?_
            refine then_r ?_
            refine then_r ?_
            refine blk_r ?_
            refine then_r ?_
            obtain rfl := Option.some.inj H
            exact x_retG hk (rs := [.tmp 4]) (vs := [.bool false]) rfl ⟨rfl, trivial⟩ ⟨cl w oi o [] (fun l_ => if l_ = 1 then LF else 0) o1226, rfl, hs.closeF (Lm := []) (Sh := []) hoa rfl (fun l_ => if l_ = 1 then LF else 0)⟩
        · rw [b1149] at H
          replace H := bifT H
          refine xd_begin (o := o1103) (fun W_ => True) mixed rfl rfl fun w1229 st1230 => ?_
          replace f1107 := f1107.st st1230 (by decide)
          replace f1109 := f1109.st st1230 (by decide)
          replace f1112 := f1112.st st1230 (by decide)
          replace f900000 := f900000.st st1230 (by decide)
          replace hs := hs.locQ st1230 hob rfl
          refine xd_take tab hk (k := 16) (is := [0, 1, 2]) (ls' := #[true, true, true, false, false, false, false, false, false, false, false, false, false, false, false, false, false, false, false]) (lv := []) (ks := [0, 1, 5, 6, 10, 11, 52, 53, 66]) (e' := [(0, .slice Ap0 (p0).length cp0), (1, .int .i64 (bits .and .i64 p1 65535)), (5, .int .i64 (mnI ((p0).length : Int) 20)), (6, .pointer (some ⟨bx18, 0, none⟩)), (10, .int .i64 x956), (11, .slice A1105 (t1100.1).length c1106), (52, .int .i64 (mnI ((p0).length : Int) 20)), (53, .int .i64 x956), (66, .bool (!t1100.2.1))]) (by kernel_rfl) rfl rfl (by kernel_rfl) (np_then (np_blk (np_then (np_then (np_blk (np_then np_body)))))) trivial (fun W_ hS => trivial) fun a hk => ?_
          rw [b1149] at hk
          refine xd_take tab hk (k := 0) (is := [3, 4, 5, 6, 7, 8, 9, 10, 11, 12, 13, 14, 15, 16, 17, 18]) (ls' := #[true, true, true, true, true, true, true, true, true, true, true, true, true, true, true, true, true, true, true]) (lv := []) (ks := [0, 1, 5, 6, 52, 53, 82]) (e' := [(0, .slice Ap0 (p0).length cp0), (1, .int .i64 (bits .and .i64 p1 65535)), (5, .int .i64 (mnI ((p0).length : Int) 20)), (6, .pointer (some ⟨bx18, 0, none⟩)), (52, .int .i64 (mnI ((p0).length : Int) 20)), (53, .int .i64 x956), (82, .bool true)]) (by kernel_rfl) rfl rfl (by kernel_rfl) (np_then (np_blk (np_then (np_then (np_blk (np_then np_body)))))) trivial (fun W_ hS => trivial) fun a hk => ?_
          refine xd_done (by kernel_rfl) ?_
          refine then_n ?_
          refine x_if hk (b := true) rfl ?_
          refine (show Code.wpIn _ _ _ _ _ _ _ from ?_)
          refine x_seq ?_
          refine wpIn_region_lit ?_
          refine x_run tab hk (k := 1) (lv := []) (ks := [4]) (e' := [(4, .bool false)]) rfl trivial fun a hk => ?_
          refine wpListIn_nil ?_
          refine then_n ?_
          refine wpIn_ret ?_
          refine blk_r ?_
          refine then_r ?_
          refine then_r ?_
          refine blk_r ?_
          refine then_r ?_
          obtain rfl := Option.some.inj H
          exact x_retG hk (rs := [.tmp 4]) (vs := [.bool false]) rfl ⟨rfl, trivial⟩ ⟨cl w oi o [] (fun l_ => if l_ = 1 then LF else 0) o1103, rfl, hs.closeF (Lm := []) (Sh := []) hoa rfl (fun l_ => if l_ = 1 then LF else 0)⟩
    refine x_seq ?_
    refine wpIn_region_lit ?_
    refine x_run tab hk (k := 2) (lv := []) (ks := [0, 1, 5, 6, 27, 28]) (e' := [(0, .slice Ap0 (p0).length cp0), (1, .int .i64 (bits .and .i64 p1 65535)), (5, .int .i64 (mnI ((p0).length : Int) 20)), (6, .pointer (some ⟨bx18, 0, none⟩)), (27, .int .i64 (mnI ((p0).length : Int) 20)), (28, .int .i64 0)]) rfl trivial fun a hk => ?_
    refine wpListIn_nil ?_
    refine then_n ?_
    refine wpIn_block ?_
    refine x_loop (fun j_ a_ w_ => ∃ o1324 : Nat → Nat, ∃ x1325 : Int, ∃ x1326 : Int, ∃ A1327 : Option Addr, ∃ c1328 : Nat, ∃ l1329 : M T71, ∃ x1332 : Int, Kn 128 a_ [(0, .slice Ap0 (p0).length cp0), (1, .int .i64 (bits .and .i64 p1 65535)), (5, .int .i64 (mnI ((p0).length : Int) 20)), (6, .pointer (some ⟨bx18, 0, none⟩)), (27, .int .i64 (mnI ((p0).length : Int) 20)), (28, .int .i64 x1332)] ∧ St [] w oi w_ o1324 ∧ MpN dT71 true A1327 l1329 w_ o1324 53 1 ∧ Ft (Bx bx18 63 [.int .i64 x1325, .int .i64 x1326, mv A1327]) w_ o1324 54 ∧ NRd (dRows ET59) Ap0 p0 w_ o1324 0 0 ∧ (l1329).length ≤ c1328 ∧ tidewracklaw14_CacheRoom_l4 K p0 p1 j_ x1325 x1326 l1329 x1332 = some r) (k := K) ⟨(fun b_ => (fun l_ => if l_ = 2 then 54 else if l_ = 3 then 53 else l_) (o16 b_)), t13.most, t13.now, A20, c21, t13.l, 0, (by exact Kn.pick (ks := [0, 1, 5, 6, 27, 28]) hk rfl), (hs.relabM hob (fun l_ => if l_ = 2 then 54 else if l_ = 3 then 53 else l_) (by decide)), (f22.relab (fun l_ => if l_ = 2 then 54 else if l_ = 3 then 53 else l_) rfl), (f19.relab (fun l_ => if l_ = 2 then 54 else if l_ = 3 then 53 else l_) rfl), (f900000.relab (fun l_ => if l_ = 2 then 54 else if l_ = 3 then 53 else l_) rfl), hc23, H⟩ (by rintro _ _ ⟨_, _, _, _, _, _, _, _, _, _, _, _, _, H_⟩; exact absurd (show (none : Option Bool) = some r from H_) (by simp)) ?_
    rintro k1424 a w1423 ⟨o1324, x1325, x1326, A1327, c1328, l1329, x1332, hk, hs, f1330, f19, f900000, hc1331, H⟩
    rw [tidewracklaw14_CacheRoom_l4] at H
    obtain ⟨lp1425, hlp1426⟩ : ∃ lp_, lp_ = tidewracklaw14_CacheRoom_l4 K p0 p1 k1424 := ⟨_, rfl⟩
    rw [← hlp1426] at H
    refine x_seq ?_
    refine wpIn_region_lit ?_
    refine x_run tab hk (k := 1) (lv := []) (ks := [0, 1, 5, 6, 27, 28, 29]) (e' := [(0, .slice Ap0 (p0).length cp0), (1, .int .i64 (bits .and .i64 p1 65535)), (5, .int .i64 (mnI ((p0).length : Int) 20)), (6, .pointer (some ⟨bx18, 0, none⟩)), (27, .int .i64 (mnI ((p0).length : Int) 20)), (28, .int .i64 x1332), (29, .bool (decide (x1332 < (mnI ((p0).length : Int) 20))))]) rfl trivial fun a hk => ?_
    refine wpListIn_nil ?_
    refine then_n ?_
    refine x_seq ?_
    cases b1427 : (decide (x1332 < (mnI ((p0).length : Int) 20)))
    · rw [b1427] at hk H
      replace H := bifF H
      refine x_if hk (b := false) rfl ?_
      refine (show Code.wpIn _ _ _ _ _ _ _ from ?_)
      refine wpIn_exit ?_
      refine then_x ?_
      refine then_x ?_
      refine blk_x ?_
      refine then_n ?_
      exact ⟨(fun b_ => (fun l_ => if l_ = 53 then 8 else if l_ = 54 then 9 else l_) (o1324 b_)), x1325, x1326, A1327, c1328, l1329, (by exact Kn.pick (ks := [0, 1, 5, 6]) hk rfl), (hs.relabM hob (fun l_ => if l_ = 53 then 8 else if l_ = 54 then 9 else l_) (by decide)), (f19.relab (fun l_ => if l_ = 53 then 8 else if l_ = 54 then 9 else l_) rfl), (f1330.relab (fun l_ => if l_ = 53 then 8 else if l_ = 54 then 9 else l_) rfl), (f900000.relab (fun l_ => if l_ = 53 then 8 else if l_ = 54 then 9 else l_) rfl), hc1331, H⟩
    · rw [b1427] at hk H
      replace H := bifT H
      refine x_if hk (b := true) rfl ?_
      refine (show Code.wpIn _ _ _ _ _ _ _ from ?_)
      refine wpIn_skip ?_
      refine then_n ?_
      refine x_seq ?_
      refine wpIn_block ?_
      refine x_seq ?_
      refine wpIn_region_lit ?_
      refine x_run tab hk (k := 2) (lv := []) (ks := [0, 1, 5, 6, 7, 27, 28]) (e' := [(0, .slice Ap0 (p0).length cp0), (1, .int .i64 (bits .and .i64 p1 65535)), (5, .int .i64 (mnI ((p0).length : Int) 20)), (6, .pointer (some ⟨bx18, 0, none⟩)), (7, .int .i64 x1332), (27, .int .i64 (mnI ((p0).length : Int) 20)), (28, .int .i64 x1332)]) rfl trivial fun a hk => ?_
      refine wpListIn_nil ?_
      refine then_n ?_
      refine x_seq ?_
      obtain ⟨q1455, H⟩ := ifS H
      obtain ⟨ad1456, hAad1456⟩ := NRd.addr f900000 q1455
      have hk_C := hk
      have f1330_C := f1330
      have f19_C := f19
      have f900000_C := f900000
      subst hAad1456
      have hk := hk_C
      clear hk_C
      have f1330 := f1330_C
      clear f1330_C
      have f19 := f19_C
      clear f19_C
      have f900000 := f900000_C
      clear f900000_C
      obtain ⟨A1457, c1458, f1459, f1460, hc1461⟩ := NRd.row f900000 (P := Try.prog) tab (t := 28) rfl (i := x1332) q1455
      obtain ⟨q1462, H⟩ := ifS H
      obtain ⟨q1463, H⟩ := ifS H
      obtain ⟨t1472, hc1473, H⟩ := bindS H
      refine xd_begin (o := o1324) (fun W_ => (fun W => LoadIs Try.prog 28 (ad1456.add (Int.toNat x1332 * 1)) (.slice A1457 (rdD [] p0 x1332).length c1458) W) W_ ∧ True) mixed rfl rfl fun w1498 st1499 => ?_
      replace f1330 := f1330.st st1499 (by decide)
      replace f1459 := f1459.st st1499 (by decide)
      replace f1460 := f1460.st st1499 (by decide)
      replace f19 := f19.st st1499 (by decide)
      replace f900000 := f900000.st st1499 (by decide)
      replace hs := hs.locQ st1499 hob rfl
      obtain ⟨A1500, c1501, ak1503, f1502, hc1504⟩ := ask_cut (P := Try.prog) tab (t := 28) rfl rfl f1460 hc1461 none (some (.int .i64 (mnI (((rdD [] p0 x1332)).length : Int) 20))) rfl ⟨q1462, (by have := q1463; have := hc1461; omega), trivial⟩ (by have := q1462; have := q1463; omega) (by have := q1462; have := q1463; omega)
      refine xd_take tab hk (k := 6) (is := [0, 1, 2, 3, 4, 5, 6, 7, 8, 9, 10, 11, 12, 13, 14]) (ls' := #[true, true, true, true, true, true, true, true, true, true, true, true, true, true, true, false, false, false, false, false, false]) (lv := [.slice A1457 ((rdD [] p0 x1332)).length c1458, .slice A1457 ((rdD [] p0 x1332)).length c1458, .slice A1500 ((List.drop 0 (List.take (Int.toNat (mnI (((rdD [] p0 x1332)).length : Int) 20)) (rdD [] p0 x1332)))).length c1501]) (ks := [0, 1, 5, 6, 27, 28, 32, 35, 46]) (e' := [(0, .slice (some ad1456) (p0).length cp0), (1, .int .i64 (bits .and .i64 p1 65535)), (5, .int .i64 (mnI ((p0).length : Int) 20)), (6, .pointer (some ⟨bx18, 0, none⟩)), (27, .int .i64 (mnI ((p0).length : Int) 20)), (28, .int .i64 x1332), (32, .pointer (some ⟨bx18, 0, none⟩)), (35, .int .i64 (IntKind.wrap .i64 ((bits .and .i64 p1 65535) + x1332))), (46, .slice A1500 ((List.drop 0 (List.take (Int.toNat (mnI (((rdD [] p0 x1332)).length : Int) 20)) (rdD [] p0 x1332)))).length c1501)]) (by kernel_rfl) rfl rfl (by kernel_rfl) (np_then (np_blk (np_then (np_then (np_blk (np_then np_body)))))) ⟨f1459.now, trivial⟩ (fun W_ hS => ⟨q1455, hS.1, q1455, hS.1, (ak1503 rfl rfl rfl _), trivial⟩) fun a hk => ?_
      refine xd_op hk (i := 15) (by kernel_rfl) rfl rfl ?_
      refine op_call hk ent_10 (vs := [.pointer (some ⟨bx18, 0, none⟩), .int .i64 (IntKind.wrap .i64 ((bits .and .i64 p1 65535) + x1332)), .slice A1500 ((List.drop 0 (List.take (Int.toNat (mnI (((rdD [] p0 x1332)).length : Int) 20)) (rdD [] p0 x1332)))).length c1501]) rfl (cache_Cache_Put_calls K bx18 A1327 c1328 (⟨x1325, x1326, l1329⟩ : T62) (IntKind.wrap .i64 ((bits .and .i64 p1 65535) + x1332)) A1500 c1501 (List.drop 0 (List.take (Int.toNat (mnI (((rdD [] p0 x1332)).length : Int) 20)) (rdD [] p0 x1332))) _ o1324 1 54 f19 53 f1330 hc1331 _ f1502 hc1504 (by decide) (by decide)   _ hc1473) ?_
      rintro _ w1508 ⟨o1509, A1512, c1513, rfl, st1510, f1511, f1514, hc1515⟩
      replace f1459 := f1459.st st1510 (by decide)
      replace f1460 := f1460.st st1510 (by decide)
      replace f1502 := f1502.st st1510 (by decide)
      replace f900000 := f900000.st st1510 (by decide)
      replace hs := hs.locQ st1510 hob rfl
      have hk := hk.put 47 (.tuple #[.int .i64 t1472.1, .bool t1472.2.1]) rfl
      refine ⟨.inr ⟨f1459.now, trivial⟩, ?_⟩
      refine xd_take tab hk (k := 0) (is := [16, 17, 18, 19, 20]) (ls' := #[true, true, true, true, true, true, true, true, true, true, true, true, true, true, true, true, true, true, true, true, true]) (lv := []) (ks := [0, 1, 5, 6, 9, 27, 28]) (e' := [(0, .slice (some ad1456) (p0).length cp0), (1, .int .i64 (bits .and .i64 p1 65535)), (5, .int .i64 (mnI ((p0).length : Int) 20)), (6, .pointer (some ⟨bx18, 0, none⟩)), (9, .bool t1472.2.1), (27, .int .i64 (mnI ((p0).length : Int) 20)), (28, .int .i64 x1332)]) (by kernel_rfl) rfl rfl (by kernel_rfl) (np_then (np_blk (np_then (np_then (np_blk (np_then np_body)))))) ⟨f1459.now, trivial⟩ (fun W_ hS => trivial) fun a hk => ?_
      refine xd_done (by kernel_rfl) ?_
      refine then_n ?_
      refine x_seq ?_
      refine wpIn_region_lit ?_
      refine x_run tab hk (k := 1) (lv := []) (ks := [0, 1, 5, 6, 27, 28, 50]) (e' := [(0, .slice (some ad1456) (p0).length cp0), (1, .int .i64 (bits .and .i64 p1 65535)), (5, .int .i64 (mnI ((p0).length : Int) 20)), (6, .pointer (some ⟨bx18, 0, none⟩)), (27, .int .i64 (mnI ((p0).length : Int) 20)), (28, .int .i64 x1332), (50, .bool t1472.2.1)]) rfl trivial fun a hk => ?_
      refine wpListIn_nil ?_
      refine then_n ?_
      cases b1516 : t1472.2.1
      · rw [b1516] at hk H
        replace H := bifF H
        refine x_if hk (b := false) rfl ?_
        refine (show Code.wpIn _ _ _ _ _ _ _ from ?_)
        refine wpIn_skip ?_
        refine blk_n ?_
        refine then_n ?_
        refine wpIn_region_lit ?_
        refine x_run tab hk (k := 2) (lv := []) (ks := [0, 1, 5, 6, 27, 28]) (e' := [(0, .slice (some ad1456) (p0).length cp0), (1, .int .i64 (bits .and .i64 p1 65535)), (5, .int .i64 (mnI ((p0).length : Int) 20)), (6, .pointer (some ⟨bx18, 0, none⟩)), (27, .int .i64 (mnI ((p0).length : Int) 20)), (28, .int .i64 (IntKind.wrap .i64 (x1332 + 1)))]) rfl trivial fun a hk => ?_
        refine wpListIn_nil ?_
        refine then_n ?_
        exact ⟨k1424, Nat.le_refl _, o1509, t1472.2.2.most, t1472.2.2.now, A1512, c1513, t1472.2.2.l, (IntKind.wrap .i64 (x1332 + 1)), (by exact Kn.pick (ks := [0, 1, 5, 6, 27, 28]) hk rfl), hs, f1514, f1511, f900000, hc1515, (hlp1426 ▸ H)⟩
      · rw [b1516] at hk H
        replace H := bifT H
        refine x_if hk (b := true) rfl ?_
        refine (show Code.wpIn _ _ _ _ _ _ _ from ?_)
        refine x_seq ?_
        refine wpIn_region_lit ?_
        refine x_run tab hk (k := 1) (lv := []) (ks := [4]) (e' := [(4, .bool false)]) rfl trivial fun a hk => ?_
        refine wpListIn_nil ?_
        refine then_n ?_
        refine wpIn_ret ?_
        refine blk_r ?_
        refine then_r ?_
        refine then_r ?_
        refine blk_r ?_
        refine then_r ?_
        obtain rfl := Option.some.inj H
        exact x_retG hk (rs := [.tmp 4]) (vs := [.bool false]) rfl ⟨rfl, trivial⟩ ⟨cl w oi o [] (fun l_ => if l_ = 1 then LF else 0) o1509, rfl, hs.closeF (Lm := []) (Sh := []) hoa rfl (fun l_ => if l_ = 1 then LF else 0)⟩
  · rw [b9] at hk H
    replace H := bifT H
    refine x_if hk (b := true) rfl ?_
    refine (show Code.wpIn _ _ _ _ _ _ _ from ?_)
    refine x_seq ?_
    refine wpIn_region_lit ?_
    refine x_run tab hk (k := 1) (lv := []) (ks := [4]) (e' := [(4, .bool false)]) rfl trivial fun a hk => ?_
    refine wpListIn_nil ?_
    refine then_n ?_
    refine wpIn_ret ?_
    refine then_r ?_
    obtain rfl := Option.some.inj H
    exact x_retG hk (rs := [.tmp 4]) (vs := [.bool false]) rfl ⟨rfl, trivial⟩ ⟨cl w oi o [] (fun l_ => if l_ = 1 then LF else 0) o7, rfl, hs.closeF (Lm := []) (Sh := []) hoa rfl (fun l_ => if l_ = 1 then LF else 0)⟩

end Go.Proofs.Ythmlldkmgdjeoaa
