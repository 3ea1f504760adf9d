/- Walks, printed by an own program: the machine's calls compute the plain functions. -/
import Derived.Test.YthmdgjdgnfoloaaDoorW2
set_option linter.unusedVariables false
set_option linter.unusedSimpArgs false
namespace Go.Proofs.YthmdgjdgnfoloaaDoor
open Go Go.Proofs.XC
/-! tidewrack/tidewracklaw12.BookJoins -/
set_option maxHeartbeats 4000000 in
theorem tidewracklaw12_BookJoins_calls (K : Nat) (Ap0 : Option Addr) (cp0 : Nat) (p0 : List T26) (w : World) (o : Nat → Nat) (LF : Nat) (Lg0 : Nat) (hg0 : Ft (RdC ET111 (some ⟨0, 0, none⟩) glob0) w o Lg0) (Lg1 : Nat) (hg1 : Ft (RdC ET111 (some ⟨1, 0, none⟩) glob1) w o Lg1) (Lg2 : Nat) (hg2 : Ft (RdC (encInt .u32) (some ⟨2, 0, none⟩) glob2) w o Lg2) (Lp0 : Nat) (Fp0 : Nat) (hp0 : NRd dT26 Ap0 p0 w o Lp0 Fp0) (hcp0 : (p0).length ≤ cp0) (hd0 : ([LF] : List Nat).Nodup) (hd1 : Lg0 ∉ [LF]) (hd2 : Lg1 ∉ [LF]) (hd3 : Lg2 ∉ [LF]) (hd4 : Lp0 ∉ [LF]) (hd5 : Fp0 ∉ [LF]) (r : Bool) (H : tidewracklaw12_BookJoins K p0 = some r) :
    Calls Tryd.prog 4 #[.slice Ap0 (p0).length cp0] w (Ret fun v_ w' => ∃ o' : Nat → Nat, v_ = .bool r ∧ St [] w o w' o') := by
  refine x_enter (vs := [.slice Ap0 (p0).length cp0]) Tryd.func4 rfl rfl rfl fun a hk => ?_
  obtain ⟨oi, hs0, h0, h1, hob, hoz, hoa⟩ := St.startM2 w o (m := 1) hd0 rfl
  have hs := hs0 []
  have fg0 := h0 _ _ hd1 hg0
  have fg1 := h0 _ _ hd2 hg1
  have fg2 := h0 _ _ hd3 hg2
  have f900000 := hp0.conv (fun P_ => h0 P_ _ hd4) (fun P_ => h0 P_ _ hd5)
  clear h0 h1 hs0
  rw [tidewracklaw12_BookJoins] at H
  refine x_seq ?_
  refine wpIn_region_lit ?_
  refine x_run tab hk (k := 1) (lv := []) (ks := [0]) (e' := [(0, .slice Ap0 (p0).length cp0)]) rfl trivial fun a hk => ?_
  refine wpListIn_nil ?_
  refine then_n ?_
  refine x_seq ?_
  refine x_seq ?_
  refine wpIn_region_lit ?_
  refine x_op hk rfl ?_
  obtain ⟨t4, hc5, H⟩ := bindS H
  refine op_call hk ent_9 (vs := []) rfl (tidewracklaw12_awake_calls K  _ oi 0 fg0 0 fg1 0 fg2   _ hc5) ?_
  rintro _ w6 ⟨o7, rfl, st8⟩
  replace f900000 := f900000.st st8 (by decide)
  replace fg0 := fg0.st st8 (by decide)
  replace fg1 := fg1.st st8 (by decide)
  replace fg2 := fg2.st st8 (by decide)
  replace hs := hs.locQ st8 hob rfl
  have hk := hk.put 12 (.bool t4) rfl
  refine x_run tab hk (k := 1) (lv := []) (ks := [0, 13]) (e' := [(0, .slice Ap0 (p0).length cp0), (13, .bool (!t4))]) rfl trivial fun a hk => ?_
  refine wpListIn_nil ?_
  refine then_n ?_
  cases b9 : (!t4)
  · rw [b9] at hk H
    replace H := bifF H
    refine x_if hk (b := false) rfl ?_
    refine (show Code.wpIn _ _ _ _ _ _ _ from ?_)
    refine wpIn_skip ?_
    refine then_n ?_
    refine x_seq ?_
    refine wpIn_region_lit ?_
    refine x_run tab hk (k := 1) (lv := []) (ks := [14]) (e' := [(14, .slice Ap0 (p0).length cp0)]) rfl trivial fun a hk => ?_
    refine x_op hk rfl ?_
    obtain ⟨t13, hc14, H⟩ := bindS H
    refine op_call hk ent_19 (vs := [.slice Ap0 (p0).length cp0, .int .i64 20]) rfl (tidewracklaw12_Rows_calls K Ap0 cp0 p0 20 _ o7 1 _ _ f900000 hcp0 (by decide) (by decide) (by decide) 2  _ hc14) ?_
    rintro _ w15 ⟨o16, A18, c19, rfl, st17, f20, hc21⟩
    replace f900000 := f900000.st st17 (by decide)
    replace fg0 := fg0.st st17 (by decide)
    replace fg1 := fg1.st st17 (by decide)
    replace fg2 := fg2.st st17 (by decide)
    replace hs := hs.locQ st17 hob rfl
    have hk := hk.put 15 (.slice A18 (t13).length c19) rfl
    refine x_run tab hk (k := 1) (lv := []) (ks := [0]) (e' := [(0, .slice A18 (t13).length c19)]) rfl trivial fun a hk => ?_
    refine wpListIn_nil ?_
    refine then_n ?_
    refine x_seq ?_
    refine wpIn_region_lit ?_
    refine x_op hk rfl ?_
    obtain ⟨t25, hc26, H⟩ := bindS H
    refine op_call hk ent_10 (vs := []) rfl (book_New_calls  _ o16 1 (by decide) 3 4 5 6  _ hc26) ?_
    rintro _ w27 ⟨o28, bx30, A32, c33, A36, c37, A40, c41, rfl, st29, f31, f34, hc35, f38, hc39, f42, hc43⟩
    replace f20 := f20.st st29 (by decide)
    replace fg0 := fg0.st st29 (by decide)
    replace fg1 := fg1.st st29 (by decide)
    replace fg2 := fg2.st st29 (by decide)
    replace hs := hs.locQ st29 hob rfl
    have hk := hk.put 16 (.pointer (some ⟨bx30, 0, none⟩)) rfl
    refine x_run tab hk (k := 1) (lv := []) (ks := [0, 3]) (e' := [(0, .slice A18 (t13).length c19), (3, .pointer (some ⟨bx30, 0, none⟩))]) rfl trivial fun a hk => ?_
    refine wpListIn_nil ?_
    refine then_n ?_
    refine x_seq ?_
    refine x_seq ?_
    refine wpIn_region_lit ?_
    refine x_run tab hk (k := 2) (lv := []) (ks := [0, 3, 18]) (e' := [(0, .slice A18 (t13).length c19), (3, .pointer (some ⟨bx30, 0, none⟩)), (18, .bool false)]) rfl trivial fun a hk => ?_
    refine wpListIn_nil ?_
    refine then_n ?_
    refine x_if hk (b := false) rfl ?_
    refine (show Code.wpIn _ _ _ _ _ _ _ from ?_)
    refine wpIn_skip ?_
    refine then_n ?_
    refine x_seq ?_
    refine wpIn_region_lit ?_
    refine x_run tab hk (k := 1) (lv := []) (ks := [0, 3, 4]) (e' := [(0, .slice A18 (t13).length c19), (3, .pointer (some ⟨bx30, 0, none⟩)), (4, .slice none 0 0)]) rfl trivial fun a hk => ?_
    refine wpListIn_nil ?_
    refine then_n ?_
    refine x_mid (fun a_ w_ => ∃ o287 : Nat → Nat, ∃ A288 : Option Addr, ∃ c289 : Nat, ∃ l290 : List (List T49), ∃ A293 : Option Addr, ∃ c294 : Nat, ∃ l295 : List Int, ∃ A298 : Option Addr, ∃ c299 : Nat, ∃ l300 : List T49, ∃ A303 : Option Addr, ∃ c304 : Nat, ∃ l305 : List T49, Kn 73 a_ [(3, .pointer (some ⟨bx30, 0, none⟩)), (4, .slice A303 (l305).length c304)] ∧ St [] w oi w_ o287 ∧ NOwn (dRows ET49) 40 A288 c289 l290 w_ o287 29 1 ∧ Ft (Own (encInt .i64) 3 (.slice A293 (l295).length c294) l295) w_ o287 30 ∧ Ft (Own ET49 50 (.slice A298 (l300).length c299) l300) w_ o287 31 ∧ Ft (Own ET49 50 (.slice A303 (l305).length c304) l305) w_ o287 33 ∧ Ft (Bx bx30 76 [.slice A288 (l290).length c289, .slice A293 (l295).length c294, .slice A298 (l300).length c299]) w_ o287 32 ∧ Ft (RdC ET111 (some ⟨0, 0, none⟩) glob0) w_ o287 0 ∧ Ft (RdC ET111 (some ⟨1, 0, none⟩) glob1) w_ o287 0 ∧ Ft (RdC (encInt .u32) (some ⟨2, 0, none⟩) glob2) w_ o287 0 ∧ (l290).length ≤ c289 ∧ (l295).length ≤ c294 ∧ (l300).length ≤ c299 ∧ (l305).length ≤ c304 ∧ tidewracklaw12_BookJoins_j1 K l290 l295 l300 l305 = some r) ?_ ?_
    rotate_left
    · rintro a w308 ⟨o287, A288, c289, l290, A293, c294, l295, A298, c299, l300, A303, c304, l305, hk, hs, f291, f296, f301, f306, f31, fg0, fg1, fg2, hc292, hc297, hc302, hc307, H⟩
      rw [tidewracklaw12_BookJoins_j1] at H
      refine x_seq ?_
      refine wpIn_region_lit ?_
      refine x_run tab hk (k := 1) (lv := []) (ks := [3, 4, 7]) (e' := [(3, .pointer (some ⟨bx30, 0, none⟩)), (4, .slice A303 (l305).length c304), (7, .slice none 0 0)]) rfl trivial fun a hk => ?_
      refine wpListIn_nil ?_
      refine then_n ?_
      refine x_mid (fun a_ w_ => ∃ o404 : Nat → Nat, ∃ A405 : Option Addr, ∃ c406 : Nat, ∃ l407 : List T49, Kn 73 a_ [(3, .pointer (some ⟨bx30, 0, none⟩)), (4, .slice A303 (l305).length c304), (7, .slice A405 (l407).length c406)] ∧ St [] w oi w_ o404 ∧ NOwn (dRows ET49) 40 A288 c289 l290 w_ o404 50 1 ∧ Ft (Own (encInt .i64) 3 (.slice A293 (l295).length c294) l295) w_ o404 51 ∧ Ft (Own ET49 50 (.slice A298 (l300).length c299) l300) w_ o404 52 ∧ Ft (Own ET49 50 (.slice A303 (l305).length c304) l305) w_ o404 54 ∧ Ft (Bx bx30 76 [.slice A288 (l290).length c289, .slice A293 (l295).length c294, .slice A298 (l300).length c299]) w_ o404 53 ∧ Ft (Own ET49 50 (.slice A405 (l407).length c406) l407) w_ o404 55 ∧ Ft (RdC ET111 (some ⟨0, 0, none⟩) glob0) w_ o404 0 ∧ Ft (RdC ET111 (some ⟨1, 0, none⟩) glob1) w_ o404 0 ∧ Ft (RdC (encInt .u32) (some ⟨2, 0, none⟩) glob2) w_ o404 0 ∧ (l407).length ≤ c406 ∧ tidewracklaw12_BookJoins_j2 K l290 l295 l300 l305 l407 = some r) ?_ ?_
      rotate_left
      · rintro a w410 ⟨o404, A405, c406, l407, hk, hs, f291, f296, f301, f306, f31, f408, fg0, fg1, fg2, hc409, H⟩
        rw [tidewracklaw12_BookJoins_j2] at H
        refine x_seq ?_
        refine wpIn_region_lit ?_
        refine x_run tab hk (k := 2) (lv := []) (ks := [4, 49, 50]) (e' := [(4, .slice A303 (l305).length c304), (49, .slice A405 (l407).length c406), (50, .pointer (some ⟨bx30, 0, none⟩))]) rfl trivial fun a hk => ?_
        refine x_op hk rfl ?_
        obtain ⟨t414, hc415, H⟩ := bindS H
        refine op_call hk ent_15 (vs := [.pointer (some ⟨bx30, 0, none⟩)]) rfl (book_Book_Begun_calls bx30 A288 c289 A293 c294 A298 c299 (⟨l290, l295, l300⟩ : T75) _ o404 1 53 f31 _ f291.rd hc292 _ (f296.imp fun _ h_ => Own.rd h_) hc297 _ (f301.imp fun _ h_ => Own.rd h_) hc302 (by decide) (by decide) (by decide) (by decide) (by decide) 56  _ hc415) ?_
        rintro _ w416 ⟨o417, A419, c420, rfl, st418, f421, hc422⟩
        replace f291 := f291.st st418 (by decide)
        replace f296 := f296.st st418 (by decide)
        replace f301 := f301.st st418 (by decide)
        replace f306 := f306.st st418 (by decide)
        replace f31 := f31.st st418 (by decide)
        replace f408 := f408.st st418 (by decide)
        replace fg0 := fg0.st st418 (by decide)
        replace fg1 := fg1.st st418 (by decide)
        replace fg2 := fg2.st st418 (by decide)
        replace hs := hs.locQ st418 hob rfl
        have hk := hk.put 51 (.slice A419 (t414).length c420) rfl
        refine x_op hk rfl ?_
        obtain ⟨q426, H⟩ := ifS H
        refine op_append (o := o417) (E := ET49) (xs := l407) (ys := t414) tab hk rfl rfl rfl rfl rfl rfl rfl f408 (Own.rd f421.now) q426 fun A427 c428 w423 o424 st425 f429 hc430 => ?_
        replace f291 := f291.st st425 (by decide)
        replace f296 := f296.st st425 (by decide)
        replace f301 := f301.st st425 (by decide)
        replace f306 := f306.st st425 (by decide)
        replace f31 := f31.st st425 (by decide)
        replace f421 := f421.st st425 (by decide)
        replace fg0 := fg0.st st425 (by decide)
        replace fg1 := fg1.st st425 (by decide)
        replace fg2 := fg2.st st425 (by decide)
        replace hs := hs.locQ st425 hob rfl
        have hk := hk.put 52 (.slice A427 ((l407 ++ t414)).length c428) rfl
        refine x_run tab hk (k := 1) (lv := []) (ks := [4, 7]) (e' := [(4, .slice A303 (l305).length c304), (7, .slice A427 ((l407 ++ t414)).length c428)]) rfl trivial fun a hk => ?_
        refine wpListIn_nil ?_
        refine then_n ?_
        refine x_seq ?_
        refine x_seq ?_
        refine wpIn_region_lit ?_
        refine x_run tab hk (k := 5) (lv := []) (ks := [4, 7, 57]) (e' := [(4, .slice A303 (l305).length c304), (7, .slice A427 ((l407 ++ t414)).length c428), (57, .bool ((((l407 ++ t414)).length : Int) != ((l305).length : Int)))]) rfl trivial fun a hk => ?_
        refine wpListIn_nil ?_
        refine then_n ?_
        cases b431 : ((((l407 ++ t414)).length : Int) != ((l305).length : Int))
        · rw [b431] at hk H
          replace H := bifF H
          refine x_if hk (b := false) rfl ?_
          refine (show Code.wpIn _ _ _ _ _ _ _ from ?_)
          refine wpIn_skip ?_
          refine then_n ?_
          refine x_mid (fun a_ w_ => ∃ o492 : Nat → Nat, Kn 73 a_ [] ∧ St [] w oi w_ o492 ∧ Ft (RdC ET111 (some ⟨0, 0, none⟩) glob0) w_ o492 0 ∧ Ft (RdC ET111 (some ⟨1, 0, none⟩) glob1) w_ o492 0 ∧ Ft (RdC (encInt .u32) (some ⟨2, 0, none⟩) glob2) w_ o492 0 ∧ tidewracklaw12_BookJoins_j3 = some r) ?_ ?_
          rotate_left
          · rintro a w493 ⟨o492, hk, hs, fg0, fg1, fg2, H⟩
            rw [tidewracklaw12_BookJoins_j3] at H
            refine x_seq ?_
            refine wpIn_region_lit ?_
            refine x_run tab hk (k := 1) (lv := []) (ks := [2]) (e' := [(2, .bool true)]) rfl trivial fun a hk => ?_
            refine wpListIn_nil ?_
            refine then_n ?_
            refine wpIn_ret ?_
            obtain rfl := Option.some.inj H
            exact x_retG hk (rs := [.tmp 2]) (vs := [.bool true]) rfl ⟨rfl, trivial⟩ ⟨fun b_ => if b_ < w.heap.size then o b_ else (fun l_ => if l_ = 1 then LF else 0) (o492 b_), rfl, hs.closeF (Lm := []) (Sh := []) hoa rfl (fun l_ => if l_ = 1 then LF else 0)⟩
          refine x_seq ?_
          refine wpIn_region_lit ?_
          refine x_run tab hk (k := 3) (lv := []) (ks := [4, 7, 59, 60]) (e' := [(4, .slice A303 (l305).length c304), (7, .slice A427 ((l407 ++ t414)).length c428), (59, .int .i64 ((l305).length : Int)), (60, .int .i64 0)]) rfl trivial fun a hk => ?_
          refine wpListIn_nil ?_
          refine then_n ?_
          refine wpIn_block ?_
          refine x_loop (fun j_ a_ w_ => ∃ o513 : Nat → Nat, ∃ x514 : Int, Kn 73 a_ [(4, .slice A303 (l305).length c304), (7, .slice A427 ((l407 ++ t414)).length c428), (59, .int .i64 ((l305).length : Int)), (60, .int .i64 x514)] ∧ St [] w oi w_ o513 ∧ Ft (Own ET49 50 (.slice A303 (l305).length c304) l305) w_ o513 63 ∧ Ft (Own ET49 50 (.slice A427 ((l407 ++ t414)).length c428) (l407 ++ t414)) w_ o513 64 ∧ Ft (RdC ET111 (some ⟨0, 0, none⟩) glob0) w_ o513 0 ∧ Ft (RdC ET111 (some ⟨1, 0, none⟩) glob1) w_ o513 0 ∧ Ft (RdC (encInt .u32) (some ⟨2, 0, none⟩) glob2) w_ o513 0 ∧ tidewracklaw12_BookJoins_l4 l305 l407 t414 j_ x514 = some r) (k := K) ⟨(fun b_ => (fun l_ => if l_ = 54 then 63 else if l_ = 55 then 64 else l_) (o424 b_)), 0, (by exact Kn.pick (ks := [4, 7, 59, 60]) hk rfl), (hs.relabM hob (fun l_ => if l_ = 54 then 63 else if l_ = 55 then 64 else l_) (by decide)), (f306.relab (fun l_ => if l_ = 54 then 63 else if l_ = 55 then 64 else l_) rfl), (f429.relab (fun l_ => if l_ = 54 then 63 else if l_ = 55 then 64 else l_) rfl), (fg0.relab (fun l_ => if l_ = 54 then 63 else if l_ = 55 then 64 else l_) rfl), (fg1.relab (fun l_ => if l_ = 54 then 63 else if l_ = 55 then 64 else l_) rfl), (fg2.relab (fun l_ => if l_ = 54 then 63 else if l_ = 55 then 64 else l_) rfl), H⟩ (by rintro _ _ ⟨_, _, _, _, _, _, _, _, _, H_⟩; exact absurd (show (none : Option Bool) = some r from H_) (by simp)) ?_
          rintro k532 a w531 ⟨o513, x514, hk, hs, f306, f429, fg0, fg1, fg2, H⟩
          rw [tidewracklaw12_BookJoins_l4] at H
          obtain ⟨lp533, hlp534⟩ : ∃ lp_, lp_ = tidewracklaw12_BookJoins_l4 l305 l407 t414 k532 := ⟨_, rfl⟩
          rw [← hlp534] at H
          refine x_seq ?_
          refine wpIn_region_lit ?_
          refine x_run tab hk (k := 1) (lv := []) (ks := [4, 7, 59, 60, 61]) (e' := [(4, .slice A303 (l305).length c304), (7, .slice A427 ((l407 ++ t414)).length c428), (59, .int .i64 ((l305).length : Int)), (60, .int .i64 x514), (61, .bool (decide (x514 < ((l305).length : Int))))]) rfl trivial fun a hk => ?_
          refine wpListIn_nil ?_
          refine then_n ?_
          refine x_seq ?_
          cases b535 : (decide (x514 < ((l305).length : Int)))
          · rw [b535] at hk H
            replace H := bifF H
            refine x_if hk (b := false) rfl ?_
            refine (show Code.wpIn _ _ _ _ _ _ _ from ?_)
            refine wpIn_exit ?_
            refine then_x ?_
            refine then_x ?_
            refine blk_x ?_
            refine then_n ?_
            exact ⟨o513, (by exact Kn.pick (ks := []) hk rfl), hs, fg0, fg1, fg2, H⟩
          · rw [b535] at hk H
            replace H := bifT H
            refine x_if hk (b := true) rfl ?_
            refine (show Code.wpIn _ _ _ _ _ _ _ from ?_)
            refine wpIn_skip ?_
            refine then_n ?_
            refine x_seq ?_
            refine wpIn_block ?_
            refine x_seq ?_
            refine wpIn_region_lit ?_
            refine x_run tab hk (k := 2) (lv := []) (ks := [4, 7, 11, 59, 60]) (e' := [(4, .slice A303 (l305).length c304), (7, .slice A427 ((l407 ++ t414)).length c428), (11, .int .i64 x514), (59, .int .i64 ((l305).length : Int)), (60, .int .i64 x514)]) rfl trivial fun a hk => ?_
            refine wpListIn_nil ?_
            refine then_n ?_
            refine x_seq ?_
            refine xd_begin (o := o513) (fun W_ => (Own ET49 50 (.slice A303 (l305).length c304) l305) W_ ∧ (Own ET49 50 (.slice A427 ((l407 ++ t414)).length c428) (l407 ++ t414)) W_ ∧ True) mixed rfl rfl fun w544 st545 => ?_
            replace f306 := f306.st st545 (by decide)
            replace f429 := f429.st st545 (by decide)
            replace fg0 := fg0.st st545 (by decide)
            replace fg1 := fg1.st st545 (by decide)
            replace fg2 := fg2.st st545 (by decide)
            replace hs := hs.locQ st545 hob rfl
            obtain ⟨q546, H⟩ := ifS H
            obtain ⟨ad547, hAad547⟩ := RdC.addr (Own.rd f429.now) q546
            have hk_C := hk
            have f306_C := f306
            have f429_C := f429
            have fg0_C := fg0
            have fg1_C := fg1
            have fg2_C := fg2
            subst hAad547
            have hk := hk_C
            clear hk_C
            have f306 := f306_C
            clear f306_C
            have f429 := f429_C
            clear f429_C
            have fg0 := fg0_C
            clear fg0_C
            have fg1 := fg1_C
            clear fg1_C
            have fg2 := fg2_C
            clear fg2_C
            obtain ⟨q548, H⟩ := ifS H
            obtain ⟨ad549, hAad549⟩ := RdC.addr (Own.rd f306.now) q548
            have hk_C := hk
            have f306_C := f306
            have f429_C := f429
            have fg0_C := fg0
            have fg1_C := fg1
            have fg2_C := fg2
            subst hAad549
            have hk := hk_C
            clear hk_C
            have f306 := f306_C
            clear f306_C
            have f429 := f429_C
            clear f429_C
            have fg0 := fg0_C
            clear fg0_C
            have fg1 := fg1_C
            clear fg1_C
            have fg2 := fg2_C
            clear fg2_C
            refine xd_take tab hk (k := 0) (is := [0, 1, 2, 3, 4, 5, 6, 7, 8]) (ls' := #[true, true, true, true, true, true, true, true, true]) (lv := [.agg #[.int .i32 ((rdD zT49 (l407 ++ t414) x514).Rune), .int .i64 ((rdD zT49 (l407 ++ t414) x514).Style)], .agg #[.int .i32 ((rdD zT49 l305 x514).Rune), .int .i64 ((rdD zT49 l305 x514).Style)], .bool (!(eqT49 (rdD zT49 (l407 ++ t414) x514) (rdD zT49 l305 x514)))]) (ks := [4, 7, 59, 60, 71]) (e' := [(4, .slice (some ad549) (l305).length c304), (7, .slice (some ad547) ((l407 ++ t414)).length c428), (59, .int .i64 ((l305).length : Int)), (60, .int .i64 x514), (71, .bool (!(eqT49 (rdD zT49 (l407 ++ t414) x514) (rdD zT49 l305 x514))))]) (by kernel_rfl) rfl rfl (by kernel_rfl) (np_then (np_blk (np_then (np_then (np_blk (np_then np_body)))))) ⟨f306.now, f429.now, trivial⟩ (fun W_ hS => ⟨q546, (load_elem (E := ET49) (i := x514) (dx := zT49) tab rfl rfl (Own.rd hS.2.1) q546), q548, (load_elem (E := ET49) (i := x514) (dx := zT49) tab rfl rfl (Own.rd hS.1) q548), (ask_neq tab stood rfl rfl rfl rfl), trivial⟩) fun a hk => ?_
            refine xd_done (by kernel_rfl) ?_
            refine then_n ?_
            cases b550 : (!(eqT49 (rdD zT49 (l407 ++ t414) x514) (rdD zT49 l305 x514)))
            · rw [b550] at hk H
              replace H := bifF H
              refine x_if hk (b := false) rfl ?_
              refine (show Code.wpIn _ _ _ _ _ _ _ from ?_)
              refine wpIn_skip ?_
              refine blk_n ?_
              refine then_n ?_
              refine wpIn_region_lit ?_
              refine x_run tab hk (k := 2) (lv := []) (ks := [4, 7, 59, 60]) (e' := [(4, .slice (some ad549) (l305).length c304), (7, .slice (some ad547) ((l407 ++ t414)).length c428), (59, .int .i64 ((l305).length : Int)), (60, .int .i64 (IntKind.wrap .i64 (x514 + 1)))]) rfl trivial fun a hk => ?_
              refine wpListIn_nil ?_
              refine then_n ?_
              exact ⟨k532, Nat.le_refl _, o513, (IntKind.wrap .i64 (x514 + 1)), (by exact Kn.pick (ks := [4, 7, 59, 60]) hk rfl), hs, f306, f429, fg0, fg1, fg2, (hlp534 ▸ H)⟩
            · rw [b550] at hk H
              replace H := bifT H
              refine x_if hk (b := true) rfl ?_
              refine (show Code.wpIn _ _ _ _ _ _ _ from ?_)
              refine x_seq ?_
              refine wpIn_region_lit ?_
              refine x_run tab hk (k := 1) (lv := []) (ks := [2]) (e' := [(2, .bool false)]) rfl trivial fun a hk => ?_
              refine wpListIn_nil ?_
              refine then_n ?_
              refine wpIn_ret ?_
              refine blk_r ?_
              refine then_r ?_
              refine then_r ?_
              refine blk_r ?_
              refine then_r ?_
              obtain rfl := Option.some.inj H
              exact x_retG hk (rs := [.tmp 2]) (vs := [.bool false]) rfl ⟨rfl, trivial⟩ ⟨fun b_ => if b_ < w.heap.size then o b_ else (fun l_ => if l_ = 1 then LF else 0) (o513 b_), rfl, hs.closeF (Lm := []) (Sh := []) hoa rfl (fun l_ => if l_ = 1 then LF else 0)⟩
        · rw [b431] at hk H
          replace H := bifT H
          refine x_if hk (b := true) rfl ?_
          refine (show Code.wpIn _ _ _ _ _ _ _ from ?_)
          refine x_seq ?_
          refine wpIn_region_lit ?_
          refine x_run tab hk (k := 1) (lv := []) (ks := [2]) (e' := [(2, .bool false)]) rfl trivial fun a hk => ?_
          refine wpListIn_nil ?_
          refine then_n ?_
          refine wpIn_ret ?_
          refine then_r ?_
          obtain rfl := Option.some.inj H
          exact x_retG hk (rs := [.tmp 2]) (vs := [.bool false]) rfl ⟨rfl, trivial⟩ ⟨fun b_ => if b_ < w.heap.size then o b_ else (fun l_ => if l_ = 1 then LF else 0) (o424 b_), rfl, hs.closeF (Lm := []) (Sh := []) hoa rfl (fun l_ => if l_ = 1 then LF else 0)⟩
      refine x_seq ?_
      refine wpIn_region_lit ?_
      refine x_run tab hk (k := 1) (lv := []) (ks := [3, 4, 7, 34]) (e' := [(3, .pointer (some ⟨bx30, 0, none⟩)), (4, .slice A303 (l305).length c304), (7, .slice none 0 0), (34, .pointer (some ⟨bx30, 0, none⟩))]) rfl trivial fun a hk => ?_
      refine x_op hk rfl ?_
      obtain ⟨t554, hc555, H⟩ := bindS H
      refine op_call hk ent_16 (vs := [.pointer (some ⟨bx30, 0, none⟩)]) rfl (book_Book_Len_calls bx30 A288 c289 A293 c294 A298 c299 (⟨l290, l295, l300⟩ : T75) _ o287 1 32 f31 _ f291.rd hc292 _ (f296.imp fun _ h_ => Own.rd h_) hc297 _ (f301.imp fun _ h_ => Own.rd h_) hc302 (by decide) (by decide) (by decide) (by decide) (by decide)   _ hc555) ?_
      rintro _ w556 ⟨o557, rfl, st558⟩
      replace f291 := f291.st st558 (by decide)
      replace f296 := f296.st st558 (by decide)
      replace f301 := f301.st st558 (by decide)
      replace f306 := f306.st st558 (by decide)
      replace f31 := f31.st st558 (by decide)
      replace fg0 := fg0.st st558 (by decide)
      replace fg1 := fg1.st st558 (by decide)
      replace fg2 := fg2.st st558 (by decide)
      replace hs := hs.locQ st558 hob rfl
      have hk := hk.put 35 (.int .i64 t554) rfl
      refine x_run tab hk (k := 1) (lv := []) (ks := [3, 4, 7, 35, 36]) (e' := [(3, .pointer (some ⟨bx30, 0, none⟩)), (4, .slice A303 (l305).length c304), (7, .slice none 0 0), (35, .int .i64 t554), (36, .int .i64 0)]) rfl trivial fun a hk => ?_
      refine wpListIn_nil ?_
      refine then_n ?_
      refine wpIn_block ?_
      refine x_loop (fun j_ a_ w_ => ∃ o583 : Nat → Nat, ∃ A584 : Option Addr, ∃ c585 : Nat, ∃ l586 : List T49, ∃ x589 : Int, Kn 73 a_ [(3, .pointer (some ⟨bx30, 0, none⟩)), (4, .slice A303 (l305).length c304), (7, .slice A584 (l586).length c585), (35, .int .i64 t554), (36, .int .i64 x589)] ∧ St [] w oi w_ o583 ∧ NOwn (dRows ET49) 40 A288 c289 l290 w_ o583 72 1 ∧ Ft (Own (encInt .i64) 3 (.slice A293 (l295).length c294) l295) w_ o583 73 ∧ Ft (Own ET49 50 (.slice A298 (l300).length c299) l300) w_ o583 74 ∧ Ft (Own ET49 50 (.slice A303 (l305).length c304) l305) w_ o583 76 ∧ Ft (Bx bx30 76 [.slice A288 (l290).length c289, .slice A293 (l295).length c294, .slice A298 (l300).length c299]) w_ o583 75 ∧ Ft (Own ET49 50 (.slice A584 (l586).length c585) l586) w_ o583 77 ∧ Ft (RdC ET111 (some ⟨0, 0, none⟩) glob0) w_ o583 0 ∧ Ft (RdC ET111 (some ⟨1, 0, none⟩) glob1) w_ o583 0 ∧ Ft (RdC (encInt .u32) (some ⟨2, 0, none⟩) glob2) w_ o583 0 ∧ (l586).length ≤ c585 ∧ tidewracklaw12_BookJoins_l5 K l290 l295 l300 l305 t554 j_ l586 x589 = some r) (k := K) ⟨(fun b_ => (fun l_ => if l_ = 29 then 72 else if l_ = 30 then 73 else if l_ = 31 then 74 else if l_ = 32 then 75 else if l_ = 33 then 76 else l_) (o557 b_)), none, 0, ([] : List T49), 0, (by exact Kn.pick (ks := [3, 4, 7, 35, 36]) hk rfl), (hs.relabM hob (fun l_ => if l_ = 29 then 72 else if l_ = 30 then 73 else if l_ = 31 then 74 else if l_ = 32 then 75 else if l_ = 33 then 76 else l_) (by decide)), (f291.relab (fun l_ => if l_ = 29 then 72 else if l_ = 30 then 73 else if l_ = 31 then 74 else if l_ = 32 then 75 else if l_ = 33 then 76 else l_) rfl), (f296.relab (fun l_ => if l_ = 29 then 72 else if l_ = 30 then 73 else if l_ = 31 then 74 else if l_ = 32 then 75 else if l_ = 33 then 76 else l_) rfl), (f301.relab (fun l_ => if l_ = 29 then 72 else if l_ = 30 then 73 else if l_ = 31 then 74 else if l_ = 32 then 75 else if l_ = 33 then 76 else l_) rfl), (f306.relab (fun l_ => if l_ = 29 then 72 else if l_ = 30 then 73 else if l_ = 31 then 74 else if l_ = 32 then 75 else if l_ = 33 then 76 else l_) rfl), (f31.relab (fun l_ => if l_ = 29 then 72 else if l_ = 30 then 73 else if l_ = 31 then 74 else if l_ = 32 then 75 else if l_ = 33 then 76 else l_) rfl), (Ft.of_all (fun _ => Own.nil _ _ _) _ _ _), (fg0.relab (fun l_ => if l_ = 29 then 72 else if l_ = 30 then 73 else if l_ = 31 then 74 else if l_ = 32 then 75 else if l_ = 33 then 76 else l_) rfl), (fg1.relab (fun l_ => if l_ = 29 then 72 else if l_ = 30 then 73 else if l_ = 31 then 74 else if l_ = 32 then 75 else if l_ = 33 then 76 else l_) rfl), (fg2.relab (fun l_ => if l_ = 29 then 72 else if l_ = 30 then 73 else if l_ = 31 then 74 else if l_ = 32 then 75 else if l_ = 33 then 76 else l_) rfl), (by simp), H⟩ (by rintro _ _ ⟨_, _, _, _, _, _, _, _, _, _, _, _, _, _, _, _, _, H_⟩; exact absurd (show (none : Option Bool) = some r from H_) (by simp)) ?_
      rintro k612 a w611 ⟨o583, A584, c585, l586, x589, hk, hs, f291, f296, f301, f306, f31, f587, fg0, fg1, fg2, hc588, H⟩
      rw [tidewracklaw12_BookJoins_l5] at H
      obtain ⟨lp613, hlp614⟩ : ∃ lp_, lp_ = tidewracklaw12_BookJoins_l5 K l290 l295 l300 l305 t554 k612 := ⟨_, rfl⟩
      rw [← hlp614] at H
      refine x_seq ?_
      refine wpIn_region_lit ?_
      refine x_run tab hk (k := 1) (lv := []) (ks := [3, 4, 7, 35, 36, 37]) (e' := [(3, .pointer (some ⟨bx30, 0, none⟩)), (4, .slice A303 (l305).length c304), (7, .slice A584 (l586).length c585), (35, .int .i64 t554), (36, .int .i64 x589), (37, .bool (decide (x589 < t554)))]) rfl trivial fun a hk => ?_
      refine wpListIn_nil ?_
      refine then_n ?_
      refine x_seq ?_
      cases b615 : (decide (x589 < t554))
      · rw [b615] at hk H
        replace H := bifF H
        refine x_if hk (b := false) rfl ?_
        refine (show Code.wpIn _ _ _ _ _ _ _ from ?_)
        refine wpIn_exit ?_
        refine then_x ?_
        refine then_x ?_
        refine blk_x ?_
        refine then_n ?_
        exact ⟨(fun b_ => (fun l_ => if l_ = 72 then 50 else if l_ = 73 then 51 else if l_ = 74 then 52 else if l_ = 75 then 53 else if l_ = 76 then 54 else if l_ = 77 then 55 else l_) (o583 b_)), A584, c585, l586, (by exact Kn.pick (ks := [3, 4, 7]) hk rfl), (hs.relabM hob (fun l_ => if l_ = 72 then 50 else if l_ = 73 then 51 else if l_ = 74 then 52 else if l_ = 75 then 53 else if l_ = 76 then 54 else if l_ = 77 then 55 else l_) (by decide)), (f291.relab (fun l_ => if l_ = 72 then 50 else if l_ = 73 then 51 else if l_ = 74 then 52 else if l_ = 75 then 53 else if l_ = 76 then 54 else if l_ = 77 then 55 else l_) rfl), (f296.relab (fun l_ => if l_ = 72 then 50 else if l_ = 73 then 51 else if l_ = 74 then 52 else if l_ = 75 then 53 else if l_ = 76 then 54 else if l_ = 77 then 55 else l_) rfl), (f301.relab (fun l_ => if l_ = 72 then 50 else if l_ = 73 then 51 else if l_ = 74 then 52 else if l_ = 75 then 53 else if l_ = 76 then 54 else if l_ = 77 then 55 else l_) rfl), (f306.relab (fun l_ => if l_ = 72 then 50 else if l_ = 73 then 51 else if l_ = 74 then 52 else if l_ = 75 then 53 else if l_ = 76 then 54 else if l_ = 77 then 55 else l_) rfl), (f31.relab (fun l_ => if l_ = 72 then 50 else if l_ = 73 then 51 else if l_ = 74 then 52 else if l_ = 75 then 53 else if l_ = 76 then 54 else if l_ = 77 then 55 else l_) rfl), (f587.relab (fun l_ => if l_ = 72 then 50 else if l_ = 73 then 51 else if l_ = 74 then 52 else if l_ = 75 then 53 else if l_ = 76 then 54 else if l_ = 77 then 55 else l_) rfl), (fg0.relab (fun l_ => if l_ = 72 then 50 else if l_ = 73 then 51 else if l_ = 74 then 52 else if l_ = 75 then 53 else if l_ = 76 then 54 else if l_ = 77 then 55 else l_) rfl), (fg1.relab (fun l_ => if l_ = 72 then 50 else if l_ = 73 then 51 else if l_ = 74 then 52 else if l_ = 75 then 53 else if l_ = 76 then 54 else if l_ = 77 then 55 else l_) rfl), (fg2.relab (fun l_ => if l_ = 72 then 50 else if l_ = 73 then 51 else if l_ = 74 then 52 else if l_ = 75 then 53 else if l_ = 76 then 54 else if l_ = 77 then 55 else l_) rfl), hc588, H⟩
      · rw [b615] at hk H
        replace H := bifT H
        refine x_if hk (b := true) rfl ?_
        refine (show Code.wpIn _ _ _ _ _ _ _ from ?_)
        refine wpIn_skip ?_
        refine then_n ?_
        refine x_seq ?_
        refine wpIn_block ?_
        refine x_seq ?_
        refine wpIn_region_lit ?_
        refine x_run tab hk (k := 2) (lv := []) (ks := [3, 4, 7, 8, 35, 36]) (e' := [(3, .pointer (some ⟨bx30, 0, none⟩)), (4, .slice A303 (l305).length c304), (7, .slice A584 (l586).length c585), (8, .int .i64 x589), (35, .int .i64 t554), (36, .int .i64 x589)]) rfl trivial fun a hk => ?_
        refine wpListIn_nil ?_
        refine then_n ?_
        refine x_seq ?_
        refine wpIn_region_lit ?_
        refine x_run tab hk (k := 2) (lv := []) (ks := [3, 4, 7, 35, 36, 40, 41]) (e' := [(3, .pointer (some ⟨bx30, 0, none⟩)), (4, .slice A303 (l305).length c304), (7, .slice A584 (l586).length c585), (35, .int .i64 t554), (36, .int .i64 x589), (40, .pointer (some ⟨bx30, 0, none⟩)), (41, .int .i64 x589)]) rfl trivial fun a hk => ?_
        refine x_op hk rfl ?_
        obtain ⟨t619, hc620, H⟩ := bindS H
        refine op_call hk ent_17 (vs := [.pointer (some ⟨bx30, 0, none⟩), .int .i64 x589]) rfl (book_Book_Line_calls bx30 A288 c289 A293 c294 A298 c299 (⟨l290, l295, l300⟩ : T75) x589 _ o583 1 75 f31 _ f291.rd hc292 _ (f296.imp fun _ h_ => Own.rd h_) hc297 _ (f301.imp fun _ h_ => Own.rd h_) hc302 (by decide) (by decide) (by decide) (by decide) (by decide) 79  _ hc620) ?_
        rintro _ w621 ⟨o622, A624, c625, rfl, st623, f626, hc627⟩
        replace f291 := f291.st st623 (by decide)
        replace f296 := f296.st st623 (by decide)
        replace f301 := f301.st st623 (by decide)
        replace f306 := f306.st st623 (by decide)
        replace f31 := f31.st st623 (by decide)
        replace f587 := f587.st st623 (by decide)
        replace fg0 := fg0.st st623 (by decide)
        replace fg1 := fg1.st st623 (by decide)
        replace fg2 := fg2.st st623 (by decide)
        replace hs := hs.locQ st623 hob rfl
        have hk := hk.put 42 (.tuple #[.slice A624 (t619.1).length c625, .bool t619.2]) rfl
        refine x_run tab hk (k := 5) (lv := []) (ks := [3, 4, 7, 9, 35, 36]) (e' := [(3, .pointer (some ⟨bx30, 0, none⟩)), (4, .slice A303 (l305).length c304), (7, .slice A584 (l586).length c585), (9, .slice A624 (t619.1).length c625), (35, .int .i64 t554), (36, .int .i64 x589)]) rfl trivial fun a hk => ?_
        refine wpListIn_nil ?_
        refine then_n ?_
        refine wpIn_region_lit ?_
        refine x_run tab hk (k := 2) (lv := []) (ks := [3, 4, 35, 36, 45, 46]) (e' := [(3, .pointer (some ⟨bx30, 0, none⟩)), (4, .slice A303 (l305).length c304), (35, .int .i64 t554), (36, .int .i64 x589), (45, .slice A584 (l586).length c585), (46, .slice A624 (t619.1).length c625)]) rfl trivial fun a hk => ?_
        refine x_op hk rfl ?_
        obtain ⟨q631, H⟩ := ifS H
        refine op_append (o := o622) (E := ET49) (xs := l586) (ys := t619.1) tab hk rfl rfl rfl rfl rfl rfl rfl f587 (Own.rd f626.now) q631 fun A632 c633 w628 o629 st630 f634 hc635 => ?_
        replace f291 := f291.st st630 (by decide)
        replace f296 := f296.st st630 (by decide)
        replace f301 := f301.st st630 (by decide)
        replace f306 := f306.st st630 (by decide)
        replace f31 := f31.st st630 (by decide)
        replace f626 := f626.st st630 (by decide)
        replace fg0 := fg0.st st630 (by decide)
        replace fg1 := fg1.st st630 (by decide)
        replace fg2 := fg2.st st630 (by decide)
        replace hs := hs.locQ st630 hob rfl
        have hk := hk.put 47 (.slice A632 ((l586 ++ t619.1)).length c633) rfl
        refine x_run tab hk (k := 1) (lv := []) (ks := [3, 4, 7, 35, 36]) (e' := [(3, .pointer (some ⟨bx30, 0, none⟩)), (4, .slice A303 (l305).length c304), (7, .slice A632 ((l586 ++ t619.1)).length c633), (35, .int .i64 t554), (36, .int .i64 x589)]) rfl trivial fun a hk => ?_
        refine wpListIn_nil ?_
        refine blk_n ?_
        refine then_n ?_
        refine wpIn_region_lit ?_
        refine x_run tab hk (k := 2) (lv := []) (ks := [3, 4, 7, 35, 36]) (e' := [(3, .pointer (some ⟨bx30, 0, none⟩)), (4, .slice A303 (l305).length c304), (7, .slice A632 ((l586 ++ t619.1)).length c633), (35, .int .i64 t554), (36, .int .i64 (IntKind.wrap .i64 (x589 + 1)))]) rfl trivial fun a hk => ?_
        refine wpListIn_nil ?_
        refine then_n ?_
        exact ⟨k612, Nat.le_refl _, o629, A632, c633, (l586 ++ t619.1), (IntKind.wrap .i64 (x589 + 1)), (by exact Kn.pick (ks := [3, 4, 7, 35, 36]) hk rfl), hs, f291, f296, f301, f306, f31, f634, fg0, fg1, fg2, hc635, (hlp614 ▸ H)⟩
    refine x_seq ?_
    refine wpIn_region_lit ?_
    refine x_run tab hk (k := 3) (lv := []) (ks := [3, 4, 19, 20, 21]) (e' := [(3, .pointer (some ⟨bx30, 0, none⟩)), (4, .slice none 0 0), (19, .slice A18 (t13).length c19), (20, .int .i64 ((t13).length : Int)), (21, .int .i64 0)]) rfl trivial fun a hk => ?_
    refine wpListIn_nil ?_
    refine then_n ?_
    refine wpIn_block ?_
    refine x_loop (fun j_ a_ w_ => ∃ o702 : Nat → Nat, ∃ A703 : Option Addr, ∃ c704 : Nat, ∃ l705 : List (List T49), ∃ A708 : Option Addr, ∃ c709 : Nat, ∃ l710 : List Int, ∃ A713 : Option Addr, ∃ c714 : Nat, ∃ l715 : List T49, ∃ A718 : Option Addr, ∃ c719 : Nat, ∃ l720 : List T49, ∃ x723 : Int, Kn 73 a_ [(3, .pointer (some ⟨bx30, 0, none⟩)), (4, .slice A718 (l720).length c719), (19, .slice A18 (t13).length c19), (20, .int .i64 ((t13).length : Int)), (21, .int .i64 x723)] ∧ St [] w oi w_ o702 ∧ NOwn dT26 27 A18 c19 t13 w_ o702 94 1 ∧ Ft (Bx bx30 76 [.slice A703 (l705).length c704, .slice A708 (l710).length c709, .slice A713 (l715).length c714]) w_ o702 92 ∧ NOwn (dRows ET49) 40 A703 c704 l705 w_ o702 89 1 ∧ Ft (Own (encInt .i64) 3 (.slice A708 (l710).length c709) l710) w_ o702 90 ∧ Ft (Own ET49 50 (.slice A713 (l715).length c714) l715) w_ o702 91 ∧ Ft (Own ET49 50 (.slice A718 (l720).length c719) l720) w_ o702 93 ∧ Ft (RdC ET111 (some ⟨0, 0, none⟩) glob0) w_ o702 0 ∧ Ft (RdC ET111 (some ⟨1, 0, none⟩) glob1) w_ o702 0 ∧ Ft (RdC (encInt .u32) (some ⟨2, 0, none⟩) glob2) w_ o702 0 ∧ (l705).length ≤ c704 ∧ (l710).length ≤ c709 ∧ (l715).length ≤ c714 ∧ (l720).length ≤ c719 ∧ tidewracklaw12_BookJoins_l6 K t13 j_ l705 l710 l715 l720 x723 = some r) (k := K) ⟨(fun b_ => (fun l_ => if l_ = 2 then 94 else if l_ = 3 then 92 else if l_ = 4 then 89 else if l_ = 5 then 90 else if l_ = 6 then 91 else l_) (o28 b_)), A32, c33, t25.l, A36, c37, t25.chains, A40, c41, t25.begun, none, 0, ([] : List T49), 0, (by exact Kn.pick (ks := [3, 4, 19, 20, 21]) hk rfl), (hs.relabM hob (fun l_ => if l_ = 2 then 94 else if l_ = 3 then 92 else if l_ = 4 then 89 else if l_ = 5 then 90 else if l_ = 6 then 91 else l_) (by decide)), (f20.relab (fun l_ => if l_ = 2 then 94 else if l_ = 3 then 92 else if l_ = 4 then 89 else if l_ = 5 then 90 else if l_ = 6 then 91 else l_) rfl), (f31.relab (fun l_ => if l_ = 2 then 94 else if l_ = 3 then 92 else if l_ = 4 then 89 else if l_ = 5 then 90 else if l_ = 6 then 91 else l_) rfl), (f34.relab (fun l_ => if l_ = 2 then 94 else if l_ = 3 then 92 else if l_ = 4 then 89 else if l_ = 5 then 90 else if l_ = 6 then 91 else l_) rfl), (f38.relab (fun l_ => if l_ = 2 then 94 else if l_ = 3 then 92 else if l_ = 4 then 89 else if l_ = 5 then 90 else if l_ = 6 then 91 else l_) rfl), (f42.relab (fun l_ => if l_ = 2 then 94 else if l_ = 3 then 92 else if l_ = 4 then 89 else if l_ = 5 then 90 else if l_ = 6 then 91 else l_) rfl), (Ft.of_all (fun _ => Own.nil _ _ _) _ _ _), (fg0.relab (fun l_ => if l_ = 2 then 94 else if l_ = 3 then 92 else if l_ = 4 then 89 else if l_ = 5 then 90 else if l_ = 6 then 91 else l_) rfl), (fg1.relab (fun l_ => if l_ = 2 then 94 else if l_ = 3 then 92 else if l_ = 4 then 89 else if l_ = 5 then 90 else if l_ = 6 then 91 else l_) rfl), (fg2.relab (fun l_ => if l_ = 2 then 94 else if l_ = 3 then 92 else if l_ = 4 then 89 else if l_ = 5 then 90 else if l_ = 6 then 91 else l_) rfl), hc35, hc39, hc43, (by simp), H⟩ (by rintro _ _ ⟨_, _, _, _, _, _, _, _, _, _, _, _, _, _, _, _, _, _, _, _, _, _, _, _, _, _, _, _, _, H_⟩; exact absurd (show (none : Option Bool) = some r from H_) (by simp)) ?_
    rintro k788 a w787 ⟨o702, A703, c704, l705, A708, c709, l710, A713, c714, l715, A718, c719, l720, x723, hk, hs, f20, f31, f706, f711, f716, f721, fg0, fg1, fg2, hc707, hc712, hc717, hc722, H⟩
    rw [tidewracklaw12_BookJoins_l6] at H
    obtain ⟨lp789, hlp790⟩ : ∃ lp_, lp_ = tidewracklaw12_BookJoins_l6 K t13 k788 := ⟨_, rfl⟩
    rw [← hlp790] at H
    refine x_seq ?_
    refine wpIn_region_lit ?_
    refine x_run tab hk (k := 1) (lv := []) (ks := [3, 4, 19, 20, 21, 22]) (e' := [(3, .pointer (some ⟨bx30, 0, none⟩)), (4, .slice A718 (l720).length c719), (19, .slice A18 (t13).length c19), (20, .int .i64 ((t13).length : Int)), (21, .int .i64 x723), (22, .bool (decide (x723 < ((t13).length : Int))))]) rfl trivial fun a hk => ?_
    refine wpListIn_nil ?_
    refine then_n ?_
    refine x_seq ?_
    cases b791 : (decide (x723 < ((t13).length : Int)))
    · rw [b791] at hk H
      replace H := bifF H
      refine x_if hk (b := false) rfl ?_
      refine (show Code.wpIn _ _ _ _ _ _ _ from ?_)
      refine wpIn_exit ?_
      refine then_x ?_
      refine then_x ?_
      refine blk_x ?_
      refine then_n ?_
      exact ⟨(fun b_ => (fun l_ => if l_ = 89 then 29 else if l_ = 90 then 30 else if l_ = 91 then 31 else if l_ = 92 then 32 else if l_ = 93 then 33 else l_) (o702 b_)), A703, c704, l705, A708, c709, l710, A713, c714, l715, A718, c719, l720, (by exact Kn.pick (ks := [3, 4]) hk rfl), (hs.relabM hob (fun l_ => if l_ = 89 then 29 else if l_ = 90 then 30 else if l_ = 91 then 31 else if l_ = 92 then 32 else if l_ = 93 then 33 else l_) (by decide)), (f706.relab (fun l_ => if l_ = 89 then 29 else if l_ = 90 then 30 else if l_ = 91 then 31 else if l_ = 92 then 32 else if l_ = 93 then 33 else l_) rfl), (f711.relab (fun l_ => if l_ = 89 then 29 else if l_ = 90 then 30 else if l_ = 91 then 31 else if l_ = 92 then 32 else if l_ = 93 then 33 else l_) rfl), (f716.relab (fun l_ => if l_ = 89 then 29 else if l_ = 90 then 30 else if l_ = 91 then 31 else if l_ = 92 then 32 else if l_ = 93 then 33 else l_) rfl), (f721.relab (fun l_ => if l_ = 89 then 29 else if l_ = 90 then 30 else if l_ = 91 then 31 else if l_ = 92 then 32 else if l_ = 93 then 33 else l_) rfl), (f31.relab (fun l_ => if l_ = 89 then 29 else if l_ = 90 then 30 else if l_ = 91 then 31 else if l_ = 92 then 32 else if l_ = 93 then 33 else l_) rfl), (fg0.relab (fun l_ => if l_ = 89 then 29 else if l_ = 90 then 30 else if l_ = 91 then 31 else if l_ = 92 then 32 else if l_ = 93 then 33 else l_) rfl), (fg1.relab (fun l_ => if l_ = 89 then 29 else if l_ = 90 then 30 else if l_ = 91 then 31 else if l_ = 92 then 32 else if l_ = 93 then 33 else l_) rfl), (fg2.relab (fun l_ => if l_ = 89 then 29 else if l_ = 90 then 30 else if l_ = 91 then 31 else if l_ = 92 then 32 else if l_ = 93 then 33 else l_) rfl), hc707, hc712, hc717, hc722, H⟩
    · rw [b791] at hk H
      replace H := bifT H
      refine x_if hk (b := true) rfl ?_
      refine (show Code.wpIn _ _ _ _ _ _ _ from ?_)
      refine wpIn_skip ?_
      refine then_n ?_
      refine x_seq ?_
      refine wpIn_block ?_
      refine x_seq ?_
      refine wpIn_region_lit ?_
      obtain ⟨q792, H⟩ := ifS H
      obtain ⟨ad793, hAad793⟩ := NRd.addr f20.rd q792
      have hk_C := hk
      have f20_C := f20
      have f31_C := f31
      have f706_C := f706
      have f711_C := f711
      have f716_C := f716
      have f721_C := f721
      have fg0_C := fg0
      have fg1_C := fg1
      have fg2_C := fg2
      subst hAad793
      have hk := hk_C
      clear hk_C
      have f20 := f20_C
      clear f20_C
      have f31 := f31_C
      clear f31_C
      have f706 := f706_C
      clear f706_C
      have f711 := f711_C
      clear f711_C
      have f716 := f716_C
      clear f716_C
      have f721 := f721_C
      clear f721_C
      have fg0 := fg0_C
      clear fg0_C
      have fg1 := fg1_C
      clear fg1_C
      have fg2 := fg2_C
      clear fg2_C
      obtain ⟨A794, c795, f796, f797, hc798⟩ := elT26 f20.rd (i := x723) q792
      refine x_run tab hk (k := 2) (lv := [.agg #[.slice A794 ((rdD zT26 t13 x723).Cells).length c795, .bool ((rdD zT26 t13 x723).Wrapped)]]) (ks := [3, 4, 19, 20, 21, 24]) (e' := [(3, .pointer (some ⟨bx30, 0, none⟩)), (4, .slice A718 (l720).length c719), (19, .slice (some ad793) (t13).length c19), (20, .int .i64 ((t13).length : Int)), (21, .int .i64 x723), (24, .agg #[.slice A794 ((rdD zT26 t13 x723).Cells).length c795, .bool ((rdD zT26 t13 x723).Wrapped)])]) rfl ⟨q792, (CellsAt.all f796.now tab rfl rfl rfl), trivial⟩ fun a hk => ?_
      refine x_op hk rfl ?_
      refine op_alloc (o := o702) tab (t := 27) (cs := [.slice none 0 0, .bool false]) rfl rfl 98 fun bx802 w799 o800 st801 f803 => ?_
      replace f20 := f20.st st801 (by decide)
      replace f31 := f31.st st801 (by decide)
      replace f706 := f706.st st801 (by decide)
      replace f711 := f711.st st801 (by decide)
      replace f716 := f716.st st801 (by decide)
      replace f721 := f721.st st801 (by decide)
      replace f797 := f797.st st801 (by decide)
      replace fg0 := fg0.st st801 (by decide)
      replace fg1 := fg1.st st801 (by decide)
      replace fg2 := fg2.st st801 (by decide)
      replace hs := hs.locQ st801 hob rfl
      have hk := hk.put 6 (.pointer (some ⟨bx802, 0, none⟩)) rfl
      refine x_op hk rfl ?_
      refine op_store tab hk (t := 27) (v := .agg #[.slice A794 ((rdD zT26 t13 x723).Cells).length c795, .bool ((rdD zT26 t13 x723).Wrapped)]) (b := bx802) (k := 0) (cs' := [.slice A794 ((rdD zT26 t13 x723).Cells).length c795, .bool ((rdD zT26 t13 x723).Wrapped)]) rfl rfl rfl rfl rfl rfl f803 rfl rfl fun w804 o805 st806 f803_ => ?_
      replace f20 := f20.st st806 (by decide)
      replace f31 := f31.st st806 (by decide)
      replace f706 := f706.st st806 (by decide)
      replace f711 := f711.st st806 (by decide)
      replace f716 := f716.st st806 (by decide)
      replace f721 := f721.st st806 (by decide)
      replace f797 := f797.st st806 (by decide)
      replace fg0 := fg0.st st806 (by decide)
      replace fg1 := fg1.st st806 (by decide)
      replace fg2 := fg2.st st806 (by decide)
      replace hs := hs.locQ st806 hob rfl
      replace f803 := f803_
      refine wpListIn_nil ?_
      refine then_n ?_
      refine x_seq ?_
      refine wpIn_region_lit ?_
      refine x_run tab hk (k := 2) (lv := [.agg #[.slice A794 ((rdD zT26 t13 x723).Cells).length c795, .bool ((rdD zT26 t13 x723).Wrapped)]]) (ks := [3, 6, 19, 20, 21, 25, 26]) (e' := [(3, .pointer (some ⟨bx30, 0, none⟩)), (6, .pointer (some ⟨bx802, 0, none⟩)), (19, .slice (some ad793) (t13).length c19), (20, .int .i64 ((t13).length : Int)), (21, .int .i64 x723), (25, .slice A718 (l720).length c719), (26, .agg #[.slice A794 ((rdD zT26 t13 x723).Cells).length c795, .bool ((rdD zT26 t13 x723).Wrapped)])]) rfl ⟨(load_box tab rfl rfl f803.now (k := 0) rfl rfl), trivial⟩ fun a hk => ?_
      refine x_op hk rfl ?_
      obtain ⟨t810, hc811, H⟩ := bindS H
      refine op_call hk ent_20 (vs := [.agg #[.slice A794 ((rdD zT26 t13 x723).Cells).length c795, .bool ((rdD zT26 t13 x723).Wrapped)]]) rfl (row_Row_Glyphs_calls K A794 c795 (rdD zT26 t13 x723) _ o805 _ f797 hc798 99  _ hc811) ?_
      rintro _ w812 ⟨o813, A815, c816, rfl, st814, f817, hc818⟩
      replace f20 := f20.st st814 (by decide)
      replace f31 := f31.st st814 (by decide)
      replace f706 := f706.st st814 (by decide)
      replace f711 := f711.st st814 (by decide)
      replace f716 := f716.st st814 (by decide)
      replace f721 := f721.st st814 (by decide)
      replace f797 := f797.st st814 (by decide)
      replace f803 := f803.st st814 (by decide)
      replace fg0 := fg0.st st814 (by decide)
      replace fg1 := fg1.st st814 (by decide)
      replace fg2 := fg2.st st814 (by decide)
      replace hs := hs.locQ st814 hob rfl
      have hk := hk.put 27 (.slice A815 (t810).length c816) rfl
      refine x_op hk rfl ?_
      obtain ⟨q822, H⟩ := ifS H
      refine op_append (o := o813) (E := ET49) (xs := l720) (ys := t810) tab hk rfl rfl rfl rfl rfl rfl rfl f721 (Own.rd f817.now) q822 fun A823 c824 w819 o820 st821 f825 hc826 => ?_
      replace f20 := f20.st st821 (by decide)
      replace f31 := f31.st st821 (by decide)
      replace f706 := f706.st st821 (by decide)
      replace f711 := f711.st st821 (by decide)
      replace f716 := f716.st st821 (by decide)
      replace f797 := f797.st st821 (by decide)
      replace f803 := f803.st st821 (by decide)
      replace f817 := f817.st st821 (by decide)
      replace fg0 := fg0.st st821 (by decide)
      replace fg1 := fg1.st st821 (by decide)
      replace fg2 := fg2.st st821 (by decide)
      replace hs := hs.locQ st821 hob rfl
      have hk := hk.put 28 (.slice A823 ((l720 ++ t810)).length c824) rfl
      refine x_run tab hk (k := 1) (lv := []) (ks := [3, 4, 6, 19, 20, 21]) (e' := [(3, .pointer (some ⟨bx30, 0, none⟩)), (4, .slice A823 ((l720 ++ t810)).length c824), (6, .pointer (some ⟨bx802, 0, none⟩)), (19, .slice (some ad793) (t13).length c19), (20, .int .i64 ((t13).length : Int)), (21, .int .i64 x723)]) rfl trivial fun a hk => ?_
      refine wpListIn_nil ?_
      refine then_n ?_
      refine wpIn_region_lit ?_
      refine x_run tab hk (k := 2) (lv := [.agg #[.slice A794 ((rdD zT26 t13 x723).Cells).length c795, .bool ((rdD zT26 t13 x723).Wrapped)]]) (ks := [3, 4, 19, 20, 21, 29, 30]) (e' := [(3, .pointer (some ⟨bx30, 0, none⟩)), (4, .slice A823 ((l720 ++ t810)).length c824), (19, .slice (some ad793) (t13).length c19), (20, .int .i64 ((t13).length : Int)), (21, .int .i64 x723), (29, .pointer (some ⟨bx30, 0, none⟩)), (30, .agg #[.slice A794 ((rdD zT26 t13 x723).Cells).length c795, .bool ((rdD zT26 t13 x723).Wrapped)])]) rfl ⟨(load_box tab rfl rfl f803.now (k := 0) rfl rfl), trivial⟩ fun a hk => ?_
      refine x_op hk rfl ?_
      refine op_slice (o := o820) tab hk (vs := [.agg #[.slice A794 ((rdD zT26 t13 x723).Cells).length c795, .bool ((rdD zT26 t13 x723).Wrapped)]]) (cs := [.slice A794 ((rdD zT26 t13 x723).Cells).length c795, .bool ((rdD zT26 t13 x723).Wrapped)]) rfl rfl rfl rfl rfl rfl rfl rfl rfl 100 fun bx830 w827 o828 st829 f831 => ?_
      replace f20 := f20.st st829 (by decide)
      replace f31 := f31.st st829 (by decide)
      replace f706 := f706.st st829 (by decide)
      replace f711 := f711.st st829 (by decide)
      replace f716 := f716.st st829 (by decide)
      replace f797 := f797.st st829 (by decide)
      replace f825 := f825.st st829 (by decide)
      replace fg0 := fg0.st st829 (by decide)
      replace fg1 := fg1.st st829 (by decide)
      replace fg2 := fg2.st st829 (by decide)
      replace hs := hs.locQ st829 hob rfl
      have f832 : NOwn dT26 27 (some ⟨bx830, 0, none⟩) 1 ([(rdD zT26 t13 x723)] : List T26) w827 o828 100 1 := NOwn.litD (D := dT26) f831 [(⟨(rdD zT26 t13 x723), A794, c795⟩ : NT26)] rfl (Inn.consD (D := dT26) (r := (⟨(rdD zT26 t13 x723), A794, c795⟩ : NT26)) (f797.imp fun _ h_ => ⟨h_, hc798⟩) (Inn.nilD _ _ _ _)) rfl (Nat.le_of_ble_eq_true rfl)
      have hk := hk.put 31 (.slice (some ⟨bx830, 0, none⟩) (([(rdD zT26 t13 x723)] : List T26)).length 1) rfl
      refine x_op hk rfl ?_
      obtain ⟨t836, hc837, H⟩ := bindS H
      refine op_call hk ent_12 (vs := [.pointer (some ⟨bx30, 0, none⟩), .slice (some ⟨bx830, 0, none⟩) (([(rdD zT26 t13 x723)] : List T26)).length 1]) rfl (book_Book_Add_calls K bx30 A703 c704 A708 c709 A713 c714 (⟨l705, l710, l715⟩ : T75) (some ⟨bx830, 0, none⟩) 1 ([(rdD zT26 t13 x723)] : List T26) _ o828 1 0 fg2 92 f31 89 f706 hc707 90 f711 hc712 91 f716 hc717 _ f832.rd (Nat.le_refl _) (by decide) (by decide) (by decide)   _ hc837) ?_
      rintro _ w838 ⟨o839, A842, c843, A846, c847, A850, c851, rfl, st840, f841, f844, hc845, f848, hc849, f852, hc853⟩
      replace f20 := f20.st st840 (by decide)
      replace f797 := f797.st st840 (by decide)
      replace f825 := f825.st st840 (by decide)
      replace f832 := f832.st st840 (by decide)
      replace fg0 := fg0.st st840 (by decide)
      replace fg1 := fg1.st st840 (by decide)
      replace fg2 := fg2.st st840 (by decide)
      replace hs := hs.locQ st840 hob rfl
      have hk := hk.put 32 (.int .i64 t836.1) rfl
      refine wpListIn_nil ?_
      refine blk_n ?_
      refine then_n ?_
      refine wpIn_region_lit ?_
      refine x_run tab hk (k := 2) (lv := []) (ks := [3, 4, 19, 20, 21]) (e' := [(3, .pointer (some ⟨bx30, 0, none⟩)), (4, .slice A823 ((l720 ++ t810)).length c824), (19, .slice (some ad793) (t13).length c19), (20, .int .i64 ((t13).length : Int)), (21, .int .i64 (IntKind.wrap .i64 (x723 + 1)))]) rfl trivial fun a hk => ?_
      refine wpListIn_nil ?_
      refine then_n ?_
      exact ⟨k788, Nat.le_refl _, o839, A842, c843, t836.2.l, A846, c847, t836.2.chains, A850, c851, t836.2.begun, A823, c824, (l720 ++ t810), (IntKind.wrap .i64 (x723 + 1)), (by exact Kn.pick (ks := [3, 4, 19, 20, 21]) hk rfl), hs, f20, f841, f844, f848, f852, f825, fg0, fg1, fg2, hc845, hc849, hc853, hc826, (hlp790 ▸ H)⟩
  · rw [b9] at hk H
    replace H := bifT H
    refine x_if hk (b := true) rfl ?_
    refine (show Code.wpIn _ _ _ _ _ _ _ from ?_)
    refine x_seq ?_
    refine wpIn_region_lit ?_
    refine x_run tab hk (k := 1) (lv := []) (ks := [2]) (e' := [(2, .bool false)]) rfl trivial fun a hk => ?_
    refine wpListIn_nil ?_
    refine then_n ?_
    refine wpIn_ret ?_
    refine then_r ?_
    obtain rfl := Option.some.inj H
    exact x_retG hk (rs := [.tmp 2]) (vs := [.bool false]) rfl ⟨rfl, trivial⟩ ⟨fun b_ => if b_ < w.heap.size then o b_ else (fun l_ => if l_ = 1 then LF else 0) (o7 b_), rfl, hs.closeF (Lm := []) (Sh := []) hoa rfl (fun l_ => if l_ = 1 then LF else 0)⟩

/-! (*tidewrack/book.Book).Chain -/
theorem book_Book_Chain_calls (bp0 : Nat) (Ap0_0 : Option Addr) (cp0_0 : Nat) (Ap0_1 : Option Addr) (cp0_1 : Nat) (Ap0_2 : Option Addr) (cp0_2 : Nat) (p0 : T75) (p1 : Int) (w : World) (o : Nat → Nat) (LF : Nat) (Lp0 : Nat) (hp0 : Ft (Bx bp0 76 [.slice Ap0_0 (p0.l).length cp0_0, .slice Ap0_1 (p0.chains).length cp0_1, .slice Ap0_2 (p0.begun).length cp0_2]) w o Lp0) (Lp0_0 : Nat) (hp0_0 : NRd (dRows ET49) Ap0_0 p0.l w o Lp0_0 LF) (hcp0_0 : (p0.l).length ≤ cp0_0) (Lp0_1 : Nat) (hp0_1 : Ft (RdC (encInt .i64) Ap0_1 p0.chains) w o Lp0_1) (hcp0_1 : (p0.chains).length ≤ cp0_1) (Lp0_2 : Nat) (hp0_2 : Ft (RdC ET49 Ap0_2 p0.begun) w o Lp0_2) (hcp0_2 : (p0.begun).length ≤ cp0_2) (hd0 : ([LF] : List Nat).Nodup) (hd1 : Lp0_0 ∉ [LF]) (hd2 : Lp0_1 ∉ [LF]) (hd3 : Lp0_2 ∉ [LF]) (hd4 : Lp0 ∉ [LF]) (r : Int) (H : book_Book_Chain p0 p1 = some r) :
    Calls Tryd.prog 21 #[.pointer (some ⟨bp0, 0, none⟩), .int .i64 p1] w (Ret fun v_ w' => ∃ o' : Nat → Nat, v_ = .int .i64 r ∧ St [] w o w' o') := by
  refine x_enter (vs := [.pointer (some ⟨bp0, 0, none⟩), .int .i64 p1]) Tryd.func21 rfl rfl rfl fun a hk => ?_
  obtain ⟨oi, hs0, h0, h1, hob, hoz, hoa⟩ := St.startM2 w o (m := 1) hd0 rfl
  have hs := hs0 []
  have f900000 := hp0_0.conv (fun P_ => h0 P_ _ hd1) (fun _ h_ => h1 0 1 h_ rfl rfl)
  have f900001 := h0 _ _ hd2 hp0_1
  have f900002 := h0 _ _ hd3 hp0_2
  have f900019 := h0 _ _ hd4 hp0
  clear h0 h1 hs0
  rw [book_Book_Chain] at H
  refine x_seq ?_
  refine wpIn_region_lit ?_
  refine x_run tab hk (k := 1) (lv := []) (ks := [0, 1]) (e' := [(0, .pointer (some ⟨bp0, 0, none⟩)), (1, .int .i64 p1)]) rfl trivial fun a hk => ?_
  refine wpListIn_nil ?_
  refine then_n ?_
  refine x_seq ?_
  obtain ⟨q3, H⟩ := ifS H
  obtain ⟨ad4, hAad4⟩ := RdC.addr f900001.now q3
  have hk_C := hk
  have f900000_C := f900000
  have f900001_C := f900001
  have f900002_C := f900002
  have f900019_C := f900019
  subst hAad4
  have hk := hk_C
  clear hk_C
  have f900000 := f900000_C
  clear f900000_C
  have f900001 := f900001_C
  clear f900001_C
  have f900002 := f900002_C
  clear f900002_C
  have f900019 := f900019_C
  clear f900019_C
  refine xd_begin (o := oi) (fun W_ => (RdC (encInt .i64) (some ad4) p0.chains) W_ ∧ (Bx bp0 76 [.slice Ap0_0 (p0.l).length cp0_0, .slice (some ad4) (p0.chains).length cp0_1, .slice Ap0_2 (p0.begun).length cp0_2]) W_ ∧ True) mixed rfl rfl fun w5 st6 => ?_
  replace f900000 := f900000.st st6 (by decide)
  replace f900001 := f900001.st st6 (by decide)
  replace f900002 := f900002.st st6 (by decide)
  replace f900019 := f900019.st st6 (by decide)
  replace hs := hs.locQ st6 hob rfl
  refine xd_take tab hk (k := 0) (is := [0, 1, 2, 3, 4, 5, 6, 7, 8, 9, 10, 11, 12, 13, 14]) (ls' := #[true, true, true, true, true, true, true, true, true, true, true, true, true, true, true]) (lv := [.slice (some ad4) (p0.chains).length cp0_1, .slice Ap0_0 (p0.l).length cp0_0, .int .i64 (rdD 0 p0.chains (mxI 0 (mnI p1 ((p0.l).length : Int))))]) (ks := [4]) (e' := [(4, .int .i64 (rdD 0 p0.chains (mxI 0 (mnI p1 ((p0.l).length : Int)))))]) (by kernel_rfl) rfl rfl (by kernel_rfl) (np_then np_body) ⟨f900001.now, f900019.now, trivial⟩ (fun W_ hS => ⟨(load1 tab rfl ((Bx.cell hS.2.1 1).trans rfl)), (load1 tab rfl ((Bx.cell hS.2.1 0).trans rfl)), q3, (load1 tab rfl (RdC.at0 (E := (encInt .i64)) (d := 0) (i := (mxI 0 (mnI p1 ((p0.l).length : Int)))) hS.1 q3 rfl)), trivial⟩) fun a hk => ?_
  refine xd_done (by kernel_rfl) ?_
  refine then_n ?_
  refine wpIn_ret ?_
  obtain rfl := Option.some.inj H
  exact x_retG hk (rs := [.tmp 4]) (vs := [.int .i64 (rdD 0 p0.chains (mxI 0 (mnI p1 ((p0.l).length : Int))))]) rfl ⟨rfl, trivial⟩ ⟨fun b_ => if b_ < w.heap.size then o b_ else (fun l_ => if l_ = 1 then LF else 0) (oi b_), rfl, hs.closeF (Lm := []) (Sh := []) hoa rfl (fun l_ => if l_ = 1 then LF else 0)⟩

/-! tidewrack/tidewracklaw12.BookStays -/
set_option maxHeartbeats 4000000 in
theorem tidewracklaw12_BookStays_calls (K : Nat) (Ap0 : Option Addr) (cp0 : Nat) (p0 : List T26) (Ap1 : Option Addr) (cp1 : Nat) (p1 : List T26) (w : World) (o : Nat → Nat) (LF : Nat) (Lg0 : Nat) (hg0 : Ft (RdC ET111 (some ⟨0, 0, none⟩) glob0) w o Lg0) (Lg1 : Nat) (hg1 : Ft (RdC ET111 (some ⟨1, 0, none⟩) glob1) w o Lg1) (Lg2 : Nat) (hg2 : Ft (RdC (encInt .u32) (some ⟨2, 0, none⟩) glob2) w o Lg2) (Lp0 : Nat) (Fp0 : Nat) (hp0 : NRd dT26 Ap0 p0 w o Lp0 Fp0) (hcp0 : (p0).length ≤ cp0) (Lp1 : Nat) (Fp1 : Nat) (hp1 : NRd dT26 Ap1 p1 w o Lp1 Fp1) (hcp1 : (p1).length ≤ cp1) (hd0 : ([LF] : List Nat).Nodup) (hd1 : Lg0 ∉ [LF]) (hd2 : Lg1 ∉ [LF]) (hd3 : Lg2 ∉ [LF]) (hd4 : Lp0 ∉ [LF]) (hd5 : Fp0 ∉ [LF]) (hd6 : Lp1 ∉ [LF]) (hd7 : Fp1 ∉ [LF]) (r : Bool) (H : tidewracklaw12_BookStays K p0 p1 = some r) :
    Calls Tryd.prog 6 #[.slice Ap0 (p0).length cp0, .slice Ap1 (p1).length cp1] w (Ret fun v_ w' => ∃ o' : Nat → Nat, v_ = .bool r ∧ St [] w o w' o') := by
  refine x_enter (vs := [.slice Ap0 (p0).length cp0, .slice Ap1 (p1).length cp1]) Tryd.func6 rfl rfl rfl fun a hk => ?_
  obtain ⟨oi, hs0, h0, h1, hob, hoz, hoa⟩ := St.startM2 w o (m := 1) hd0 rfl
  have hs := hs0 []
  have fg0 := h0 _ _ hd1 hg0
  have fg1 := h0 _ _ hd2 hg1
  have fg2 := h0 _ _ hd3 hg2
  have f900000 := hp0.conv (fun P_ => h0 P_ _ hd4) (fun P_ => h0 P_ _ hd5)
  have f900020 := hp1.conv (fun P_ => h0 P_ _ hd6) (fun P_ => h0 P_ _ hd7)
  clear h0 h1 hs0
  rw [tidewracklaw12_BookStays] at H
  refine x_seq ?_
  refine wpIn_region_lit ?_
  refine x_run tab hk (k := 1) (lv := []) (ks := [0, 1]) (e' := [(0, .slice Ap0 (p0).length cp0), (1, .slice Ap1 (p1).length cp1)]) rfl trivial fun a hk => ?_
  refine wpListIn_nil ?_
  refine then_n ?_
  refine x_seq ?_
  refine x_seq ?_
  refine wpIn_region_lit ?_
  refine x_op hk rfl ?_
  obtain ⟨t4, hc5, H⟩ := bindS H
  refine op_call hk ent_9 (vs := []) rfl (tidewracklaw12_awake_calls K  _ oi 0 fg0 0 fg1 0 fg2   _ hc5) ?_
  rintro _ w6 ⟨o7, rfl, st8⟩
  replace f900000 := f900000.st st8 (by decide)
  replace f900020 := f900020.st st8 (by decide)
  replace fg0 := fg0.st st8 (by decide)
  replace fg1 := fg1.st st8 (by decide)
  replace fg2 := fg2.st st8 (by decide)
  replace hs := hs.locQ st8 hob rfl
  have hk := hk.put 17 (.bool t4) rfl
  refine x_run tab hk (k := 1) (lv := []) (ks := [0, 1, 18]) (e' := [(0, .slice Ap0 (p0).length cp0), (1, .slice Ap1 (p1).length cp1), (18, .bool (!t4))]) rfl trivial fun a hk => ?_
  refine wpListIn_nil ?_
  refine then_n ?_
  cases b9 : (!t4)
  · rw [b9] at hk H
    replace H := bifF H
    refine x_if hk (b := false) rfl ?_
    refine (show Code.wpIn _ _ _ _ _ _ _ from ?_)
    refine wpIn_skip ?_
    refine then_n ?_
    refine x_seq ?_
    refine wpIn_region_lit ?_
    refine x_op hk rfl ?_
    obtain ⟨t13, hc14, H⟩ := bindS H
    refine op_call hk ent_10 (vs := []) rfl (book_New_calls  _ o7 1 (by decide) 2 3 4 5  _ hc14) ?_
    rintro _ w15 ⟨o16, bx18, A20, c21, A24, c25, A28, c29, rfl, st17, f19, f22, hc23, f26, hc27, f30, hc31⟩
    replace f900000 := f900000.st st17 (by decide)
    replace f900020 := f900020.st st17 (by decide)
    replace fg0 := fg0.st st17 (by decide)
    replace fg1 := fg1.st st17 (by decide)
    replace fg2 := fg2.st st17 (by decide)
    replace hs := hs.locQ st17 hob rfl
    have hk := hk.put 19 (.pointer (some ⟨bx18, 0, none⟩)) rfl
    refine x_run tab hk (k := 1) (lv := []) (ks := [0, 1, 5]) (e' := [(0, .slice Ap0 (p0).length cp0), (1, .slice Ap1 (p1).length cp1), (5, .pointer (some ⟨bx18, 0, none⟩))]) rfl trivial fun a hk => ?_
    refine wpListIn_nil ?_
    refine then_n ?_
    refine x_seq ?_
    refine x_seq ?_
    refine wpIn_region_lit ?_
    refine x_run tab hk (k := 2) (lv := []) (ks := [0, 1, 5, 21]) (e' := [(0, .slice Ap0 (p0).length cp0), (1, .slice Ap1 (p1).length cp1), (5, .pointer (some ⟨bx18, 0, none⟩)), (21, .bool false)]) rfl trivial fun a hk => ?_
    refine wpListIn_nil ?_
    refine then_n ?_
    refine x_if hk (b := false) rfl ?_
    refine (show Code.wpIn _ _ _ _ _ _ _ from ?_)
    refine wpIn_skip ?_
    refine then_n ?_
    refine x_seq ?_
    refine wpIn_region_lit ?_
    refine x_run tab hk (k := 2) (lv := []) (ks := [1, 5, 22, 23]) (e' := [(1, .slice Ap1 (p1).length cp1), (5, .pointer (some ⟨bx18, 0, none⟩)), (22, .pointer (some ⟨bx18, 0, none⟩)), (23, .slice Ap0 (p0).length cp0)]) rfl trivial fun a hk => ?_
    refine x_op hk rfl ?_
    obtain ⟨t35, hc36, H⟩ := bindS H
    refine op_call hk ent_19 (vs := [.slice Ap0 (p0).length cp0, .int .i64 12]) rfl (tidewracklaw12_Rows_calls K Ap0 cp0 p0 12 _ o16 1 _ _ f900000 hcp0 (by decide) (by decide) (by decide) 6  _ hc36) ?_
    rintro _ w37 ⟨o38, A40, c41, rfl, st39, f42, hc43⟩
    replace f19 := f19.st st39 (by decide)
    replace f22 := f22.st st39 (by decide)
    replace f26 := f26.st st39 (by decide)
    replace f30 := f30.st st39 (by decide)
    replace f900000 := f900000.st st39 (by decide)
    replace f900020 := f900020.st st39 (by decide)
    replace fg0 := fg0.st st39 (by decide)
    replace fg1 := fg1.st st39 (by decide)
    replace fg2 := fg2.st st39 (by decide)
    replace hs := hs.locQ st39 hob rfl
    have hk := hk.put 24 (.slice A40 (t35).length c41) rfl
    refine x_op hk rfl ?_
    obtain ⟨t47, hc48, H⟩ := bindS H
    refine op_call hk ent_12 (vs := [.pointer (some ⟨bx18, 0, none⟩), .slice A40 (t35).length c41]) rfl (book_Book_Add_calls K bx18 A20 c21 A24 c25 A28 c29 t13 A40 c41 t35 _ o38 1 0 fg2 2 f19 3 f22 hc23 4 f26 hc27 5 f30 hc31 _ f42.rd hc43 (by decide) (by decide) (by decide)   _ hc48) ?_
    rintro _ w49 ⟨o50, A53, c54, A57, c58, A61, c62, rfl, st51, f52, f55, hc56, f59, hc60, f63, hc64⟩
    replace f42 := f42.st st51 (by decide)
    replace f900000 := f900000.st st51 (by decide)
    replace f900020 := f900020.st st51 (by decide)
    replace fg0 := fg0.st st51 (by decide)
    replace fg1 := fg1.st st51 (by decide)
    replace fg2 := fg2.st st51 (by decide)
    replace hs := hs.locQ st51 hob rfl
    have hk := hk.put 25 (.int .i64 t47.1) rfl
    refine wpListIn_nil ?_
    refine then_n ?_
    refine x_seq ?_
    refine wpIn_region_lit ?_
    refine x_run tab hk (k := 1) (lv := []) (ks := [1, 5, 26]) (e' := [(1, .slice Ap1 (p1).length cp1), (5, .pointer (some ⟨bx18, 0, none⟩)), (26, .pointer (some ⟨bx18, 0, none⟩))]) rfl trivial fun a hk => ?_
    refine x_op hk rfl ?_
    obtain ⟨t68, hc69, H⟩ := bindS H
    refine op_call hk ent_16 (vs := [.pointer (some ⟨bx18, 0, none⟩)]) rfl (book_Book_Len_calls bx18 A53 c54 A57 c58 A61 c62 t47.2 _ o50 1 2 f52 _ f55.rd hc56 _ (f59.imp fun _ h_ => Own.rd h_) hc60 _ (f63.imp fun _ h_ => Own.rd h_) hc64 (by decide) (by decide) (by decide) (by decide) (by decide)   _ hc69) ?_
    rintro _ w70 ⟨o71, rfl, st72⟩
    replace f52 := f52.st st72 (by decide)
    replace f55 := f55.st st72 (by decide)
    replace f59 := f59.st st72 (by decide)
    replace f63 := f63.st st72 (by decide)
    replace f900020 := f900020.st st72 (by decide)
    replace fg0 := fg0.st st72 (by decide)
    replace fg1 := fg1.st st72 (by decide)
    replace fg2 := fg2.st st72 (by decide)
    replace hs := hs.locQ st72 hob rfl
    have hk := hk.put 27 (.int .i64 t68) rfl
    refine x_run tab hk (k := 1) (lv := []) (ks := [1, 5, 6]) (e' := [(1, .slice Ap1 (p1).length cp1), (5, .pointer (some ⟨bx18, 0, none⟩)), (6, .int .i64 t68)]) rfl trivial fun a hk => ?_
    refine wpListIn_nil ?_
    refine then_n ?_
    refine x_seq ?_
    refine wpIn_region_lit ?_
    refine x_run tab hk (k := 2) (lv := []) (ks := [1, 5, 6, 29]) (e' := [(1, .slice Ap1 (p1).length cp1), (5, .pointer (some ⟨bx18, 0, none⟩)), (6, .int .i64 t68), (29, .int .i64 (IntKind.wrap .i64 (t68 + 1)))]) rfl trivial fun a hk => ?_
    refine x_op hk rfl ?_
    obtain ⟨q76, H⟩ := ifS H
    obtain ⟨q77, H⟩ := ifS H
    refine op_make (o := o71) (E := (encInt .i64)) (zx := 0) tab hk rfl rfl rfl rfl rfl q76 q77 7 fun A78 c79 w73 o74 st75 f80 hc81 => ?_
    replace f52 := f52.st st75 (by decide)
    replace f55 := f55.st st75 (by decide)
    replace f59 := f59.st st75 (by decide)
    replace f63 := f63.st st75 (by decide)
    replace f900020 := f900020.st st75 (by decide)
    replace fg0 := fg0.st st75 (by decide)
    replace fg1 := fg1.st st75 (by decide)
    replace fg2 := fg2.st st75 (by decide)
    replace hs := hs.locQ st75 hob rfl
    have hk := hk.put 30 (.slice A78 ((List.replicate (Int.toNat (IntKind.wrap .i64 (t68 + 1))) (0 : Int))).length c79) rfl
    refine x_run tab hk (k := 1) (lv := []) (ks := [1, 5, 6, 7]) (e' := [(1, .slice Ap1 (p1).length cp1), (5, .pointer (some ⟨bx18, 0, none⟩)), (6, .int .i64 t68), (7, .slice A78 ((List.replicate (Int.toNat (IntKind.wrap .i64 (t68 + 1))) (0 : Int))).length c79)]) rfl trivial fun a hk => ?_
    refine wpListIn_nil ?_
    refine then_n ?_
    refine x_seq ?_
    refine wpIn_region_lit ?_
    refine x_run tab hk (k := 1) (lv := []) (ks := [1, 5, 6, 7, 31]) (e' := [(1, .slice Ap1 (p1).length cp1), (5, .pointer (some ⟨bx18, 0, none⟩)), (6, .int .i64 t68), (7, .slice A78 ((List.replicate (Int.toNat (IntKind.wrap .i64 (t68 + 1))) (0 : Int))).length c79), (31, .int .i64 t68)]) rfl trivial fun a hk => ?_
    refine x_op hk rfl ?_
    obtain ⟨q85, H⟩ := ifS H
    obtain ⟨q86, H⟩ := ifS H
    refine op_make (o := o74) (E := (encInt .i64)) (zx := 0) tab hk rfl rfl rfl rfl rfl q85 q86 8 fun A87 c88 w82 o83 st84 f89 hc90 => ?_
    replace f52 := f52.st st84 (by decide)
    replace f55 := f55.st st84 (by decide)
    replace f59 := f59.st st84 (by decide)
    replace f63 := f63.st st84 (by decide)
    replace f80 := f80.st st84 (by decide)
    replace f900020 := f900020.st st84 (by decide)
    replace fg0 := fg0.st st84 (by decide)
    replace fg1 := fg1.st st84 (by decide)
    replace fg2 := fg2.st st84 (by decide)
    replace hs := hs.locQ st84 hob rfl
    have hk := hk.put 32 (.slice A87 ((List.replicate (Int.toNat t68) (0 : Int))).length c88) rfl
    refine x_run tab hk (k := 1) (lv := []) (ks := [1, 5, 6, 7, 8]) (e' := [(1, .slice Ap1 (p1).length cp1), (5, .pointer (some ⟨bx18, 0, none⟩)), (6, .int .i64 t68), (7, .slice A78 ((List.replicate (Int.toNat (IntKind.wrap .i64 (t68 + 1))) (0 : Int))).length c79), (8, .slice A87 ((List.replicate (Int.toNat t68) (0 : Int))).length c88)]) rfl trivial fun a hk => ?_
    refine wpListIn_nil ?_
    refine then_n ?_
    refine x_mid (fun a_ w_ => ∃ o160 : Nat → Nat, ∃ A161 : Option Addr, ∃ c162 : Nat, ∃ l163 : List Int, Kn 105 a_ [(1, .slice Ap1 (p1).length cp1), (5, .pointer (some ⟨bx18, 0, none⟩)), (6, .int .i64 t68), (7, .slice A161 (l163).length c162), (8, .slice A87 ((List.replicate (Int.toNat t68) (0 : Int))).length c88)] ∧ St [] w oi w_ o160 ∧ Ft (Own (encInt .i64) 3 (.slice A161 (l163).length c162) l163) w_ o160 25 ∧ Ft (Bx bx18 76 [.slice A53 (t47.2.l).length c54, .slice A57 (t47.2.chains).length c58, .slice A61 (t47.2.begun).length c62]) w_ o160 24 ∧ NOwn (dRows ET49) 40 A53 c54 t47.2.l w_ o160 21 1 ∧ Ft (Own (encInt .i64) 3 (.slice A57 (t47.2.chains).length c58) t47.2.chains) w_ o160 22 ∧ Ft (Own ET49 50 (.slice A61 (t47.2.begun).length c62) t47.2.begun) w_ o160 23 ∧ Ft (Own (encInt .i64) 3 (.slice A87 ((List.replicate (Int.toNat t68) (0 : Int))).length c88) (List.replicate (Int.toNat t68) (0 : Int))) w_ o160 26 ∧ NRd dT26 Ap1 p1 w_ o160 0 0 ∧ Ft (RdC ET111 (some ⟨0, 0, none⟩) glob0) w_ o160 0 ∧ Ft (RdC ET111 (some ⟨1, 0, none⟩) glob1) w_ o160 0 ∧ Ft (RdC (encInt .u32) (some ⟨2, 0, none⟩) glob2) w_ o160 0 ∧ (l163).length ≤ c162 ∧ tidewracklaw12_BookStays_j1 K p1 t47 t68 l163 = some r) ?_ ?_
    rotate_left
    · rintro a w166 ⟨o160, A161, c162, l163, hk, hs, f164, f52, f55, f59, f63, f89, f900020, fg0, fg1, fg2, hc165, H⟩
      rw [tidewracklaw12_BookStays_j1] at H
      refine x_mid (fun a_ w_ => ∃ o248 : Nat → Nat, ∃ A249 : Option Addr, ∃ c250 : Nat, ∃ l251 : List Int, Kn 105 a_ [(1, .slice Ap1 (p1).length cp1), (5, .pointer (some ⟨bx18, 0, none⟩)), (6, .int .i64 t68), (7, .slice A161 (l163).length c162), (8, .slice A249 (l251).length c250)] ∧ St [] w oi w_ o248 ∧ Ft (Own (encInt .i64) 3 (.slice A161 (l163).length c162) l163) w_ o248 46 ∧ Ft (Own (encInt .i64) 3 (.slice A249 (l251).length c250) l251) w_ o248 47 ∧ Ft (Bx bx18 76 [.slice A53 (t47.2.l).length c54, .slice A57 (t47.2.chains).length c58, .slice A61 (t47.2.begun).length c62]) w_ o248 45 ∧ NOwn (dRows ET49) 40 A53 c54 t47.2.l w_ o248 42 1 ∧ Ft (Own (encInt .i64) 3 (.slice A57 (t47.2.chains).length c58) t47.2.chains) w_ o248 43 ∧ Ft (Own ET49 50 (.slice A61 (t47.2.begun).length c62) t47.2.begun) w_ o248 44 ∧ NRd dT26 Ap1 p1 w_ o248 0 0 ∧ Ft (RdC ET111 (some ⟨0, 0, none⟩) glob0) w_ o248 0 ∧ Ft (RdC ET111 (some ⟨1, 0, none⟩) glob1) w_ o248 0 ∧ Ft (RdC (encInt .u32) (some ⟨2, 0, none⟩) glob2) w_ o248 0 ∧ (l251).length ≤ c250 ∧ tidewracklaw12_BookStays_j2 K p1 t47 t68 l163 l251 = some r) ?_ ?_
      rotate_left
      · rintro a w254 ⟨o248, A249, c250, l251, hk, hs, f164, f252, f52, f55, f59, f63, f900020, fg0, fg1, fg2, hc253, H⟩
        rw [tidewracklaw12_BookStays_j2] at H
        refine x_seq ?_
        refine wpIn_region_lit ?_
        refine x_run tab hk (k := 2) (lv := []) (ks := [5, 6, 7, 8, 61, 62]) (e' := [(5, .pointer (some ⟨bx18, 0, none⟩)), (6, .int .i64 t68), (7, .slice A161 (l163).length c162), (8, .slice A249 (l251).length c250), (61, .pointer (some ⟨bx18, 0, none⟩)), (62, .slice Ap1 (p1).length cp1)]) rfl trivial fun a hk => ?_
        refine x_op hk rfl ?_
        obtain ⟨t258, hc259, H⟩ := bindS H
        refine op_call hk ent_19 (vs := [.slice Ap1 (p1).length cp1, .int .i64 12]) rfl (tidewracklaw12_Rows_calls K Ap1 cp1 p1 12 _ o248 1 _ _ f900020 hcp1 (by decide) (by decide) (by decide) 48  _ hc259) ?_
        rintro _ w260 ⟨o261, A263, c264, rfl, st262, f265, hc266⟩
        replace f164 := f164.st st262 (by decide)
        replace f252 := f252.st st262 (by decide)
        replace f52 := f52.st st262 (by decide)
        replace f55 := f55.st st262 (by decide)
        replace f59 := f59.st st262 (by decide)
        replace f63 := f63.st st262 (by decide)
        replace f900020 := f900020.st st262 (by decide)
        replace fg0 := fg0.st st262 (by decide)
        replace fg1 := fg1.st st262 (by decide)
        replace fg2 := fg2.st st262 (by decide)
        replace hs := hs.locQ st262 hob rfl
        have hk := hk.put 63 (.slice A263 (t258).length c264) rfl
        refine x_op hk rfl ?_
        obtain ⟨t270, hc271, H⟩ := bindS H
        refine op_call hk ent_12 (vs := [.pointer (some ⟨bx18, 0, none⟩), .slice A263 (t258).length c264]) rfl (book_Book_Add_calls K bx18 A53 c54 A57 c58 A61 c62 t47.2 A263 c264 t258 _ o261 1 0 fg2 45 f52 42 f55 hc56 43 f59 hc60 44 f63 hc64 _ f265.rd hc266 (by decide) (by decide) (by decide)   _ hc271) ?_
        rintro _ w272 ⟨o273, A276, c277, A280, c281, A284, c285, rfl, st274, f275, f278, hc279, f282, hc283, f286, hc287⟩
        replace f164 := f164.st st274 (by decide)
        replace f252 := f252.st st274 (by decide)
        replace f265 := f265.st st274 (by decide)
        replace f900020 := f900020.st st274 (by decide)
        replace fg0 := fg0.st st274 (by decide)
        replace fg1 := fg1.st st274 (by decide)
        replace fg2 := fg2.st st274 (by decide)
        replace hs := hs.locQ st274 hob rfl
        have hk := hk.put 64 (.int .i64 t270.1) rfl
        refine wpListIn_nil ?_
        refine then_n ?_
        refine x_seq ?_
        refine x_seq ?_
        refine wpIn_region_lit ?_
        refine x_run tab hk (k := 1) (lv := []) (ks := [5, 6, 7, 8, 65]) (e' := [(5, .pointer (some ⟨bx18, 0, none⟩)), (6, .int .i64 t68), (7, .slice A161 (l163).length c162), (8, .slice A249 (l251).length c250), (65, .pointer (some ⟨bx18, 0, none⟩))]) rfl trivial fun a hk => ?_
        refine x_op hk rfl ?_
        obtain ⟨t291, hc292, H⟩ := bindS H
        refine op_call hk ent_16 (vs := [.pointer (some ⟨bx18, 0, none⟩)]) rfl (book_Book_Len_calls bx18 A276 c277 A280 c281 A284 c285 t270.2 _ o273 1 45 f275 _ f278.rd hc279 _ (f282.imp fun _ h_ => Own.rd h_) hc283 _ (f286.imp fun _ h_ => Own.rd h_) hc287 (by decide) (by decide) (by decide) (by decide) (by decide)   _ hc292) ?_
        rintro _ w293 ⟨o294, rfl, st295⟩
        replace f164 := f164.st st295 (by decide)
        replace f252 := f252.st st295 (by decide)
        replace f275 := f275.st st295 (by decide)
        replace f278 := f278.st st295 (by decide)
        replace f282 := f282.st st295 (by decide)
        replace f286 := f286.st st295 (by decide)
        replace fg0 := fg0.st st295 (by decide)
        replace fg1 := fg1.st st295 (by decide)
        replace fg2 := fg2.st st295 (by decide)
        replace hs := hs.locQ st295 hob rfl
        have hk := hk.put 66 (.int .i64 t291) rfl
        refine x_run tab hk (k := 2) (lv := []) (ks := [5, 6, 7, 8, 68]) (e' := [(5, .pointer (some ⟨bx18, 0, none⟩)), (6, .int .i64 t68), (7, .slice A161 (l163).length c162), (8, .slice A249 (l251).length c250), (68, .bool (decide (t291 < t68)))]) rfl trivial fun a hk => ?_
        refine wpListIn_nil ?_
        refine then_n ?_
        cases b296 : (decide (t291 < t68))
        · rw [b296] at hk H
          replace H := bifF H
          refine x_if hk (b := false) rfl ?_
          refine (show Code.wpIn _ _ _ _ _ _ _ from ?_)
          refine wpIn_skip ?_
          refine then_n ?_
          refine x_mid (fun a_ w_ => ∃ o411 : Nat → Nat, Kn 105 a_ [(5, .pointer (some ⟨bx18, 0, none⟩)), (6, .int .i64 t68), (8, .slice A249 (l251).length c250)] ∧ St [] w oi w_ o411 ∧ Ft (Own (encInt .i64) 3 (.slice A249 (l251).length c250) l251) w_ o411 65 ∧ Ft (Bx bx18 76 [.slice A276 (t270.2.l).length c277, .slice A280 (t270.2.chains).length c281, .slice A284 (t270.2.begun).length c285]) w_ o411 64 ∧ NOwn (dRows ET49) 40 A276 c277 t270.2.l w_ o411 61 1 ∧ Ft (Own (encInt .i64) 3 (.slice A280 (t270.2.chains).length c281) t270.2.chains) w_ o411 62 ∧ Ft (Own ET49 50 (.slice A284 (t270.2.begun).length c285) t270.2.begun) w_ o411 63 ∧ Ft (RdC ET111 (some ⟨0, 0, none⟩) glob0) w_ o411 0 ∧ Ft (RdC ET111 (some ⟨1, 0, none⟩) glob1) w_ o411 0 ∧ Ft (RdC (encInt .u32) (some ⟨2, 0, none⟩) glob2) w_ o411 0 ∧ tidewracklaw12_BookStays_j3 K t68 l251 t270 = some r) ?_ ?_
          rotate_left
          · rintro a w412 ⟨o411, hk, hs, f252, f275, f278, f282, f286, fg0, fg1, fg2, H⟩
            rw [tidewracklaw12_BookStays_j3] at H
            refine x_mid (fun a_ w_ => ∃ o476 : Nat → Nat, Kn 105 a_ [] ∧ St [] w oi w_ o476 ∧ Ft (RdC ET111 (some ⟨0, 0, none⟩) glob0) w_ o476 0 ∧ Ft (RdC ET111 (some ⟨1, 0, none⟩) glob1) w_ o476 0 ∧ Ft (RdC (encInt .u32) (some ⟨2, 0, none⟩) glob2) w_ o476 0 ∧ tidewracklaw12_BookStays_j4 = some r) ?_ ?_
            rotate_left
            · rintro a w477 ⟨o476, hk, hs, fg0, fg1, fg2, H⟩
              rw [tidewracklaw12_BookStays_j4] at H
              refine x_seq ?_
              refine wpIn_region_lit ?_
              refine x_run tab hk (k := 1) (lv := []) (ks := [4]) (e' := [(4, .bool true)]) rfl trivial fun a hk => ?_
              refine wpListIn_nil ?_
              refine then_n ?_
              refine wpIn_ret ?_
              obtain rfl := Option.some.inj H
              exact x_retG hk (rs := [.tmp 4]) (vs := [.bool true]) rfl ⟨rfl, trivial⟩ ⟨fun b_ => if b_ < w.heap.size then o b_ else (fun l_ => if l_ = 1 then LF else 0) (o476 b_), rfl, hs.closeF (Lm := []) (Sh := []) hoa rfl (fun l_ => if l_ = 1 then LF else 0)⟩
            refine x_seq ?_
            refine wpIn_region_lit ?_
            refine x_run tab hk (k := 2) (lv := []) (ks := [5, 8, 83, 84]) (e' := [(5, .pointer (some ⟨bx18, 0, none⟩)), (8, .slice A249 (l251).length c250), (83, .int .i64 t68), (84, .int .i64 0)]) rfl trivial fun a hk => ?_
            refine wpListIn_nil ?_
            refine then_n ?_
            refine wpIn_block ?_
            refine x_loop (fun j_ a_ w_ => ∃ o498 : Nat → Nat, ∃ x499 : Int, Kn 105 a_ [(5, .pointer (some ⟨bx18, 0, none⟩)), (8, .slice A249 (l251).length c250), (83, .int .i64 t68), (84, .int .i64 x499)] ∧ St [] w oi w_ o498 ∧ Ft (Own (encInt .i64) 3 (.slice A249 (l251).length c250) l251) w_ o498 89 ∧ Ft (Bx bx18 76 [.slice A276 (t270.2.l).length c277, .slice A280 (t270.2.chains).length c281, .slice A284 (t270.2.begun).length c285]) w_ o498 88 ∧ NOwn (dRows ET49) 40 A276 c277 t270.2.l w_ o498 85 1 ∧ Ft (Own (encInt .i64) 3 (.slice A280 (t270.2.chains).length c281) t270.2.chains) w_ o498 86 ∧ Ft (Own ET49 50 (.slice A284 (t270.2.begun).length c285) t270.2.begun) w_ o498 87 ∧ Ft (RdC ET111 (some ⟨0, 0, none⟩) glob0) w_ o498 0 ∧ Ft (RdC ET111 (some ⟨1, 0, none⟩) glob1) w_ o498 0 ∧ Ft (RdC (encInt .u32) (some ⟨2, 0, none⟩) glob2) w_ o498 0 ∧ tidewracklaw12_BookStays_l5 t68 l251 t270 j_ x499 = some r) (k := K) ⟨(fun b_ => (fun l_ => if l_ = 61 then 85 else if l_ = 62 then 86 else if l_ = 63 then 87 else if l_ = 64 then 88 else if l_ = 65 then 89 else l_) (o411 b_)), 0, (by exact Kn.pick (ks := [5, 8, 83, 84]) hk rfl), (hs.relabM hob (fun l_ => if l_ = 61 then 85 else if l_ = 62 then 86 else if l_ = 63 then 87 else if l_ = 64 then 88 else if l_ = 65 then 89 else l_) (by decide)), (f252.relab (fun l_ => if l_ = 61 then 85 else if l_ = 62 then 86 else if l_ = 63 then 87 else if l_ = 64 then 88 else if l_ = 65 then 89 else l_) rfl), (f275.relab (fun l_ => if l_ = 61 then 85 else if l_ = 62 then 86 else if l_ = 63 then 87 else if l_ = 64 then 88 else if l_ = 65 then 89 else l_) rfl), (f278.relab (fun l_ => if l_ = 61 then 85 else if l_ = 62 then 86 else if l_ = 63 then 87 else if l_ = 64 then 88 else if l_ = 65 then 89 else l_) rfl), (f282.relab (fun l_ => if l_ = 61 then 85 else if l_ = 62 then 86 else if l_ = 63 then 87 else if l_ = 64 then 88 else if l_ = 65 then 89 else l_) rfl), (f286.relab (fun l_ => if l_ = 61 then 85 else if l_ = 62 then 86 else if l_ = 63 then 87 else if l_ = 64 then 88 else if l_ = 65 then 89 else l_) rfl), (fg0.relab (fun l_ => if l_ = 61 then 85 else if l_ = 62 then 86 else if l_ = 63 then 87 else if l_ = 64 then 88 else if l_ = 65 then 89 else l_) rfl), (fg1.relab (fun l_ => if l_ = 61 then 85 else if l_ = 62 then 86 else if l_ = 63 then 87 else if l_ = 64 then 88 else if l_ = 65 then 89 else l_) rfl), (fg2.relab (fun l_ => if l_ = 61 then 85 else if l_ = 62 then 86 else if l_ = 63 then 87 else if l_ = 64 then 88 else if l_ = 65 then 89 else l_) rfl), H⟩ (by rintro _ _ ⟨_, _, _, _, _, _, _, _, _, _, _, _, H_⟩; exact absurd (show (none : Option Bool) = some r from H_) (by simp)) ?_
            rintro k518 a w517 ⟨o498, x499, hk, hs, f252, f275, f278, f282, f286, fg0, fg1, fg2, H⟩
            rw [tidewracklaw12_BookStays_l5] at H
            obtain ⟨lp519, hlp520⟩ : ∃ lp_, lp_ = tidewracklaw12_BookStays_l5 t68 l251 t270 k518 := ⟨_, rfl⟩
            rw [← hlp520] at H
            refine x_seq ?_
            refine wpIn_region_lit ?_
            refine x_run tab hk (k := 1) (lv := []) (ks := [5, 8, 83, 84, 85]) (e' := [(5, .pointer (some ⟨bx18, 0, none⟩)), (8, .slice A249 (l251).length c250), (83, .int .i64 t68), (84, .int .i64 x499), (85, .bool (decide (x499 < t68)))]) rfl trivial fun a hk => ?_
            refine wpListIn_nil ?_
            refine then_n ?_
            refine x_seq ?_
            cases b521 : (decide (x499 < t68))
            · rw [b521] at hk H
              replace H := bifF H
              refine x_if hk (b := false) rfl ?_
              refine (show Code.wpIn _ _ _ _ _ _ _ from ?_)
              refine wpIn_exit ?_
              refine then_x ?_
              refine then_x ?_
              refine blk_x ?_
              refine then_n ?_
              exact ⟨o498, (by exact Kn.pick (ks := []) hk rfl), hs, fg0, fg1, fg2, H⟩
            · rw [b521] at hk H
              replace H := bifT H
              refine x_if hk (b := true) rfl ?_
              refine (show Code.wpIn _ _ _ _ _ _ _ from ?_)
              refine wpIn_skip ?_
              refine then_n ?_
              refine x_seq ?_
              refine wpIn_block ?_
              refine x_seq ?_
              refine wpIn_region_lit ?_
              refine x_run tab hk (k := 2) (lv := []) (ks := [5, 8, 14, 83, 84]) (e' := [(5, .pointer (some ⟨bx18, 0, none⟩)), (8, .slice A249 (l251).length c250), (14, .int .i64 x499), (83, .int .i64 t68), (84, .int .i64 x499)]) rfl trivial fun a hk => ?_
              refine wpListIn_nil ?_
              refine then_n ?_
              refine x_seq ?_
              refine wpIn_region_lit ?_
              refine x_run tab hk (k := 2) (lv := []) (ks := [5, 8, 14, 83, 84, 88, 89]) (e' := [(5, .pointer (some ⟨bx18, 0, none⟩)), (8, .slice A249 (l251).length c250), (14, .int .i64 x499), (83, .int .i64 t68), (84, .int .i64 x499), (88, .pointer (some ⟨bx18, 0, none⟩)), (89, .int .i64 x499)]) rfl trivial fun a hk => ?_
              refine x_op hk rfl ?_
              obtain ⟨t525, hc526, H⟩ := bindS H
              refine op_call hk ent_17 (vs := [.pointer (some ⟨bx18, 0, none⟩), .int .i64 x499]) rfl (book_Book_Line_calls bx18 A276 c277 A280 c281 A284 c285 t270.2 x499 _ o498 1 88 f275 _ f278.rd hc279 _ (f282.imp fun _ h_ => Own.rd h_) hc283 _ (f286.imp fun _ h_ => Own.rd h_) hc287 (by decide) (by decide) (by decide) (by decide) (by decide) 91  _ hc526) ?_
              rintro _ w527 ⟨o528, A530, c531, rfl, st529, f532, hc533⟩
              replace f252 := f252.st st529 (by decide)
              replace f275 := f275.st st529 (by decide)
              replace f278 := f278.st st529 (by decide)
              replace f282 := f282.st st529 (by decide)
              replace f286 := f286.st st529 (by decide)
              replace fg0 := fg0.st st529 (by decide)
              replace fg1 := fg1.st st529 (by decide)
              replace fg2 := fg2.st st529 (by decide)
              replace hs := hs.locQ st529 hob rfl
              have hk := hk.put 90 (.tuple #[.slice A530 (t525.1).length c531, .bool t525.2]) rfl
              refine x_run tab hk (k := 5) (lv := []) (ks := [5, 8, 14, 15, 16, 83, 84]) (e' := [(5, .pointer (some ⟨bx18, 0, none⟩)), (8, .slice A249 (l251).length c250), (14, .int .i64 x499), (15, .slice A530 (t525.1).length c531), (16, .bool t525.2), (83, .int .i64 t68), (84, .int .i64 x499)]) rfl trivial fun a hk => ?_
              refine wpListIn_nil ?_
              refine then_n ?_
              refine x_seq ?_
              refine wpIn_region_lit ?_
              refine x_run tab hk (k := 3) (lv := []) (ks := [5, 8, 14, 15, 83, 84, 95]) (e' := [(5, .pointer (some ⟨bx18, 0, none⟩)), (8, .slice A249 (l251).length c250), (14, .int .i64 x499), (15, .slice A530 (t525.1).length c531), (83, .int .i64 t68), (84, .int .i64 x499), (95, .bool (!t525.2))]) rfl trivial fun a hk => ?_
              cases b534 : (!t525.2)
              · rw [b534] at hk H
                replace H := bifF H
                obtain ⟨q535, H⟩ := ifS H
                obtain ⟨ad536, hAad536⟩ := RdC.addr (Own.rd f252.now) q535
                have hk_C := hk
                have f252_C := f252
                have f275_C := f275
                have f278_C := f278
                have f282_C := f282
                have f286_C := f286
                have f532_C := f532
                have fg0_C := fg0
                have fg1_C := fg1
                have fg2_C := fg2
                subst hAad536
                have hk := hk_C
                clear hk_C
                have f252 := f252_C
                clear f252_C
                have f275 := f275_C
                clear f275_C
                have f278 := f278_C
                clear f278_C
                have f282 := f282_C
                clear f282_C
                have f286 := f286_C
                clear f286_C
                have f532 := f532_C
                clear f532_C
                have fg0 := fg0_C
                clear fg0_C
                have fg1 := fg1_C
                clear fg1_C
                have fg2 := fg2_C
                clear fg2_C
                refine x_run tab hk (k := 8) (lv := [.int .i64 (rdD 0 l251 x499)]) (ks := [5, 8, 83, 84, 103]) (e' := [(5, .pointer (some ⟨bx18, 0, none⟩)), (8, .slice (some ad536) (l251).length c250), (83, .int .i64 t68), (84, .int .i64 x499), (103, .bool (((t525.1).length : Int) != (rdD 0 l251 x499)))]) rfl ⟨q535, (load1 tab rfl (RdC.at0 (E := (encInt .i64)) (d := 0) (i := x499) (Own.rd f252.now) q535 rfl)), trivial⟩ fun a hk => ?_
                refine wpListIn_nil ?_
                refine then_n ?_
                cases b537 : (((t525.1).length : Int) != (rdD 0 l251 x499))
                · rw [b537] at hk H
                  replace H := bifF H
                  refine x_if hk (b := false) rfl ?_
                  refine (show Code.wpIn _ _ _ _ _ _ _ from ?_)
                  refine wpIn_skip ?_
                  refine blk_n ?_
                  refine then_n ?_
                  refine wpIn_region_lit ?_
                  refine x_run tab hk (k := 2) (lv := []) (ks := [5, 8, 83, 84]) (e' := [(5, .pointer (some ⟨bx18, 0, none⟩)), (8, .slice (some ad536) (l251).length c250), (83, .int .i64 t68), (84, .int .i64 (IntKind.wrap .i64 (x499 + 1)))]) rfl trivial fun a hk => ?_
                  refine wpListIn_nil ?_
                  refine then_n ?_
                  exact ⟨k518, Nat.le_refl _, o528, (IntKind.wrap .i64 (x499 + 1)), (by exact Kn.pick (ks := [5, 8, 83, 84]) hk rfl), hs, f252, f275, f278, f282, f286, fg0, fg1, fg2, (hlp520 ▸ H)⟩
                · rw [b537] at hk H
                  replace H := bifT H
                  refine x_if hk (b := true) rfl ?_
                  refine (show Code.wpIn _ _ _ _ _ _ _ from ?_)
                  refine x_seq ?_
                  refine wpIn_region_lit ?_
                  refine x_run tab hk (k := 1) (lv := []) (ks := [4]) (e' := [(4, .bool false)]) rfl trivial fun a hk => ?_
                  refine wpListIn_nil ?_
                  refine then_n ?_
                  refine wpIn_ret ?_
                  refine blk_r ?_
                  refine then_r ?_
                  refine then_r ?_
                  refine blk_r ?_
                  refine then_r ?_
                  obtain rfl := Option.some.inj H
                  exact x_retG hk (rs := [.tmp 4]) (vs := [.bool false]) rfl ⟨rfl, trivial⟩ ⟨fun b_ => if b_ < w.heap.size then o b_ else (fun l_ => if l_ = 1 then LF else 0) (o528 b_), rfl, hs.closeF (Lm := []) (Sh := []) hoa rfl (fun l_ => if l_ = 1 then LF else 0)⟩
              · rw [b534] at hk H
                replace H := bifT H
                refine x_run tab hk (k := 8) (lv := []) (ks := [5, 8, 83, 84, 103]) (e' := [(5, .pointer (some ⟨bx18, 0, none⟩)), (8, .slice A249 (l251).length c250), (83, .int .i64 t68), (84, .int .i64 x499), (103, .bool true)]) rfl trivial fun a hk => ?_
                refine wpListIn_nil ?_
                refine then_n ?_
                refine x_if hk (b := true) rfl ?_
                refine (show Code.wpIn _ _ _ _ _ _ _ from ?_)
                refine x_seq ?_
                refine wpIn_region_lit ?_
                refine x_run tab hk (k := 1) (lv := []) (ks := [4]) (e' := [(4, .bool false)]) rfl trivial fun a hk => ?_
                refine wpListIn_nil ?_
                refine then_n ?_
                refine wpIn_ret ?_
                refine blk_r ?_
                refine then_r ?_
                refine then_r ?_
                refine blk_r ?_
                refine then_r ?_
                obtain rfl := Option.some.inj H
                exact x_retG hk (rs := [.tmp 4]) (vs := [.bool false]) rfl ⟨rfl, trivial⟩ ⟨fun b_ => if b_ < w.heap.size then o b_ else (fun l_ => if l_ = 1 then LF else 0) (o528 b_), rfl, hs.closeF (Lm := []) (Sh := []) hoa rfl (fun l_ => if l_ = 1 then LF else 0)⟩
          refine x_seq ?_
          refine wpIn_region_lit ?_
          refine x_run tab hk (k := 3) (lv := []) (ks := [5, 6, 7, 8, 70, 71]) (e' := [(5, .pointer (some ⟨bx18, 0, none⟩)), (6, .int .i64 t68), (7, .slice A161 (l163).length c162), (8, .slice A249 (l251).length c250), (70, .int .i64 (IntKind.wrap .i64 (t68 + 1))), (71, .int .i64 0)]) rfl trivial fun a hk => ?_
          refine wpListIn_nil ?_
          refine then_n ?_
          refine wpIn_block ?_
          refine x_loop (fun j_ a_ w_ => ∃ o575 : Nat → Nat, ∃ x576 : Int, Kn 105 a_ [(5, .pointer (some ⟨bx18, 0, none⟩)), (6, .int .i64 t68), (7, .slice A161 (l163).length c162), (8, .slice A249 (l251).length c250), (70, .int .i64 (IntKind.wrap .i64 (t68 + 1))), (71, .int .i64 x576)] ∧ St [] w oi w_ o575 ∧ Ft (Own (encInt .i64) 3 (.slice A161 (l163).length c162) l163) w_ o575 102 ∧ Ft (Own (encInt .i64) 3 (.slice A249 (l251).length c250) l251) w_ o575 103 ∧ Ft (Bx bx18 76 [.slice A276 (t270.2.l).length c277, .slice A280 (t270.2.chains).length c281, .slice A284 (t270.2.begun).length c285]) w_ o575 101 ∧ NOwn (dRows ET49) 40 A276 c277 t270.2.l w_ o575 98 1 ∧ Ft (Own (encInt .i64) 3 (.slice A280 (t270.2.chains).length c281) t270.2.chains) w_ o575 99 ∧ Ft (Own ET49 50 (.slice A284 (t270.2.begun).length c285) t270.2.begun) w_ o575 100 ∧ Ft (RdC ET111 (some ⟨0, 0, none⟩) glob0) w_ o575 0 ∧ Ft (RdC ET111 (some ⟨1, 0, none⟩) glob1) w_ o575 0 ∧ Ft (RdC (encInt .u32) (some ⟨2, 0, none⟩) glob2) w_ o575 0 ∧ tidewracklaw12_BookStays_l6 K t68 l163 l251 t270 j_ x576 = some r) (k := K) ⟨(fun b_ => (fun l_ => if l_ = 42 then 98 else if l_ = 43 then 99 else if l_ = 44 then 100 else if l_ = 45 then 101 else if l_ = 46 then 102 else if l_ = 47 then 103 else l_) (o294 b_)), 0, (by exact Kn.pick (ks := [5, 6, 7, 8, 70, 71]) hk rfl), (hs.relabM hob (fun l_ => if l_ = 42 then 98 else if l_ = 43 then 99 else if l_ = 44 then 100 else if l_ = 45 then 101 else if l_ = 46 then 102 else if l_ = 47 then 103 else l_) (by decide)), (f164.relab (fun l_ => if l_ = 42 then 98 else if l_ = 43 then 99 else if l_ = 44 then 100 else if l_ = 45 then 101 else if l_ = 46 then 102 else if l_ = 47 then 103 else l_) rfl), (f252.relab (fun l_ => if l_ = 42 then 98 else if l_ = 43 then 99 else if l_ = 44 then 100 else if l_ = 45 then 101 else if l_ = 46 then 102 else if l_ = 47 then 103 else l_) rfl), (f275.relab (fun l_ => if l_ = 42 then 98 else if l_ = 43 then 99 else if l_ = 44 then 100 else if l_ = 45 then 101 else if l_ = 46 then 102 else if l_ = 47 then 103 else l_) rfl), (f278.relab (fun l_ => if l_ = 42 then 98 else if l_ = 43 then 99 else if l_ = 44 then 100 else if l_ = 45 then 101 else if l_ = 46 then 102 else if l_ = 47 then 103 else l_) rfl), (f282.relab (fun l_ => if l_ = 42 then 98 else if l_ = 43 then 99 else if l_ = 44 then 100 else if l_ = 45 then 101 else if l_ = 46 then 102 else if l_ = 47 then 103 else l_) rfl), (f286.relab (fun l_ => if l_ = 42 then 98 else if l_ = 43 then 99 else if l_ = 44 then 100 else if l_ = 45 then 101 else if l_ = 46 then 102 else if l_ = 47 then 103 else l_) rfl), (fg0.relab (fun l_ => if l_ = 42 then 98 else if l_ = 43 then 99 else if l_ = 44 then 100 else if l_ = 45 then 101 else if l_ = 46 then 102 else if l_ = 47 then 103 else l_) rfl), (fg1.relab (fun l_ => if l_ = 42 then 98 else if l_ = 43 then 99 else if l_ = 44 then 100 else if l_ = 45 then 101 else if l_ = 46 then 102 else if l_ = 47 then 103 else l_) rfl), (fg2.relab (fun l_ => if l_ = 42 then 98 else if l_ = 43 then 99 else if l_ = 44 then 100 else if l_ = 45 then 101 else if l_ = 46 then 102 else if l_ = 47 then 103 else l_) rfl), H⟩ (by rintro _ _ ⟨_, _, _, _, _, _, _, _, _, _, _, _, _, H_⟩; exact absurd (show (none : Option Bool) = some r from H_) (by simp)) ?_
          rintro k612 a w611 ⟨o575, x576, hk, hs, f164, f252, f275, f278, f282, f286, fg0, fg1, fg2, H⟩
          rw [tidewracklaw12_BookStays_l6] at H
          obtain ⟨lp613, hlp614⟩ : ∃ lp_, lp_ = tidewracklaw12_BookStays_l6 K t68 l163 l251 t270 k612 := ⟨_, rfl⟩
          rw [← hlp614] at H
          refine x_seq ?_
          refine wpIn_region_lit ?_
          refine x_run tab hk (k := 1) (lv := []) (ks := [5, 6, 7, 8, 70, 71, 72]) (e' := [(5, .pointer (some ⟨bx18, 0, none⟩)), (6, .int .i64 t68), (7, .slice A161 (l163).length c162), (8, .slice A249 (l251).length c250), (70, .int .i64 (IntKind.wrap .i64 (t68 + 1))), (71, .int .i64 x576), (72, .bool (decide (x576 < (IntKind.wrap .i64 (t68 + 1)))))]) rfl trivial fun a hk => ?_
          refine wpListIn_nil ?_
          refine then_n ?_
          refine x_seq ?_
          cases b615 : (decide (x576 < (IntKind.wrap .i64 (t68 + 1))))
          · rw [b615] at hk H
            replace H := bifF H
            refine x_if hk (b := false) rfl ?_
            refine (show Code.wpIn _ _ _ _ _ _ _ from ?_)
            refine wpIn_exit ?_
            refine then_x ?_
            refine then_x ?_
            refine blk_x ?_
            refine then_n ?_
            exact ⟨(fun b_ => (fun l_ => if l_ = 98 then 61 else if l_ = 99 then 62 else if l_ = 100 then 63 else if l_ = 101 then 64 else if l_ = 103 then 65 else l_) (o575 b_)), (by exact Kn.pick (ks := [5, 6, 8]) hk rfl), (hs.relabM hob (fun l_ => if l_ = 98 then 61 else if l_ = 99 then 62 else if l_ = 100 then 63 else if l_ = 101 then 64 else if l_ = 103 then 65 else l_) (by decide)), (f252.relab (fun l_ => if l_ = 98 then 61 else if l_ = 99 then 62 else if l_ = 100 then 63 else if l_ = 101 then 64 else if l_ = 103 then 65 else l_) rfl), (f275.relab (fun l_ => if l_ = 98 then 61 else if l_ = 99 then 62 else if l_ = 100 then 63 else if l_ = 101 then 64 else if l_ = 103 then 65 else l_) rfl), (f278.relab (fun l_ => if l_ = 98 then 61 else if l_ = 99 then 62 else if l_ = 100 then 63 else if l_ = 101 then 64 else if l_ = 103 then 65 else l_) rfl), (f282.relab (fun l_ => if l_ = 98 then 61 else if l_ = 99 then 62 else if l_ = 100 then 63 else if l_ = 101 then 64 else if l_ = 103 then 65 else l_) rfl), (f286.relab (fun l_ => if l_ = 98 then 61 else if l_ = 99 then 62 else if l_ = 100 then 63 else if l_ = 101 then 64 else if l_ = 103 then 65 else l_) rfl), (fg0.relab (fun l_ => if l_ = 98 then 61 else if l_ = 99 then 62 else if l_ = 100 then 63 else if l_ = 101 then 64 else if l_ = 103 then 65 else l_) rfl), (fg1.relab (fun l_ => if l_ = 98 then 61 else if l_ = 99 then 62 else if l_ = 100 then 63 else if l_ = 101 then 64 else if l_ = 103 then 65 else l_) rfl), (fg2.relab (fun l_ => if l_ = 98 then 61 else if l_ = 99 then 62 else if l_ = 100 then 63 else if l_ = 101 then 64 else if l_ = 103 then 65 else l_) rfl), H⟩
          · rw [b615] at hk H
            replace H := bifT H
            refine x_if hk (b := true) rfl ?_
            refine (show Code.wpIn _ _ _ _ _ _ _ from ?_)
            refine wpIn_skip ?_
            refine then_n ?_
            refine x_seq ?_
            refine wpIn_block ?_
            refine x_seq ?_
            refine wpIn_region_lit ?_
            refine x_run tab hk (k := 2) (lv := []) (ks := [5, 6, 7, 8, 13, 70, 71]) (e' := [(5, .pointer (some ⟨bx18, 0, none⟩)), (6, .int .i64 t68), (7, .slice A161 (l163).length c162), (8, .slice A249 (l251).length c250), (13, .int .i64 x576), (70, .int .i64 (IntKind.wrap .i64 (t68 + 1))), (71, .int .i64 x576)]) rfl trivial fun a hk => ?_
            refine wpListIn_nil ?_
            refine then_n ?_
            refine x_seq ?_
            refine xd_begin (o := o575) (fun W_ => (Own (encInt .i64) 3 (.slice A161 (l163).length c162) l163) W_ ∧ True) mixed rfl rfl fun w636 st637 => ?_
            replace f164 := f164.st st637 (by decide)
            replace f252 := f252.st st637 (by decide)
            replace f275 := f275.st st637 (by decide)
            replace f278 := f278.st st637 (by decide)
            replace f282 := f282.st st637 (by decide)
            replace f286 := f286.st st637 (by decide)
            replace fg0 := fg0.st st637 (by decide)
            replace fg1 := fg1.st st637 (by decide)
            replace fg2 := fg2.st st637 (by decide)
            replace hs := hs.locQ st637 hob rfl
            obtain ⟨q638, H⟩ := ifS H
            obtain ⟨ad639, hAad639⟩ := RdC.addr (Own.rd f164.now) q638
            have hk_C := hk
            have f164_C := f164
            have f252_C := f252
            have f275_C := f275
            have f278_C := f278
            have f282_C := f282
            have f286_C := f286
            have fg0_C := fg0
            have fg1_C := fg1
            have fg2_C := fg2
            subst hAad639
            have hk := hk_C
            clear hk_C
            have f164 := f164_C
            clear f164_C
            have f252 := f252_C
            clear f252_C
            have f275 := f275_C
            clear f275_C
            have f278 := f278_C
            clear f278_C
            have f282 := f282_C
            clear f282_C
            have f286 := f286_C
            clear f286_C
            have fg0 := fg0_C
            clear fg0_C
            have fg1 := fg1_C
            clear fg1_C
            have fg2 := fg2_C
            clear fg2_C
            refine xd_take tab hk (k := 2) (is := [0, 1, 3, 4, 5, 6]) (ls' := #[true, true, false, true, true, true, true, false]) (lv := [.int .i64 (rdD 0 l163 x576)]) (ks := [5, 6, 7, 8, 70, 71, 74, 75, 80]) (e' := [(5, .pointer (some ⟨bx18, 0, none⟩)), (6, .int .i64 t68), (7, .slice (some ad639) (l163).length c162), (8, .slice A249 (l251).length c250), (70, .int .i64 (IntKind.wrap .i64 (t68 + 1))), (71, .int .i64 x576), (74, .pointer (some ⟨bx18, 0, none⟩)), (75, .int .i64 x576), (80, .int .i64 (rdD 0 l163 x576))]) (by kernel_rfl) rfl rfl (by kernel_rfl) (np_then (np_blk (np_then (np_then (np_blk (np_then np_body)))))) ⟨f164.now, trivial⟩ (fun W_ hS => ⟨q638, (load1 tab rfl (RdC.at0 (E := (encInt .i64)) (d := 0) (i := x576) (Own.rd hS.1) q638 rfl)), trivial⟩) fun a hk => ?_
            refine xd_op hk (i := 2) (by kernel_rfl) rfl rfl ?_
            obtain ⟨t643, hc644, H⟩ := bindS H
            refine op_call hk ent_21 (vs := [.pointer (some ⟨bx18, 0, none⟩), .int .i64 x576]) rfl (book_Book_Chain_calls bx18 A276 c277 A280 c281 A284 c285 t270.2 x576 _ o575 1 101 f275 _ f278.rd hc279 _ (f282.imp fun _ h_ => Own.rd h_) hc283 _ (f286.imp fun _ h_ => Own.rd h_) hc287 (by decide) (by decide) (by decide) (by decide) (by decide)   _ hc644) ?_
            rintro _ w645 ⟨o646, rfl, st647⟩
            replace f164 := f164.st st647 (by decide)
            replace f252 := f252.st st647 (by decide)
            replace f275 := f275.st st647 (by decide)
            replace f278 := f278.st st647 (by decide)
            replace f282 := f282.st st647 (by decide)
            replace f286 := f286.st st647 (by decide)
            replace fg0 := fg0.st st647 (by decide)
            replace fg1 := fg1.st st647 (by decide)
            replace fg2 := fg2.st st647 (by decide)
            replace hs := hs.locQ st647 hob rfl
            have hk := hk.put 76 (.int .i64 t643) rfl
            refine ⟨.inr ⟨f164.now, trivial⟩, ?_⟩
            refine xd_take tab hk (k := 0) (is := [7]) (ls' := #[true, true, true, true, true, true, true, true]) (lv := []) (ks := [5, 6, 7, 8, 70, 71, 81]) (e' := [(5, .pointer (some ⟨bx18, 0, none⟩)), (6, .int .i64 t68), (7, .slice (some ad639) (l163).length c162), (8, .slice A249 (l251).length c250), (70, .int .i64 (IntKind.wrap .i64 (t68 + 1))), (71, .int .i64 x576), (81, .bool (t643 != (rdD 0 l163 x576)))]) (by kernel_rfl) rfl rfl (by kernel_rfl) (np_then (np_blk (np_then (np_then (np_blk (np_then np_body)))))) ⟨f164.now, trivial⟩ (fun W_ hS => trivial) fun a hk => ?_
            refine xd_done (by kernel_rfl) ?_
            refine then_n ?_
            cases b648 : (t643 != (rdD 0 l163 x576))
            · rw [b648] at hk H
              replace H := bifF H
              refine x_if hk (b := false) rfl ?_
              refine (show Code.wpIn _ _ _ _ _ _ _ from ?_)
              refine wpIn_skip ?_
              refine blk_n ?_
              refine then_n ?_
              refine wpIn_region_lit ?_
              refine x_run tab hk (k := 2) (lv := []) (ks := [5, 6, 7, 8, 70, 71]) (e' := [(5, .pointer (some ⟨bx18, 0, none⟩)), (6, .int .i64 t68), (7, .slice (some ad639) (l163).length c162), (8, .slice A249 (l251).length c250), (70, .int .i64 (IntKind.wrap .i64 (t68 + 1))), (71, .int .i64 (IntKind.wrap .i64 (x576 + 1)))]) rfl trivial fun a hk => ?_
              refine wpListIn_nil ?_
              refine then_n ?_
              exact ⟨k612, Nat.le_refl _, o646, (IntKind.wrap .i64 (x576 + 1)), (by exact Kn.pick (ks := [5, 6, 7, 8, 70, 71]) hk rfl), hs, f164, f252, f275, f278, f282, f286, fg0, fg1, fg2, (hlp614 ▸ H)⟩
            · rw [b648] at hk H
              replace H := bifT H
              refine x_if hk (b := true) rfl ?_
              refine (show Code.wpIn _ _ _ _ _ _ _ from ?_)
              refine x_seq ?_
              refine wpIn_region_lit ?_
              refine x_run tab hk (k := 1) (lv := []) (ks := [4]) (e' := [(4, .bool false)]) rfl trivial fun a hk => ?_
              refine wpListIn_nil ?_
              refine then_n ?_
              refine wpIn_ret ?_
              refine blk_r ?_
              refine then_r ?_
              refine then_r ?_
              refine blk_r ?_
              refine then_r ?_
              obtain rfl := Option.some.inj H
              exact x_retG hk (rs := [.tmp 4]) (vs := [.bool false]) rfl ⟨rfl, trivial⟩ ⟨fun b_ => if b_ < w.heap.size then o b_ else (fun l_ => if l_ = 1 then LF else 0) (o646 b_), rfl, hs.closeF (Lm := []) (Sh := []) hoa rfl (fun l_ => if l_ = 1 then LF else 0)⟩
        · rw [b296] at hk H
          replace H := bifT H
          refine x_if hk (b := true) rfl ?_
          refine (show Code.wpIn _ _ _ _ _ _ _ from ?_)
          refine x_seq ?_
          refine wpIn_region_lit ?_
          refine x_run tab hk (k := 1) (lv := []) (ks := [4]) (e' := [(4, .bool false)]) rfl trivial fun a hk => ?_
          refine wpListIn_nil ?_
          refine then_n ?_
          refine wpIn_ret ?_
          refine then_r ?_
          obtain rfl := Option.some.inj H
          exact x_retG hk (rs := [.tmp 4]) (vs := [.bool false]) rfl ⟨rfl, trivial⟩ ⟨fun b_ => if b_ < w.heap.size then o b_ else (fun l_ => if l_ = 1 then LF else 0) (o294 b_), rfl, hs.closeF (Lm := []) (Sh := []) hoa rfl (fun l_ => if l_ = 1 then LF else 0)⟩
      refine x_seq ?_
      refine wpIn_region_lit ?_
      refine x_run tab hk (k := 2) (lv := []) (ks := [1, 5, 6, 7, 8, 45, 46]) (e' := [(1, .slice Ap1 (p1).length cp1), (5, .pointer (some ⟨bx18, 0, none⟩)), (6, .int .i64 t68), (7, .slice A161 (l163).length c162), (8, .slice A87 ((List.replicate (Int.toNat t68) (0 : Int))).length c88), (45, .int .i64 t68), (46, .int .i64 0)]) rfl trivial fun a hk => ?_
      refine wpListIn_nil ?_
      refine then_n ?_
      refine wpIn_block ?_
      refine x_loop (fun j_ a_ w_ => ∃ o671 : Nat → Nat, ∃ A672 : Option Addr, ∃ c673 : Nat, ∃ l674 : List Int, ∃ x677 : Int, Kn 105 a_ [(1, .slice Ap1 (p1).length cp1), (5, .pointer (some ⟨bx18, 0, none⟩)), (6, .int .i64 t68), (7, .slice A161 (l163).length c162), (8, .slice A672 (l674).length c673), (45, .int .i64 t68), (46, .int .i64 x677)] ∧ St [] w oi w_ o671 ∧ Ft (Own (encInt .i64) 3 (.slice A161 (l163).length c162) l163) w_ o671 115 ∧ Ft (Bx bx18 76 [.slice A53 (t47.2.l).length c54, .slice A57 (t47.2.chains).length c58, .slice A61 (t47.2.begun).length c62]) w_ o671 114 ∧ NOwn (dRows ET49) 40 A53 c54 t47.2.l w_ o671 111 1 ∧ Ft (Own (encInt .i64) 3 (.slice A57 (t47.2.chains).length c58) t47.2.chains) w_ o671 112 ∧ Ft (Own ET49 50 (.slice A61 (t47.2.begun).length c62) t47.2.begun) w_ o671 113 ∧ Ft (Own (encInt .i64) 3 (.slice A672 (l674).length c673) l674) w_ o671 116 ∧ NRd dT26 Ap1 p1 w_ o671 0 0 ∧ Ft (RdC ET111 (some ⟨0, 0, none⟩) glob0) w_ o671 0 ∧ Ft (RdC ET111 (some ⟨1, 0, none⟩) glob1) w_ o671 0 ∧ Ft (RdC (encInt .u32) (some ⟨2, 0, none⟩) glob2) w_ o671 0 ∧ (l674).length ≤ c673 ∧ tidewracklaw12_BookStays_l7 K p1 t47 t68 l163 j_ l674 x677 = some r) (k := K) ⟨(fun b_ => (fun l_ => if l_ = 21 then 111 else if l_ = 22 then 112 else if l_ = 23 then 113 else if l_ = 24 then 114 else if l_ = 25 then 115 else if l_ = 26 then 116 else l_) (o160 b_)), A87, c88, (List.replicate (Int.toNat t68) (0 : Int)), 0, (by exact Kn.pick (ks := [1, 5, 6, 7, 8, 45, 46]) hk rfl), (hs.relabM hob (fun l_ => if l_ = 21 then 111 else if l_ = 22 then 112 else if l_ = 23 then 113 else if l_ = 24 then 114 else if l_ = 25 then 115 else if l_ = 26 then 116 else l_) (by decide)), (f164.relab (fun l_ => if l_ = 21 then 111 else if l_ = 22 then 112 else if l_ = 23 then 113 else if l_ = 24 then 114 else if l_ = 25 then 115 else if l_ = 26 then 116 else l_) rfl), (f52.relab (fun l_ => if l_ = 21 then 111 else if l_ = 22 then 112 else if l_ = 23 then 113 else if l_ = 24 then 114 else if l_ = 25 then 115 else if l_ = 26 then 116 else l_) rfl), (f55.relab (fun l_ => if l_ = 21 then 111 else if l_ = 22 then 112 else if l_ = 23 then 113 else if l_ = 24 then 114 else if l_ = 25 then 115 else if l_ = 26 then 116 else l_) rfl), (f59.relab (fun l_ => if l_ = 21 then 111 else if l_ = 22 then 112 else if l_ = 23 then 113 else if l_ = 24 then 114 else if l_ = 25 then 115 else if l_ = 26 then 116 else l_) rfl), (f63.relab (fun l_ => if l_ = 21 then 111 else if l_ = 22 then 112 else if l_ = 23 then 113 else if l_ = 24 then 114 else if l_ = 25 then 115 else if l_ = 26 then 116 else l_) rfl), (f89.relab (fun l_ => if l_ = 21 then 111 else if l_ = 22 then 112 else if l_ = 23 then 113 else if l_ = 24 then 114 else if l_ = 25 then 115 else if l_ = 26 then 116 else l_) rfl), (f900020.relab (fun l_ => if l_ = 21 then 111 else if l_ = 22 then 112 else if l_ = 23 then 113 else if l_ = 24 then 114 else if l_ = 25 then 115 else if l_ = 26 then 116 else l_) rfl), (fg0.relab (fun l_ => if l_ = 21 then 111 else if l_ = 22 then 112 else if l_ = 23 then 113 else if l_ = 24 then 114 else if l_ = 25 then 115 else if l_ = 26 then 116 else l_) rfl), (fg1.relab (fun l_ => if l_ = 21 then 111 else if l_ = 22 then 112 else if l_ = 23 then 113 else if l_ = 24 then 114 else if l_ = 25 then 115 else if l_ = 26 then 116 else l_) rfl), (fg2.relab (fun l_ => if l_ = 21 then 111 else if l_ = 22 then 112 else if l_ = 23 then 113 else if l_ = 24 then 114 else if l_ = 25 then 115 else if l_ = 26 then 116 else l_) rfl), hc90, H⟩ (by rintro _ _ ⟨_, _, _, _, _, _, _, _, _, _, _, _, _, _, _, _, _, _, H_⟩; exact absurd (show (none : Option Bool) = some r from H_) (by simp)) ?_
      rintro k698 a w697 ⟨o671, A672, c673, l674, x677, hk, hs, f164, f52, f55, f59, f63, f675, f900020, fg0, fg1, fg2, hc676, H⟩
      rw [tidewracklaw12_BookStays_l7] at H
      obtain ⟨lp699, hlp700⟩ : ∃ lp_, lp_ = tidewracklaw12_BookStays_l7 K p1 t47 t68 l163 k698 := ⟨_, rfl⟩
      rw [← hlp700] at H
      refine x_seq ?_
      refine wpIn_region_lit ?_
      refine x_run tab hk (k := 1) (lv := []) (ks := [1, 5, 6, 7, 8, 45, 46, 47]) (e' := [(1, .slice Ap1 (p1).length cp1), (5, .pointer (some ⟨bx18, 0, none⟩)), (6, .int .i64 t68), (7, .slice A161 (l163).length c162), (8, .slice A672 (l674).length c673), (45, .int .i64 t68), (46, .int .i64 x677), (47, .bool (decide (x677 < t68)))]) rfl trivial fun a hk => ?_
      refine wpListIn_nil ?_
      refine then_n ?_
      refine x_seq ?_
      cases b701 : (decide (x677 < t68))
      · rw [b701] at hk H
        replace H := bifF H
        refine x_if hk (b := false) rfl ?_
        refine (show Code.wpIn _ _ _ _ _ _ _ from ?_)
        refine wpIn_exit ?_
        refine then_x ?_
        refine then_x ?_
        refine blk_x ?_
        refine then_n ?_
        exact ⟨(fun b_ => (fun l_ => if l_ = 111 then 42 else if l_ = 112 then 43 else if l_ = 113 then 44 else if l_ = 114 then 45 else if l_ = 115 then 46 else if l_ = 116 then 47 else l_) (o671 b_)), A672, c673, l674, (by exact Kn.pick (ks := [1, 5, 6, 7, 8]) hk rfl), (hs.relabM hob (fun l_ => if l_ = 111 then 42 else if l_ = 112 then 43 else if l_ = 113 then 44 else if l_ = 114 then 45 else if l_ = 115 then 46 else if l_ = 116 then 47 else l_) (by decide)), (f164.relab (fun l_ => if l_ = 111 then 42 else if l_ = 112 then 43 else if l_ = 113 then 44 else if l_ = 114 then 45 else if l_ = 115 then 46 else if l_ = 116 then 47 else l_) rfl), (f675.relab (fun l_ => if l_ = 111 then 42 else if l_ = 112 then 43 else if l_ = 113 then 44 else if l_ = 114 then 45 else if l_ = 115 then 46 else if l_ = 116 then 47 else l_) rfl), (f52.relab (fun l_ => if l_ = 111 then 42 else if l_ = 112 then 43 else if l_ = 113 then 44 else if l_ = 114 then 45 else if l_ = 115 then 46 else if l_ = 116 then 47 else l_) rfl), (f55.relab (fun l_ => if l_ = 111 then 42 else if l_ = 112 then 43 else if l_ = 113 then 44 else if l_ = 114 then 45 else if l_ = 115 then 46 else if l_ = 116 then 47 else l_) rfl), (f59.relab (fun l_ => if l_ = 111 then 42 else if l_ = 112 then 43 else if l_ = 113 then 44 else if l_ = 114 then 45 else if l_ = 115 then 46 else if l_ = 116 then 47 else l_) rfl), (f63.relab (fun l_ => if l_ = 111 then 42 else if l_ = 112 then 43 else if l_ = 113 then 44 else if l_ = 114 then 45 else if l_ = 115 then 46 else if l_ = 116 then 47 else l_) rfl), (f900020.relab (fun l_ => if l_ = 111 then 42 else if l_ = 112 then 43 else if l_ = 113 then 44 else if l_ = 114 then 45 else if l_ = 115 then 46 else if l_ = 116 then 47 else l_) rfl), (fg0.relab (fun l_ => if l_ = 111 then 42 else if l_ = 112 then 43 else if l_ = 113 then 44 else if l_ = 114 then 45 else if l_ = 115 then 46 else if l_ = 116 then 47 else l_) rfl), (fg1.relab (fun l_ => if l_ = 111 then 42 else if l_ = 112 then 43 else if l_ = 113 then 44 else if l_ = 114 then 45 else if l_ = 115 then 46 else if l_ = 116 then 47 else l_) rfl), (fg2.relab (fun l_ => if l_ = 111 then 42 else if l_ = 112 then 43 else if l_ = 113 then 44 else if l_ = 114 then 45 else if l_ = 115 then 46 else if l_ = 116 then 47 else l_) rfl), hc676, H⟩
      · rw [b701] at hk H
        replace H := bifT H
        refine x_if hk (b := true) rfl ?_
        refine (show Code.wpIn _ _ _ _ _ _ _ from ?_)
        refine wpIn_skip ?_
        refine then_n ?_
        refine x_seq ?_
        refine wpIn_block ?_
        refine x_seq ?_
        refine wpIn_region_lit ?_
        refine x_run tab hk (k := 2) (lv := []) (ks := [1, 5, 6, 7, 8, 10, 45, 46]) (e' := [(1, .slice Ap1 (p1).length cp1), (5, .pointer (some ⟨bx18, 0, none⟩)), (6, .int .i64 t68), (7, .slice A161 (l163).length c162), (8, .slice A672 (l674).length c673), (10, .int .i64 x677), (45, .int .i64 t68), (46, .int .i64 x677)]) rfl trivial fun a hk => ?_
        refine wpListIn_nil ?_
        refine then_n ?_
        refine x_seq ?_
        refine wpIn_region_lit ?_
        refine x_run tab hk (k := 2) (lv := []) (ks := [1, 5, 6, 7, 8, 10, 45, 46, 50, 51]) (e' := [(1, .slice Ap1 (p1).length cp1), (5, .pointer (some ⟨bx18, 0, none⟩)), (6, .int .i64 t68), (7, .slice A161 (l163).length c162), (8, .slice A672 (l674).length c673), (10, .int .i64 x677), (45, .int .i64 t68), (46, .int .i64 x677), (50, .pointer (some ⟨bx18, 0, none⟩)), (51, .int .i64 x677)]) rfl trivial fun a hk => ?_
        refine x_op hk rfl ?_
        obtain ⟨t705, hc706, H⟩ := bindS H
        refine op_call hk ent_17 (vs := [.pointer (some ⟨bx18, 0, none⟩), .int .i64 x677]) rfl (book_Book_Line_calls bx18 A53 c54 A57 c58 A61 c62 t47.2 x677 _ o671 1 114 f52 _ f55.rd hc56 _ (f59.imp fun _ h_ => Own.rd h_) hc60 _ (f63.imp fun _ h_ => Own.rd h_) hc64 (by decide) (by decide) (by decide) (by decide) (by decide) 118  _ hc706) ?_
        rintro _ w707 ⟨o708, A710, c711, rfl, st709, f712, hc713⟩
        replace f164 := f164.st st709 (by decide)
        replace f52 := f52.st st709 (by decide)
        replace f55 := f55.st st709 (by decide)
        replace f59 := f59.st st709 (by decide)
        replace f63 := f63.st st709 (by decide)
        replace f675 := f675.st st709 (by decide)
        replace f900020 := f900020.st st709 (by decide)
        replace fg0 := fg0.st st709 (by decide)
        replace fg1 := fg1.st st709 (by decide)
        replace fg2 := fg2.st st709 (by decide)
        replace hs := hs.locQ st709 hob rfl
        have hk := hk.put 52 (.tuple #[.slice A710 (t705.1).length c711, .bool t705.2]) rfl
        refine x_run tab hk (k := 5) (lv := []) (ks := [1, 5, 6, 7, 8, 10, 11, 45, 46]) (e' := [(1, .slice Ap1 (p1).length cp1), (5, .pointer (some ⟨bx18, 0, none⟩)), (6, .int .i64 t68), (7, .slice A161 (l163).length c162), (8, .slice A672 (l674).length c673), (10, .int .i64 x677), (11, .slice A710 (t705.1).length c711), (45, .int .i64 t68), (46, .int .i64 x677)]) rfl trivial fun a hk => ?_
        refine wpListIn_nil ?_
        refine then_n ?_
        refine wpIn_region_lit ?_
        obtain ⟨q714, H⟩ := ifS H
        obtain ⟨ad715, hAad715⟩ := RdC.addr (Own.rd f675.now) q714
        have hk_C := hk
        have f164_C := f164
        have f52_C := f52
        have f55_C := f55
        have f59_C := f59
        have f63_C := f63
        have f675_C := f675
        have f712_C := f712
        have f900020_C := f900020
        have fg0_C := fg0
        have fg1_C := fg1
        have fg2_C := fg2
        subst hAad715
        have hk := hk_C
        clear hk_C
        have f164 := f164_C
        clear f164_C
        have f52 := f52_C
        clear f52_C
        have f55 := f55_C
        clear f55_C
        have f59 := f59_C
        clear f59_C
        have f63 := f63_C
        clear f63_C
        have f675 := f675_C
        clear f675_C
        have f712 := f712_C
        clear f712_C
        have f900020 := f900020_C
        clear f900020_C
        have fg0 := fg0_C
        clear fg0_C
        have fg1 := fg1_C
        clear fg1_C
        have fg2 := fg2_C
        clear fg2_C
        refine x_run tab hk (k := 5) (lv := []) (ks := [1, 5, 6, 7, 8, 45, 46, 58, 59]) (e' := [(1, .slice Ap1 (p1).length cp1), (5, .pointer (some ⟨bx18, 0, none⟩)), (6, .int .i64 t68), (7, .slice A161 (l163).length c162), (8, .slice (some ad715) (l674).length c673), (45, .int .i64 t68), (46, .int .i64 x677), (58, .int .i64 ((t705.1).length : Int)), (59, .pointer (some (ad715.add (Int.toNat x677 * 1))))]) rfl ⟨q714, trivial⟩ fun a hk => ?_
        refine x_op hk rfl ?_
        refine op_storeO tab hk (E := (encInt .i64)) (i := x677) (j := 0) (dx := 0) (y' := ((t705.1).length : Int)) rfl rfl rfl f675 rfl q714 rfl rfl rfl rfl fun w716 o717 st718 f675_ => ?_
        replace f164 := f164.st st718 (by decide)
        replace f52 := f52.st st718 (by decide)
        replace f55 := f55.st st718 (by decide)
        replace f59 := f59.st st718 (by decide)
        replace f63 := f63.st st718 (by decide)
        replace f900020 := f900020.st st718 (by decide)
        replace fg0 := fg0.st st718 (by decide)
        replace fg1 := fg1.st st718 (by decide)
        replace fg2 := fg2.st st718 (by decide)
        replace hs := hs.locQ st718 hob rfl
        replace f675 := f675_
        have hl719 : (List.set l674 (Int.toNat x677) ((t705.1).length : Int)).length = (l674).length := List.length_set
        replace hk := Kn.re hk [1, 5, 6, 7, 8, 45, 46, 58] (e2 := [(1, .slice Ap1 (p1).length cp1), (5, .pointer (some ⟨bx18, 0, none⟩)), (6, .int .i64 t68), (7, .slice A161 (l163).length c162), (8, .slice (some ad715) ((List.set l674 (Int.toNat x677) ((t705.1).length : Int))).length c673), (45, .int .i64 t68), (46, .int .i64 x677), (58, .int .i64 ((t705.1).length : Int))]) rfl (by rw [hl719])
        refine wpListIn_nil ?_
        refine blk_n ?_
        refine then_n ?_
        refine wpIn_region_lit ?_
        refine x_run tab hk (k := 2) (lv := []) (ks := [1, 5, 6, 7, 8, 45, 46]) (e' := [(1, .slice Ap1 (p1).length cp1), (5, .pointer (some ⟨bx18, 0, none⟩)), (6, .int .i64 t68), (7, .slice A161 (l163).length c162), (8, .slice (some ad715) ((List.set l674 (Int.toNat x677) ((t705.1).length : Int))).length c673), (45, .int .i64 t68), (46, .int .i64 (IntKind.wrap .i64 (x677 + 1)))]) rfl trivial fun a hk => ?_
        refine wpListIn_nil ?_
        refine then_n ?_
        exact ⟨k698, Nat.le_refl _, o717, (some ad715), c673, (List.set l674 (Int.toNat x677) ((t705.1).length : Int)), (IntKind.wrap .i64 (x677 + 1)), (by exact Kn.pick (ks := [1, 5, 6, 7, 8, 45, 46]) hk rfl), hs, f164, f52, f55, f59, f63, f675, f900020, fg0, fg1, fg2, (by rw [List.length_set]; exact hc676), (hlp700 ▸ H)⟩
    refine x_seq ?_
    refine wpIn_region_lit ?_
    refine x_run tab hk (k := 3) (lv := []) (ks := [1, 5, 6, 7, 8, 34, 35]) (e' := [(1, .slice Ap1 (p1).length cp1), (5, .pointer (some ⟨bx18, 0, none⟩)), (6, .int .i64 t68), (7, .slice A78 ((List.replicate (Int.toNat (IntKind.wrap .i64 (t68 + 1))) (0 : Int))).length c79), (8, .slice A87 ((List.replicate (Int.toNat t68) (0 : Int))).length c88), (34, .int .i64 (IntKind.wrap .i64 (t68 + 1))), (35, .int .i64 0)]) rfl trivial fun a hk => ?_
    refine wpListIn_nil ?_
    refine then_n ?_
    refine wpIn_block ?_
    refine x_loop (fun j_ a_ w_ => ∃ o738 : Nat → Nat, ∃ A739 : Option Addr, ∃ c740 : Nat, ∃ l741 : List Int, ∃ x744 : Int, Kn 105 a_ [(1, .slice Ap1 (p1).length cp1), (5, .pointer (some ⟨bx18, 0, none⟩)), (6, .int .i64 t68), (7, .slice A739 (l741).length c740), (8, .slice A87 ((List.replicate (Int.toNat t68) (0 : Int))).length c88), (34, .int .i64 (IntKind.wrap .i64 (t68 + 1))), (35, .int .i64 x744)] ∧ St [] w oi w_ o738 ∧ Ft (Bx bx18 76 [.slice A53 (t47.2.l).length c54, .slice A57 (t47.2.chains).length c58, .slice A61 (t47.2.begun).length c62]) w_ o738 128 ∧ NOwn (dRows ET49) 40 A53 c54 t47.2.l w_ o738 125 1 ∧ Ft (Own (encInt .i64) 3 (.slice A57 (t47.2.chains).length c58) t47.2.chains) w_ o738 126 ∧ Ft (Own ET49 50 (.slice A61 (t47.2.begun).length c62) t47.2.begun) w_ o738 127 ∧ Ft (Own (encInt .i64) 3 (.slice A739 (l741).length c740) l741) w_ o738 129 ∧ Ft (Own (encInt .i64) 3 (.slice A87 ((List.replicate (Int.toNat t68) (0 : Int))).length c88) (List.replicate (Int.toNat t68) (0 : Int))) w_ o738 130 ∧ NRd dT26 Ap1 p1 w_ o738 0 0 ∧ Ft (RdC ET111 (some ⟨0, 0, none⟩) glob0) w_ o738 0 ∧ Ft (RdC ET111 (some ⟨1, 0, none⟩) glob1) w_ o738 0 ∧ Ft (RdC (encInt .u32) (some ⟨2, 0, none⟩) glob2) w_ o738 0 ∧ (l741).length ≤ c740 ∧ tidewracklaw12_BookStays_l8 K p1 t47 t68 j_ l741 x744 = some r) (k := K) ⟨(fun b_ => (fun l_ => if l_ = 2 then 128 else if l_ = 3 then 125 else if l_ = 4 then 126 else if l_ = 5 then 127 else if l_ = 7 then 129 else if l_ = 8 then 130 else l_) (o83 b_)), A78, c79, (List.replicate (Int.toNat (IntKind.wrap .i64 (t68 + 1))) (0 : Int)), 0, (by exact Kn.pick (ks := [1, 5, 6, 7, 8, 34, 35]) hk rfl), (hs.relabM hob (fun l_ => if l_ = 2 then 128 else if l_ = 3 then 125 else if l_ = 4 then 126 else if l_ = 5 then 127 else if l_ = 7 then 129 else if l_ = 8 then 130 else l_) (by decide)), (f52.relab (fun l_ => if l_ = 2 then 128 else if l_ = 3 then 125 else if l_ = 4 then 126 else if l_ = 5 then 127 else if l_ = 7 then 129 else if l_ = 8 then 130 else l_) rfl), (f55.relab (fun l_ => if l_ = 2 then 128 else if l_ = 3 then 125 else if l_ = 4 then 126 else if l_ = 5 then 127 else if l_ = 7 then 129 else if l_ = 8 then 130 else l_) rfl), (f59.relab (fun l_ => if l_ = 2 then 128 else if l_ = 3 then 125 else if l_ = 4 then 126 else if l_ = 5 then 127 else if l_ = 7 then 129 else if l_ = 8 then 130 else l_) rfl), (f63.relab (fun l_ => if l_ = 2 then 128 else if l_ = 3 then 125 else if l_ = 4 then 126 else if l_ = 5 then 127 else if l_ = 7 then 129 else if l_ = 8 then 130 else l_) rfl), (f80.relab (fun l_ => if l_ = 2 then 128 else if l_ = 3 then 125 else if l_ = 4 then 126 else if l_ = 5 then 127 else if l_ = 7 then 129 else if l_ = 8 then 130 else l_) rfl), (f89.relab (fun l_ => if l_ = 2 then 128 else if l_ = 3 then 125 else if l_ = 4 then 126 else if l_ = 5 then 127 else if l_ = 7 then 129 else if l_ = 8 then 130 else l_) rfl), (f900020.relab (fun l_ => if l_ = 2 then 128 else if l_ = 3 then 125 else if l_ = 4 then 126 else if l_ = 5 then 127 else if l_ = 7 then 129 else if l_ = 8 then 130 else l_) rfl), (fg0.relab (fun l_ => if l_ = 2 then 128 else if l_ = 3 then 125 else if l_ = 4 then 126 else if l_ = 5 then 127 else if l_ = 7 then 129 else if l_ = 8 then 130 else l_) rfl), (fg1.relab (fun l_ => if l_ = 2 then 128 else if l_ = 3 then 125 else if l_ = 4 then 126 else if l_ = 5 then 127 else if l_ = 7 then 129 else if l_ = 8 then 130 else l_) rfl), (fg2.relab (fun l_ => if l_ = 2 then 128 else if l_ = 3 then 125 else if l_ = 4 then 126 else if l_ = 5 then 127 else if l_ = 7 then 129 else if l_ = 8 then 130 else l_) rfl), hc81, H⟩ (by rintro _ _ ⟨_, _, _, _, _, _, _, _, _, _, _, _, _, _, _, _, _, _, H_⟩; exact absurd (show (none : Option Bool) = some r from H_) (by simp)) ?_
    rintro k761 a w760 ⟨o738, A739, c740, l741, x744, hk, hs, f52, f55, f59, f63, f742, f89, f900020, fg0, fg1, fg2, hc743, H⟩
    rw [tidewracklaw12_BookStays_l8] at H
    obtain ⟨lp762, hlp763⟩ : ∃ lp_, lp_ = tidewracklaw12_BookStays_l8 K p1 t47 t68 k761 := ⟨_, rfl⟩
    rw [← hlp763] at H
    refine x_seq ?_
    refine wpIn_region_lit ?_
    refine x_run tab hk (k := 1) (lv := []) (ks := [1, 5, 6, 7, 8, 34, 35, 36]) (e' := [(1, .slice Ap1 (p1).length cp1), (5, .pointer (some ⟨bx18, 0, none⟩)), (6, .int .i64 t68), (7, .slice A739 (l741).length c740), (8, .slice A87 ((List.replicate (Int.toNat t68) (0 : Int))).length c88), (34, .int .i64 (IntKind.wrap .i64 (t68 + 1))), (35, .int .i64 x744), (36, .bool (decide (x744 < (IntKind.wrap .i64 (t68 + 1)))))]) rfl trivial fun a hk => ?_
    refine wpListIn_nil ?_
    refine then_n ?_
    refine x_seq ?_
    cases b764 : (decide (x744 < (IntKind.wrap .i64 (t68 + 1))))
    · rw [b764] at hk H
      replace H := bifF H
      refine x_if hk (b := false) rfl ?_
      refine (show Code.wpIn _ _ _ _ _ _ _ from ?_)
      refine wpIn_exit ?_
      refine then_x ?_
      refine then_x ?_
      refine blk_x ?_
      refine then_n ?_
      exact ⟨(fun b_ => (fun l_ => if l_ = 125 then 21 else if l_ = 126 then 22 else if l_ = 127 then 23 else if l_ = 128 then 24 else if l_ = 129 then 25 else if l_ = 130 then 26 else l_) (o738 b_)), A739, c740, l741, (by exact Kn.pick (ks := [1, 5, 6, 7, 8]) hk rfl), (hs.relabM hob (fun l_ => if l_ = 125 then 21 else if l_ = 126 then 22 else if l_ = 127 then 23 else if l_ = 128 then 24 else if l_ = 129 then 25 else if l_ = 130 then 26 else l_) (by decide)), (f742.relab (fun l_ => if l_ = 125 then 21 else if l_ = 126 then 22 else if l_ = 127 then 23 else if l_ = 128 then 24 else if l_ = 129 then 25 else if l_ = 130 then 26 else l_) rfl), (f52.relab (fun l_ => if l_ = 125 then 21 else if l_ = 126 then 22 else if l_ = 127 then 23 else if l_ = 128 then 24 else if l_ = 129 then 25 else if l_ = 130 then 26 else l_) rfl), (f55.relab (fun l_ => if l_ = 125 then 21 else if l_ = 126 then 22 else if l_ = 127 then 23 else if l_ = 128 then 24 else if l_ = 129 then 25 else if l_ = 130 then 26 else l_) rfl), (f59.relab (fun l_ => if l_ = 125 then 21 else if l_ = 126 then 22 else if l_ = 127 then 23 else if l_ = 128 then 24 else if l_ = 129 then 25 else if l_ = 130 then 26 else l_) rfl), (f63.relab (fun l_ => if l_ = 125 then 21 else if l_ = 126 then 22 else if l_ = 127 then 23 else if l_ = 128 then 24 else if l_ = 129 then 25 else if l_ = 130 then 26 else l_) rfl), (f89.relab (fun l_ => if l_ = 125 then 21 else if l_ = 126 then 22 else if l_ = 127 then 23 else if l_ = 128 then 24 else if l_ = 129 then 25 else if l_ = 130 then 26 else l_) rfl), (f900020.relab (fun l_ => if l_ = 125 then 21 else if l_ = 126 then 22 else if l_ = 127 then 23 else if l_ = 128 then 24 else if l_ = 129 then 25 else if l_ = 130 then 26 else l_) rfl), (fg0.relab (fun l_ => if l_ = 125 then 21 else if l_ = 126 then 22 else if l_ = 127 then 23 else if l_ = 128 then 24 else if l_ = 129 then 25 else if l_ = 130 then 26 else l_) rfl), (fg1.relab (fun l_ => if l_ = 125 then 21 else if l_ = 126 then 22 else if l_ = 127 then 23 else if l_ = 128 then 24 else if l_ = 129 then 25 else if l_ = 130 then 26 else l_) rfl), (fg2.relab (fun l_ => if l_ = 125 then 21 else if l_ = 126 then 22 else if l_ = 127 then 23 else if l_ = 128 then 24 else if l_ = 129 then 25 else if l_ = 130 then 26 else l_) rfl), hc743, H⟩
    · rw [b764] at hk H
      replace H := bifT H
      refine x_if hk (b := true) rfl ?_
      refine (show Code.wpIn _ _ _ _ _ _ _ from ?_)
      refine wpIn_skip ?_
      refine then_n ?_
      refine x_seq ?_
      refine wpIn_block ?_
      refine x_seq ?_
      refine wpIn_region_lit ?_
      refine x_run tab hk (k := 2) (lv := []) (ks := [1, 5, 6, 7, 8, 9, 34, 35]) (e' := [(1, .slice Ap1 (p1).length cp1), (5, .pointer (some ⟨bx18, 0, none⟩)), (6, .int .i64 t68), (7, .slice A739 (l741).length c740), (8, .slice A87 ((List.replicate (Int.toNat t68) (0 : Int))).length c88), (9, .int .i64 x744), (34, .int .i64 (IntKind.wrap .i64 (t68 + 1))), (35, .int .i64 x744)]) rfl trivial fun a hk => ?_
      refine wpListIn_nil ?_
      refine then_n ?_
      refine wpIn_region_lit ?_
      refine x_run tab hk (k := 4) (lv := []) (ks := [1, 5, 6, 7, 8, 34, 35, 38, 39, 40, 41]) (e' := [(1, .slice Ap1 (p1).length cp1), (5, .pointer (some ⟨bx18, 0, none⟩)), (6, .int .i64 t68), (7, .slice A739 (l741).length c740), (8, .slice A87 ((List.replicate (Int.toNat t68) (0 : Int))).length c88), (34, .int .i64 (IntKind.wrap .i64 (t68 + 1))), (35, .int .i64 x744), (38, .slice A739 (l741).length c740), (39, .int .i64 x744), (40, .pointer (some ⟨bx18, 0, none⟩)), (41, .int .i64 x744)]) rfl trivial fun a hk => ?_
      refine x_op hk rfl ?_
      obtain ⟨t768, hc769, H⟩ := bindS H
      refine op_call hk ent_21 (vs := [.pointer (some ⟨bx18, 0, none⟩), .int .i64 x744]) rfl (book_Book_Chain_calls bx18 A53 c54 A57 c58 A61 c62 t47.2 x744 _ o738 1 128 f52 _ f55.rd hc56 _ (f59.imp fun _ h_ => Own.rd h_) hc60 _ (f63.imp fun _ h_ => Own.rd h_) hc64 (by decide) (by decide) (by decide) (by decide) (by decide)   _ hc769) ?_
      rintro _ w770 ⟨o771, rfl, st772⟩
      replace f52 := f52.st st772 (by decide)
      replace f55 := f55.st st772 (by decide)
      replace f59 := f59.st st772 (by decide)
      replace f63 := f63.st st772 (by decide)
      replace f742 := f742.st st772 (by decide)
      replace f89 := f89.st st772 (by decide)
      replace f900020 := f900020.st st772 (by decide)
      replace fg0 := fg0.st st772 (by decide)
      replace fg1 := fg1.st st772 (by decide)
      replace fg2 := fg2.st st772 (by decide)
      replace hs := hs.locQ st772 hob rfl
      have hk := hk.put 42 (.int .i64 t768) rfl
      obtain ⟨q773, H⟩ := ifS H
      obtain ⟨ad774, hAad774⟩ := RdC.addr (Own.rd f742.now) q773
      have hk_C := hk
      have f52_C := f52
      have f55_C := f55
      have f59_C := f59
      have f63_C := f63
      have f742_C := f742
      have f89_C := f89
      have f900020_C := f900020
      have fg0_C := fg0
      have fg1_C := fg1
      have fg2_C := fg2
      subst hAad774
      have hk := hk_C
      clear hk_C
      have f52 := f52_C
      clear f52_C
      have f55 := f55_C
      clear f55_C
      have f59 := f59_C
      clear f59_C
      have f63 := f63_C
      clear f63_C
      have f742 := f742_C
      clear f742_C
      have f89 := f89_C
      clear f89_C
      have f900020 := f900020_C
      clear f900020_C
      have fg0 := fg0_C
      clear fg0_C
      have fg1 := fg1_C
      clear fg1_C
      have fg2 := fg2_C
      clear fg2_C
      refine x_run tab hk (k := 1) (lv := []) (ks := [1, 5, 6, 7, 8, 34, 35, 42, 43]) (e' := [(1, .slice Ap1 (p1).length cp1), (5, .pointer (some ⟨bx18, 0, none⟩)), (6, .int .i64 t68), (7, .slice (some ad774) (l741).length c740), (8, .slice A87 ((List.replicate (Int.toNat t68) (0 : Int))).length c88), (34, .int .i64 (IntKind.wrap .i64 (t68 + 1))), (35, .int .i64 x744), (42, .int .i64 t768), (43, .pointer (some (ad774.add (Int.toNat x744 * 1))))]) rfl ⟨q773, trivial⟩ fun a hk => ?_
      refine x_op hk rfl ?_
      refine op_storeO tab hk (E := (encInt .i64)) (i := x744) (j := 0) (dx := 0) (y' := t768) rfl rfl rfl f742 rfl q773 rfl rfl rfl rfl fun w775 o776 st777 f742_ => ?_
      replace f52 := f52.st st777 (by decide)
      replace f55 := f55.st st777 (by decide)
      replace f59 := f59.st st777 (by decide)
      replace f63 := f63.st st777 (by decide)
      replace f89 := f89.st st777 (by decide)
      replace f900020 := f900020.st st777 (by decide)
      replace fg0 := fg0.st st777 (by decide)
      replace fg1 := fg1.st st777 (by decide)
      replace fg2 := fg2.st st777 (by decide)
      replace hs := hs.locQ st777 hob rfl
      replace f742 := f742_
      have hl778 : (List.set l741 (Int.toNat x744) t768).length = (l741).length := List.length_set
      replace hk := Kn.re hk [1, 5, 6, 7, 8, 34, 35, 42] (e2 := [(1, .slice Ap1 (p1).length cp1), (5, .pointer (some ⟨bx18, 0, none⟩)), (6, .int .i64 t68), (7, .slice (some ad774) ((List.set l741 (Int.toNat x744) t768)).length c740), (8, .slice A87 ((List.replicate (Int.toNat t68) (0 : Int))).length c88), (34, .int .i64 (IntKind.wrap .i64 (t68 + 1))), (35, .int .i64 x744), (42, .int .i64 t768)]) rfl (by rw [hl778])
      refine wpListIn_nil ?_
      refine blk_n ?_
      refine then_n ?_
      refine wpIn_region_lit ?_
      refine x_run tab hk (k := 2) (lv := []) (ks := [1, 5, 6, 7, 8, 34, 35]) (e' := [(1, .slice Ap1 (p1).length cp1), (5, .pointer (some ⟨bx18, 0, none⟩)), (6, .int .i64 t68), (7, .slice (some ad774) ((List.set l741 (Int.toNat x744) t768)).length c740), (8, .slice A87 ((List.replicate (Int.toNat t68) (0 : Int))).length c88), (34, .int .i64 (IntKind.wrap .i64 (t68 + 1))), (35, .int .i64 (IntKind.wrap .i64 (x744 + 1)))]) rfl trivial fun a hk => ?_
      refine wpListIn_nil ?_
      refine then_n ?_
      exact ⟨k761, Nat.le_refl _, o776, (some ad774), c740, (List.set l741 (Int.toNat x744) t768), (IntKind.wrap .i64 (x744 + 1)), (by exact Kn.pick (ks := [1, 5, 6, 7, 8, 34, 35]) hk rfl), hs, f52, f55, f59, f63, f742, f89, f900020, fg0, fg1, fg2, (by rw [List.length_set]; exact hc743), (hlp763 ▸ H)⟩
  · rw [b9] at hk H
    replace H := bifT H
    refine x_if hk (b := true) rfl ?_
    refine (show Code.wpIn _ _ _ _ _ _ _ from ?_)
    refine x_seq ?_
    refine wpIn_region_lit ?_
    refine x_run tab hk (k := 1) (lv := []) (ks := [4]) (e' := [(4, .bool false)]) rfl trivial fun a hk => ?_
    refine wpListIn_nil ?_
    refine then_n ?_
    refine wpIn_ret ?_
    refine then_r ?_
    obtain rfl := Option.some.inj H
    exact x_retG hk (rs := [.tmp 4]) (vs := [.bool false]) rfl ⟨rfl, trivial⟩ ⟨fun b_ => if b_ < w.heap.size then o b_ else (fun l_ => if l_ = 1 then LF else 0) (o7 b_), rfl, hs.closeF (Lm := []) (Sh := []) hoa rfl (fun l_ => if l_ = 1 then LF else 0)⟩

end Go.Proofs.YthmdgjdgnfoloaaDoor
