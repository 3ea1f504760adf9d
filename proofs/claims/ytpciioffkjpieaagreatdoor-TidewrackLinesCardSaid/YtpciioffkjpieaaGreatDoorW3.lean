/- Walks, printed by an own program: the machine's calls compute the plain functions. -/
import Derived.Test.YtpciioffkjpieaaGreatDoorW2
set_option linter.unusedVariables false
set_option linter.unusedSimpArgs false
namespace Go.Proofs.YtpciioffkjpieaaGreatDoor
open Go Go.Proofs.XC
/-! (*tidewrack/screen.Screen).control -/
abbrev R_70 (LF Lp0 Lp0_0 Lq0_0 : Nat) (l_ : Nat) : Nat := if l_ = 1 then LF else if l_ = 2 then Lp0 else if l_ = 3 then Lp0_0 else if l_ = 4 then Lq0_0 else 0
abbrev R_71 (LF Lp0 Lp0_0 Lq0_0 R0 : Nat) (l_ : Nat) : Nat := if l_ = 1 then LF else if l_ = 2 then Lp0 else if l_ = 3 then Lp0_0 else if l_ = 4 then Lq0_0 else if l_ = 5 then R0 else 0
set_option maxHeartbeats 4000000 in
set_option maxRecDepth 20000 in
theorem screen_Screen_control_calls (K : Nat) (bp0 : Nat) (bq0_0 : Nat) (Ap0_0 : Option Addr) (cp0_0 : Nat) (p0 : T55) (p1 : Int) (w : World) (o : Nat → Nat) (LF : Nat) (Lp0 : Nat) (hp0 : Ft (Bx bp0 56 [.pointer (some ⟨bq0_0, 0, none⟩), .int .i64 p0.spot_x, .int .i64 p0.spot_y, .int .i64 p0.spot_style_Fore, .int .i64 p0.spot_style_Back, .bool p0.spot_style_Bold, .bool p0.spot_style_Under, .bool p0.spot_style_Inverse, .int .i64 p0.saved_x, .int .i64 p0.saved_y, .int .i64 p0.saved_style_Fore, .int .i64 p0.saved_style_Back, .bool p0.saved_style_Bold, .bool p0.saved_style_Under, .bool p0.saved_style_Inverse, .bool p0.waiting, .int .i64 p0.top, .int .i64 p0.bottom, .bool p0.wraps, .string p0.title]) w o Lp0) (Lp0_0 : Nat) (hp0_0 : NOwn dT65 66 Ap0_0 cp0_0 p0.g_l w o Lp0_0 LF) (hcp0_0 : (p0.g_l).length ≤ cp0_0) (Lq0_0 : Nat) (hq0_0 : Ft (Bx bq0_0 75 [.int .i64 p0.g_w, .slice Ap0_0 (p0.g_l).length cp0_0]) w o Lq0_0) (hd0 : ([LF, Lp0, Lp0_0, Lq0_0] : List Nat).Nodup) (R0 : Nat) (r : (List T65) × T55) (H : screen_Screen_control K p0 p1 = some r) :
    Calls Tryz.prog 18 #[.pointer (some ⟨bp0, 0, none⟩), .int .u8 p1] w (Ret fun v_ w' => ∃ o' : Nat → Nat, ∃ A0 : Option Addr, ∃ c0 : Nat, ∃ b0 : Nat, ∃ A1 : Option Addr, ∃ c1 : Nat, v_ = .slice A0 (r.1).length c0 ∧ St [Lp0, Lp0_0, Lq0_0] w o w' o' ∧ NOwn dT65 66 A0 c0 r.1 w' o' R0 LF ∧ (r.1).length ≤ c0 ∧ Ft (Bx bp0 56 [.pointer (some ⟨b0, 0, none⟩), .int .i64 r.2.spot_x, .int .i64 r.2.spot_y, .int .i64 r.2.spot_style_Fore, .int .i64 r.2.spot_style_Back, .bool r.2.spot_style_Bold, .bool r.2.spot_style_Under, .bool r.2.spot_style_Inverse, .int .i64 r.2.saved_x, .int .i64 r.2.saved_y, .int .i64 r.2.saved_style_Fore, .int .i64 r.2.saved_style_Back, .bool r.2.saved_style_Bold, .bool r.2.saved_style_Under, .bool r.2.saved_style_Inverse, .bool r.2.waiting, .int .i64 r.2.top, .int .i64 r.2.bottom, .bool r.2.wraps, .string r.2.title]) w' o' Lp0 ∧ Ft (Bx b0 75 [.int .i64 r.2.g_w, .slice A1 (r.2.g_l).length c1]) w' o' Lq0_0 ∧ NOwn dT65 66 A1 c1 r.2.g_l w' o' Lp0_0 LF ∧ (r.2.g_l).length ≤ c1) := by
  refine x_enter (vs := [.pointer (some ⟨bp0, 0, none⟩), .int .u8 p1]) Tryz.func18 rfl rfl rfl fun a hk => ?_
  obtain ⟨oi, hs0, h0, h1, hob, hoz, hoa⟩ := St.startM2 w o (m := 4) hd0 rfl
  have hs := hs0 [2, 3, 4]
  have f900000 := hp0_0.conv (fun _ h_ => h1 2 3 h_ rfl rfl) (fun _ h_ => h1 0 1 h_ rfl rfl)
  have f900019 := h1 1 2 hp0 rfl rfl
  have f910000 := h1 3 4 hq0_0 rfl rfl
  clear h0 h1 hs0
  rw [screen_Screen_control] at H
  refine x_seq ?_
  refine wpIn_region_lit ?_
  refine x_run tab hk (k := 1) (lv := []) (ks := [0, 1]) (e' := [(0, .pointer (some ⟨bp0, 0, none⟩)), (1, .int .u8 p1)]) rfl trivial fun a hk => ?_
  refine wpListIn_nil ?_
  refine then_n ?_
  refine x_seq ?_
  refine x_seq ?_
  refine wpIn_region_lit ?_
  refine x_run tab hk (k := 1) (lv := []) (ks := [0, 5]) (e' := [(0, .pointer (some ⟨bp0, 0, none⟩)), (5, .int .u8 p1)]) rfl trivial fun a hk => ?_
  refine wpListIn_nil ?_
  refine then_n ?_
  refine wpIn_block ?_
  refine x_seq ?_
  refine wpIn_region_lit ?_
  refine x_run tab hk (k := 2) (lv := []) (ks := [0, 5, 6]) (e' := [(0, .pointer (some ⟨bp0, 0, none⟩)), (5, .int .u8 p1), (6, .bool (p1 == (8 : Int)))]) rfl trivial fun a hk => ?_
  refine wpListIn_nil ?_
  refine then_n ?_
  cases b1 : (p1 == (8 : Int))
  · rw [b1] at hk H
    replace H := bifF H
    refine x_if hk (b := false) rfl ?_
    refine (show Code.wpIn _ _ _ _ _ _ _ from ?_)
    refine x_seq ?_
    refine wpIn_region_lit ?_
    refine x_run tab hk (k := 2) (lv := []) (ks := [0, 5, 21]) (e' := [(0, .pointer (some ⟨bp0, 0, none⟩)), (5, .int .u8 p1), (21, .bool (p1 == (9 : Int)))]) rfl trivial fun a hk => ?_
    refine wpListIn_nil ?_
    refine then_n ?_
    cases b2 : (p1 == (9 : Int))
    · rw [b2] at hk H
      replace H := bifF H
      refine x_if hk (b := false) rfl ?_
      refine (show Code.wpIn _ _ _ _ _ _ _ from ?_)
      refine x_mid (fun a_ w_ => ∃ o11 : Nat → Nat, ∃ x12 : Bool, Kn 53 a_ [(0, .pointer (some ⟨bp0, 0, none⟩)), (5, .int .u8 p1), (38, .bool x12)] ∧ St [2, 3, 4] w oi w_ o11 ∧ NOwn dT65 66 Ap0_0 cp0_0 p0.g_l w_ o11 3 1 ∧ Ft (Bx bp0 56 [.pointer (some ⟨bq0_0, 0, none⟩), .int .i64 p0.spot_x, .int .i64 p0.spot_y, .int .i64 p0.spot_style_Fore, .int .i64 p0.spot_style_Back, .bool p0.spot_style_Bold, .bool p0.spot_style_Under, .bool p0.spot_style_Inverse, .int .i64 p0.saved_x, .int .i64 p0.saved_y, .int .i64 p0.saved_style_Fore, .int .i64 p0.saved_style_Back, .bool p0.saved_style_Bold, .bool p0.saved_style_Under, .bool p0.saved_style_Inverse, .bool p0.waiting, .int .i64 p0.top, .int .i64 p0.bottom, .bool p0.wraps, .string p0.title]) w_ o11 2 ∧ Ft (Bx bq0_0 75 [.int .i64 p0.g_w, .slice Ap0_0 (p0.g_l).length cp0_0]) w_ o11 4 ∧ screen_Screen_control_j1 K p0 p1 x12 = some r) ?_ ?_
      rotate_left
      · rintro a w13 ⟨o11, x12, hk, hs, f900000, f900019, f910000, H⟩
        rw [screen_Screen_control_j1] at H
        cases b14 : x12
        · rw [b14] at hk H
          replace H := bifF H
          refine x_if hk (b := false) rfl ?_
          refine (show Code.wpIn _ _ _ _ _ _ _ from ?_)
          refine x_seq ?_
          refine wpIn_region_lit ?_
          refine x_run tab hk (k := 2) (lv := []) (ks := [0, 44]) (e' := [(0, .pointer (some ⟨bp0, 0, none⟩)), (44, .bool (p1 == (13 : Int)))]) rfl trivial fun a hk => ?_
          refine wpListIn_nil ?_
          refine then_n ?_
          cases b15 : (p1 == (13 : Int))
          · rw [b15] at hk H
            replace H := bifF H
            refine x_if hk (b := false) rfl ?_
            refine (show Code.wpIn _ _ _ _ _ _ _ from ?_)
            refine wpIn_skip ?_
            refine blk_n ?_
            refine then_n ?_
            refine x_seq ?_
            refine wpIn_region_lit ?_
            refine x_run tab hk (k := 1) (lv := []) (ks := [4]) (e' := [(4, .slice none 0 0)]) rfl trivial fun a hk => ?_
            refine wpListIn_nil ?_
            refine then_n ?_
            refine wpIn_ret ?_
            obtain rfl := Option.some.inj H
            exact x_retG hk (rs := [.tmp 4]) (vs := [.slice none 0 0]) rfl ⟨rfl, trivial⟩ ⟨cl w oi o [2, 3, 4] (R_70 LF Lp0 Lp0_0 Lq0_0) o11, none, 0, bq0_0, Ap0_0, cp0_0, rfl, hs.closeF (Lm := [Lp0, Lp0_0, Lq0_0]) (Sh := []) hoa rfl (R_70 LF Lp0 Lp0_0 Lq0_0), (NOwn.nil _ _ _ _ _ _), (by simp), hs.closeM_ft (o := o) (ρ := R_70 LF Lp0 Lp0_0 Lq0_0) f900019 (lab_at hoa (i := 1) rfl) rfl, hs.closeM_ft (o := o) (ρ := R_70 LF Lp0 Lp0_0 Lq0_0) f910000 (lab_at hoa (i := 3) rfl) rfl, f900000.conv (fun _ h_ => hs.closeM_ft (o := o) (ρ := R_70 LF Lp0 Lp0_0 Lq0_0) h_ (lab_at hoa (i := 2) rfl) rfl) (fun _ h_ => hs.closeM_ft (o := o) (ρ := R_70 LF Lp0 Lp0_0 Lq0_0) h_ (lab_at hoa (i := 0) rfl) rfl), hcp0_0⟩
          · rw [b15] at hk H
            replace H := bifT H
            refine x_if hk (b := true) rfl ?_
            refine (show Code.wpIn _ _ _ _ _ _ _ from ?_)
            refine wpIn_region_lit ?_
            refine x_run tab hk (k := 6) (lv := [.int .i64 p0.spot_y]) (ks := [46, 51]) (e' := [(46, .pointer (some ⟨bp0, 0, none⟩)), (51, .int .i64 p0.spot_y)]) rfl ⟨(load1 tab rfl ((Bx.cell f900019.now 2).trans rfl)), trivial⟩ fun a hk => ?_
            refine x_op hk rfl ?_
            obtain ⟨t19, hc20, H⟩ := bindS H
            refine op_call hk ent_41 (vs := [.pointer (some ⟨bp0, 0, none⟩), .int .i64 0, .int .i64 p0.spot_y]) rfl (screen_Screen_move_calls bp0 bq0_0 Ap0_0 cp0_0 p0 0 p0.spot_y _ o11 1 2 f900019 3 f900000 hcp0_0 4 f910000 (by decide)   _ hc20) ?_
            rintro _ w21 ⟨o22, bx25, A27, c28, rfl, st23, f24, f26, f29, hc30⟩
            replace hs := hs.locQ st23 hob rfl
            have hk := hk.put 52 (.tuple #[]) rfl
            refine wpListIn_nil ?_
            refine blk_n ?_
            refine then_n ?_
            refine x_seq ?_
            refine wpIn_region_lit ?_
            refine x_run tab hk (k := 1) (lv := []) (ks := [4]) (e' := [(4, .slice none 0 0)]) rfl trivial fun a hk => ?_
            refine wpListIn_nil ?_
            refine then_n ?_
            refine wpIn_ret ?_
            obtain rfl := Option.some.inj H
            exact x_retG hk (rs := [.tmp 4]) (vs := [.slice none 0 0]) rfl ⟨rfl, trivial⟩ ⟨cl w oi o [2, 3, 4] (R_70 LF Lp0 Lp0_0 Lq0_0) o22, none, 0, bx25, A27, c28, rfl, hs.closeF (Lm := [Lp0, Lp0_0, Lq0_0]) (Sh := []) hoa rfl (R_70 LF Lp0 Lp0_0 Lq0_0), (NOwn.nil _ _ _ _ _ _), (by simp), hs.closeM_ft (o := o) (ρ := R_70 LF Lp0 Lp0_0 Lq0_0) f24 (lab_at hoa (i := 1) rfl) rfl, hs.closeM_ft (o := o) (ρ := R_70 LF Lp0 Lp0_0 Lq0_0) f26 (lab_at hoa (i := 3) rfl) rfl, f29.conv (fun _ h_ => hs.closeM_ft (o := o) (ρ := R_70 LF Lp0 Lp0_0 Lq0_0) h_ (lab_at hoa (i := 2) rfl) rfl) (fun _ h_ => hs.closeM_ft (o := o) (ρ := R_70 LF Lp0 Lp0_0 Lq0_0) h_ (lab_at hoa (i := 0) rfl) rfl), hc30⟩
        · rw [b14] at hk H
          replace H := bifT H
          refine x_if hk (b := true) rfl ?_
          refine (show Code.wpIn _ _ _ _ _ _ _ from ?_)
          refine x_seq ?_
          refine wpIn_region_lit ?_
          refine x_run tab hk (k := 1) (lv := []) (ks := [42]) (e' := [(42, .pointer (some ⟨bp0, 0, none⟩))]) rfl trivial fun a hk => ?_
          refine x_op hk rfl ?_
          obtain ⟨t34, hc35, H⟩ := bindS H
          refine op_call hk ent_35 (vs := [.pointer (some ⟨bp0, 0, none⟩)]) rfl (screen_Screen_line_calls K bp0 bq0_0 Ap0_0 cp0_0 p0 _ o11 1 2 f900019 3 f900000 hcp0_0 4 f910000 (by decide) 5  _ hc35) ?_
          rintro _ w36 ⟨o37, A39, c40, bx44, A46, c47, rfl, st38, f41, hc42, f43, f45, f48, hc49⟩
          replace hs := hs.locQ st38 hob rfl
          have hk := hk.put 43 (.slice A39 (t34.1).length c40) rfl
          refine x_run tab hk (k := 1) (lv := []) (ks := [4]) (e' := [(4, .slice A39 (t34.1).length c40)]) rfl trivial fun a hk => ?_
          refine wpListIn_nil ?_
          refine then_n ?_
          refine wpIn_ret ?_
          refine blk_r ?_
          refine then_r ?_
          obtain rfl := Option.some.inj H
          exact x_retG hk (rs := [.tmp 4]) (vs := [.slice A39 (t34.1).length c40]) rfl ⟨rfl, trivial⟩ ⟨cl w oi o [2, 3, 4] (R_71 LF Lp0 Lp0_0 Lq0_0 R0) o37, A39, c40, bx44, A46, c47, rfl, hs.closeF (Lm := [Lp0, Lp0_0, Lq0_0]) (Sh := []) hoa rfl (R_71 LF Lp0 Lp0_0 Lq0_0 R0), f41.conv (fun _ h_ => hs.closeM_ft (o := o) (ρ := R_71 LF Lp0 Lp0_0 Lq0_0 R0) h_ (lab_none hob rfl) rfl) (fun _ h_ => hs.closeM_ft (o := o) (ρ := R_71 LF Lp0 Lp0_0 Lq0_0 R0) h_ (lab_at hoa (i := 0) rfl) rfl), hc42, hs.closeM_ft (o := o) (ρ := R_71 LF Lp0 Lp0_0 Lq0_0 R0) f43 (lab_at hoa (i := 1) rfl) rfl, hs.closeM_ft (o := o) (ρ := R_71 LF Lp0 Lp0_0 Lq0_0 R0) f45 (lab_at hoa (i := 3) rfl) rfl, f48.conv (fun _ h_ => hs.closeM_ft (o := o) (ρ := R_71 LF Lp0 Lp0_0 Lq0_0 R0) h_ (lab_at hoa (i := 2) rfl) rfl) (fun _ h_ => hs.closeM_ft (o := o) (ρ := R_71 LF Lp0 Lp0_0 Lq0_0 R0) h_ (lab_at hoa (i := 0) rfl) rfl), hc49⟩
      refine x_seq ?_
      refine wpIn_region_lit ?_
      refine x_run tab hk (k := 2) (lv := []) (ks := [0, 5, 38]) (e' := [(0, .pointer (some ⟨bp0, 0, none⟩)), (5, .int .u8 p1), (38, .bool (p1 == (10 : Int)))]) rfl trivial fun a hk => ?_
      refine wpListIn_nil ?_
      refine then_n ?_
      cases b50 : (p1 == (10 : Int))
      · rw [b50] at hk H
        replace H := bifF H
        refine x_if hk (b := false) rfl ?_
        refine (show Code.wpIn _ _ _ _ _ _ _ from ?_)
        refine x_seq ?_
        refine wpIn_region_lit ?_
        refine x_run tab hk (k := 2) (lv := []) (ks := [0, 5, 38]) (e' := [(0, .pointer (some ⟨bp0, 0, none⟩)), (5, .int .u8 p1), (38, .bool (p1 == (11 : Int)))]) rfl trivial fun a hk => ?_
        refine wpListIn_nil ?_
        refine then_n ?_
        cases b51 : (p1 == (11 : Int))
        · rw [b51] at hk H
          replace H := bifF H
          refine x_if hk (b := false) rfl ?_
          refine (show Code.wpIn _ _ _ _ _ _ _ from ?_)
          refine wpIn_region_lit ?_
          refine x_run tab hk (k := 2) (lv := []) (ks := [0, 5, 38]) (e' := [(0, .pointer (some ⟨bp0, 0, none⟩)), (5, .int .u8 p1), (38, .bool (p1 == (12 : Int)))]) rfl trivial fun a hk => ?_
          refine wpListIn_nil ?_
          refine then_n ?_
          exact ⟨oi, (p1 == (12 : Int)), (by exact Kn.pick (ks := [0, 5, 38]) hk rfl), hs, f900000, f900019, f910000, H⟩
        · rw [b51] at hk H
          replace H := bifT H
          refine x_if hk (b := true) rfl ?_
          refine (show Code.wpIn _ _ _ _ _ _ _ from ?_)
          refine wpIn_skip ?_
          refine then_n ?_
          exact ⟨oi, true, (by exact Kn.pick (ks := [0, 5, 38]) hk rfl), hs, f900000, f900019, f910000, H⟩
      · rw [b50] at hk H
        replace H := bifT H
        refine x_if hk (b := true) rfl ?_
        refine (show Code.wpIn _ _ _ _ _ _ _ from ?_)
        refine wpIn_skip ?_
        refine then_n ?_
        exact ⟨oi, true, (by exact Kn.pick (ks := [0, 5, 38]) hk rfl), hs, f900000, f900019, f910000, H⟩
    · rw [b2] at hk H
      replace H := bifT H
      refine x_if hk (b := true) rfl ?_
      refine (show Code.wpIn _ _ _ _ _ _ _ from ?_)
      refine x_cut (fun a_ w_ => ∃ o195 : Nat → Nat, ∃ bx196 : Nat, ∃ x198 : Int, ∃ A199 : Option Addr, ∃ c200 : Nat, ∃ l201 : List T65, ∃ x204 : Int, ∃ x205 : Int, ∃ x206 : Int, ∃ x207 : Int, ∃ x208 : Bool, ∃ x209 : Bool, ∃ x210 : Bool, ∃ x211 : Int, ∃ x212 : Int, ∃ x213 : Int, ∃ x214 : Int, ∃ x215 : Bool, ∃ x216 : Bool, ∃ x217 : Bool, ∃ x218 : Bool, ∃ x219 : Int, ∃ x220 : Int, ∃ x221 : Bool, ∃ x222 : ByteArray, Kn 53 a_ [] ∧ St [2, 3, 4] w oi w_ o195 ∧ Ft (Bx bp0 56 [.pointer (some ⟨bx196, 0, none⟩), .int .i64 x204, .int .i64 x205, .int .i64 x206, .int .i64 x207, .bool x208, .bool x209, .bool x210, .int .i64 x211, .int .i64 x212, .int .i64 x213, .int .i64 x214, .bool x215, .bool x216, .bool x217, .bool x218, .int .i64 x219, .int .i64 x220, .bool x221, .string x222]) w_ o195 2 ∧ Ft (Bx bx196 75 [.int .i64 x198, .slice A199 (l201).length c200]) w_ o195 4 ∧ NOwn dT65 66 A199 c200 l201 w_ o195 3 1 ∧ (l201).length ≤ c200 ∧ screen_Screen_control_j2 x198 l201 x204 x205 x206 x207 x208 x209 x210 x211 x212 x213 x214 x215 x216 x217 x218 x219 x220 x221 x222 = some r) ?_ ?_
      rotate_left
      · refine fun a w223 z0 => z0.elim fun o195 z1 => z1.elim fun bx196 z2 => z2.elim fun x198 z3 => z3.elim fun A199 z4 => z4.elim fun c200 z5 => z5.elim fun l201 z6 => z6.elim fun x204 z7 => z7.elim fun x205 z8 => z8.elim fun x206 z9 => z9.elim fun x207 z10 => z10.elim fun x208 z11 => z11.elim fun x209 z12 => z12.elim fun x210 z13 => z13.elim fun x211 z14 => z14.elim fun x212 z15 => z15.elim fun x213 z16 => z16.elim fun x214 z17 => z17.elim fun x215 z18 => z18.elim fun x216 z19 => z19.elim fun x217 z20 => z20.elim fun x218 z21 => z21.elim fun x219 z22 => z22.elim fun x220 z23 => z23.elim fun x221 z24 => z24.elim fun x222 z25 => z25.elim fun hk z26 => z26.elim fun hs z27 => z27.elim fun f137 z28 => z28.elim fun f197 z29 => z29.elim fun f202 z30 => z30.elim fun hc203 H => ?_
        clear z0 z1 z2 z3 z4 z5 z6 z7 z8 z9 z10 z11 z12 z13 z14 z15 z16 z17 z18 z19 z20 z21 z22 z23 z24 z25 z26 z27 z28 z29 z30
        rw [screen_Screen_control_j2] at H
        refine blk_n ?_
        refine then_n ?_
        refine x_seq ?_
        refine wpIn_region_lit ?_
        refine x_run tab hk (k := 1) (lv := []) (ks := [4]) (e' := [(4, .slice none 0 0)]) rfl trivial fun a hk => ?_
        refine wpListIn_nil ?_
        refine then_n ?_
        refine wpIn_ret ?_
        obtain rfl := Option.some.inj H
        exact x_retG hk (rs := [.tmp 4]) (vs := [.slice none 0 0]) rfl ⟨rfl, trivial⟩ ⟨cl w oi o [2, 3, 4] (R_70 LF Lp0 Lp0_0 Lq0_0) o195, none, 0, bx196, A199, c200, rfl, hs.closeF (Lm := [Lp0, Lp0_0, Lq0_0]) (Sh := []) hoa rfl (R_70 LF Lp0 Lp0_0 Lq0_0), (NOwn.nil _ _ _ _ _ _), (by simp), hs.closeM_ft (o := o) (ρ := R_70 LF Lp0 Lp0_0 Lq0_0) f137 (lab_at hoa (i := 1) rfl) rfl, hs.closeM_ft (o := o) (ρ := R_70 LF Lp0 Lp0_0 Lq0_0) f197 (lab_at hoa (i := 3) rfl) rfl, f202.conv (fun _ h_ => hs.closeM_ft (o := o) (ρ := R_70 LF Lp0 Lp0_0 Lq0_0) h_ (lab_at hoa (i := 2) rfl) rfl) (fun _ h_ => hs.closeM_ft (o := o) (ρ := R_70 LF Lp0 Lp0_0 Lq0_0) h_ (lab_at hoa (i := 0) rfl) rfl), hc203⟩
      obtain ⟨t242, hc243, H⟩ := bindS H
      refine xd_begin (o := oi) (fun W_ => True) mixed rfl rfl fun w280 st281 => ?_
      replace f900000 := f900000.st st281 (by decide)
      replace f900019 := f900019.st st281 (by decide)
      replace f910000 := f910000.st st281 (by decide)
      replace hs := hs.locQ st281 hob rfl
      refine xd_abs fun G hG => ?_
      have N287 : ∀ (a_ : Act) (w_ : World), (∃ o285 : Nat → Nat, Kn 53 a_ [(23, .pointer (some ⟨bp0, 0, none⟩)), (28, .int .i64 p0.spot_x), (35, .pointer (some ((⟨bp0, 0, none⟩ : Addr).add 2)))] ∧ St [2, 3, 4] w oi w_ o285 ∧ NOwn dT65 66 Ap0_0 cp0_0 p0.g_l w_ o285 3 1 ∧ Ft (Bx bp0 56 [.pointer (some ⟨bq0_0, 0, none⟩), .int .i64 p0.spot_x, .int .i64 p0.spot_y, .int .i64 p0.spot_style_Fore, .int .i64 p0.spot_style_Back, .bool p0.spot_style_Bold, .bool p0.spot_style_Under, .bool p0.spot_style_Inverse, .int .i64 p0.saved_x, .int .i64 p0.saved_y, .int .i64 p0.saved_style_Fore, .int .i64 p0.saved_style_Back, .bool p0.saved_style_Bold, .bool p0.saved_style_Under, .bool p0.saved_style_Inverse, .bool p0.waiting, .int .i64 p0.top, .int .i64 p0.bottom, .bool p0.wraps, .string p0.title]) w_ o285 2 ∧ Ft (Bx bq0_0 75 [.int .i64 p0.g_w, .slice Ap0_0 (p0.g_l).length cp0_0]) w_ o285 4) → G 5 #[true, true, true, true, true, true, false, false, false, true, true, true, true, false, false] a_ w_ := by
        rintro a w286 ⟨o285, hk, hs, f900000, f900019, f910000⟩
        refine xd_of hG ?_
        refine xd_take tab hk (k := 2) (is := [6, 7, 8]) (ls' := #[true, true, true, true, true, true, true, true, true, true, true, true, true, false, false]) (lv := []) (ks := [23, 31, 35]) (e' := [(23, .pointer (some ⟨bp0, 0, none⟩)), (31, .int .i64 (IntKind.wrap .i64 ((IntKind.wrap .i64 ((IntKind.wrap .i64 (Int.tdiv p0.spot_x 8)) + 1)) * 8))), (35, .pointer (some ((⟨bp0, 0, none⟩ : Addr).add 2)))]) (by kernel_rfl) rfl rfl (by kernel_rfl) (np_then (np_blk (np_then np_body))) trivial (fun W_ hS => ⟨(show (8 : Int) ≠ 0 from by decide), trivial⟩) fun a hk => ?_
        refine xd_op hk (i := 13) (by kernel_rfl) rfl rfl ?_
        refine op_quiet tab hk (lv := [.int .i64 p0.spot_y]) (v := .int .i64 p0.spot_y) rfl ⟨(load1 tab rfl ((Bx.cell f900019.now 2).trans rfl)), trivial⟩ ?_
        have hk := hk.put 36 (.int .i64 p0.spot_y) rfl
        refine ⟨.inr trivial, ?_⟩
        refine xd_op hk (i := 14) (by kernel_rfl) rfl rfl ?_
        refine op_call hk ent_41 (vs := [.pointer (some ⟨bp0, 0, none⟩), .int .i64 (IntKind.wrap .i64 ((IntKind.wrap .i64 ((IntKind.wrap .i64 (Int.tdiv p0.spot_x 8)) + 1)) * 8)), .int .i64 p0.spot_y]) rfl (screen_Screen_move_calls bp0 bq0_0 Ap0_0 cp0_0 p0 (IntKind.wrap .i64 ((IntKind.wrap .i64 ((IntKind.wrap .i64 (Int.tdiv p0.spot_x 8)) + 1)) * 8)) p0.spot_y _ o285 1 2 f900019 3 f900000 hcp0_0 4 f910000 (by decide)   _ hc243) ?_
        rintro _ w291 ⟨o292, bx295, A297, c298, rfl, st293, f294, f296, f299, hc300⟩
        replace hs := hs.locQ st293 hob rfl
        have hk := hk.put 37 (.tuple #[]) rfl
        refine ⟨.inr trivial, ?_⟩
        refine xd_done (by kernel_rfl) ?_
        refine then_n ?_
        exact ⟨o292, bx295, t242.g_w, A297, c298, t242.g_l, t242.spot_x, t242.spot_y, t242.spot_style_Fore, t242.spot_style_Back, t242.spot_style_Bold, t242.spot_style_Under, t242.spot_style_Inverse, t242.saved_x, t242.saved_y, t242.saved_style_Fore, t242.saved_style_Back, t242.saved_style_Bold, t242.saved_style_Under, t242.saved_style_Inverse, t242.waiting, t242.top, t242.bottom, t242.wraps, t242.title, (by exact Kn.pick (ks := []) hk rfl), hs, f294, f296, f299, hc300, H⟩
      have N306 : ∀ (a_ : Act) (w_ : World), (∃ o304 : Nat → Nat, Kn 53 a_ [(23, .pointer (some ⟨bp0, 0, none⟩)), (27, .pointer (some ((⟨bp0, 0, none⟩ : Addr).add 1))), (36, .int .i64 p0.spot_y)] ∧ St [2, 3, 4] w oi w_ o304 ∧ NOwn dT65 66 Ap0_0 cp0_0 p0.g_l w_ o304 3 1 ∧ Ft (Bx bp0 56 [.pointer (some ⟨bq0_0, 0, none⟩), .int .i64 p0.spot_x, .int .i64 p0.spot_y, .int .i64 p0.spot_style_Fore, .int .i64 p0.spot_style_Back, .bool p0.spot_style_Bold, .bool p0.spot_style_Under, .bool p0.spot_style_Inverse, .int .i64 p0.saved_x, .int .i64 p0.saved_y, .int .i64 p0.saved_style_Fore, .int .i64 p0.saved_style_Back, .bool p0.saved_style_Bold, .bool p0.saved_style_Under, .bool p0.saved_style_Inverse, .bool p0.waiting, .int .i64 p0.top, .int .i64 p0.bottom, .bool p0.wraps, .string p0.title]) w_ o304 2 ∧ Ft (Bx bq0_0 75 [.int .i64 p0.g_w, .slice Ap0_0 (p0.g_l).length cp0_0]) w_ o304 4) → G 5 #[true, true, true, true, true, false, false, false, false, true, true, true, true, true, false] a_ w_ := by
        rintro a w305 ⟨o304, hk, hs, f900000, f900019, f910000⟩
        refine xd_of hG ?_
        refine xd_op hk (i := 5) (by kernel_rfl) rfl rfl ?_
        refine op_quiet tab hk (lv := [.int .i64 p0.spot_x]) (v := .int .i64 p0.spot_x) rfl ⟨(load1 tab rfl ((Bx.cell f900019.now 1).trans rfl)), trivial⟩ ?_
        have hk := hk.put 28 (.int .i64 p0.spot_x) rfl
        refine ⟨.inr trivial, ?_⟩
        refine xd_take tab hk (k := 1) (is := [6, 7, 8]) (ls' := #[true, true, true, true, true, true, true, true, true, true, true, true, true, true, false]) (lv := []) (ks := [23, 31, 36]) (e' := [(23, .pointer (some ⟨bp0, 0, none⟩)), (31, .int .i64 (IntKind.wrap .i64 ((IntKind.wrap .i64 ((IntKind.wrap .i64 (Int.tdiv p0.spot_x 8)) + 1)) * 8))), (36, .int .i64 p0.spot_y)]) (by kernel_rfl) rfl rfl (by kernel_rfl) (np_then (np_blk (np_then np_body))) trivial (fun W_ hS => ⟨(show (8 : Int) ≠ 0 from by decide), trivial⟩) fun a hk => ?_
        refine xd_op hk (i := 14) (by kernel_rfl) rfl rfl ?_
        refine op_call hk ent_41 (vs := [.pointer (some ⟨bp0, 0, none⟩), .int .i64 (IntKind.wrap .i64 ((IntKind.wrap .i64 ((IntKind.wrap .i64 (Int.tdiv p0.spot_x 8)) + 1)) * 8)), .int .i64 p0.spot_y]) rfl (screen_Screen_move_calls bp0 bq0_0 Ap0_0 cp0_0 p0 (IntKind.wrap .i64 ((IntKind.wrap .i64 ((IntKind.wrap .i64 (Int.tdiv p0.spot_x 8)) + 1)) * 8)) p0.spot_y _ o304 1 2 f900019 3 f900000 hcp0_0 4 f910000 (by decide)   _ hc243) ?_
        rintro _ w310 ⟨o311, bx314, A316, c317, rfl, st312, f313, f315, f318, hc319⟩
        replace hs := hs.locQ st312 hob rfl
        have hk := hk.put 37 (.tuple #[]) rfl
        refine ⟨.inr trivial, ?_⟩
        refine xd_done (by kernel_rfl) ?_
        refine then_n ?_
        exact ⟨o311, bx314, t242.g_w, A316, c317, t242.g_l, t242.spot_x, t242.spot_y, t242.spot_style_Fore, t242.spot_style_Back, t242.spot_style_Bold, t242.spot_style_Under, t242.spot_style_Inverse, t242.saved_x, t242.saved_y, t242.saved_style_Fore, t242.saved_style_Back, t242.saved_style_Bold, t242.saved_style_Under, t242.saved_style_Inverse, t242.waiting, t242.top, t242.bottom, t242.wraps, t242.title, (by exact Kn.pick (ks := []) hk rfl), hs, f313, f315, f318, hc319, H⟩
      refine xd_of hG ?_
      refine xd_take tab hk (k := 6) (is := [0, 1, 2, 3, 4, 9, 10, 11, 12]) (ls' := #[true, true, true, true, true, false, false, false, false, true, true, true, true, false, false]) (lv := []) (ks := [23, 27, 35]) (e' := [(23, .pointer (some ⟨bp0, 0, none⟩)), (27, .pointer (some ((⟨bp0, 0, none⟩ : Addr).add 1))), (35, .pointer (some ((⟨bp0, 0, none⟩ : Addr).add 2)))]) (by kernel_rfl) rfl rfl (by kernel_rfl) (np_then (np_blk (np_then np_body))) trivial (fun W_ hS => trivial) fun a hk => ?_
      refine xd_each [5, 13] (by kernel_rfl) rfl ⟨?_, ?_, trivial⟩
      · refine xd_one hk rfl rfl ?_
        refine op_quiet tab hk (lv := [.int .i64 p0.spot_x]) (v := .int .i64 p0.spot_x) rfl ⟨(load1 tab rfl ((Bx.cell f900019.now 1).trans rfl)), trivial⟩ ?_
        have hk := hk.put 28 (.int .i64 p0.spot_x) rfl
        refine ⟨.inr trivial, ?_⟩
        exact xd_to hG rfl (N287 _ _ ⟨oi, (by exact Kn.pick (ks := [23, 28, 35]) hk rfl), hs, f900000, f900019, f910000⟩)
      · refine xd_one hk rfl rfl ?_
        refine op_quiet tab hk (lv := [.int .i64 p0.spot_y]) (v := .int .i64 p0.spot_y) rfl ⟨(load1 tab rfl ((Bx.cell f900019.now 2).trans rfl)), trivial⟩ ?_
        have hk := hk.put 36 (.int .i64 p0.spot_y) rfl
        refine ⟨.inr trivial, ?_⟩
        exact xd_to hG rfl (N306 _ _ ⟨oi, (by exact Kn.pick (ks := [23, 27, 36]) hk rfl), hs, f900000, f900019, f910000⟩)
  · rw [b1] at hk H
    replace H := bifT H
    refine x_if hk (b := true) rfl ?_
    refine (show Code.wpIn _ _ _ _ _ _ _ from ?_)
    refine x_cut (fun a_ w_ => ∃ o463 : Nat → Nat, ∃ bx464 : Nat, ∃ x466 : Int, ∃ A467 : Option Addr, ∃ c468 : Nat, ∃ l469 : List T65, ∃ x472 : Int, ∃ x473 : Int, ∃ x474 : Int, ∃ x475 : Int, ∃ x476 : Bool, ∃ x477 : Bool, ∃ x478 : Bool, ∃ x479 : Int, ∃ x480 : Int, ∃ x481 : Int, ∃ x482 : Int, ∃ x483 : Bool, ∃ x484 : Bool, ∃ x485 : Bool, ∃ x486 : Bool, ∃ x487 : Int, ∃ x488 : Int, ∃ x489 : Bool, ∃ x490 : ByteArray, Kn 53 a_ [] ∧ St [2, 3, 4] w oi w_ o463 ∧ Ft (Bx bp0 56 [.pointer (some ⟨bx464, 0, none⟩), .int .i64 x472, .int .i64 x473, .int .i64 x474, .int .i64 x475, .bool x476, .bool x477, .bool x478, .int .i64 x479, .int .i64 x480, .int .i64 x481, .int .i64 x482, .bool x483, .bool x484, .bool x485, .bool x486, .int .i64 x487, .int .i64 x488, .bool x489, .string x490]) w_ o463 2 ∧ Ft (Bx bx464 75 [.int .i64 x466, .slice A467 (l469).length c468]) w_ o463 4 ∧ NOwn dT65 66 A467 c468 l469 w_ o463 3 1 ∧ (l469).length ≤ c468 ∧ screen_Screen_control_j3 x466 l469 x472 x473 x474 x475 x476 x477 x478 x479 x480 x481 x482 x483 x484 x485 x486 x487 x488 x489 x490 = some r) ?_ ?_
    rotate_left
    · refine fun a w491 z0 => z0.elim fun o463 z1 => z1.elim fun bx464 z2 => z2.elim fun x466 z3 => z3.elim fun A467 z4 => z4.elim fun c468 z5 => z5.elim fun l469 z6 => z6.elim fun x472 z7 => z7.elim fun x473 z8 => z8.elim fun x474 z9 => z9.elim fun x475 z10 => z10.elim fun x476 z11 => z11.elim fun x477 z12 => z12.elim fun x478 z13 => z13.elim fun x479 z14 => z14.elim fun x480 z15 => z15.elim fun x481 z16 => z16.elim fun x482 z17 => z17.elim fun x483 z18 => z18.elim fun x484 z19 => z19.elim fun x485 z20 => z20.elim fun x486 z21 => z21.elim fun x487 z22 => z22.elim fun x488 z23 => z23.elim fun x489 z24 => z24.elim fun x490 z25 => z25.elim fun hk z26 => z26.elim fun hs z27 => z27.elim fun f405 z28 => z28.elim fun f465 z29 => z29.elim fun f470 z30 => z30.elim fun hc471 H => ?_
      clear z0 z1 z2 z3 z4 z5 z6 z7 z8 z9 z10 z11 z12 z13 z14 z15 z16 z17 z18 z19 z20 z21 z22 z23 z24 z25 z26 z27 z28 z29 z30
      rw [screen_Screen_control_j3] at H
      refine blk_n ?_
      refine then_n ?_
      refine x_seq ?_
      refine wpIn_region_lit ?_
      refine x_run tab hk (k := 1) (lv := []) (ks := [4]) (e' := [(4, .slice none 0 0)]) rfl trivial fun a hk => ?_
      refine wpListIn_nil ?_
      refine then_n ?_
      refine wpIn_ret ?_
      obtain rfl := Option.some.inj H
      exact x_retG hk (rs := [.tmp 4]) (vs := [.slice none 0 0]) rfl ⟨rfl, trivial⟩ ⟨cl w oi o [2, 3, 4] (R_70 LF Lp0 Lp0_0 Lq0_0) o463, none, 0, bx464, A467, c468, rfl, hs.closeF (Lm := [Lp0, Lp0_0, Lq0_0]) (Sh := []) hoa rfl (R_70 LF Lp0 Lp0_0 Lq0_0), (NOwn.nil _ _ _ _ _ _), (by simp), hs.closeM_ft (o := o) (ρ := R_70 LF Lp0 Lp0_0 Lq0_0) f405 (lab_at hoa (i := 1) rfl) rfl, hs.closeM_ft (o := o) (ρ := R_70 LF Lp0 Lp0_0 Lq0_0) f465 (lab_at hoa (i := 3) rfl) rfl, f470.conv (fun _ h_ => hs.closeM_ft (o := o) (ρ := R_70 LF Lp0 Lp0_0 Lq0_0) h_ (lab_at hoa (i := 2) rfl) rfl) (fun _ h_ => hs.closeM_ft (o := o) (ρ := R_70 LF Lp0 Lp0_0 Lq0_0) h_ (lab_at hoa (i := 0) rfl) rfl), hc471⟩
    obtain ⟨t510, hc511, H⟩ := bindS H
    refine xd_begin (o := oi) (fun W_ => True) mixed rfl rfl fun w548 st549 => ?_
    replace f900000 := f900000.st st549 (by decide)
    replace f900019 := f900019.st st549 (by decide)
    replace f910000 := f910000.st st549 (by decide)
    replace hs := hs.locQ st549 hob rfl
    refine xd_abs fun G hG => ?_
    have N555 : ∀ (a_ : Act) (w_ : World), (∃ o553 : Nat → Nat, Kn 53 a_ [(8, .pointer (some ⟨bp0, 0, none⟩)), (13, .int .i64 p0.spot_x), (18, .pointer (some ((⟨bp0, 0, none⟩ : Addr).add 2)))] ∧ St [2, 3, 4] w oi w_ o553 ∧ NOwn dT65 66 Ap0_0 cp0_0 p0.g_l w_ o553 3 1 ∧ Ft (Bx bp0 56 [.pointer (some ⟨bq0_0, 0, none⟩), .int .i64 p0.spot_x, .int .i64 p0.spot_y, .int .i64 p0.spot_style_Fore, .int .i64 p0.spot_style_Back, .bool p0.spot_style_Bold, .bool p0.spot_style_Under, .bool p0.spot_style_Inverse, .int .i64 p0.saved_x, .int .i64 p0.saved_y, .int .i64 p0.saved_style_Fore, .int .i64 p0.saved_style_Back, .bool p0.saved_style_Bold, .bool p0.saved_style_Under, .bool p0.saved_style_Inverse, .bool p0.waiting, .int .i64 p0.top, .int .i64 p0.bottom, .bool p0.wraps, .string p0.title]) w_ o553 2 ∧ Ft (Bx bq0_0 75 [.int .i64 p0.g_w, .slice Ap0_0 (p0.g_l).length cp0_0]) w_ o553 4) → G 3 #[true, true, true, true, true, true, false, true, true, true, true, false, false] a_ w_ := by
      rintro a w554 ⟨o553, hk, hs, f900000, f900019, f910000⟩
      refine xd_of hG ?_
      refine xd_take tab hk (k := 2) (is := [6]) (ls' := #[true, true, true, true, true, true, true, true, true, true, true, false, false]) (lv := []) (ks := [8, 14, 18]) (e' := [(8, .pointer (some ⟨bp0, 0, none⟩)), (14, .int .i64 (IntKind.wrap .i64 (p0.spot_x - 1))), (18, .pointer (some ((⟨bp0, 0, none⟩ : Addr).add 2)))]) (by kernel_rfl) rfl rfl (by kernel_rfl) (np_then (np_blk (np_then np_body))) trivial (fun W_ hS => trivial) fun a hk => ?_
      refine xd_op hk (i := 11) (by kernel_rfl) rfl rfl ?_
      refine op_quiet tab hk (lv := [.int .i64 p0.spot_y]) (v := .int .i64 p0.spot_y) rfl ⟨(load1 tab rfl ((Bx.cell f900019.now 2).trans rfl)), trivial⟩ ?_
      have hk := hk.put 19 (.int .i64 p0.spot_y) rfl
      refine ⟨.inr trivial, ?_⟩
      refine xd_op hk (i := 12) (by kernel_rfl) rfl rfl ?_
      refine op_call hk ent_41 (vs := [.pointer (some ⟨bp0, 0, none⟩), .int .i64 (IntKind.wrap .i64 (p0.spot_x - 1)), .int .i64 p0.spot_y]) rfl (screen_Screen_move_calls bp0 bq0_0 Ap0_0 cp0_0 p0 (IntKind.wrap .i64 (p0.spot_x - 1)) p0.spot_y _ o553 1 2 f900019 3 f900000 hcp0_0 4 f910000 (by decide)   _ hc511) ?_
      rintro _ w559 ⟨o560, bx563, A565, c566, rfl, st561, f562, f564, f567, hc568⟩
      replace hs := hs.locQ st561 hob rfl
      have hk := hk.put 20 (.tuple #[]) rfl
      refine ⟨.inr trivial, ?_⟩
      refine xd_done (by kernel_rfl) ?_
      refine then_n ?_
      exact ⟨o560, bx563, t510.g_w, A565, c566, t510.g_l, t510.spot_x, t510.spot_y, t510.spot_style_Fore, t510.spot_style_Back, t510.spot_style_Bold, t510.spot_style_Under, t510.spot_style_Inverse, t510.saved_x, t510.saved_y, t510.saved_style_Fore, t510.saved_style_Back, t510.saved_style_Bold, t510.saved_style_Under, t510.saved_style_Inverse, t510.waiting, t510.top, t510.bottom, t510.wraps, t510.title, (by exact Kn.pick (ks := []) hk rfl), hs, f562, f564, f567, hc568, H⟩
    have N574 : ∀ (a_ : Act) (w_ : World), (∃ o572 : Nat → Nat, Kn 53 a_ [(8, .pointer (some ⟨bp0, 0, none⟩)), (12, .pointer (some ((⟨bp0, 0, none⟩ : Addr).add 1))), (19, .int .i64 p0.spot_y)] ∧ St [2, 3, 4] w oi w_ o572 ∧ NOwn dT65 66 Ap0_0 cp0_0 p0.g_l w_ o572 3 1 ∧ Ft (Bx bp0 56 [.pointer (some ⟨bq0_0, 0, none⟩), .int .i64 p0.spot_x, .int .i64 p0.spot_y, .int .i64 p0.spot_style_Fore, .int .i64 p0.spot_style_Back, .bool p0.spot_style_Bold, .bool p0.spot_style_Under, .bool p0.spot_style_Inverse, .int .i64 p0.saved_x, .int .i64 p0.saved_y, .int .i64 p0.saved_style_Fore, .int .i64 p0.saved_style_Back, .bool p0.saved_style_Bold, .bool p0.saved_style_Under, .bool p0.saved_style_Inverse, .bool p0.waiting, .int .i64 p0.top, .int .i64 p0.bottom, .bool p0.wraps, .string p0.title]) w_ o572 2 ∧ Ft (Bx bq0_0 75 [.int .i64 p0.g_w, .slice Ap0_0 (p0.g_l).length cp0_0]) w_ o572 4) → G 3 #[true, true, true, true, true, false, false, true, true, true, true, true, false] a_ w_ := by
      rintro a w573 ⟨o572, hk, hs, f900000, f900019, f910000⟩
      refine xd_of hG ?_
      refine xd_op hk (i := 5) (by kernel_rfl) rfl rfl ?_
      refine op_quiet tab hk (lv := [.int .i64 p0.spot_x]) (v := .int .i64 p0.spot_x) rfl ⟨(load1 tab rfl ((Bx.cell f900019.now 1).trans rfl)), trivial⟩ ?_
      have hk := hk.put 13 (.int .i64 p0.spot_x) rfl
      refine ⟨.inr trivial, ?_⟩
      refine xd_take tab hk (k := 1) (is := [6]) (ls' := #[true, true, true, true, true, true, true, true, true, true, true, true, false]) (lv := []) (ks := [8, 14, 19]) (e' := [(8, .pointer (some ⟨bp0, 0, none⟩)), (14, .int .i64 (IntKind.wrap .i64 (p0.spot_x - 1))), (19, .int .i64 p0.spot_y)]) (by kernel_rfl) rfl rfl (by kernel_rfl) (np_then (np_blk (np_then np_body))) trivial (fun W_ hS => trivial) fun a hk => ?_
      refine xd_op hk (i := 12) (by kernel_rfl) rfl rfl ?_
      refine op_call hk ent_41 (vs := [.pointer (some ⟨bp0, 0, none⟩), .int .i64 (IntKind.wrap .i64 (p0.spot_x - 1)), .int .i64 p0.spot_y]) rfl (screen_Screen_move_calls bp0 bq0_0 Ap0_0 cp0_0 p0 (IntKind.wrap .i64 (p0.spot_x - 1)) p0.spot_y _ o572 1 2 f900019 3 f900000 hcp0_0 4 f910000 (by decide)   _ hc511) ?_
      rintro _ w578 ⟨o579, bx582, A584, c585, rfl, st580, f581, f583, f586, hc587⟩
      replace hs := hs.locQ st580 hob rfl
      have hk := hk.put 20 (.tuple #[]) rfl
      refine ⟨.inr trivial, ?_⟩
      refine xd_done (by kernel_rfl) ?_
      refine then_n ?_
      exact ⟨o579, bx582, t510.g_w, A584, c585, t510.g_l, t510.spot_x, t510.spot_y, t510.spot_style_Fore, t510.spot_style_Back, t510.spot_style_Bold, t510.spot_style_Under, t510.spot_style_Inverse, t510.saved_x, t510.saved_y, t510.saved_style_Fore, t510.saved_style_Back, t510.saved_style_Bold, t510.saved_style_Under, t510.saved_style_Inverse, t510.waiting, t510.top, t510.bottom, t510.wraps, t510.title, (by exact Kn.pick (ks := []) hk rfl), hs, f581, f583, f586, hc587, H⟩
    refine xd_of hG ?_
    refine xd_take tab hk (k := 4) (is := [0, 1, 2, 3, 4, 7, 8, 9, 10]) (ls' := #[true, true, true, true, true, false, false, true, true, true, true, false, false]) (lv := []) (ks := [8, 12, 18]) (e' := [(8, .pointer (some ⟨bp0, 0, none⟩)), (12, .pointer (some ((⟨bp0, 0, none⟩ : Addr).add 1))), (18, .pointer (some ((⟨bp0, 0, none⟩ : Addr).add 2)))]) (by kernel_rfl) rfl rfl (by kernel_rfl) (np_then (np_blk (np_then np_body))) trivial (fun W_ hS => trivial) fun a hk => ?_
    refine xd_each [5, 11] (by kernel_rfl) rfl ⟨?_, ?_, trivial⟩
    · refine xd_one hk rfl rfl ?_
      refine op_quiet tab hk (lv := [.int .i64 p0.spot_x]) (v := .int .i64 p0.spot_x) rfl ⟨(load1 tab rfl ((Bx.cell f900019.now 1).trans rfl)), trivial⟩ ?_
      have hk := hk.put 13 (.int .i64 p0.spot_x) rfl
      refine ⟨.inr trivial, ?_⟩
      exact xd_to hG rfl (N555 _ _ ⟨oi, (by exact Kn.pick (ks := [8, 13, 18]) hk rfl), hs, f900000, f900019, f910000⟩)
    · refine xd_one hk rfl rfl ?_
      refine op_quiet tab hk (lv := [.int .i64 p0.spot_y]) (v := .int .i64 p0.spot_y) rfl ⟨(load1 tab rfl ((Bx.cell f900019.now 2).trans rfl)), trivial⟩ ?_
      have hk := hk.put 19 (.int .i64 p0.spot_y) rfl
      refine ⟨.inr trivial, ?_⟩
      exact xd_to hG rfl (N574 _ _ ⟨oi, (by exact Kn.pick (ks := [8, 12, 19]) hk rfl), hs, f900000, f900019, f910000⟩)

/-! tidewrack/screen.at -/
abbrev R_72 (l_ : Nat) : Nat := if l_ = 1 then 2 else l_
set_option maxHeartbeats 4000000 in
set_option maxRecDepth 20000 in
theorem screen_at_calls (Ap0_0 : Option Addr) (cp0_0 : Nat) (p0 : T37) (p1 : Int) (p2 : Int) (w : World) (o : Nat → Nat) (Lp0_0 : Nat) (hp0_0 : Ft (RdC (encInt .i64) Ap0_0 p0.Nums) w o Lp0_0) (hcp0_0 : (p0.Nums).length ≤ cp0_0)  (r : Int) (H : screen_at p0 p1 p2 = some r) :
    Calls Tryz.prog 21 #[.agg #[.int .i64 p0.Kind, .int .i32 p0.Rune, .int .u8 p0.Byte, .bool p0.Private, .slice Ap0_0 (p0.Nums).length cp0_0, .string p0.Text], .int .i64 p1, .int .i64 p2] w (Ret fun v_ w' => ∃ o' : Nat → Nat, v_ = .int .i64 r ∧ St [] w o w' o') := by
  refine x_enter (vs := [.agg #[.int .i64 p0.Kind, .int .i32 p0.Rune, .int .u8 p0.Byte, .bool p0.Private, .slice Ap0_0 (p0.Nums).length cp0_0, .string p0.Text], .int .i64 p1, .int .i64 p2]) Tryz.func21 rfl rfl rfl fun a hk => ?_
  obtain ⟨o0, hs, h0⟩ := St.start w o
  have f900000 := h0 _ _ hp0_0
  clear h0
  rw [screen_at] at H
  refine x_seq ?_
  refine wpIn_region_lit ?_
  refine x_op hk rfl ?_
  refine op_box (o := o0) (t := 38) (v := .agg #[.int .i64 p0.Kind, .int .i32 p0.Rune, .int .u8 p0.Byte, .bool p0.Private, .slice Ap0_0 (p0.Nums).length cp0_0, .string p0.Text]) (cs := [.int .i64 p0.Kind, .int .i32 p0.Rune, .int .u8 p0.Byte, .bool p0.Private, .slice Ap0_0 (p0.Nums).length cp0_0, .string p0.Text]) hk rfl rfl 1 fun bx4 w1 o2 st3 f5 => ?_
  replace f900000 := f900000.st st3 (by decide)
  replace hs := hs.loc0 st3 (by decide)
  have hk := hk.put 3 (.pointer (some ⟨bx4, 0, none⟩)) rfl
  refine x_run tab hk (k := 1) (lv := []) (ks := [1, 2, 3]) (e' := [(1, .int .i64 p1), (2, .int .i64 p2), (3, .pointer (some ⟨bx4, 0, none⟩))]) rfl trivial fun a hk => ?_
  refine wpListIn_nil ?_
  refine then_n ?_
  refine x_seq ?_
  refine x_mid (fun a_ w_ => ∃ o19 : Nat → Nat, ∃ A20 : Option Addr, ∃ c21 : Nat, ∃ x24 : Bool, Kn 27 a_ [(1, .int .i64 p1), (2, .int .i64 p2), (3, .pointer (some ⟨bx4, 0, none⟩)), (19, .bool x24)] ∧ St [] w (fun _ => 0) w_ o19 ∧ Ft (RdC (encInt .i64) A20 p0.Nums) w_ o19 0 ∧ Ft (Bx bx4 38 [.int .i64 p0.Kind, .int .i32 p0.Rune, .int .u8 p0.Byte, .bool p0.Private, .slice A20 (p0.Nums).length c21, .string p0.Text]) w_ o19 2 ∧ (p0.Nums).length ≤ c21 ∧ screen_at_j1 p0 p1 p2 x24 = some r) ?_ ?_
  rotate_left
  · rintro a w25 ⟨o19, A20, c21, x24, hk, hs, f22, f5, hc23, H⟩
    rw [screen_at_j1] at H
    cases b26 : x24
    · rw [b26] at hk H
      replace H := bifF H
      refine x_if hk (b := false) rfl ?_
      refine (show Code.wpIn _ _ _ _ _ _ _ from ?_)
      refine wpIn_skip ?_
      refine then_n ?_
      refine x_seq ?_
      refine wpIn_region_lit ?_
      obtain ⟨q27, H⟩ := ifS H
      obtain ⟨ad28, hAad28⟩ := RdC.addr f22.now q27
      have hk_C := hk
      have f22_C := f22
      have f5_C := f5
      subst hAad28
      have hk := hk_C
      clear hk_C
      have f22 := f22_C
      clear f22_C
      have f5 := f5_C
      clear f5_C
      refine x_run tab hk (k := 7) (lv := [.slice (some ad28) (p0.Nums).length c21, .int .i64 (rdD 0 p0.Nums p1)]) (ks := [6]) (e' := [(6, .int .i64 (mnI (rdD 0 p0.Nums p1) 9999))]) rfl ⟨(load1 tab rfl ((Bx.cell f5.now 4).trans rfl)), q27, (load1 tab rfl (RdC.at0 (E := (encInt .i64)) (d := 0) (i := p1) f22.now q27 rfl)), trivial⟩ fun a hk => ?_
      refine wpListIn_nil ?_
      refine then_n ?_
      refine wpIn_ret ?_
      obtain rfl := Option.some.inj H
      exact x_retG hk (rs := [.tmp 6]) (vs := [.int .i64 (mnI (rdD 0 p0.Nums p1) 9999)]) rfl ⟨rfl, trivial⟩ ⟨fun b_ => if b_ < w.heap.size then o b_ else (fun _ => 0) (o19 b_), rfl, hs.close0 o (fun _ => 0)⟩
    · rw [b26] at hk H
      replace H := bifT H
      refine x_if hk (b := true) rfl ?_
      refine (show Code.wpIn _ _ _ _ _ _ _ from ?_)
      refine x_seq ?_
      refine wpIn_region_lit ?_
      refine x_run tab hk (k := 2) (lv := []) (ks := [6]) (e' := [(6, .int .i64 p2)]) rfl trivial fun a hk => ?_
      refine wpListIn_nil ?_
      refine then_n ?_
      refine wpIn_ret ?_
      refine then_r ?_
      obtain rfl := Option.some.inj H
      exact x_retG hk (rs := [.tmp 6]) (vs := [.int .i64 p2]) rfl ⟨rfl, trivial⟩ ⟨fun b_ => if b_ < w.heap.size then o b_ else (fun _ => 0) (o19 b_), rfl, hs.close0 o (fun _ => 0)⟩
  refine wpIn_region_lit ?_
  refine x_run tab hk (k := 6) (lv := [.slice Ap0_0 (p0.Nums).length cp0_0]) (ks := [1, 2, 3, 12]) (e' := [(1, .int .i64 p1), (2, .int .i64 p2), (3, .pointer (some ⟨bx4, 0, none⟩)), (12, .bool (decide (p1 ≥ ((p0.Nums).length : Int))))]) rfl ⟨(load1 tab rfl ((Bx.cell f5.now 4).trans rfl)), trivial⟩ fun a hk => ?_
  cases b29 : (decide (p1 ≥ ((p0.Nums).length : Int)))
  · rw [b29] at hk H
    replace H := bifF H
    obtain ⟨q30, H⟩ := ifS H
    obtain ⟨ad31, hAad31⟩ := RdC.addr f900000.now q30
    have hk_C := hk
    have f5_C := f5
    have f900000_C := f900000
    subst hAad31
    have hk := hk_C
    clear hk_C
    have f5 := f5_C
    clear f5_C
    have f900000 := f900000_C
    clear f900000_C
    refine x_run tab hk (k := 7) (lv := [.slice (some ad31) (p0.Nums).length cp0_0, .int .i64 (rdD 0 p0.Nums p1)]) (ks := [1, 2, 3, 19]) (e' := [(1, .int .i64 p1), (2, .int .i64 p2), (3, .pointer (some ⟨bx4, 0, none⟩)), (19, .bool (decide ((rdD 0 p0.Nums p1) ≤ (0 : Int))))]) rfl ⟨(load1 tab rfl ((Bx.cell f5.now 4).trans rfl)), q30, (load1 tab rfl (RdC.at0 (E := (encInt .i64)) (d := 0) (i := p1) f900000.now q30 rfl)), trivial⟩ fun a hk => ?_
    refine wpListIn_nil ?_
    refine then_n ?_
    exact ⟨(fun b_ => R_72 (o2 b_)), (some ad31), cp0_0, (decide ((rdD 0 p0.Nums p1) ≤ (0 : Int))), (by exact Kn.pick (ks := [1, 2, 3, 19]) hk rfl), (hs.relab0 R_72 rfl), (f900000.relab R_72 rfl), (f5.relab R_72 rfl), hcp0_0, H⟩
  · rw [b29] at hk H
    replace H := bifT H
    refine x_run tab hk (k := 7) (lv := []) (ks := [1, 2, 3, 19]) (e' := [(1, .int .i64 p1), (2, .int .i64 p2), (3, .pointer (some ⟨bx4, 0, none⟩)), (19, .bool true)]) rfl trivial fun a hk => ?_
    refine wpListIn_nil ?_
    refine then_n ?_
    exact ⟨(fun b_ => R_72 (o2 b_)), Ap0_0, cp0_0, true, (by exact Kn.pick (ks := [1, 2, 3, 19]) hk rfl), (hs.relab0 R_72 rfl), (f900000.relab R_72 rfl), (f5.relab R_72 rfl), hcp0_0, H⟩

/-! (*tidewrack/screen.Screen).Do -/
abbrev R_73 (LF Lp0 Lp0_0 Lq0_0 : Nat) (l_ : Nat) : Nat := if l_ = 1 then LF else if l_ = 2 then Lp0 else if l_ = 3 then Lp0_0 else if l_ = 4 then Lq0_0 else 0
abbrev R_74 (l_ : Nat) : Nat := if l_ = 5 then 6 else l_
abbrev R_75 (LF Lp0 Lp0_0 Lq0_0 R0 : Nat) (l_ : Nat) : Nat := if l_ = 1 then LF else if l_ = 2 then Lp0 else if l_ = 3 then Lp0_0 else if l_ = 4 then Lq0_0 else if l_ = 7 then R0 else 0
abbrev R_76 (LF Lp0 Lp0_0 Lq0_0 R0 : Nat) (l_ : Nat) : Nat := if l_ = 1 then LF else if l_ = 2 then Lp0 else if l_ = 3 then Lp0_0 else if l_ = 4 then Lq0_0 else if l_ = 8 then R0 else 0
set_option maxHeartbeats 4000000 in
set_option maxRecDepth 20000 in
theorem screen_Screen_Do_calls (K : Nat) (bp0 : Nat) (bq0_0 : Nat) (Ap0_0 : Option Addr) (cp0_0 : Nat) (p0 : T55) (Ap1_0 : Option Addr) (cp1_0 : Nat) (p1 : T37) (w : World) (o : Nat → Nat) (LF : Nat) (Lg0 : Nat) (hg0 : Ft (RdC ET109 (some ⟨0, 0, none⟩) glob0) w o Lg0) (Lg1 : Nat) (hg1 : Ft (RdC ET109 (some ⟨1, 0, none⟩) glob1) w o Lg1) (Lp0 : Nat) (hp0 : Ft (Bx bp0 56 [.pointer (some ⟨bq0_0, 0, none⟩), .int .i64 p0.spot_x, .int .i64 p0.spot_y, .int .i64 p0.spot_style_Fore, .int .i64 p0.spot_style_Back, .bool p0.spot_style_Bold, .bool p0.spot_style_Under, .bool p0.spot_style_Inverse, .int .i64 p0.saved_x, .int .i64 p0.saved_y, .int .i64 p0.saved_style_Fore, .int .i64 p0.saved_style_Back, .bool p0.saved_style_Bold, .bool p0.saved_style_Under, .bool p0.saved_style_Inverse, .bool p0.waiting, .int .i64 p0.top, .int .i64 p0.bottom, .bool p0.wraps, .string p0.title]) w o Lp0) (Lp0_0 : Nat) (hp0_0 : NOwn dT65 66 Ap0_0 cp0_0 p0.g_l w o Lp0_0 LF) (hcp0_0 : (p0.g_l).length ≤ cp0_0) (Lq0_0 : Nat) (hq0_0 : Ft (Bx bq0_0 75 [.int .i64 p0.g_w, .slice Ap0_0 (p0.g_l).length cp0_0]) w o Lq0_0) (hp1_0 : Ft (RdC (encInt .i64) Ap1_0 p1.Nums) w o LF) (hcp1_0 : (p1.Nums).length ≤ cp1_0) (hd0 : ([LF, Lp0, Lp0_0, Lq0_0] : List Nat).Nodup) (hd1 : Lg0 ∉ [LF, Lp0, Lp0_0, Lq0_0]) (hd2 : Lg1 ∉ [LF, Lp0, Lp0_0, Lq0_0]) (R0 : Nat) (r : (List T65) × T55) (H : screen_Screen_Do K p0 p1 = some r) :
    Calls Tryz.prog 8 #[.pointer (some ⟨bp0, 0, none⟩), .agg #[.int .i64 p1.Kind, .int .i32 p1.Rune, .int .u8 p1.Byte, .bool p1.Private, .slice Ap1_0 (p1.Nums).length cp1_0, .string p1.Text]] w (Ret fun v_ w' => ∃ o' : Nat → Nat, ∃ A0 : Option Addr, ∃ c0 : Nat, ∃ b0 : Nat, ∃ A1 : Option Addr, ∃ c1 : Nat, v_ = .slice A0 (r.1).length c0 ∧ St [Lp0, Lp0_0, Lq0_0] w o w' o' ∧ NOwn dT65 66 A0 c0 r.1 w' o' R0 LF ∧ (r.1).length ≤ c0 ∧ Ft (Bx bp0 56 [.pointer (some ⟨b0, 0, none⟩), .int .i64 r.2.spot_x, .int .i64 r.2.spot_y, .int .i64 r.2.spot_style_Fore, .int .i64 r.2.spot_style_Back, .bool r.2.spot_style_Bold, .bool r.2.spot_style_Under, .bool r.2.spot_style_Inverse, .int .i64 r.2.saved_x, .int .i64 r.2.saved_y, .int .i64 r.2.saved_style_Fore, .int .i64 r.2.saved_style_Back, .bool r.2.saved_style_Bold, .bool r.2.saved_style_Under, .bool r.2.saved_style_Inverse, .bool r.2.waiting, .int .i64 r.2.top, .int .i64 r.2.bottom, .bool r.2.wraps, .string r.2.title]) w' o' Lp0 ∧ Ft (Bx b0 75 [.int .i64 r.2.g_w, .slice A1 (r.2.g_l).length c1]) w' o' Lq0_0 ∧ NOwn dT65 66 A1 c1 r.2.g_l w' o' Lp0_0 LF ∧ (r.2.g_l).length ≤ c1) := by
  refine x_enter (vs := [.pointer (some ⟨bp0, 0, none⟩), .agg #[.int .i64 p1.Kind, .int .i32 p1.Rune, .int .u8 p1.Byte, .bool p1.Private, .slice Ap1_0 (p1.Nums).length cp1_0, .string p1.Text]]) Tryz.func8 rfl rfl rfl fun a hk => ?_
  obtain ⟨oi, hs0, h0, h1, hob, hoz, hoa⟩ := St.startM2 w o (m := 4) hd0 rfl
  have hs := hs0 [2, 3, 4]
  have fg0 := h0 _ _ hd1 hg0
  have fg1 := h0 _ _ hd2 hg1
  have f900000 := hp0_0.conv (fun _ h_ => h1 2 3 h_ rfl rfl) (fun _ h_ => h1 0 1 h_ rfl rfl)
  have f900019 := h1 1 2 hp0 rfl rfl
  have f910000 := h1 3 4 hq0_0 rfl rfl
  have f900020 := h1 0 1 hp1_0 rfl rfl
  clear h0 h1 hs0
  rw [screen_Screen_Do] at H
  refine x_seq ?_
  refine wpIn_region_lit ?_
  refine x_op hk rfl ?_
  refine op_box (o := oi) (t := 38) (v := .agg #[.int .i64 p1.Kind, .int .i32 p1.Rune, .int .u8 p1.Byte, .bool p1.Private, .slice Ap1_0 (p1.Nums).length cp1_0, .string p1.Text]) (cs := [.int .i64 p1.Kind, .int .i32 p1.Rune, .int .u8 p1.Byte, .bool p1.Private, .slice Ap1_0 (p1.Nums).length cp1_0, .string p1.Text]) hk rfl rfl 5 fun bx4 w1 o2 st3 f5 => ?_
  replace f900000 := f900000.st st3 (by decide)
  replace f900019 := f900019.st st3 (by decide)
  replace f900020 := f900020.st st3 (by decide)
  replace f910000 := f910000.st st3 (by decide)
  replace fg0 := fg0.st st3 (by decide)
  replace fg1 := fg1.st st3 (by decide)
  replace hs := hs.locQ st3 hob rfl
  have hk := hk.put 3 (.pointer (some ⟨bx4, 0, none⟩)) rfl
  refine x_run tab hk (k := 1) (lv := []) (ks := [0, 3]) (e' := [(0, .pointer (some ⟨bp0, 0, none⟩)), (3, .pointer (some ⟨bx4, 0, none⟩))]) rfl trivial fun a hk => ?_
  refine wpListIn_nil ?_
  refine then_n ?_
  refine x_seq ?_
  refine x_seq ?_
  refine wpIn_region_lit ?_
  refine x_run tab hk (k := 2) (lv := [.int .i64 p1.Kind]) (ks := [0, 3, 6]) (e' := [(0, .pointer (some ⟨bp0, 0, none⟩)), (3, .pointer (some ⟨bx4, 0, none⟩)), (6, .int .i64 p1.Kind)]) rfl ⟨(load1 tab rfl ((Bx.cell f5.now 0).trans rfl)), trivial⟩ fun a hk => ?_
  refine wpListIn_nil ?_
  refine then_n ?_
  refine wpIn_block ?_
  refine x_seq ?_
  refine wpIn_region_lit ?_
  refine x_run tab hk (k := 2) (lv := []) (ks := [0, 3, 6, 7]) (e' := [(0, .pointer (some ⟨bp0, 0, none⟩)), (3, .pointer (some ⟨bx4, 0, none⟩)), (6, .int .i64 p1.Kind), (7, .bool (p1.Kind == (1 : Int)))]) rfl trivial fun a hk => ?_
  refine wpListIn_nil ?_
  refine then_n ?_
  cases b6 : (p1.Kind == (1 : Int))
  · rw [b6] at hk H
    replace H := bifF H
    refine x_if hk (b := false) rfl ?_
    refine (show Code.wpIn _ _ _ _ _ _ _ from ?_)
    refine x_seq ?_
    refine wpIn_region_lit ?_
    refine x_run tab hk (k := 2) (lv := []) (ks := [0, 3, 6, 13]) (e' := [(0, .pointer (some ⟨bp0, 0, none⟩)), (3, .pointer (some ⟨bx4, 0, none⟩)), (6, .int .i64 p1.Kind), (13, .bool (p1.Kind == (2 : Int)))]) rfl trivial fun a hk => ?_
    refine wpListIn_nil ?_
    refine then_n ?_
    cases b7 : (p1.Kind == (2 : Int))
    · rw [b7] at hk H
      replace H := bifF H
      refine x_if hk (b := false) rfl ?_
      refine (show Code.wpIn _ _ _ _ _ _ _ from ?_)
      refine x_seq ?_
      refine wpIn_region_lit ?_
      refine x_run tab hk (k := 2) (lv := []) (ks := [0, 3, 6, 19]) (e' := [(0, .pointer (some ⟨bp0, 0, none⟩)), (3, .pointer (some ⟨bx4, 0, none⟩)), (6, .int .i64 p1.Kind), (19, .bool (p1.Kind == (3 : Int)))]) rfl trivial fun a hk => ?_
      refine wpListIn_nil ?_
      refine then_n ?_
      cases b8 : (p1.Kind == (3 : Int))
      · rw [b8] at hk H
        replace H := bifF H
        refine x_if hk (b := false) rfl ?_
        refine (show Code.wpIn _ _ _ _ _ _ _ from ?_)
        refine x_seq ?_
        refine wpIn_region_lit ?_
        refine x_run tab hk (k := 2) (lv := []) (ks := [0, 3, 6, 25]) (e' := [(0, .pointer (some ⟨bp0, 0, none⟩)), (3, .pointer (some ⟨bx4, 0, none⟩)), (6, .int .i64 p1.Kind), (25, .bool (p1.Kind == (5 : Int)))]) rfl trivial fun a hk => ?_
        refine wpListIn_nil ?_
        refine then_n ?_
        cases b9 : (p1.Kind == (5 : Int))
        · rw [b9] at hk H
          replace H := bifF H
          refine x_if hk (b := false) rfl ?_
          refine (show Code.wpIn _ _ _ _ _ _ _ from ?_)
          refine x_seq ?_
          refine wpIn_region_lit ?_
          refine x_run tab hk (k := 2) (lv := []) (ks := [0, 3, 32]) (e' := [(0, .pointer (some ⟨bp0, 0, none⟩)), (3, .pointer (some ⟨bx4, 0, none⟩)), (32, .bool (p1.Kind == (4 : Int)))]) rfl trivial fun a hk => ?_
          refine wpListIn_nil ?_
          refine then_n ?_
          cases b10 : (p1.Kind == (4 : Int))
          · rw [b10] at hk H
            replace H := bifF H
            refine x_if hk (b := false) rfl ?_
            refine (show Code.wpIn _ _ _ _ _ _ _ from ?_)
            refine wpIn_skip ?_
            refine blk_n ?_
            refine then_n ?_
            refine x_seq ?_
            refine wpIn_region_lit ?_
            refine x_run tab hk (k := 1) (lv := []) (ks := [4]) (e' := [(4, .slice none 0 0)]) rfl trivial fun a hk => ?_
            refine wpListIn_nil ?_
            refine then_n ?_
            refine wpIn_ret ?_
            obtain rfl := Option.some.inj H
            exact x_retG hk (rs := [.tmp 4]) (vs := [.slice none 0 0]) rfl ⟨rfl, trivial⟩ ⟨cl w oi o [2, 3, 4] (R_73 LF Lp0 Lp0_0 Lq0_0) o2, none, 0, bq0_0, Ap0_0, cp0_0, rfl, hs.closeF (Lm := [Lp0, Lp0_0, Lq0_0]) (Sh := []) hoa rfl (R_73 LF Lp0 Lp0_0 Lq0_0), (NOwn.nil _ _ _ _ _ _), (by simp), hs.closeM_ft (o := o) (ρ := R_73 LF Lp0 Lp0_0 Lq0_0) f900019 (lab_at hoa (i := 1) rfl) rfl, hs.closeM_ft (o := o) (ρ := R_73 LF Lp0 Lp0_0 Lq0_0) f910000 (lab_at hoa (i := 3) rfl) rfl, f900000.conv (fun _ h_ => hs.closeM_ft (o := o) (ρ := R_73 LF Lp0 Lp0_0 Lq0_0) h_ (lab_at hoa (i := 2) rfl) rfl) (fun _ h_ => hs.closeM_ft (o := o) (ρ := R_73 LF Lp0 Lp0_0 Lq0_0) h_ (lab_at hoa (i := 0) rfl) rfl), hcp0_0⟩
          · rw [b10] at hk H
            replace H := bifT H
            refine x_if hk (b := true) rfl ?_
            refine (show Code.wpIn _ _ _ _ _ _ _ from ?_)
            refine x_seq ?_
            refine x_seq ?_
            refine wpIn_region_lit ?_
            refine x_run tab hk (k := 3) (lv := [.bool p1.Private]) (ks := [0, 3, 36]) (e' := [(0, .pointer (some ⟨bp0, 0, none⟩)), (3, .pointer (some ⟨bx4, 0, none⟩)), (36, .bool (!p1.Private))]) rfl ⟨(load1 tab rfl ((Bx.cell f5.now 3).trans rfl)), trivial⟩ fun a hk => ?_
            refine wpListIn_nil ?_
            refine then_n ?_
            cases b11 : (!p1.Private)
            · rw [b11] at hk H
              replace H := bifF H
              refine x_if hk (b := false) rfl ?_
              refine (show Code.wpIn _ _ _ _ _ _ _ from ?_)
              refine wpIn_skip ?_
              refine then_n ?_
              refine x_mid (fun a_ w_ => ∃ o28 : Nat → Nat, ∃ x29 : Bool, Kn 59 a_ [(0, .pointer (some ⟨bp0, 0, none⟩)), (3, .pointer (some ⟨bx4, 0, none⟩)), (52, .bool x29)] ∧ St [2, 3, 4] w oi w_ o28 ∧ Ft (Bx bx4 38 [.int .i64 p1.Kind, .int .i32 p1.Rune, .int .u8 p1.Byte, .bool p1.Private, .slice Ap1_0 (p1.Nums).length cp1_0, .string p1.Text]) w_ o28 6 ∧ NOwn dT65 66 Ap0_0 cp0_0 p0.g_l w_ o28 3 1 ∧ Ft (Bx bp0 56 [.pointer (some ⟨bq0_0, 0, none⟩), .int .i64 p0.spot_x, .int .i64 p0.spot_y, .int .i64 p0.spot_style_Fore, .int .i64 p0.spot_style_Back, .bool p0.spot_style_Bold, .bool p0.spot_style_Under, .bool p0.spot_style_Inverse, .int .i64 p0.saved_x, .int .i64 p0.saved_y, .int .i64 p0.saved_style_Fore, .int .i64 p0.saved_style_Back, .bool p0.saved_style_Bold, .bool p0.saved_style_Under, .bool p0.saved_style_Inverse, .bool p0.waiting, .int .i64 p0.top, .int .i64 p0.bottom, .bool p0.wraps, .string p0.title]) w_ o28 2 ∧ Ft (RdC (encInt .i64) Ap1_0 p1.Nums) w_ o28 1 ∧ Ft (Bx bq0_0 75 [.int .i64 p0.g_w, .slice Ap0_0 (p0.g_l).length cp0_0]) w_ o28 4 ∧ Ft (RdC ET109 (some ⟨0, 0, none⟩) glob0) w_ o28 0 ∧ Ft (RdC ET109 (some ⟨1, 0, none⟩) glob1) w_ o28 0 ∧ screen_Screen_Do_j1 p0 p1 x29 = some r) ?_ ?_
              rotate_left
              · refine fun a w30 z0 => z0.elim fun o28 z1 => z1.elim fun x29 z2 => z2.elim fun hk z3 => z3.elim fun hs z4 => z4.elim fun f5 z5 => z5.elim fun f900000 z6 => z6.elim fun f900019 z7 => z7.elim fun f900020 z8 => z8.elim fun f910000 z9 => z9.elim fun fg0 z10 => z10.elim fun fg1 H => ?_
                clear z0 z1 z2 z3 z4 z5 z6 z7 z8 z9 z10
                rw [screen_Screen_Do_j1] at H
                cases b31 : x29
                · rw [b31] at hk H
                  replace H := bifF H
                  refine x_if hk (b := false) rfl ?_
                  refine (show Code.wpIn _ _ _ _ _ _ _ from ?_)
                  refine wpIn_skip ?_
                  refine blk_n ?_
                  refine then_n ?_
                  refine x_seq ?_
                  refine wpIn_region_lit ?_
                  refine x_run tab hk (k := 1) (lv := []) (ks := [4]) (e' := [(4, .slice none 0 0)]) rfl trivial fun a hk => ?_
                  refine wpListIn_nil ?_
                  refine then_n ?_
                  refine wpIn_ret ?_
                  obtain rfl := Option.some.inj H
                  exact x_retG hk (rs := [.tmp 4]) (vs := [.slice none 0 0]) rfl ⟨rfl, trivial⟩ ⟨cl w oi o [2, 3, 4] (R_73 LF Lp0 Lp0_0 Lq0_0) o28, none, 0, bq0_0, Ap0_0, cp0_0, rfl, hs.closeF (Lm := [Lp0, Lp0_0, Lq0_0]) (Sh := []) hoa rfl (R_73 LF Lp0 Lp0_0 Lq0_0), (NOwn.nil _ _ _ _ _ _), (by simp), hs.closeM_ft (o := o) (ρ := R_73 LF Lp0 Lp0_0 Lq0_0) f900019 (lab_at hoa (i := 1) rfl) rfl, hs.closeM_ft (o := o) (ρ := R_73 LF Lp0 Lp0_0 Lq0_0) f910000 (lab_at hoa (i := 3) rfl) rfl, f900000.conv (fun _ h_ => hs.closeM_ft (o := o) (ρ := R_73 LF Lp0 Lp0_0 Lq0_0) h_ (lab_at hoa (i := 2) rfl) rfl) (fun _ h_ => hs.closeM_ft (o := o) (ρ := R_73 LF Lp0 Lp0_0 Lq0_0) h_ (lab_at hoa (i := 0) rfl) rfl), hcp0_0⟩
                · rw [b31] at hk H
                  replace H := bifT H
                  refine x_if hk (b := true) rfl ?_
                  refine (show Code.wpIn _ _ _ _ _ _ _ from ?_)
                  refine wpIn_region_lit ?_
                  refine x_run tab hk (k := 6) (lv := [.int .u8 p1.Byte]) (ks := [56, 58]) (e' := [(56, .bool (p1.Byte == (104 : Int))), (58, .pointer (some ((⟨bp0, 0, none⟩ : Addr).add 18)))]) rfl ⟨(load1 tab rfl ((Bx.cell f5.now 2).trans rfl)), trivial⟩ fun a hk => ?_
                  refine x_op hk rfl ?_
                  refine op_store tab hk (t := 4) (v := .bool (p1.Byte == (104 : Int))) (b := bp0) (k := 18) (cs' := [.pointer (some ⟨bq0_0, 0, none⟩), .int .i64 p0.spot_x, .int .i64 p0.spot_y, .int .i64 p0.spot_style_Fore, .int .i64 p0.spot_style_Back, .bool p0.spot_style_Bold, .bool p0.spot_style_Under, .bool p0.spot_style_Inverse, .int .i64 p0.saved_x, .int .i64 p0.saved_y, .int .i64 p0.saved_style_Fore, .int .i64 p0.saved_style_Back, .bool p0.saved_style_Bold, .bool p0.saved_style_Under, .bool p0.saved_style_Inverse, .bool p0.waiting, .int .i64 p0.top, .int .i64 p0.bottom, .bool (p1.Byte == (104 : Int)), .string p0.title]) rfl rfl rfl rfl rfl rfl f900019 rfl rfl fun w32 o33 st34 f900019_ => ?_
                  replace f900000 := f900000.st st34 (by decide)
                  replace f910000 := f910000.st st34 (by decide)
                  replace fg0 := fg0.st st34 (by decide)
                  replace fg1 := fg1.st st34 (by decide)
                  replace hs := hs.locQ st34 hob rfl
                  replace f900019 := f900019_
                  refine wpListIn_nil ?_
                  refine blk_n ?_
                  refine then_n ?_
                  refine x_seq ?_
                  refine wpIn_region_lit ?_
                  refine x_run tab hk (k := 1) (lv := []) (ks := [4]) (e' := [(4, .slice none 0 0)]) rfl trivial fun a hk => ?_
                  refine wpListIn_nil ?_
                  refine then_n ?_
                  refine wpIn_ret ?_
                  obtain rfl := Option.some.inj H
                  exact x_retG hk (rs := [.tmp 4]) (vs := [.slice none 0 0]) rfl ⟨rfl, trivial⟩ ⟨cl w oi o [2, 3, 4] (R_73 LF Lp0 Lp0_0 Lq0_0) o33, none, 0, bq0_0, Ap0_0, cp0_0, rfl, hs.closeF (Lm := [Lp0, Lp0_0, Lq0_0]) (Sh := []) hoa rfl (R_73 LF Lp0 Lp0_0 Lq0_0), (NOwn.nil _ _ _ _ _ _), (by simp), hs.closeM_ft (o := o) (ρ := R_73 LF Lp0 Lp0_0 Lq0_0) f900019 (lab_at hoa (i := 1) rfl) rfl, hs.closeM_ft (o := o) (ρ := R_73 LF Lp0 Lp0_0 Lq0_0) f910000 (lab_at hoa (i := 3) rfl) rfl, f900000.conv (fun _ h_ => hs.closeM_ft (o := o) (ρ := R_73 LF Lp0 Lp0_0 Lq0_0) h_ (lab_at hoa (i := 2) rfl) rfl) (fun _ h_ => hs.closeM_ft (o := o) (ρ := R_73 LF Lp0 Lp0_0 Lq0_0) h_ (lab_at hoa (i := 0) rfl) rfl), hcp0_0⟩
              refine wpIn_region_lit ?_
              refine x_run tab hk (k := 1) (lv := [.agg #[.int .i64 p1.Kind, .int .i32 p1.Rune, .int .u8 p1.Byte, .bool p1.Private, .slice Ap1_0 (p1.Nums).length cp1_0, .string p1.Text]]) (ks := [0, 3, 40]) (e' := [(0, .pointer (some ⟨bp0, 0, none⟩)), (3, .pointer (some ⟨bx4, 0, none⟩)), (40, .agg #[.int .i64 p1.Kind, .int .i32 p1.Rune, .int .u8 p1.Byte, .bool p1.Private, .slice Ap1_0 (p1.Nums).length cp1_0, .string p1.Text])]) rfl ⟨(load_box tab rfl rfl f5.now (k := 0) rfl rfl), trivial⟩ fun a hk => ?_
              refine x_op hk rfl ?_
              obtain ⟨t38, hc39, H⟩ := bindS H
              refine op_call hk ent_21 (vs := [.agg #[.int .i64 p1.Kind, .int .i32 p1.Rune, .int .u8 p1.Byte, .bool p1.Private, .slice Ap1_0 (p1.Nums).length cp1_0, .string p1.Text], .int .i64 0, .int .i64 0]) rfl (screen_at_calls Ap1_0 cp1_0 p1 0 0 _ o2 _ f900020 hcp1_0   _ hc39) ?_
              rintro _ w40 ⟨o41, rfl, st42⟩
              replace f5 := f5.st st42 (by decide)
              replace f900000 := f900000.st st42 (by decide)
              replace f900019 := f900019.st st42 (by decide)
              replace f900020 := f900020.st st42 (by decide)
              replace f910000 := f910000.st st42 (by decide)
              replace fg0 := fg0.st st42 (by decide)
              replace fg1 := fg1.st st42 (by decide)
              replace hs := hs.locQ st42 hob rfl
              have hk := hk.put 41 (.int .i64 t38) rfl
              refine x_run tab hk (k := 2) (lv := []) (ks := [0, 3, 43]) (e' := [(0, .pointer (some ⟨bp0, 0, none⟩)), (3, .pointer (some ⟨bx4, 0, none⟩)), (43, .bool (t38 == (7 : Int)))]) rfl trivial fun a hk => ?_
              cases b43 : (t38 == (7 : Int))
              · rw [b43] at hk H
                replace H := bifF H
                refine x_run tab hk (k := 9) (lv := []) (ks := [0, 3, 52]) (e' := [(0, .pointer (some ⟨bp0, 0, none⟩)), (3, .pointer (some ⟨bx4, 0, none⟩)), (52, .bool false)]) rfl trivial fun a hk => ?_
                refine wpListIn_nil ?_
                refine then_n ?_
                exact ⟨(fun b_ => R_74 (o41 b_)), false, (by exact Kn.pick (ks := [0, 3, 52]) hk rfl), (hs.relabM hob R_74 (by decide)), (f5.relab R_74 rfl), (f900000.relab R_74 rfl), (f900019.relab R_74 rfl), (f900020.relab R_74 rfl), (f910000.relab R_74 rfl), (fg0.relab R_74 rfl), (fg1.relab R_74 rfl), H⟩
              · rw [b43] at hk H
                replace H := bifT H
                refine x_run tab hk (k := 4) (lv := [.int .u8 p1.Byte]) (ks := [0, 3, 43, 47]) (e' := [(0, .pointer (some ⟨bp0, 0, none⟩)), (3, .pointer (some ⟨bx4, 0, none⟩)), (43, .bool true), (47, .bool (p1.Byte == (104 : Int)))]) rfl ⟨(load1 tab rfl ((Bx.cell f5.now 2).trans rfl)), trivial⟩ fun a hk => ?_
                cases b44 : (p1.Byte == (104 : Int))
                · rw [b44] at hk H
                  replace H := bifF H
                  refine x_run tab hk (k := 5) (lv := [.int .u8 p1.Byte]) (ks := [0, 3, 52]) (e' := [(0, .pointer (some ⟨bp0, 0, none⟩)), (3, .pointer (some ⟨bx4, 0, none⟩)), (52, .bool (p1.Byte == (108 : Int)))]) rfl ⟨(load1 tab rfl ((Bx.cell f5.now 2).trans rfl)), trivial⟩ fun a hk => ?_
                  refine wpListIn_nil ?_
                  refine then_n ?_
                  exact ⟨(fun b_ => R_74 (o41 b_)), (p1.Byte == (108 : Int)), (by exact Kn.pick (ks := [0, 3, 52]) hk rfl), (hs.relabM hob R_74 (by decide)), (f5.relab R_74 rfl), (f900000.relab R_74 rfl), (f900019.relab R_74 rfl), (f900020.relab R_74 rfl), (f910000.relab R_74 rfl), (fg0.relab R_74 rfl), (fg1.relab R_74 rfl), H⟩
                · rw [b44] at hk H
                  replace H := bifT H
                  refine x_run tab hk (k := 5) (lv := []) (ks := [0, 3, 52]) (e' := [(0, .pointer (some ⟨bp0, 0, none⟩)), (3, .pointer (some ⟨bx4, 0, none⟩)), (52, .bool true)]) rfl trivial fun a hk => ?_
                  refine wpListIn_nil ?_
                  refine then_n ?_
                  exact ⟨(fun b_ => R_74 (o41 b_)), true, (by exact Kn.pick (ks := [0, 3, 52]) hk rfl), (hs.relabM hob R_74 (by decide)), (f5.relab R_74 rfl), (f900000.relab R_74 rfl), (f900019.relab R_74 rfl), (f900020.relab R_74 rfl), (f910000.relab R_74 rfl), (fg0.relab R_74 rfl), (fg1.relab R_74 rfl), H⟩
            · rw [b11] at hk H
              replace H := bifT H
              refine x_if hk (b := true) rfl ?_
              refine (show Code.wpIn _ _ _ _ _ _ _ from ?_)
              refine x_seq ?_
              refine wpIn_region_lit ?_
              refine x_run tab hk (k := 2) (lv := [.agg #[.int .i64 p1.Kind, .int .i32 p1.Rune, .int .u8 p1.Byte, .bool p1.Private, .slice Ap1_0 (p1.Nums).length cp1_0, .string p1.Text]]) (ks := [37, 38]) (e' := [(37, .pointer (some ⟨bp0, 0, none⟩)), (38, .agg #[.int .i64 p1.Kind, .int .i32 p1.Rune, .int .u8 p1.Byte, .bool p1.Private, .slice Ap1_0 (p1.Nums).length cp1_0, .string p1.Text])]) rfl ⟨(load_box tab rfl rfl f5.now (k := 0) rfl rfl), trivial⟩ fun a hk => ?_
              exact absurd H (by simp)
        · rw [b9] at hk H
          replace H := bifT H
          refine x_if hk (b := true) rfl ?_
          refine (show Code.wpIn _ _ _ _ _ _ _ from ?_)
          refine wpIn_region_lit ?_
          refine x_run tab hk (k := 5) (lv := [.string p1.Text]) (ks := [29, 31]) (e' := [(29, .string p1.Text), (31, .pointer (some ((⟨bp0, 0, none⟩ : Addr).add 19)))]) rfl ⟨(load1 tab rfl ((Bx.cell f5.now 5).trans rfl)), trivial⟩ fun a hk => ?_
          refine x_op hk rfl ?_
          refine op_store tab hk (t := 9) (v := .string p1.Text) (b := bp0) (k := 19) (cs' := [.pointer (some ⟨bq0_0, 0, none⟩), .int .i64 p0.spot_x, .int .i64 p0.spot_y, .int .i64 p0.spot_style_Fore, .int .i64 p0.spot_style_Back, .bool p0.spot_style_Bold, .bool p0.spot_style_Under, .bool p0.spot_style_Inverse, .int .i64 p0.saved_x, .int .i64 p0.saved_y, .int .i64 p0.saved_style_Fore, .int .i64 p0.saved_style_Back, .bool p0.saved_style_Bold, .bool p0.saved_style_Under, .bool p0.saved_style_Inverse, .bool p0.waiting, .int .i64 p0.top, .int .i64 p0.bottom, .bool p0.wraps, .string p1.Text]) rfl rfl rfl rfl rfl rfl f900019 rfl rfl fun w45 o46 st47 f900019_ => ?_
          replace f900000 := f900000.st st47 (by decide)
          replace f910000 := f910000.st st47 (by decide)
          replace fg0 := fg0.st st47 (by decide)
          replace fg1 := fg1.st st47 (by decide)
          replace hs := hs.locQ st47 hob rfl
          replace f900019 := f900019_
          refine wpListIn_nil ?_
          refine blk_n ?_
          refine then_n ?_
          refine x_seq ?_
          refine wpIn_region_lit ?_
          refine x_run tab hk (k := 1) (lv := []) (ks := [4]) (e' := [(4, .slice none 0 0)]) rfl trivial fun a hk => ?_
          refine wpListIn_nil ?_
          refine then_n ?_
          refine wpIn_ret ?_
          obtain rfl := Option.some.inj H
          exact x_retG hk (rs := [.tmp 4]) (vs := [.slice none 0 0]) rfl ⟨rfl, trivial⟩ ⟨cl w oi o [2, 3, 4] (R_73 LF Lp0 Lp0_0 Lq0_0) o46, none, 0, bq0_0, Ap0_0, cp0_0, rfl, hs.closeF (Lm := [Lp0, Lp0_0, Lq0_0]) (Sh := []) hoa rfl (R_73 LF Lp0 Lp0_0 Lq0_0), (NOwn.nil _ _ _ _ _ _), (by simp), hs.closeM_ft (o := o) (ρ := R_73 LF Lp0 Lp0_0 Lq0_0) f900019 (lab_at hoa (i := 1) rfl) rfl, hs.closeM_ft (o := o) (ρ := R_73 LF Lp0 Lp0_0 Lq0_0) f910000 (lab_at hoa (i := 3) rfl) rfl, f900000.conv (fun _ h_ => hs.closeM_ft (o := o) (ρ := R_73 LF Lp0 Lp0_0 Lq0_0) h_ (lab_at hoa (i := 2) rfl) rfl) (fun _ h_ => hs.closeM_ft (o := o) (ρ := R_73 LF Lp0 Lp0_0 Lq0_0) h_ (lab_at hoa (i := 0) rfl) rfl), hcp0_0⟩
      · rw [b8] at hk H
        replace H := bifT H
        refine x_if hk (b := true) rfl ?_
        refine (show Code.wpIn _ _ _ _ _ _ _ from ?_)
        refine x_seq ?_
        refine wpIn_region_lit ?_
        refine x_run tab hk (k := 3) (lv := [.int .u8 p1.Byte]) (ks := [21, 23]) (e' := [(21, .pointer (some ⟨bp0, 0, none⟩)), (23, .int .u8 p1.Byte)]) rfl ⟨(load1 tab rfl ((Bx.cell f5.now 2).trans rfl)), trivial⟩ fun a hk => ?_
        exact absurd H (by simp)
    · rw [b7] at hk H
      replace H := bifT H
      refine x_if hk (b := true) rfl ?_
      refine (show Code.wpIn _ _ _ _ _ _ _ from ?_)
      refine x_seq ?_
      refine wpIn_region_lit ?_
      refine x_run tab hk (k := 3) (lv := [.int .u8 p1.Byte]) (ks := [15, 17]) (e' := [(15, .pointer (some ⟨bp0, 0, none⟩)), (17, .int .u8 p1.Byte)]) rfl ⟨(load1 tab rfl ((Bx.cell f5.now 2).trans rfl)), trivial⟩ fun a hk => ?_
      refine x_op hk rfl ?_
      obtain ⟨t51, hc52, H⟩ := bindS H
      refine op_call hk ent_18 (vs := [.pointer (some ⟨bp0, 0, none⟩), .int .u8 p1.Byte]) rfl (screen_Screen_control_calls K bp0 bq0_0 Ap0_0 cp0_0 p0 p1.Byte _ o2 1 2 f900019 3 f900000 hcp0_0 4 f910000 (by decide) 7  _ hc52) ?_
      rintro _ w53 ⟨o54, A56, c57, bx61, A63, c64, rfl, st55, f58, hc59, f60, f62, f65, hc66⟩
      replace fg0 := fg0.st st55 (by decide)
      replace fg1 := fg1.st st55 (by decide)
      replace hs := hs.locQ st55 hob rfl
      have hk := hk.put 18 (.slice A56 (t51.1).length c57) rfl
      refine x_run tab hk (k := 1) (lv := []) (ks := [4]) (e' := [(4, .slice A56 (t51.1).length c57)]) rfl trivial fun a hk => ?_
      refine wpListIn_nil ?_
      refine then_n ?_
      refine wpIn_ret ?_
      refine blk_r ?_
      refine then_r ?_
      obtain rfl := Option.some.inj H
      exact x_retG hk (rs := [.tmp 4]) (vs := [.slice A56 (t51.1).length c57]) rfl ⟨rfl, trivial⟩ ⟨cl w oi o [2, 3, 4] (R_75 LF Lp0 Lp0_0 Lq0_0 R0) o54, A56, c57, bx61, A63, c64, rfl, hs.closeF (Lm := [Lp0, Lp0_0, Lq0_0]) (Sh := []) hoa rfl (R_75 LF Lp0 Lp0_0 Lq0_0 R0), f58.conv (fun _ h_ => hs.closeM_ft (o := o) (ρ := R_75 LF Lp0 Lp0_0 Lq0_0 R0) h_ (lab_none hob rfl) rfl) (fun _ h_ => hs.closeM_ft (o := o) (ρ := R_75 LF Lp0 Lp0_0 Lq0_0 R0) h_ (lab_at hoa (i := 0) rfl) rfl), hc59, hs.closeM_ft (o := o) (ρ := R_75 LF Lp0 Lp0_0 Lq0_0 R0) f60 (lab_at hoa (i := 1) rfl) rfl, hs.closeM_ft (o := o) (ρ := R_75 LF Lp0 Lp0_0 Lq0_0 R0) f62 (lab_at hoa (i := 3) rfl) rfl, f65.conv (fun _ h_ => hs.closeM_ft (o := o) (ρ := R_75 LF Lp0 Lp0_0 Lq0_0 R0) h_ (lab_at hoa (i := 2) rfl) rfl) (fun _ h_ => hs.closeM_ft (o := o) (ρ := R_75 LF Lp0 Lp0_0 Lq0_0 R0) h_ (lab_at hoa (i := 0) rfl) rfl), hc66⟩
  · rw [b6] at hk H
    replace H := bifT H
    refine x_if hk (b := true) rfl ?_
    refine (show Code.wpIn _ _ _ _ _ _ _ from ?_)
    refine x_seq ?_
    refine wpIn_region_lit ?_
    refine x_run tab hk (k := 3) (lv := [.int .i32 p1.Rune]) (ks := [9, 11]) (e' := [(9, .pointer (some ⟨bp0, 0, none⟩)), (11, .int .i32 p1.Rune)]) rfl ⟨(load1 tab rfl ((Bx.cell f5.now 1).trans rfl)), trivial⟩ fun a hk => ?_
    refine x_op hk rfl ?_
    obtain ⟨t70, hc71, H⟩ := bindS H
    refine op_call hk ent_17 (vs := [.pointer (some ⟨bp0, 0, none⟩), .int .i32 p1.Rune]) rfl (screen_Screen_print_calls K bp0 bq0_0 Ap0_0 cp0_0 p0 p1.Rune _ o2 1 0 fg0 0 fg1 2 f900019 3 f900000 hcp0_0 4 f910000 (by decide) (by decide) (by decide) 8  _ hc71) ?_
    rintro _ w72 ⟨o73, A75, c76, bx80, A82, c83, rfl, st74, f77, hc78, f79, f81, f84, hc85⟩
    replace fg0 := fg0.st st74 (by decide)
    replace fg1 := fg1.st st74 (by decide)
    replace hs := hs.locQ st74 hob rfl
    have hk := hk.put 12 (.slice A75 (t70.1).length c76) rfl
    refine x_run tab hk (k := 1) (lv := []) (ks := [4]) (e' := [(4, .slice A75 (t70.1).length c76)]) rfl trivial fun a hk => ?_
    refine wpListIn_nil ?_
    refine then_n ?_
    refine wpIn_ret ?_
    refine blk_r ?_
    refine then_r ?_
    obtain rfl := Option.some.inj H
    exact x_retG hk (rs := [.tmp 4]) (vs := [.slice A75 (t70.1).length c76]) rfl ⟨rfl, trivial⟩ ⟨cl w oi o [2, 3, 4] (R_76 LF Lp0 Lp0_0 Lq0_0 R0) o73, A75, c76, bx80, A82, c83, rfl, hs.closeF (Lm := [Lp0, Lp0_0, Lq0_0]) (Sh := []) hoa rfl (R_76 LF Lp0 Lp0_0 Lq0_0 R0), f77.conv (fun _ h_ => hs.closeM_ft (o := o) (ρ := R_76 LF Lp0 Lp0_0 Lq0_0 R0) h_ (lab_none hob rfl) rfl) (fun _ h_ => hs.closeM_ft (o := o) (ρ := R_76 LF Lp0 Lp0_0 Lq0_0 R0) h_ (lab_at hoa (i := 0) rfl) rfl), hc78, hs.closeM_ft (o := o) (ρ := R_76 LF Lp0 Lp0_0 Lq0_0 R0) f79 (lab_at hoa (i := 1) rfl) rfl, hs.closeM_ft (o := o) (ρ := R_76 LF Lp0 Lp0_0 Lq0_0 R0) f81 (lab_at hoa (i := 3) rfl) rfl, f84.conv (fun _ h_ => hs.closeM_ft (o := o) (ρ := R_76 LF Lp0 Lp0_0 Lq0_0 R0) h_ (lab_at hoa (i := 2) rfl) rfl) (fun _ h_ => hs.closeM_ft (o := o) (ρ := R_76 LF Lp0 Lp0_0 Lq0_0 R0) h_ (lab_at hoa (i := 0) rfl) rfl), hc85⟩

/-! (tidewrack/row.Row).Glyphs -/
abbrev R_77 (l_ : Nat) : Nat := if l_ = 23 then 18 else l_
abbrev R_78 (l_ : Nat) : Nat := if l_ = 29 then 23 else l_
abbrev R_79 (l_ : Nat) : Nat := if l_ = 23 then 29 else if l_ = 28 then 30 else l_
abbrev R_80 (l_ : Nat) : Nat := if l_ = 1 then 33 else l_
set_option maxHeartbeats 4000000 in
set_option maxRecDepth 20000 in
theorem row_Row_Glyphs_calls (K : Nat) (Ap0_0 : Option Addr) (cp0_0 : Nat) (p0 : T65) (w : World) (o : Nat → Nat) (Lp0_0 : Nat) (hp0_0 : Ft (RdC ET77 Ap0_0 p0.Cells) w o Lp0_0) (hcp0_0 : (p0.Cells).length ≤ cp0_0)  (R0 : Nat) (r : List T46) (H : row_Row_Glyphs K p0 = some r) :
    Calls Tryz.prog 14 #[.agg #[.slice Ap0_0 (p0.Cells).length cp0_0, .bool p0.Wrapped]] w (Ret fun v_ w' => ∃ o' : Nat → Nat, ∃ A0 : Option Addr, ∃ c0 : Nat, v_ = .slice A0 (r).length c0 ∧ St [] w o w' o' ∧ Ft (Own ET46 47 (.slice A0 (r).length c0) r) w' o' R0 ∧ (r).length ≤ c0) := by
  refine x_enter (vs := [.agg #[.slice Ap0_0 (p0.Cells).length cp0_0, .bool p0.Wrapped]]) Tryz.func14 rfl rfl rfl fun a hk => ?_
  obtain ⟨o0, hs, h0⟩ := St.start w o
  have f900000 := h0 _ _ hp0_0
  clear h0
  rw [row_Row_Glyphs] at H
  refine x_seq ?_
  refine wpIn_region_lit ?_
  refine x_op hk rfl ?_
  refine op_box (o := o0) (t := 66) (v := .agg #[.slice Ap0_0 (p0.Cells).length cp0_0, .bool p0.Wrapped]) (cs := [.slice Ap0_0 (p0.Cells).length cp0_0, .bool p0.Wrapped]) hk rfl rfl 1 fun bx4 w1 o2 st3 f5 => ?_
  replace f900000 := f900000.st st3 (by decide)
  replace hs := hs.loc0 st3 (by decide)
  have hk := hk.put 1 (.pointer (some ⟨bx4, 0, none⟩)) rfl
  refine x_run tab hk (k := 1) (lv := []) (ks := [1]) (e' := [(1, .pointer (some ⟨bx4, 0, none⟩))]) rfl trivial fun a hk => ?_
  refine wpListIn_nil ?_
  refine then_n ?_
  refine x_seq ?_
  refine wpIn_region_lit ?_
  refine x_run tab hk (k := 3) (lv := [.slice Ap0_0 (p0.Cells).length cp0_0]) (ks := [1, 3]) (e' := [(1, .pointer (some ⟨bx4, 0, none⟩)), (3, .slice Ap0_0 (p0.Cells).length cp0_0)]) rfl ⟨(load1 tab rfl ((Bx.cell f5.now 0).trans rfl)), trivial⟩ fun a hk => ?_
  refine wpListIn_nil ?_
  refine then_n ?_
  refine x_mid (fun a_ w_ => ∃ o167 : Nat → Nat, ∃ A168 : Option Addr, ∃ c169 : Nat, ∃ l170 : List T77, Kn 56 a_ [(3, .slice A168 (l170).length c169)] ∧ St [] w (fun _ => 0) w_ o167 ∧ Ft (RdC ET77 A168 l170) w_ o167 0 ∧ (l170).length ≤ c169 ∧ row_Row_Glyphs_j1 K l170 = some r) ?_ ?_
  rotate_left
  · rintro a w173 ⟨o167, A168, c169, l170, hk, hs, f171, hc172, H⟩
    rw [row_Row_Glyphs_j1] at H
    refine x_seq ?_
    refine wpIn_region_lit ?_
    refine x_run tab hk (k := 1) (lv := []) (ks := [3, 4]) (e' := [(3, .slice A168 (l170).length c169), (4, .slice none 0 0)]) rfl trivial fun a hk => ?_
    refine wpListIn_nil ?_
    refine then_n ?_
    refine x_mid (fun a_ w_ => ∃ o309 : Nat → Nat, ∃ A310 : Option Addr, ∃ c311 : Nat, ∃ l312 : List T46, Kn 56 a_ [(4, .slice A310 (l312).length c311)] ∧ St [] w (fun _ => 0) w_ o309 ∧ Ft (Own ET46 47 (.slice A310 (l312).length c311) l312) w_ o309 18 ∧ (l312).length ≤ c311 ∧ row_Row_Glyphs_j2 l312 = some r) ?_ ?_
    rotate_left
    · rintro a w315 ⟨o309, A310, c311, l312, hk, hs, f313, hc314, H⟩
      rw [row_Row_Glyphs_j2] at H
      refine x_seq ?_
      refine wpIn_region_lit ?_
      refine x_run tab hk (k := 2) (lv := []) (ks := [2]) (e' := [(2, .slice A310 (l312).length c311)]) rfl trivial fun a hk => ?_
      refine wpListIn_nil ?_
      refine then_n ?_
      refine wpIn_ret ?_
      obtain rfl := Option.some.inj H
      exact x_retG hk (rs := [.tmp 2]) (vs := [.slice A310 (l312).length c311]) rfl ⟨rfl, trivial⟩ ⟨fun b_ => if b_ < w.heap.size then o b_ else (fun _ => R0) (o309 b_), A310, c311, rfl, hs.close0 o (fun _ => R0), hs.close_ft (o := o) (ρ := fun _ => R0) f313 (by decide) rfl, hc314⟩
    refine x_seq ?_
    refine wpIn_region_lit ?_
    refine x_run tab hk (k := 3) (lv := []) (ks := [4, 32, 33, 34]) (e' := [(4, .slice none 0 0), (32, .slice A168 (l170).length c169), (33, .int .i64 ((l170).length : Int)), (34, .int .i64 0)]) rfl trivial fun a hk => ?_
    refine wpListIn_nil ?_
    refine then_n ?_
    refine wpIn_block ?_
    refine x_loop (fun j_ a_ w_ => ∃ o356 : Nat → Nat, ∃ A357 : Option Addr, ∃ c358 : Nat, ∃ l359 : List T46, ∃ x362 : Int, Kn 56 a_ [(4, .slice A357 (l359).length c358), (32, .slice A168 (l170).length c169), (33, .int .i64 ((l170).length : Int)), (34, .int .i64 x362)] ∧ St [] w (fun _ => 0) w_ o356 ∧ Ft (RdC ET77 A168 l170) w_ o356 0 ∧ Ft (Own ET46 47 (.slice A357 (l359).length c358) l359) w_ o356 23 ∧ (l359).length ≤ c358 ∧ row_Row_Glyphs_l3 l170 j_ l359 x362 = some r) (k := K) ⟨o167, none, 0, ([] : List T46), 0, (by exact Kn.pick (ks := [4, 32, 33, 34]) hk rfl), hs, f171, (Ft.of_all (fun _ => Own.nil _ _ _) _ _ _), (by simp), H⟩ (fun _ _ z => z.elim fun _ z => z.elim fun _ z => z.elim fun _ z => z.elim fun _ z => z.elim fun _ z => z.elim fun _ z => z.elim fun _ z => z.elim fun _ z => z.elim fun _ z => z.elim fun _ z => absurd (show (none : Option (List T46)) = some r from z) (by simp)) ?_
    rintro k401 a w400 ⟨o356, A357, c358, l359, x362, hk, hs, f171, f360, hc361, H⟩
    rw [row_Row_Glyphs_l3] at H
    obtain ⟨lp402, hlp403⟩ : ∃ lp_, lp_ = row_Row_Glyphs_l3 l170 k401 := ⟨_, rfl⟩
    rw [← hlp403] at H
    refine x_seq ?_
    refine wpIn_region_lit ?_
    refine x_run tab hk (k := 1) (lv := []) (ks := [4, 32, 33, 34, 35]) (e' := [(4, .slice A357 (l359).length c358), (32, .slice A168 (l170).length c169), (33, .int .i64 ((l170).length : Int)), (34, .int .i64 x362), (35, .bool (decide (x362 < ((l170).length : Int))))]) rfl trivial fun a hk => ?_
    refine wpListIn_nil ?_
    refine then_n ?_
    refine x_seq ?_
    cases b404 : (decide (x362 < ((l170).length : Int)))
    · rw [b404] at hk H
      replace H := bifF H
      refine x_if hk (b := false) rfl ?_
      refine (show Code.wpIn _ _ _ _ _ _ _ from ?_)
      refine wpIn_exit ?_
      refine then_x ?_
      refine then_x ?_
      refine blk_x ?_
      refine then_n ?_
      exact ⟨(fun b_ => R_77 (o356 b_)), A357, c358, l359, (by exact Kn.pick (ks := [4]) hk rfl), (hs.relab0 R_77 rfl), (f360.relab R_77 rfl), hc361, H⟩
    · rw [b404] at hk H
      replace H := bifT H
      refine x_if hk (b := true) rfl ?_
      refine (show Code.wpIn _ _ _ _ _ _ _ from ?_)
      refine wpIn_skip ?_
      refine then_n ?_
      refine x_seq ?_
      refine wpIn_block ?_
      refine x_seq ?_
      refine wpIn_region_lit ?_
      obtain ⟨q405, H⟩ := ifS H
      obtain ⟨ad406, hAad406⟩ := RdC.addr f171.now q405
      have hk_C := hk
      have f171_C := f171
      have f360_C := f360
      subst hAad406
      have hk := hk_C
      clear hk_C
      have f171 := f171_C
      clear f171_C
      have f360 := f360_C
      clear f360_C
      refine x_run tab hk (k := 2) (lv := [.agg #[.int .i32 ((rdD zT77 l170 x362).Rune), .int .i64 ((rdD zT77 l170 x362).Style), .int .i64 ((rdD zT77 l170 x362).Part)]]) (ks := [4, 32, 33, 34, 37]) (e' := [(4, .slice A357 (l359).length c358), (32, .slice (some ad406) (l170).length c169), (33, .int .i64 ((l170).length : Int)), (34, .int .i64 x362), (37, .agg #[.int .i32 ((rdD zT77 l170 x362).Rune), .int .i64 ((rdD zT77 l170 x362).Style), .int .i64 ((rdD zT77 l170 x362).Part)])]) rfl ⟨q405, (load_elem (E := ET77) (i := x362) (dx := zT77) tab rfl rfl f171.now q405), trivial⟩ fun a hk => ?_
      refine x_op hk rfl ?_
      refine op_alloc (o := o356) tab (t := 78) (cs := [.int .i32 0, .int .i64 0, .int .i64 0]) rfl rfl 28 fun bx410 w407 o408 st409 f411 => ?_
      replace f171 := f171.st st409 (by decide)
      replace f360 := f360.st st409 (by decide)
      replace hs := hs.loc0 st409 (by decide)
      have hk := hk.put 6 (.pointer (some ⟨bx410, 0, none⟩)) rfl
      refine x_op hk rfl ?_
      refine op_store tab hk (t := 78) (v := .agg #[.int .i32 ((rdD zT77 l170 x362).Rune), .int .i64 ((rdD zT77 l170 x362).Style), .int .i64 ((rdD zT77 l170 x362).Part)]) (b := bx410) (k := 0) (cs' := [.int .i32 ((rdD zT77 l170 x362).Rune), .int .i64 ((rdD zT77 l170 x362).Style), .int .i64 ((rdD zT77 l170 x362).Part)]) rfl rfl rfl rfl rfl rfl f411 rfl rfl fun w412 o413 st414 f411_ => ?_
      replace f171 := f171.st st414 (by decide)
      replace f360 := f360.st st414 (by decide)
      replace hs := hs.loc0 st414 (by decide)
      replace f411 := f411_
      refine wpListIn_nil ?_
      refine then_n ?_
      refine x_mid (fun a_ w_ => ∃ o422 : Nat → Nat, ∃ x423 : Bool, Kn 56 a_ [(4, .slice A357 (l359).length c358), (6, .pointer (some ⟨bx410, 0, none⟩)), (32, .slice (some ad406) (l170).length c169), (33, .int .i64 ((l170).length : Int)), (34, .int .i64 x362), (45, .bool x423)] ∧ St [] w (fun _ => 0) w_ o422 ∧ Ft (RdC ET77 (some ad406) l170) w_ o422 0 ∧ Ft (Own ET46 47 (.slice A357 (l359).length c358) l359) w_ o422 29 ∧ Ft (Bx bx410 78 [.int .i32 ((rdD zT77 l170 x362).Rune), .int .i64 ((rdD zT77 l170 x362).Style), .int .i64 ((rdD zT77 l170 x362).Part)]) w_ o422 30 ∧ row_Row_Glyphs_j4 l170 l359 x362 lp402 x423 = some r) ?_ ?_
      rotate_left
      · rintro a w424 ⟨o422, x423, hk, hs, f171, f360, f411, H⟩
        rw [row_Row_Glyphs_j4] at H
        cases b425 : x423
        · rw [b425] at hk H
          replace H := bifF H
          refine x_if hk (b := false) rfl ?_
          refine (show Code.wpIn _ _ _ _ _ _ _ from ?_)
          refine wpIn_skip ?_
          refine blk_n ?_
          refine then_n ?_
          refine wpIn_region_lit ?_
          refine x_run tab hk (k := 2) (lv := []) (ks := [4, 32, 33, 34]) (e' := [(4, .slice A357 (l359).length c358), (32, .slice (some ad406) (l170).length c169), (33, .int .i64 ((l170).length : Int)), (34, .int .i64 (IntKind.wrap .i64 (x362 + 1)))]) rfl trivial fun a hk => ?_
          refine wpListIn_nil ?_
          refine then_n ?_
          exact ⟨k401, Nat.le_refl _, (fun b_ => R_78 (o422 b_)), A357, c358, l359, (IntKind.wrap .i64 (x362 + 1)), (by exact Kn.pick (ks := [4, 32, 33, 34]) hk rfl), (hs.relab0 R_78 rfl), (f171.relab R_78 rfl), (f360.relab R_78 rfl), hc361, (hlp403 ▸ H)⟩
        · rw [b425] at hk H
          replace H := bifT H
          refine x_if hk (b := true) rfl ?_
          refine (show Code.wpIn _ _ _ _ _ _ _ from ?_)
          refine wpIn_region_lit ?_
          refine x_run tab hk (k := 6) (lv := [.int .i32 ((rdD zT77 l170 x362).Rune), .int .i64 ((rdD zT77 l170 x362).Style)]) (ks := [32, 33, 34, 46, 51]) (e' := [(32, .slice (some ad406) (l170).length c169), (33, .int .i64 ((l170).length : Int)), (34, .int .i64 x362), (46, .slice A357 (l359).length c358), (51, .agg #[.int .i32 ((rdD zT77 l170 x362).Rune), .int .i64 ((rdD zT77 l170 x362).Style)])]) rfl ⟨(load1 tab rfl ((Bx.cell f411.now 0).trans rfl)), (load1 tab rfl ((Bx.cell f411.now 1).trans rfl)), trivial⟩ fun a hk => ?_
          refine x_op hk rfl ?_
          refine op_slice (o := o422) tab hk (vs := [.agg #[.int .i32 ((rdD zT77 l170 x362).Rune), .int .i64 ((rdD zT77 l170 x362).Style)]]) (cs := [.int .i32 ((rdD zT77 l170 x362).Rune), .int .i64 ((rdD zT77 l170 x362).Style)]) rfl rfl rfl rfl rfl rfl rfl rfl rfl 31 fun bx429 w426 o427 st428 f430 => ?_
          replace f171 := f171.st st428 (by decide)
          replace f360 := f360.st st428 (by decide)
          replace hs := hs.loc0 st428 (by decide)
          have f431 : Ft (Own ET46 47 (.slice (some ⟨bx429, 0, none⟩) (([(⟨(rdD zT77 l170 x362).Rune, (rdD zT77 l170 x362).Style⟩ : T46)] : List T46)).length 1) ([(⟨(rdD zT77 l170 x362).Rune, (rdD zT77 l170 x362).Style⟩ : T46)] : List T46)) w426 o427 31 := f430.imp fun _ h_ => Own.of_box h_ rfl (by simp)
          have hk := hk.put 52 (.slice (some ⟨bx429, 0, none⟩) (([(⟨(rdD zT77 l170 x362).Rune, (rdD zT77 l170 x362).Style⟩ : T46)] : List T46)).length 1) rfl
          refine x_op hk rfl ?_
          obtain ⟨q435, H⟩ := ifS H
          refine op_append (o := o427) (E := ET46) (xs := l359) (ys := ([(⟨(rdD zT77 l170 x362).Rune, (rdD zT77 l170 x362).Style⟩ : T46)] : List T46)) tab hk rfl rfl rfl rfl rfl rfl rfl f360 (Own.rd f431.now) q435 fun A436 c437 w432 o433 st434 f438 hc439 => ?_
          replace f171 := f171.st st434 (by decide)
          replace f431 := f431.st st434 (by decide)
          replace hs := hs.loc0 st434 (by decide)
          have hk := hk.put 53 (.slice A436 ((l359 ++ ([(⟨(rdD zT77 l170 x362).Rune, (rdD zT77 l170 x362).Style⟩ : T46)] : List T46))).length c437) rfl
          refine x_run tab hk (k := 1) (lv := []) (ks := [4, 32, 33, 34]) (e' := [(4, .slice A436 ((l359 ++ ([(⟨(rdD zT77 l170 x362).Rune, (rdD zT77 l170 x362).Style⟩ : T46)] : List T46))).length c437), (32, .slice (some ad406) (l170).length c169), (33, .int .i64 ((l170).length : Int)), (34, .int .i64 x362)]) rfl trivial fun a hk => ?_
          refine wpListIn_nil ?_
          refine blk_n ?_
          refine then_n ?_
          refine wpIn_region_lit ?_
          refine x_run tab hk (k := 2) (lv := []) (ks := [4, 32, 33, 34]) (e' := [(4, .slice A436 ((l359 ++ ([(⟨(rdD zT77 l170 x362).Rune, (rdD zT77 l170 x362).Style⟩ : T46)] : List T46))).length c437), (32, .slice (some ad406) (l170).length c169), (33, .int .i64 ((l170).length : Int)), (34, .int .i64 (IntKind.wrap .i64 (x362 + 1)))]) rfl trivial fun a hk => ?_
          refine wpListIn_nil ?_
          refine then_n ?_
          exact ⟨k401, Nat.le_refl _, (fun b_ => R_78 (o433 b_)), A436, c437, (l359 ++ ([(⟨(rdD zT77 l170 x362).Rune, (rdD zT77 l170 x362).Style⟩ : T46)] : List T46)), (IntKind.wrap .i64 (x362 + 1)), (by exact Kn.pick (ks := [4, 32, 33, 34]) hk rfl), (hs.relab0 R_78 rfl), (f171.relab R_78 rfl), (f438.relab R_78 rfl), hc439, (hlp403 ▸ H)⟩
      refine wpIn_region_lit ?_
      refine x_run tab hk (k := 4) (lv := [.int .i64 ((rdD zT77 l170 x362).Part)]) (ks := [4, 6, 32, 33, 34, 41]) (e' := [(4, .slice A357 (l359).length c358), (6, .pointer (some ⟨bx410, 0, none⟩)), (32, .slice (some ad406) (l170).length c169), (33, .int .i64 ((l170).length : Int)), (34, .int .i64 x362), (41, .bool (((rdD zT77 l170 x362).Part) == (0 : Int)))]) rfl ⟨(load1 tab rfl ((Bx.cell f411.now 2).trans rfl)), trivial⟩ fun a hk => ?_
      cases b440 : (((rdD zT77 l170 x362).Part) == (0 : Int))
      · rw [b440] at hk H
        replace H := bifF H
        refine x_run tab hk (k := 4) (lv := [.int .i64 ((rdD zT77 l170 x362).Part)]) (ks := [4, 6, 32, 33, 34, 45]) (e' := [(4, .slice A357 (l359).length c358), (6, .pointer (some ⟨bx410, 0, none⟩)), (32, .slice (some ad406) (l170).length c169), (33, .int .i64 ((l170).length : Int)), (34, .int .i64 x362), (45, .bool (((rdD zT77 l170 x362).Part) == (1 : Int)))]) rfl ⟨(load1 tab rfl ((Bx.cell f411.now 2).trans rfl)), trivial⟩ fun a hk => ?_
        refine wpListIn_nil ?_
        refine then_n ?_
        exact ⟨(fun b_ => R_79 (o413 b_)), (((rdD zT77 l170 x362).Part) == (1 : Int)), (by exact Kn.pick (ks := [4, 6, 32, 33, 34, 45]) hk rfl), (hs.relab0 R_79 rfl), (f171.relab R_79 rfl), (f360.relab R_79 rfl), (f411.relab R_79 rfl), H⟩
      · rw [b440] at hk H
        replace H := bifT H
        refine x_run tab hk (k := 4) (lv := []) (ks := [4, 6, 32, 33, 34, 45]) (e' := [(4, .slice A357 (l359).length c358), (6, .pointer (some ⟨bx410, 0, none⟩)), (32, .slice (some ad406) (l170).length c169), (33, .int .i64 ((l170).length : Int)), (34, .int .i64 x362), (45, .bool true)]) rfl trivial fun a hk => ?_
        refine wpListIn_nil ?_
        refine then_n ?_
        exact ⟨(fun b_ => R_79 (o413 b_)), true, (by exact Kn.pick (ks := [4, 6, 32, 33, 34, 45]) hk rfl), (hs.relab0 R_79 rfl), (f171.relab R_79 rfl), (f360.relab R_79 rfl), (f411.relab R_79 rfl), H⟩
  refine wpIn_block ?_
  refine x_loop (fun j_ a_ w_ => ∃ o490 : Nat → Nat, ∃ A491 : Option Addr, ∃ c492 : Nat, ∃ l493 : List T77, Kn 56 a_ [(1, .pointer (some ⟨bx4, 0, none⟩)), (3, .slice A491 (l493).length c492)] ∧ St [] w (fun _ => 0) w_ o490 ∧ Ft (RdC ET77 A491 l493) w_ o490 0 ∧ Ft (Bx bx4 66 [.slice Ap0_0 (p0.Cells).length cp0_0, .bool p0.Wrapped]) w_ o490 33 ∧ Ft (RdC ET77 Ap0_0 p0.Cells) w_ o490 0 ∧ (l493).length ≤ c492 ∧ row_Row_Glyphs_l5 K p0 j_ l493 = some r) (k := K) ⟨(fun b_ => R_80 (o2 b_)), Ap0_0, cp0_0, p0.Cells, (by exact Kn.pick (ks := [1, 3]) hk rfl), (hs.relab0 R_80 rfl), (f900000.relab R_80 rfl), (f5.relab R_80 rfl), (f900000.relab R_80 rfl), hcp0_0, H⟩ (fun _ _ z => z.elim fun _ z => z.elim fun _ z => z.elim fun _ z => z.elim fun _ z => z.elim fun _ z => z.elim fun _ z => z.elim fun _ z => z.elim fun _ z => z.elim fun _ z => z.elim fun _ z => absurd (show (none : Option (List T46)) = some r from z) (by simp)) ?_
  rintro k543 a w542 ⟨o490, A491, c492, l493, hk, hs, f494, f5, f900000, hc495, H⟩
  rw [row_Row_Glyphs_l5] at H
  obtain ⟨lp544, hlp545⟩ : ∃ lp_, lp_ = row_Row_Glyphs_l5 K p0 k543 := ⟨_, rfl⟩
  rw [← hlp545] at H
  refine x_seq ?_
  refine x_seq ?_
  refine xd_begin (o := o490) (fun W_ => (RdC ET77 A491 l493) W_ ∧ (Bx bx4 66 [.slice Ap0_0 (p0.Cells).length cp0_0, .bool p0.Wrapped]) W_ ∧ True) mixed rfl rfl fun w570 st571 => ?_
  replace f494 := f494.st st571 (by decide)
  replace f5 := f5.st st571 (by decide)
  replace f900000 := f900000.st st571 (by decide)
  replace hs := hs.loc0 st571 (by decide)
  refine xd_take tab hk (k := 14) (is := [0, 1, 2, 3]) (ls' := #[true, true, true, true, false, false, false, false, false, false, false, false, false, false, false, false, false, false]) (lv := [.bool p0.Wrapped]) (ks := [1, 3, 12]) (e' := [(1, .pointer (some ⟨bx4, 0, none⟩)), (3, .slice A491 (l493).length c492), (12, .bool (!p0.Wrapped))]) (by kernel_rfl) rfl rfl (by kernel_rfl) (np_then (np_then (np_then (np_blk (np_then np_body))))) ⟨f494.now, f5.now, trivial⟩ (fun W_ hS => ⟨(load1 tab rfl ((Bx.cell hS.2.1 1).trans rfl)), trivial⟩) fun a hk => ?_
  cases b572 : (!p0.Wrapped)
  · rw [b572] at hk H
    replace H := bifF H
    refine xd_take tab hk (k := 0) (is := [4, 5, 6, 7, 8, 9, 10, 11, 12, 13, 14, 15, 16, 17]) (ls' := #[true, true, true, true, true, true, true, true, true, true, true, true, true, true, true, true, true, true]) (lv := []) (ks := [1, 3, 26]) (e' := [(1, .pointer (some ⟨bx4, 0, none⟩)), (3, .slice A491 (l493).length c492), (26, .bool false)]) (by kernel_rfl) rfl rfl (by kernel_rfl) (np_then (np_then (np_then (np_blk (np_then np_body))))) ⟨f494.now, f5.now, trivial⟩ (fun W_ hS => trivial) fun a hk => ?_
    refine xd_done (by kernel_rfl) ?_
    refine then_n ?_
    refine x_if hk (b := false) rfl ?_
    refine (show Code.wpIn _ _ _ _ _ _ _ from ?_)
    refine wpIn_exit ?_
    refine then_x ?_
    refine then_x ?_
    refine blk_x ?_
    refine then_n ?_
    exact ⟨o490, A491, c492, l493, (by exact Kn.pick (ks := [3]) hk rfl), hs, f494, hc495, H⟩
  · rw [b572] at hk H
    replace H := bifT H
    refine xd_take tab hk (k := 9) (is := [4, 5, 6, 7, 8]) (ls' := #[true, true, true, true, true, true, true, true, true, false, false, false, false, false, false, false, false, false]) (lv := []) (ks := [1, 3, 17]) (e' := [(1, .pointer (some ⟨bx4, 0, none⟩)), (3, .slice A491 (l493).length c492), (17, .bool (decide (((l493).length : Int) > (0 : Int))))]) (by kernel_rfl) rfl rfl (by kernel_rfl) (np_then (np_then (np_then (np_blk (np_then np_body))))) ⟨f494.now, f5.now, trivial⟩ (fun W_ hS => trivial) fun a hk => ?_
    cases b573 : (decide (((l493).length : Int) > (0 : Int)))
    · rw [b573] at hk H
      replace H := bifF H
      refine xd_take tab hk (k := 0) (is := [9, 10, 11, 12, 13, 14, 15, 16, 17]) (ls' := #[true, true, true, true, true, true, true, true, true, true, true, true, true, true, true, true, true, true]) (lv := []) (ks := [1, 3, 26]) (e' := [(1, .pointer (some ⟨bx4, 0, none⟩)), (3, .slice A491 (l493).length c492), (26, .bool false)]) (by kernel_rfl) rfl rfl (by kernel_rfl) (np_then (np_then (np_then (np_blk (np_then np_body))))) ⟨f494.now, f5.now, trivial⟩ (fun W_ hS => trivial) fun a hk => ?_
      refine xd_done (by kernel_rfl) ?_
      refine then_n ?_
      refine x_if hk (b := false) rfl ?_
      refine (show Code.wpIn _ _ _ _ _ _ _ from ?_)
      refine wpIn_exit ?_
      refine then_x ?_
      refine then_x ?_
      refine blk_x ?_
      refine then_n ?_
      exact ⟨o490, A491, c492, l493, (by exact Kn.pick (ks := [3]) hk rfl), hs, f494, hc495, H⟩
    · rw [b573] at hk H
      replace H := bifT H
      obtain ⟨q574, H⟩ := ifS H
      obtain ⟨ad575, hAad575⟩ := RdC.addr f494.now q574
      have hk_C := hk
      have f494_C := f494
      have f5_C := f5
      have f900000_C := f900000
      subst hAad575
      have hk := hk_C
      clear hk_C
      have f494 := f494_C
      clear f494_C
      have f5 := f5_C
      clear f5_C
      have f900000 := f900000_C
      clear f900000_C
      refine xd_take tab hk (k := 3) (is := [9, 10, 11, 12, 13, 14]) (ls' := #[true, true, true, true, true, true, true, true, true, true, true, true, true, true, true, false, false, false]) (lv := [.agg #[.int .i32 ((rdD zT77 l493 (IntKind.wrap .i64 (((l493).length : Int) - 1))).Rune), .int .i64 ((rdD zT77 l493 (IntKind.wrap .i64 (((l493).length : Int) - 1))).Style), .int .i64 ((rdD zT77 l493 (IntKind.wrap .i64 (((l493).length : Int) - 1))).Part)]]) (ks := [1, 3, 17, 23]) (e' := [(1, .pointer (some ⟨bx4, 0, none⟩)), (3, .slice (some ad575) (l493).length c492), (17, .bool true), (23, .agg #[.int .i32 ((rdD zT77 l493 (IntKind.wrap .i64 (((l493).length : Int) - 1))).Rune), .int .i64 ((rdD zT77 l493 (IntKind.wrap .i64 (((l493).length : Int) - 1))).Style), .int .i64 ((rdD zT77 l493 (IntKind.wrap .i64 (((l493).length : Int) - 1))).Part)])]) (by kernel_rfl) rfl rfl (by kernel_rfl) (np_then (np_then (np_then (np_blk (np_then np_body))))) ⟨f494.now, f5.now, trivial⟩ (fun W_ hS => ⟨q574, (load_elem (E := ET77) (i := (IntKind.wrap .i64 (((l493).length : Int) - 1))) (dx := zT77) tab rfl rfl hS.1 q574), trivial⟩) fun a hk => ?_
      refine xd_op hk (i := 15) (by kernel_rfl) rfl rfl ?_
      obtain ⟨t579, hc580, H⟩ := bindS H
      refine op_call hk ent_30 (vs := [.int .i64 0]) rfl (row_blank_calls 0 _ o490    _ hc580) ?_
      rintro _ w581 ⟨o582, rfl, st583⟩
      replace f494 := f494.st st583 (by decide)
      replace f5 := f5.st st583 (by decide)
      replace f900000 := f900000.st st583 (by decide)
      replace hs := hs.loc0 st583 (by decide)
      have hk := hk.put 24 (.agg #[.int .i32 t579.Rune, .int .i64 t579.Style, .int .i64 t579.Part]) rfl
      refine ⟨.inr ⟨f494.now, f5.now, trivial⟩, ?_⟩
      refine xd_take tab hk (k := 0) (is := [16, 17]) (ls' := #[true, true, true, true, true, true, true, true, true, true, true, true, true, true, true, true, true, true]) (lv := [.bool (eqT77 (rdD zT77 l493 (IntKind.wrap .i64 (((l493).length : Int) - 1))) t579)]) (ks := [1, 3, 26]) (e' := [(1, .pointer (some ⟨bx4, 0, none⟩)), (3, .slice (some ad575) (l493).length c492), (26, .bool (eqT77 (rdD zT77 l493 (IntKind.wrap .i64 (((l493).length : Int) - 1))) t579))]) (by kernel_rfl) rfl rfl (by kernel_rfl) (np_then (np_then (np_then (np_blk (np_then np_body))))) ⟨f494.now, f5.now, trivial⟩ (fun W_ hS => ⟨(ask_eq tab stood rfl rfl rfl rfl), trivial⟩) fun a hk => ?_
      refine xd_done (by kernel_rfl) ?_
      refine then_n ?_
      cases b584 : (eqT77 (rdD zT77 l493 (IntKind.wrap .i64 (((l493).length : Int) - 1))) t579)
      · rw [b584] at hk H
        replace H := bifF H
        refine x_if hk (b := false) rfl ?_
        refine (show Code.wpIn _ _ _ _ _ _ _ from ?_)
        refine wpIn_exit ?_
        refine then_x ?_
        refine then_x ?_
        refine blk_x ?_
        refine then_n ?_
        exact ⟨o582, (some ad575), c492, l493, (by exact Kn.pick (ks := [3]) hk rfl), hs, f494, hc495, H⟩
      · rw [b584] at hk H
        replace H := bifT H
        refine x_if hk (b := true) rfl ?_
        refine (show Code.wpIn _ _ _ _ _ _ _ from ?_)
        refine wpIn_skip ?_
        refine then_n ?_
        refine wpIn_block ?_
        refine wpIn_region_lit ?_
        obtain ⟨q585, H⟩ := ifS H
        obtain ⟨q586, H⟩ := ifS H
        obtain ⟨A587, c588, ak590, f589, hc591⟩ := ask_cut (P := Tryz.prog) tab (t := 64) rfl rfl f494 hc495 none (some (.int .i64 (IntKind.wrap .i64 (((l493).length : Int) - 1)))) rfl ⟨q585, (by have := q586; have := hc495; omega), trivial⟩ (by have := q585; have := q586; omega) (by have := q585; have := q586; omega)
        refine x_run tab hk (k := 6) (lv := [.slice A587 ((List.drop 0 (List.take (Int.toNat (IntKind.wrap .i64 (((l493).length : Int) - 1))) l493))).length c588]) (ks := [1, 3]) (e' := [(1, .pointer (some ⟨bx4, 0, none⟩)), (3, .slice A587 ((List.drop 0 (List.take (Int.toNat (IntKind.wrap .i64 (((l493).length : Int) - 1))) l493))).length c588)]) rfl ⟨(ak590 rfl rfl rfl _), trivial⟩ fun a hk => ?_
        refine wpListIn_nil ?_
        refine blk_n ?_
        refine then_n ?_
        exact ⟨k543, Nat.le_refl _, o582, A587, c588, (List.drop 0 (List.take (Int.toNat (IntKind.wrap .i64 (((l493).length : Int) - 1))) l493)), (by exact Kn.pick (ks := [1, 3]) hk rfl), hs, f589, f5, f900000, hc591, (hlp545 ▸ H)⟩

/-! slices.Clone[[]tidewrack/row.Glyph,tidewrack/row.Glyph] -/
set_option maxHeartbeats 4000000 in
set_option maxRecDepth 20000 in
theorem slices_Clone''_calls (Ap0 : Option Addr) (cp0 : Nat) (p0 : List T46) (w : World) (o : Nat → Nat) (Lp0 : Nat) (hp0 : Ft (RdC ET46 Ap0 p0) w o Lp0) (hcp0 : (p0).length ≤ cp0)  (R0 : Nat) (r : List T46) (H : slices_Clone'' p0 = some r) :
    Calls Tryz.prog 16 #[.slice Ap0 (p0).length cp0] w (Ret fun v_ w' => ∃ o' : Nat → Nat, ∃ A0 : Option Addr, ∃ c0 : Nat, v_ = .slice A0 (r).length c0 ∧ St [] w o w' o' ∧ Ft (Own ET46 47 (.slice A0 (r).length c0) r) w' o' R0 ∧ (r).length ≤ c0) := by
  refine x_enter (vs := [.slice Ap0 (p0).length cp0]) Tryz.func16 rfl rfl rfl fun a hk => ?_
  obtain ⟨o0, hs, h0⟩ := St.start w o
  have f900000 := h0 _ _ hp0
  clear h0
  rw [slices_Clone''] at H
  refine x_seq ?_
  refine wpIn_region_lit ?_
  refine x_run tab hk (k := 1) (lv := []) (ks := [0]) (e' := [(0, .slice Ap0 (p0).length cp0)]) rfl trivial fun a hk => ?_
  refine wpListIn_nil ?_
  refine then_n ?_
  refine x_seq ?_
  refine x_seq ?_
  refine wpIn_region_lit ?_
  refine x_run tab hk (k := 1) (lv := []) (ks := [0, 3]) (e' := [(0, .slice Ap0 (p0).length cp0), (3, .slice Ap0 (p0).length cp0)]) rfl trivial fun a hk => ?_
  rcases none_or Ap0 with hAad1 | ⟨ad1, hAad1⟩
  · have hk_C := hk
    have f900000_C := f900000
    subst hAad1
    have hk := hk_C
    clear hk_C
    have f900000 := f900000_C
    clear f900000_C
    have hz2 : p0 = [] := RdC.none f900000.now
    replace H : (some ([] : List T46)) = some r := by (try rw [hz2] at H); simpa using H
    refine x_run tab hk (k := 1) (lv := []) (ks := [0, 4]) (e' := [(0, .slice none (p0).length cp0), (4, .bool true)]) rfl trivial fun a hk => ?_
    refine wpListIn_nil ?_
    refine then_n ?_
    refine x_if hk (b := true) rfl ?_
    refine (show Code.wpIn _ _ _ _ _ _ _ from ?_)
    refine x_seq ?_
    refine wpIn_region_lit ?_
    refine x_run tab hk (k := 1) (lv := []) (ks := [2]) (e' := [(2, .slice none 0 0)]) rfl trivial fun a hk => ?_
    refine wpListIn_nil ?_
    refine then_n ?_
    refine wpIn_ret ?_
    refine then_r ?_
    obtain rfl := Option.some.inj H
    exact x_retG hk (rs := [.tmp 2]) (vs := [.slice none 0 0]) rfl ⟨rfl, trivial⟩ ⟨fun b_ => if b_ < w.heap.size then o b_ else (fun _ => 0) (o0 b_), none, 0, rfl, hs.close0 o (fun _ => 0), (Ft.of_all (fun _ => Own.nil _ _ _) _ _ _), (by simp)⟩
  · have hk_C := hk
    have f900000_C := f900000
    subst hAad1
    have hk := hk_C
    clear hk_C
    have f900000 := f900000_C
    clear f900000_C
    refine x_run tab hk (k := 1) (lv := []) (ks := [0, 4]) (e' := [(0, .slice (some ad1) (p0).length cp0), (4, .bool false)]) rfl trivial fun a hk => ?_
    refine wpListIn_nil ?_
    refine then_n ?_
    refine x_if hk (b := false) rfl ?_
    refine (show Code.wpIn _ _ _ _ _ _ _ from ?_)
    refine wpIn_skip ?_
    refine then_n ?_
    refine x_seq ?_
    refine wpIn_region_lit ?_
    refine x_op hk rfl ?_
    refine op_slice (o := o0) tab hk (vs := []) (cs := []) rfl rfl rfl rfl rfl rfl rfl rfl rfl 1 fun bx6 w3 o4 st5 f7 => ?_
    replace f900000 := f900000.st st5 (by decide)
    replace hs := hs.loc0 st5 (by decide)
    have f8 : Ft (Own ET46 47 (.slice (some ⟨bx6, 0, none⟩) (([] : List T46)).length 0) ([] : List T46)) w3 o4 1 := f7.imp fun _ h_ => Own.of_box h_ rfl (by simp)
    have hk := hk.put 5 (.slice (some ⟨bx6, 0, none⟩) (([] : List T46)).length 0) rfl
    refine x_run tab hk (k := 1) (lv := []) (ks := [5, 6]) (e' := [(5, .slice (some ⟨bx6, 0, none⟩) (([] : List T46)).length 0), (6, .slice (some ad1) (p0).length cp0)]) rfl trivial fun a hk => ?_
    refine x_op hk rfl ?_
    obtain ⟨q12, H⟩ := ifS H
    refine op_append (o := o4) (E := ET46) (xs := ([] : List T46)) (ys := p0) tab hk rfl rfl rfl rfl rfl rfl rfl f8 f900000.now q12 fun A13 c14 w9 o10 st11 f15 hc16 => ?_
    replace f900000 := f900000.st st11 (by decide)
    replace hs := hs.loc0 st11 (by decide)
    have hk := hk.put 7 (.slice A13 ((([] : List T46) ++ p0)).length c14) rfl
    refine x_run tab hk (k := 1) (lv := []) (ks := [2]) (e' := [(2, .slice A13 ((([] : List T46) ++ p0)).length c14)]) rfl trivial fun a hk => ?_
    refine wpListIn_nil ?_
    refine then_n ?_
    refine wpIn_ret ?_
    obtain rfl := Option.some.inj H
    exact x_retG hk (rs := [.tmp 2]) (vs := [.slice A13 ((([] : List T46) ++ p0)).length c14]) rfl ⟨rfl, trivial⟩ ⟨fun b_ => if b_ < w.heap.size then o b_ else (fun _ => R0) (o10 b_), A13, c14, rfl, hs.close0 o (fun _ => R0), hs.close_ft (o := o) (ρ := fun _ => R0) f15 (by decide) rfl, hc16⟩

/-! tidewrack/num.clip -/
theorem num_clip_calls (p0 : Int) (w : World) (o : Nat → Nat)   (r : Int) (H : num_clip p0 = some r) :
    Calls Tryz.prog 107 #[.int .i64 p0] w (Ret fun v_ w' => ∃ o' : Nat → Nat, v_ = .int .i64 r ∧ St [] w o w' o') := by
  refine x_enter (vs := [.int .i64 p0]) Tryz.func107 rfl rfl rfl fun a hk => ?_
  obtain ⟨o0, hs, h0⟩ := St.start w o
  clear h0
  rw [num_clip] at H
  refine x_seq ?_
  refine wpIn_region_lit ?_
  refine x_run tab hk (k := 1) (lv := []) (ks := [0]) (e' := [(0, .int .i64 p0)]) rfl trivial fun a hk => ?_
  refine wpListIn_nil ?_
  refine then_n ?_
  refine x_seq ?_
  refine wpIn_region_lit ?_
  refine x_run tab hk (k := 4) (lv := []) (ks := [2]) (e' := [(2, .int .i64 (mxI 0 (mnI p0 4611686018427387904)))]) rfl trivial fun a hk => ?_
  refine wpListIn_nil ?_
  refine then_n ?_
  refine wpIn_ret ?_
  obtain rfl := Option.some.inj H
  exact x_retG hk (rs := [.tmp 2]) (vs := [.int .i64 (mxI 0 (mnI p0 4611686018427387904))]) rfl ⟨rfl, trivial⟩ ⟨fun b_ => if b_ < w.heap.size then o b_ else (fun _ => 0) (o0 b_), rfl, hs.close0 o (fun _ => 0)⟩

/-! tidewrack/num.digits$1 -/
set_option maxHeartbeats 4000000 in
set_option maxRecDepth 20000 in
theorem num_digits_1_iter (K : Nat) (bp1 : Nat) (p1 : Int) (w : World) (o : Nat → Nat) (Lp1 : Nat) (hp1 : Ft (Bx bp1 3 [.int .i64 p1]) w o Lp1) (hd0 : ([Lp1] : List Nat).Nodup) (r : List Int) (H : num_digits_1 K p1 = some r) :
    IterC Tryz.prog 106 [] [.pointer (some ⟨bp1, 0, none⟩)] (fun (x_ : Int) vs_ _ => vs_ = [.int .u8 x_]) none r w o [Lp1] [] := by
  refine iter_start hd0 (fun _ h_ => by cases h_) fun l_ JJ XX Res w1 oi h1 h2 h3 hJ hX hRl hY hE0 hE1 hs => ?_
  refine x_enter (vs := [.func (.yield l_) #[] #[], .pointer (some ⟨bp1, 0, none⟩)]) Tryz.func106 rfl rfl rfl fun a hk => ?_
  have f900039 := h1 0 1 hp1 rfl rfl
  clear h1 h2 h3
  rw [num_digits_1] at H
  refine x_mid (fun a_ w_ => ∃ o61 : Nat → Nat, ∃ r62 : List Int, ∃ x63 : Int, Kn 20 a_ [(0, .func (.yield l_) #[] #[]), (1, .pointer (some ⟨bp1, 0, none⟩))] ∧ JJ r62 w_ o61 ∧ Ft (Bx bp1 3 [.int .i64 x63]) w_ o61 1 ∧ num_digits_1_j1 x63 = some r62) ?_ ?_
  rotate_left
  · rintro a w64 ⟨o61, r62, x63, hk, hs, f900039, H⟩
    rw [num_digits_1_j1] at H
    refine wpIn_region_lit ?_
    refine x_run tab hk (k := 3) (lv := [.int .i64 x63]) (ks := [16, 18]) (e' := [(16, .func (.yield l_) #[] #[]), (18, .int .u8 (IntKind.wrap .u8 x63))]) rfl ⟨(load1 tab rfl ((Bx.cell f900039.now 0).trans rfl)), trivial⟩ fun a hk => ?_
    refine x_op hk rfl ?_
    obtain ⟨r65, hr66, H⟩ := consS H
    rw [hr66] at hs
    refine op_yield hk rfl (vs := [.int .u8 (IntKind.wrap .u8 x63)]) rfl (hY hs (fun _ => rfl)) ?_
    rintro b67 w68 ⟨o69, st70, ht_, hf_⟩
    replace f900039 := f900039.st st70 (by decide)
    cases b67
    · have hs := hf_ rfl
      have hk := hk.put 19 (.bool false) rfl
      refine wpListIn_nil ?_
      exact x_endG hk (rs := []) (vs := []) rfl trivial (hE1 hs)
    · have hs := ht_ rfl
      have hk := hk.put 19 (.bool true) rfl
      refine wpListIn_nil ?_
      obtain rfl := Option.some.inj H
      exact x_endG hk (rs := []) (vs := []) rfl trivial (hE0 hs)
  refine x_seq ?_
  refine wpIn_region_lit ?_
  refine x_run tab hk (k := 1) (lv := [.int .i64 p1]) (ks := [0, 1, 3]) (e' := [(0, .func (.yield l_) #[] #[]), (1, .pointer (some ⟨bp1, 0, none⟩)), (3, .int .i64 p1)]) rfl ⟨(load1 tab rfl ((Bx.cell f900039.now 0).trans rfl)), trivial⟩ fun a hk => ?_
  refine x_op hk rfl ?_
  obtain ⟨t74, hc75, H⟩ := bindS H
  refine op_call hk ent_107 (vs := [.int .i64 p1]) rfl (num_clip_calls p1 _ oi    _ hc75) ?_
  rintro _ w76 ⟨o77, rfl, st78⟩
  replace f900039 := f900039.st st78 (by decide)
  replace hs := hJ hs st78 rfl
  have hk := hk.put 4 (.int .i64 t74) rfl
  refine x_op hk rfl ?_
  refine op_store tab hk (t := 3) (v := .int .i64 t74) (b := bp1) (k := 0) (cs' := [.int .i64 t74]) rfl rfl rfl rfl rfl rfl f900039 rfl rfl fun w79 o80 st81 f900039_ => ?_
  replace hs := hJ hs st81 rfl
  replace f900039 := f900039_
  refine wpListIn_nil ?_
  refine then_n ?_
  refine wpIn_block ?_
  refine x_loop (fun j_ a_ w_ => ∃ o96 : Nat → Nat, ∃ r97 : List Int, ∃ x98 : Int, Kn 20 a_ [(0, .func (.yield l_) #[] #[]), (1, .pointer (some ⟨bp1, 0, none⟩))] ∧ JJ r97 w_ o96 ∧ Ft (Bx bp1 3 [.int .i64 x98]) w_ o96 1 ∧ num_digits_1_l2 j_ x98 = some r97) (k := K) ⟨o80, r, t74, (by exact Kn.pick (ks := [0, 1]) hk rfl), hs, f900039, H⟩ (fun _ _ z => z.elim fun _ z => z.elim fun _ z => z.elim fun _ z => z.elim fun _ z => z.elim fun _ z => z.elim fun _ z => absurd (show (none : Option (List Int)) = some _ from z) (by simp)) ?_
  rintro k110 a w109 ⟨o96, r97, x98, hk, hs, f900039, H⟩
  rw [num_digits_1_l2] at H
  obtain ⟨lp111, hlp112⟩ : ∃ lp_, lp_ = num_digits_1_l2 k110 := ⟨_, rfl⟩
  rw [← hlp112] at H
  refine x_seq ?_
  refine x_seq ?_
  refine wpIn_region_lit ?_
  refine x_run tab hk (k := 2) (lv := [.int .i64 x98]) (ks := [0, 1, 6]) (e' := [(0, .func (.yield l_) #[] #[]), (1, .pointer (some ⟨bp1, 0, none⟩)), (6, .bool (decide (x98 ≥ (128 : Int))))]) rfl ⟨(load1 tab rfl ((Bx.cell f900039.now 0).trans rfl)), trivial⟩ fun a hk => ?_
  refine wpListIn_nil ?_
  refine then_n ?_
  cases b113 : (decide (x98 ≥ (128 : Int)))
  · rw [b113] at hk H
    replace H := bifF H
    refine x_if hk (b := false) rfl ?_
    refine (show Code.wpIn _ _ _ _ _ _ _ from ?_)
    refine wpIn_exit ?_
    refine then_x ?_
    refine then_x ?_
    refine blk_x ?_
    refine then_n ?_
    exact ⟨o96, r97, x98, (by exact Kn.pick (ks := [0, 1]) hk rfl), hs, f900039, H⟩
  · rw [b113] at hk H
    replace H := bifT H
    refine x_if hk (b := true) rfl ?_
    refine (show Code.wpIn _ _ _ _ _ _ _ from ?_)
    refine wpIn_skip ?_
    refine then_n ?_
    refine x_seq ?_
    refine wpIn_block ?_
    refine x_seq ?_
    refine wpIn_region_lit ?_
    refine x_run tab hk (k := 5) (lv := [.int .i64 x98]) (ks := [0, 1, 9, 13]) (e' := [(0, .func (.yield l_) #[] #[]), (1, .pointer (some ⟨bp1, 0, none⟩)), (9, .func (.yield l_) #[] #[]), (13, .int .u8 (bits .or .u8 (bits .and .u8 (IntKind.wrap .u8 x98) 127) 128))]) rfl ⟨(load1 tab rfl ((Bx.cell f900039.now 0).trans rfl)), trivial⟩ fun a hk => ?_
    refine x_op hk rfl ?_
    obtain ⟨r114, hr115, H⟩ := consS H
    rw [hr115] at hs
    refine op_yield hk rfl (vs := [.int .u8 (bits .or .u8 (bits .and .u8 (IntKind.wrap .u8 x98) 127) 128)]) rfl (hY hs (fun _ => rfl)) ?_
    rintro b116 w117 ⟨o118, st119, ht_, hf_⟩
    replace f900039 := f900039.st st119 (by decide)
    cases b116
    · have hs := hf_ rfl
      have hk := hk.put 14 (.bool false) rfl
      refine x_run tab hk (k := 1) (lv := []) (ks := [0, 1, 15]) (e' := [(0, .func (.yield l_) #[] #[]), (1, .pointer (some ⟨bp1, 0, none⟩)), (15, .bool true)]) rfl trivial fun a hk => ?_
      refine wpListIn_nil ?_
      refine then_n ?_
      refine x_if hk (b := true) rfl ?_
      refine (show Code.wpIn _ _ _ _ _ _ _ from ?_)
      refine wpIn_ret ?_
      refine blk_r ?_
      refine then_r ?_
      refine then_r ?_
      refine blk_r ?_
      refine then_r ?_
      exact x_retG hk (rs := []) (vs := []) rfl trivial (hE1 hs)
    · have hs := ht_ rfl
      have hk := hk.put 14 (.bool true) rfl
      refine x_run tab hk (k := 1) (lv := []) (ks := [0, 1, 15]) (e' := [(0, .func (.yield l_) #[] #[]), (1, .pointer (some ⟨bp1, 0, none⟩)), (15, .bool false)]) rfl trivial fun a hk => ?_
      refine wpListIn_nil ?_
      refine then_n ?_
      refine x_if hk (b := false) rfl ?_
      refine (show Code.wpIn _ _ _ _ _ _ _ from ?_)
      refine wpIn_skip ?_
      refine blk_n ?_
      refine then_n ?_
      refine wpIn_region_lit ?_
      refine x_run tab hk (k := 2) (lv := [.int .i64 x98]) (ks := [0, 1, 8]) (e' := [(0, .func (.yield l_) #[] #[]), (1, .pointer (some ⟨bp1, 0, none⟩)), (8, .int .i64 (Int.fdiv x98 (2 ^ min (Int.toNat 7) 64)))]) rfl ⟨(load1 tab rfl ((Bx.cell f900039.now 0).trans rfl)), (show 0 ≤ (7 : Int) from by decide), trivial⟩ fun a hk => ?_
      refine x_op hk rfl ?_
      refine op_store tab hk (t := 3) (v := .int .i64 (Int.fdiv x98 (2 ^ min (Int.toNat 7) 64))) (b := bp1) (k := 0) (cs' := [.int .i64 (Int.fdiv x98 (2 ^ min (Int.toNat 7) 64))]) rfl rfl rfl rfl rfl rfl f900039 rfl rfl fun w120 o121 st122 f900039_ => ?_
      replace hs := hJ hs st122 rfl
      replace f900039 := f900039_
      refine wpListIn_nil ?_
      refine then_n ?_
      exact ⟨k110, Nat.le_refl _, o121, r114, (Int.fdiv x98 (2 ^ min (Int.toNat 7) 64)), (by exact Kn.pick (ks := [0, 1]) hk rfl), hs, f900039, (hlp112 ▸ H)⟩

/-! tidewrack/num.digits -/
theorem num_digits_calls (p0 : Int) (w : World) (o : Nat → Nat)   (R0 : Nat) (r : Int) (H : num_digits p0 = some r) :
    Calls Tryz.prog 102 #[.int .i64 p0] w (Ret fun v_ w' => ∃ o' : Nat → Nat, ∃ b0 : Nat, v_ = .func (.func 106) #[] #[.pointer (some ⟨b0, 0, none⟩)] ∧ St [] w o w' o' ∧ Ft (Bx b0 3 [.int .i64 r]) w' o' R0) := by
  refine x_enter (vs := [.int .i64 p0]) Tryz.func102 rfl rfl rfl fun a hk => ?_
  obtain ⟨o0, hs, h0⟩ := St.start w o
  clear h0
  rw [num_digits] at H
  refine x_seq ?_
  refine wpIn_region_lit ?_
  refine x_op hk rfl ?_
  refine op_box (o := o0) (t := 3) (v := .int .i64 p0) (cs := [.int .i64 p0]) hk rfl rfl 1 fun bx4 w1 o2 st3 f5 => ?_
  replace hs := hs.loc0 st3 (by decide)
  have hk := hk.put 1 (.pointer (some ⟨bx4, 0, none⟩)) rfl
  refine x_run tab hk (k := 1) (lv := []) (ks := [1]) (e' := [(1, .pointer (some ⟨bx4, 0, none⟩))]) rfl trivial fun a hk => ?_
  refine wpListIn_nil ?_
  refine then_n ?_
  refine x_seq ?_
  refine wpIn_region_lit ?_
  refine x_run tab hk (k := 2) (lv := []) (ks := [2]) (e' := [(2, .func (.func 106) #[] #[.pointer (some ⟨bx4, 0, none⟩)])]) rfl trivial fun a hk => ?_
  refine wpListIn_nil ?_
  refine then_n ?_
  refine wpIn_ret ?_
  obtain rfl := Option.some.inj H
  exact x_retG hk (rs := [.tmp 2]) (vs := [.func (.func 106) #[] #[.pointer (some ⟨bx4, 0, none⟩)]]) rfl ⟨rfl, trivial⟩ ⟨fun b_ => if b_ < w.heap.size then o b_ else (fun _ => R0) (o2 b_), bx4, rfl, hs.close0 o (fun _ => R0), hs.close_ft (o := o) (ρ := fun _ => R0) f5 (by decide) rfl⟩

/-! (*tidewrack/num.Out).Num -/
abbrev R_81 (Lp0 Lp0_0 : Nat) (l_ : Nat) : Nat := if l_ = 1 then Lp0 else if l_ = 2 then Lp0_0 else 0
abbrev R_82 (l_ : Nat) : Nat := if l_ = 4 then 413 else l_
abbrev R_83 (l_ : Nat) : Nat := if l_ = 413 then 310 else l_
abbrev R_84 (l_ : Nat) : Nat := if l_ = 565 then 413 else l_
abbrev R_85 (l_ : Nat) : Nat := if l_ = 1 then 1 else if l_ = 2 then 2 else if l_ = 413 then 413 else if l_ = 567 then 567 else 0
abbrev R_86 (l_ : Nat) : Nat := if l_ = 614 then 615 else l_
abbrev R_87 (l_ : Nat) : Nat := if l_ = 413 then 565 else l_
set_option maxHeartbeats 4000000 in
set_option maxRecDepth 20000 in
theorem num_Out_Num_calls (K : Nat) (bp0 : Nat) (Ap0_0 : Option Addr) (cp0_0 : Nat) (p0 : T128) (Ap1 : Option Addr) (cp1 : Nat) (p1 : List Int) (w : World) (o : Nat → Nat) (Lp0 : Nat) (hp0 : Ft (Bx bp0 129 [.slice Ap0_0 (p0.b).length cp0_0]) w o Lp0) (Lp0_0 : Nat) (hp0_0 : Ft (Own (encInt .u8) 5 (.slice Ap0_0 (p0.b).length cp0_0) p0.b) w o Lp0_0) (hcp0_0 : (p0.b).length ≤ cp0_0) (Lp1 : Nat) (hp1 : Ft (RdC (encInt .i64) Ap1 p1) w o Lp1) (hcp1 : (p1).length ≤ cp1) (hd0 : ([Lp0, Lp0_0] : List Nat).Nodup) (hd1 : Lp1 ∉ [Lp0, Lp0_0]) (r : T128) (H : num_Out_Num K p0 p1 = some r) :
    Calls Tryz.prog 89 #[.pointer (some ⟨bp0, 0, none⟩), .slice Ap1 (p1).length cp1] w (Ret fun v_ w' => ∃ o' : Nat → Nat, ∃ A0 : Option Addr, ∃ c0 : Nat, v_ = .pointer (some ⟨bp0, 0, none⟩) ∧ St [Lp0, Lp0_0] w o w' o' ∧ Ft (Bx bp0 129 [.slice A0 (r.b).length c0]) w' o' Lp0 ∧ Ft (Own (encInt .u8) 5 (.slice A0 (r.b).length c0) r.b) w' o' Lp0_0 ∧ (r.b).length ≤ c0) := by
  refine x_enterQ (vs := [.pointer (some ⟨bp0, 0, none⟩), .slice Ap1 (p1).length cp1]) Tryz.func89 rfl rfl rfl fun a hk => ?_
  obtain ⟨oi, hs0, h0, h1, hob, hoz, hoa⟩ := St.startM2 w o (m := 2) hd0 rfl
  have hs := hs0 [1, 2]
  have hom := lab_in hob (MM := [1, 2]) (by decide)
  have f900000 := h1 1 2 hp0_0 rfl rfl
  have f900019 := h1 0 1 hp0 rfl rfl
  have f900020 := h0 _ _ hd1 hp1
  have fxm : Ft (MK []) w oi 3 := Ft.of_all (fun _ => MK.nil _) _ _ _
  clear h0 h1 hs0
  rw [num_Out_Num] at H
  refine x_seq ?_
  refine wpIn_region_lit ?_
  refine x_op hk rfl ?_
  refine op_box (o := oi) (t := 130) (v := .pointer (some ⟨bp0, 0, none⟩)) (cs := [.pointer (some ⟨bp0, 0, none⟩)]) hk rfl rfl 4 fun bx4 w1 o2 st3 f5 => ?_
  replace f900000 := f900000.st st3 (by decide)
  replace f900019 := f900019.st st3 (by decide)
  replace f900020 := f900020.st st3 (by decide)
  replace fxm := fxm.st st3 (by decide)
  replace hs := hs.locM st3 (by decide) hom
  have hk := hk.put 2 (.pointer (some ⟨bx4, 0, none⟩)) rfl
  refine x_run tab hk (k := 1) (lv := []) (ks := [1, 2]) (e' := [(1, .slice Ap1 (p1).length cp1), (2, .pointer (some ⟨bx4, 0, none⟩))]) rfl trivial fun a hk => ?_
  refine wpListIn_nil ?_
  refine then_n ?_
  refine x_mid (fun a_ w_ => ∃ o5357 : Nat → Nat, ∃ ds5358 : List Deferred, ∃ A5359 : Option Addr, ∃ c5360 : Nat, ∃ l5361 : List Int, KnD 29 ds5358 a_ [(2, .pointer (some ⟨bx4, 0, none⟩))] ∧ St [1, 2] w oi w_ o5357 ∧ Ft (Bx bx4 130 [.pointer (some ⟨bp0, 0, none⟩)]) w_ o5357 310 ∧ Ft (Own (encInt .u8) 5 (.slice A5359 (l5361).length c5360) l5361) w_ o5357 2 ∧ Ft (Bx bp0 129 [.slice A5359 (l5361).length c5360]) w_ o5357 1 ∧ Ft (MK ds5358) w_ o5357 3 ∧ (l5361).length ≤ c5360 ∧ num_Out_Num_j1 l5361 = some r) ?_ ?_
  rotate_left
  · refine fun a w5364 z0 => z0.elim fun o5357 z1 => z1.elim fun ds5358 z2 => z2.elim fun A5359 z3 => z3.elim fun c5360 z4 => z4.elim fun l5361 z5 => z5.elim fun hk z6 => z6.elim fun hs z7 => z7.elim fun f5 z8 => z8.elim fun f5362 z9 => z9.elim fun f900019 z10 => z10.elim fun fxm z11 => z11.elim fun hc5363 H => ?_
    clear z0 z1 z2 z3 z4 z5 z6 z7 z8 z9 z10 z11
    rw [num_Out_Num_j1] at H
    refine x_seq ?_
    refine wpIn_region_lit ?_
    refine x_run tab hk (k := 2) (lv := [.pointer (some ⟨bp0, 0, none⟩)]) (ks := [4]) (e' := [(4, .pointer (some ⟨bp0, 0, none⟩))]) rfl ⟨(load1 tab rfl ((Bx.cell f5.now 0).trans rfl)), trivial⟩ fun a hk => ?_
    refine wpListIn_nil ?_
    refine then_n ?_
    refine wpIn_ret ?_
    refine x_retQ hk fxm fun w5365 a st5366 hk => ?_
    replace f5362 := f5362.st st5366 (by decide)
    replace f900019 := f900019.st st5366 (by decide)
    replace hs := hs.locM st5366 (by decide) hom
    obtain rfl := Option.some.inj H
    exact x_retG hk (rs := [.tmp 4]) (vs := [.pointer (some ⟨bp0, 0, none⟩)]) rfl ⟨rfl, trivial⟩ ⟨cl w oi o [1, 2] (R_81 Lp0 Lp0_0) o5357, A5359, c5360, rfl, hs.closeM hoz (by decide) (R_81 Lp0 Lp0_0), hs.closeM_ft (o := o) (ρ := R_81 Lp0 Lp0_0) f900019 (lab_at hoa (i := 0) rfl) rfl, hs.closeM_ft (o := o) (ρ := R_81 Lp0 Lp0_0) f5362 (lab_at hoa (i := 1) rfl) rfl, hc5363⟩
  refine x_seq ?_
  refine wpIn_region_lit ?_
  refine x_run tab hk (k := 3) (lv := []) (ks := [2, 8, 9, 10]) (e' := [(2, .pointer (some ⟨bx4, 0, none⟩)), (8, .slice Ap1 (p1).length cp1), (9, .int .i64 ((p1).length : Int)), (10, .int .i64 0)]) rfl trivial fun a hk => ?_
  refine wpListIn_nil ?_
  refine then_n ?_
  refine wpIn_block ?_
  refine x_loop (fun j_ a_ w_ => ∃ o7144 : Nat → Nat, ∃ ds7145 : List Deferred, ∃ A7146 : Option Addr, ∃ c7147 : Nat, ∃ l7148 : List Int, ∃ A7151 : Option Addr, ∃ c7152 : Nat, ∃ x7155 : Int, KnD 29 ds7145 a_ [(2, .pointer (some ⟨bx4, 0, none⟩)), (8, .slice A7151 (p1).length c7152), (9, .int .i64 ((p1).length : Int)), (10, .int .i64 x7155)] ∧ St [1, 2] w oi w_ o7144 ∧ Ft (Bx bx4 130 [.pointer (some ⟨bp0, 0, none⟩)]) w_ o7144 413 ∧ Ft (Own (encInt .u8) 5 (.slice A7146 (l7148).length c7147) l7148) w_ o7144 2 ∧ Ft (RdC (encInt .i64) A7151 p1) w_ o7144 0 ∧ Ft (Bx bp0 129 [.slice A7146 (l7148).length c7147]) w_ o7144 1 ∧ Ft (MK ds7145) w_ o7144 3 ∧ (l7148).length ≤ c7147 ∧ (p1).length ≤ c7152 ∧ num_Out_Num_l2 K p1 j_ l7148 x7155 = some r) (k := K) ⟨(fun b_ => R_82 (o2 b_)), [], Ap0_0, cp0_0, p0.b, Ap1, cp1, 0, (by exact Kn.pick (ks := [2, 8, 9, 10]) hk rfl), (hs.relabM hob R_82 (by decide)), (f5.relab R_82 rfl), (f900000.relab R_82 rfl), (f900020.relab R_82 rfl), (f900019.relab R_82 rfl), (fxm.relab R_82 rfl), hcp0_0, hcp1, H⟩ (fun _ _ z => z.elim fun _ z => z.elim fun _ z => z.elim fun _ z => z.elim fun _ z => z.elim fun _ z => z.elim fun _ z => z.elim fun _ z => z.elim fun _ z => z.elim fun _ z => z.elim fun _ z => z.elim fun _ z => z.elim fun _ z => z.elim fun _ z => z.elim fun _ z => z.elim fun _ z => z.elim fun _ z => z.elim fun _ z => absurd (show (none : Option T128) = some r from z) (by simp)) ?_
  refine fun k8930 a w8929 z0 => z0.elim fun o7144 z1 => z1.elim fun ds7145 z2 => z2.elim fun A7146 z3 => z3.elim fun c7147 z4 => z4.elim fun l7148 z5 => z5.elim fun A7151 z6 => z6.elim fun c7152 z7 => z7.elim fun x7155 z8 => z8.elim fun hk z9 => z9.elim fun hs z10 => z10.elim fun f5 z11 => z11.elim fun f7149 z12 => z12.elim fun f7153 z13 => z13.elim fun f900019 z14 => z14.elim fun fxm z15 => z15.elim fun hc7150 z16 => z16.elim fun hc7154 H => ?_
  clear z0 z1 z2 z3 z4 z5 z6 z7 z8 z9 z10 z11 z12 z13 z14 z15 z16
  rw [num_Out_Num_l2] at H
  obtain ⟨lp8931, hlp8932⟩ : ∃ lp_, lp_ = num_Out_Num_l2 K p1 k8930 := ⟨_, rfl⟩
  rw [← hlp8932] at H
  refine x_seq ?_
  refine wpIn_region_lit ?_
  refine x_run tab hk (k := 1) (lv := []) (ks := [2, 8, 9, 10, 11]) (e' := [(2, .pointer (some ⟨bx4, 0, none⟩)), (8, .slice A7151 (p1).length c7152), (9, .int .i64 ((p1).length : Int)), (10, .int .i64 x7155), (11, .bool (decide (x7155 < ((p1).length : Int))))]) rfl trivial fun a hk => ?_
  refine wpListIn_nil ?_
  refine then_n ?_
  refine x_seq ?_
  cases b8933 : (decide (x7155 < ((p1).length : Int)))
  · rw [b8933] at hk H
    replace H := bifF H
    refine x_if hk (b := false) rfl ?_
    refine (show Code.wpIn _ _ _ _ _ _ _ from ?_)
    refine wpIn_exit ?_
    refine then_x ?_
    refine then_x ?_
    refine blk_x ?_
    refine then_n ?_
    exact ⟨(fun b_ => R_83 (o7144 b_)), ds7145, A7146, c7147, l7148, (by exact Kn.pick (ks := [2]) hk rfl), (hs.relabM hob R_83 (by decide)), (f5.relab R_83 rfl), (f7149.relab R_83 rfl), (f900019.relab R_83 rfl), (fxm.relab R_83 rfl), hc7150, H⟩
  · rw [b8933] at hk H
    replace H := bifT H
    refine x_if hk (b := true) rfl ?_
    refine (show Code.wpIn _ _ _ _ _ _ _ from ?_)
    refine wpIn_skip ?_
    refine then_n ?_
    refine x_mid (fun a_ w_ => ∃ o9822 : Nat → Nat, ∃ ds9823 : List Deferred, ∃ A9824 : Option Addr, ∃ c9825 : Nat, ∃ l9826 : List Int, ∃ A9829 : Option Addr, ∃ c9830 : Nat, KnD 29 ds9823 a_ [(2, .pointer (some ⟨bx4, 0, none⟩)), (8, .slice A9829 (p1).length c9830), (9, .int .i64 ((p1).length : Int)), (10, .int .i64 x7155)] ∧ St [1, 2] w oi w_ o9822 ∧ Ft (Bx bx4 130 [.pointer (some ⟨bp0, 0, none⟩)]) w_ o9822 565 ∧ Ft (Bx bp0 129 [.slice A9824 (l9826).length c9825]) w_ o9822 1 ∧ Ft (Own (encInt .u8) 5 (.slice A9824 (l9826).length c9825) l9826) w_ o9822 2 ∧ Ft (RdC (encInt .i64) A9829 p1) w_ o9822 0 ∧ Ft (MK ds9823) w_ o9822 3 ∧ (l9826).length ≤ c9825 ∧ (p1).length ≤ c9830 ∧ num_Out_Num_j3 x7155 lp8931 l9826 = some r) ?_ ?_
    rotate_left
    · refine fun a w9833 z0 => z0.elim fun o9822 z1 => z1.elim fun ds9823 z2 => z2.elim fun A9824 z3 => z3.elim fun c9825 z4 => z4.elim fun l9826 z5 => z5.elim fun A9829 z6 => z6.elim fun c9830 z7 => z7.elim fun hk z8 => z8.elim fun hs z9 => z9.elim fun f5 z10 => z10.elim fun f900019 z11 => z11.elim fun f9827 z12 => z12.elim fun f9831 z13 => z13.elim fun fxm z14 => z14.elim fun hc9828 z15 => z15.elim fun hc9832 H => ?_
      clear z0 z1 z2 z3 z4 z5 z6 z7 z8 z9 z10 z11 z12 z13 z14 z15
      rw [num_Out_Num_j3] at H
      refine wpIn_region_lit ?_
      refine x_run tab hk (k := 2) (lv := []) (ks := [2, 8, 9, 10]) (e' := [(2, .pointer (some ⟨bx4, 0, none⟩)), (8, .slice A9829 (p1).length c9830), (9, .int .i64 ((p1).length : Int)), (10, .int .i64 (IntKind.wrap .i64 (x7155 + 1)))]) rfl trivial fun a hk => ?_
      refine wpListIn_nil ?_
      refine then_n ?_
      exact ⟨k8930, Nat.le_refl _, (fun b_ => R_84 (o9822 b_)), ds9823, A9824, c9825, l9826, A9829, c9830, (IntKind.wrap .i64 (x7155 + 1)), (by exact Kn.pick (ks := [2, 8, 9, 10]) hk rfl), (hs.relabM hob R_84 (by decide)), (f5.relab R_84 rfl), (f9827.relab R_84 rfl), (f9831.relab R_84 rfl), (f900019.relab R_84 rfl), (fxm.relab R_84 rfl), hc9828, hc9832, (hlp8932 ▸ H)⟩
    refine wpIn_block ?_
    refine x_seq ?_
    refine wpIn_region_lit ?_
    obtain ⟨q9834, H⟩ := ifS H
    obtain ⟨ad9835, hAad9835⟩ := RdC.addr f7153.now q9834
    have hk_C := hk
    have f5_C := f5
    have f7149_C := f7149
    have f7153_C := f7153
    have f900019_C := f900019
    have fxm_C := fxm
    subst hAad9835
    have hk := hk_C
    clear hk_C
    have f5 := f5_C
    clear f5_C
    have f7149 := f7149_C
    clear f7149_C
    have f7153 := f7153_C
    clear f7153_C
    have f900019 := f900019_C
    clear f900019_C
    have fxm := fxm_C
    clear fxm_C
    refine x_run tab hk (k := 3) (lv := [.int .i64 (rdD 0 p1 x7155)]) (ks := [2, 6, 8, 9, 10]) (e' := [(2, .pointer (some ⟨bx4, 0, none⟩)), (6, .int .i64 (rdD 0 p1 x7155)), (8, .slice (some ad9835) (p1).length c7152), (9, .int .i64 ((p1).length : Int)), (10, .int .i64 x7155)]) rfl ⟨q9834, (load1 tab rfl (RdC.at0 (E := (encInt .i64)) (d := 0) (i := x7155) f7153.now q9834 rfl)), trivial⟩ fun a hk => ?_
    refine wpListIn_nil ?_
    refine then_n ?_
    refine x_seq ?_
    refine wpIn_region_lit ?_
    refine x_run tab hk (k := 1) (lv := []) (ks := [2, 8, 9, 10, 14]) (e' := [(2, .pointer (some ⟨bx4, 0, none⟩)), (8, .slice (some ad9835) (p1).length c7152), (9, .int .i64 ((p1).length : Int)), (10, .int .i64 x7155), (14, .int .i64 (rdD 0 p1 x7155))]) rfl trivial fun a hk => ?_
    refine x_op hk rfl ?_
    obtain ⟨t9839, hc9840, H⟩ := bindS H
    refine op_call hk ent_102 (vs := [.int .i64 (rdD 0 p1 x7155)]) rfl (num_digits_calls (rdD 0 p1 x7155) _ o7144  566  _ hc9840) ?_
    rintro _ w9841 ⟨o9842, bx9844, rfl, st9843, f9845⟩
    replace f5 := f5.st st9843 (by decide)
    replace f7149 := f7149.st st9843 (by decide)
    replace f7153 := f7153.st st9843 (by decide)
    replace f900019 := f900019.st st9843 (by decide)
    replace fxm := fxm.st st9843 (by decide)
    replace hs := hs.locM st9843 (by decide) hom
    have hk := hk.put 15 (.func (.func 106) #[] #[.pointer (some ⟨bx9844, 0, none⟩)]) rfl
    refine wpListIn_nil ?_
    refine then_n ?_
    refine wpIn_block ?_
    obtain ⟨ys9846, hy9847, H⟩ := bindS H
    refine x_range 3 567 568 [1, 2] hk rfl ent_106 (num_digits_1_iter K bx9844 t9839 _ _ 566 f9845 (by decide) _ hy9847) fxm (fun _ _ _ h_ => by subst h_; rfl) rfl rfl (fun rr_ w_ o10140 => ∃ A10141 : Option Addr, ∃ c10142 : Nat, ∃ l10143 : List Int, St [1, 2] w oi w_ o10140 ∧ Ft (Own (encInt .u8) 5 (.slice A10141 (l10143).length c10142) l10143) w_ o10140 2 ∧ Ft (Bx bx4 130 [.pointer (some ⟨bp0, 0, none⟩)]) w_ o10140 413 ∧ Ft (RdC (encInt .i64) (some ad9835) p1) w_ o10140 0 ∧ Ft (Bx bp0 129 [.slice A10141 (l10143).length c10142]) w_ o10140 1 ∧ (l10143).length ≤ c10142 ∧ num_Out_Num_r4 x7155 lp8931 rr_ l10143 = some r) (fun c_ w_ o10424 => False) ?_ ?_ ⟨A7146, c7147, l7148, hs, f7149, f5, f7153, f900019, hc7150, H⟩ ?_ ?_ ?_
    · rintro rr_ w_ _ _ _ ⟨A10141, c10142, l10143, hs, f10144, f5, f7153, f900019, hc10145, H⟩ st_
      exact ⟨A10141, c10142, l10143, hs.locM st_ (by decide) hom, f10144.st st_ (by decide), f5.st st_ (by decide), f7153.st st_ (by decide), f900019.st st_ (by decide), hc10145, H⟩
    · exact fun _ _ _ _ _ h_ _ => h_.elim
    · rintro R0_ R1_ lr_ x9848 vs_ rest9849 w9850 o9851 ⟨A10141, c10142, l10143, hsO, f10144, f5, f7153, f900019, hc10145, H⟩ hE fxr a hk
      obtain rfl : vs_ = [.int .u8 x9848] := hE w9850
      obtain ⟨o9852, hs0, hfl, hbB, hoi⟩ := St.startB w9850 o9851 584
      have hs := hs0 [567, 1, 2]
      replace f10144 := hfl f10144 rfl
      replace f5 := hfl f5 rfl
      replace f7153 := hfl f7153 rfl
      replace f900019 := hfl f900019 rfl
      replace fxr := hfl fxr rfl
      replace hk : Kn 29 a [(2, .pointer (some ⟨bx4, 0, none⟩)), (8, .slice (some ad9835) (p1).length c7152), (9, .int .i64 ((p1).length : Int)), (10, .int .i64 x7155), (16, .int .u8 x9848)] := Kn.pick (ks := [2, 8, 9, 10, 16]) hk rfl
      rw [num_Out_Num_r4] at H
      obtain ⟨lp9853, hlp9854⟩ : ∃ lp_, lp_ = num_Out_Num_r4 x7155 lp8931 rest9849 := ⟨_, rfl⟩
      rw [← hlp9854] at H
      refine wpIn_region_lit ?_
      refine x_run tab hk (k := 1) (lv := []) (ks := [2, 7, 8, 9, 10]) (e' := [(2, .pointer (some ⟨bx4, 0, none⟩)), (7, .int .u8 x9848), (8, .slice (some ad9835) (p1).length c7152), (9, .int .i64 ((p1).length : Int)), (10, .int .i64 x7155)]) rfl trivial fun a hk => ?_
      refine wpListIn_nil ?_
      refine then_n ?_
      refine ⟨_, fxr, fun w10427 st10428 fxr => ?_⟩
      replace f10144 := f10144.st st10428 (by decide)
      replace f5 := f5.st st10428 (by decide)
      replace f7153 := f7153.st st10428 (by decide)
      replace f900019 := f900019.st st10428 (by decide)
      replace hs := hs.locB st10428 rfl hbB
      refine wpIn_block ?_
      refine x_cut (fun a_ w_ => ∃ o10577 : Nat → Nat, ∃ A10578 : Option Addr, ∃ c10579 : Nat, Kn 29 a_ [(2, .pointer (some ⟨bx4, 0, none⟩)), (8, .slice (some ad9835) (p1).length c7152), (9, .int .i64 ((p1).length : Int)), (10, .int .i64 x7155)] ∧ St [567, 1, 2] w9850 o9852 w_ o10577 ∧ Ft (Own (encInt .u8) 5 (.slice A10578 ((l10143 ++ ([x9848] : List Int))).length c10579) (l10143 ++ ([x9848] : List Int))) w_ o10577 2 ∧ Ft (Bx bx4 130 [.pointer (some ⟨bp0, 0, none⟩)]) w_ o10577 413 ∧ Ft (RdC (encInt .i64) (some ad9835) p1) w_ o10577 0 ∧ Ft (Bx bp0 129 [.slice A10578 ((l10143 ++ ([x9848] : List Int))).length c10579]) w_ o10577 1 ∧ Ft (R1_) w_ o10577 567 ∧ ((l10143 ++ ([x9848] : List Int))).length ≤ c10579 ∧ num_Out_Num_j5 x9848 l10143 lp9853 = some r) ?_ ?_
      rotate_left
      · refine fun a w10582 z0 => z0.elim fun o10577 z1 => z1.elim fun A10578 z2 => z2.elim fun c10579 z3 => z3.elim fun hk z4 => z4.elim fun hs z5 => z5.elim fun f10580 z6 => z6.elim fun f5 z7 => z7.elim fun f7153 z8 => z8.elim fun f900019 z9 => z9.elim fun fxr z10 => z10.elim fun hc10581 H => ?_
        clear z0 z1 z2 z3 z4 z5 z6 z7 z8 z9 z10
        rw [num_Out_Num_j5] at H
        refine blk_n ?_
        have hq10583 := hs.closeB hoi hbB rfl R_85
        exact ⟨_, hq10583, (show Ft R1_ _ _ 567 from (hs.closeM_ft (o := o9851) (ρ := R_85) fxr (lab_atB hoi rfl) rfl)), ⟨A10578, c10579, (l10143 ++ ([x9848] : List Int)), (hsO.locM hq10583 (by decide) hom), (hs.closeM_ft (o := o9851) (ρ := R_85) f10580 (lab_atB hoi rfl) rfl), (hs.closeM_ft (o := o9851) (ρ := R_85) f5 (lab_atB hoi rfl) rfl), (hs.closeM_ft (o := o9851) (ρ := R_85) f7153 (lab_atB hoi rfl) rfl), (hs.closeM_ft (o := o9851) (ρ := R_85) f900019 (lab_atB hoi rfl) rfl), hc10581, (hlp9854 ▸ H)⟩⟩
      obtain ⟨q10610, H⟩ := ifS H
      refine xd_begin (o := o9852) (fun W_ => (Bx bx4 130 [.pointer (some ⟨bp0, 0, none⟩)]) W_ ∧ True) mixed rfl rfl fun w10650 st10651 => ?_
      replace f10144 := f10144.st st10651 (by decide)
      replace f5 := f5.st st10651 (by decide)
      replace f7153 := f7153.st st10651 (by decide)
      replace f900019 := f900019.st st10651 (by decide)
      replace fxr := fxr.st st10651 (by decide)
      replace hs := hs.locB st10651 rfl hbB
      refine xd_abs fun G hG => ?_
      have N10657 : ∀ (a_ : Act) (w_ : World), (∃ o10655 : Nat → Nat, Kn 29 a_ [(2, .pointer (some ⟨bx4, 0, none⟩)), (8, .slice (some ad9835) (p1).length c7152), (9, .int .i64 ((p1).length : Int)), (10, .int .i64 x7155), (17, .pointer (some ⟨bp0, 0, none⟩)), (21, .slice A10141 (l10143).length c10142), (22, .int .u8 x9848)] ∧ St [567, 1, 2] w9850 o9852 w_ o10655 ∧ Ft (Own (encInt .u8) 5 (.slice A10141 (l10143).length c10142) l10143) w_ o10655 2 ∧ Ft (Bx bx4 130 [.pointer (some ⟨bp0, 0, none⟩)]) w_ o10655 413 ∧ Ft (RdC (encInt .i64) (some ad9835) p1) w_ o10655 0 ∧ Ft (Bx bp0 129 [.slice A10141 (l10143).length c10142]) w_ o10655 1 ∧ Ft (R1_) w_ o10655 567) → G 5 #[true, true, true, true, true, true, false, false, false, false, false] a_ w_ := by
        rintro a w10656 ⟨o10655, hk, hs, f10144, f5, f7153, f900019, fxr⟩
        refine xd_of hG ?_
        refine xd_op hk (i := 6) (by kernel_rfl) rfl rfl ?_
        refine op_slice (o := o10655) tab hk (vs := [.int .u8 x9848]) (cs := [.int .u8 x9848]) rfl rfl rfl rfl rfl rfl rfl rfl rfl 613 fun bx10661 w10658 o10659 st10660 f10662 => ?_
        replace f10144 := f10144.st st10660 (by decide)
        replace f5 := f5.st st10660 (by decide)
        replace f7153 := f7153.st st10660 (by decide)
        replace f900019 := f900019.st st10660 (by decide)
        replace fxr := fxr.st st10660 (by decide)
        replace hs := hs.locB st10660 rfl hbB
        have f10663 : Ft (Own (encInt .u8) 5 (.slice (some ⟨bx10661, 0, none⟩) (([x9848] : List Int)).length 1) ([x9848] : List Int)) w10658 o10659 613 := f10662.imp fun _ h_ => Own.of_box h_ rfl (by simp)
        have hk := hk.put 23 (.slice (some ⟨bx10661, 0, none⟩) (([x9848] : List Int)).length 1) rfl
        refine ⟨.inr ⟨f5.now, trivial⟩, ?_⟩
        refine xd_op hk (i := 7) (by kernel_rfl) rfl rfl ?_
        refine op_append (o := o10659) (E := (encInt .u8)) (xs := l10143) (ys := ([x9848] : List Int)) tab hk rfl rfl rfl rfl rfl rfl rfl f10144 (Own.rd f10663.now) q10610 fun A10667 c10668 w10664 o10665 st10666 f10669 hc10670 => ?_
        replace f10663 := f10663.st st10666 (by decide)
        replace f5 := f5.st st10666 (by decide)
        replace f7153 := f7153.st st10666 (by decide)
        replace f900019 := f900019.st st10666 (by decide)
        replace fxr := fxr.st st10666 (by decide)
        replace hs := hs.locB st10666 rfl hbB
        have hk := hk.put 24 (.slice A10667 ((l10143 ++ ([x9848] : List Int))).length c10668) rfl
        refine ⟨.inr ⟨f5.now, trivial⟩, ?_⟩
        refine xd_take tab hk (k := 1) (is := [8, 9]) (ls' := #[true, true, true, true, true, true, true, true, true, true, false]) (lv := []) (ks := [2, 8, 9, 10, 24, 26]) (e' := [(2, .pointer (some ⟨bx4, 0, none⟩)), (8, .slice (some ad9835) (p1).length c7152), (9, .int .i64 ((p1).length : Int)), (10, .int .i64 x7155), (24, .slice A10667 ((l10143 ++ ([x9848] : List Int))).length c10668), (26, .pointer (some ⟨bp0, 0, none⟩))]) (by kernel_rfl) rfl rfl (by kernel_rfl) (np_then (np_blk np_RQ)) ⟨f5.now, trivial⟩ (fun W_ hS => trivial) fun a hk => ?_
        refine xd_op hk (i := 10) (by kernel_rfl) rfl rfl ?_
        refine op_store tab hk (t := 35) (v := .slice A10667 ((l10143 ++ ([x9848] : List Int))).length c10668) (b := bp0) (k := 0) (cs' := [.slice A10667 ((l10143 ++ ([x9848] : List Int))).length c10668]) rfl rfl rfl rfl rfl rfl f900019 rfl rfl fun w10671 o10672 st10673 f900019_ => ?_
        replace f10663 := f10663.st st10673 (by decide)
        replace f10669 := f10669.st st10673 (by decide)
        replace f5 := f5.st st10673 (by decide)
        replace f7153 := f7153.st st10673 (by decide)
        replace fxr := fxr.st st10673 (by decide)
        replace hs := hs.locB st10673 rfl hbB
        replace f900019 := f900019_
        refine ⟨.inr ⟨f5.now, trivial⟩, ?_⟩
        refine xd_done (by kernel_rfl) ?_
        refine then_n ?_
        exact ⟨o10672, A10667, c10668, (by exact Kn.pick (ks := [2, 8, 9, 10]) hk rfl), hs, f10669, f5, f7153, f900019, fxr, hc10670, H⟩
      have N10695 : ∀ (a_ : Act) (w_ : World), (∃ o10689 : Nat → Nat, ∃ A10690 : Option Addr, ∃ c10691 : Nat, Kn 29 a_ [(2, .pointer (some ⟨bx4, 0, none⟩)), (8, .slice (some ad9835) (p1).length c7152), (9, .int .i64 ((p1).length : Int)), (10, .int .i64 x7155), (17, .pointer (some ⟨bp0, 0, none⟩)), (20, .pointer (some ⟨bp0, 0, none⟩)), (23, .slice A10690 (([x9848] : List Int)).length c10691)] ∧ St [567, 1, 2] w9850 o9852 w_ o10689 ∧ Ft (Own (encInt .u8) 5 (.slice A10141 (l10143).length c10142) l10143) w_ o10689 2 ∧ Ft (Own (encInt .u8) 5 (.slice A10690 (([x9848] : List Int)).length c10691) ([x9848] : List Int)) w_ o10689 615 ∧ Ft (Bx bx4 130 [.pointer (some ⟨bp0, 0, none⟩)]) w_ o10689 413 ∧ Ft (RdC (encInt .i64) (some ad9835) p1) w_ o10689 0 ∧ Ft (Bx bp0 129 [.slice A10141 (l10143).length c10142]) w_ o10689 1 ∧ Ft (R1_) w_ o10689 567 ∧ (([x9848] : List Int)).length ≤ c10691) → G 5 #[true, true, true, true, false, true, true, false, false, false, false] a_ w_ := by
        refine fun a w10694 z0 => z0.elim fun o10689 z1 => z1.elim fun A10690 z2 => z2.elim fun c10691 z3 => z3.elim fun hk z4 => z4.elim fun hs z5 => z5.elim fun f10144 z6 => z6.elim fun f10692 z7 => z7.elim fun f5 z8 => z8.elim fun f7153 z9 => z9.elim fun f900019 z10 => z10.elim fun fxr hc10693 => ?_
        clear z0 z1 z2 z3 z4 z5 z6 z7 z8 z9 z10
        refine xd_of hG ?_
        refine xd_op hk (i := 4) (by kernel_rfl) rfl rfl ?_
        refine op_quiet tab hk (lv := [.slice A10141 (l10143).length c10142]) (v := .slice A10141 (l10143).length c10142) rfl ⟨(load1 tab rfl ((Bx.cell f900019.now 0).trans rfl)), trivial⟩ ?_
        have hk := hk.put 21 (.slice A10141 (l10143).length c10142) rfl
        refine ⟨.inr ⟨f5.now, trivial⟩, ?_⟩
        refine xd_op hk (i := 7) (by kernel_rfl) rfl rfl ?_
        refine op_append (o := o10689) (E := (encInt .u8)) (xs := l10143) (ys := ([x9848] : List Int)) tab hk rfl rfl rfl rfl rfl rfl rfl f10144 (Own.rd f10692.now) q10610 fun A10699 c10700 w10696 o10697 st10698 f10701 hc10702 => ?_
        replace f10692 := f10692.st st10698 (by decide)
        replace f5 := f5.st st10698 (by decide)
        replace f7153 := f7153.st st10698 (by decide)
        replace f900019 := f900019.st st10698 (by decide)
        replace fxr := fxr.st st10698 (by decide)
        replace hs := hs.locB st10698 rfl hbB
        have hk := hk.put 24 (.slice A10699 ((l10143 ++ ([x9848] : List Int))).length c10700) rfl
        refine ⟨.inr ⟨f5.now, trivial⟩, ?_⟩
        refine xd_take tab hk (k := 1) (is := [8, 9]) (ls' := #[true, true, true, true, true, true, true, true, true, true, false]) (lv := []) (ks := [2, 8, 9, 10, 24, 26]) (e' := [(2, .pointer (some ⟨bx4, 0, none⟩)), (8, .slice (some ad9835) (p1).length c7152), (9, .int .i64 ((p1).length : Int)), (10, .int .i64 x7155), (24, .slice A10699 ((l10143 ++ ([x9848] : List Int))).length c10700), (26, .pointer (some ⟨bp0, 0, none⟩))]) (by kernel_rfl) rfl rfl (by kernel_rfl) (np_then (np_blk np_RQ)) ⟨f5.now, trivial⟩ (fun W_ hS => trivial) fun a hk => ?_
        refine xd_op hk (i := 10) (by kernel_rfl) rfl rfl ?_
        refine op_store tab hk (t := 35) (v := .slice A10699 ((l10143 ++ ([x9848] : List Int))).length c10700) (b := bp0) (k := 0) (cs' := [.slice A10699 ((l10143 ++ ([x9848] : List Int))).length c10700]) rfl rfl rfl rfl rfl rfl f900019 rfl rfl fun w10703 o10704 st10705 f900019_ => ?_
        replace f10692 := f10692.st st10705 (by decide)
        replace f10701 := f10701.st st10705 (by decide)
        replace f5 := f5.st st10705 (by decide)
        replace f7153 := f7153.st st10705 (by decide)
        replace fxr := fxr.st st10705 (by decide)
        replace hs := hs.locB st10705 rfl hbB
        replace f900019 := f900019_
        refine ⟨.inr ⟨f5.now, trivial⟩, ?_⟩
        refine xd_done (by kernel_rfl) ?_
        refine then_n ?_
        exact ⟨o10704, A10699, c10700, (by exact Kn.pick (ks := [2, 8, 9, 10]) hk rfl), hs, f10701, f5, f7153, f900019, fxr, hc10702, H⟩
      refine xd_of hG ?_
      refine xd_take tab hk (k := 6) (is := [0, 1, 2, 3, 5]) (ls' := #[true, true, true, true, false, true, false, false, false, false, false]) (lv := [.pointer (some ⟨bp0, 0, none⟩), .pointer (some ⟨bp0, 0, none⟩)]) (ks := [2, 8, 9, 10, 17, 20, 22]) (e' := [(2, .pointer (some ⟨bx4, 0, none⟩)), (8, .slice (some ad9835) (p1).length c7152), (9, .int .i64 ((p1).length : Int)), (10, .int .i64 x7155), (17, .pointer (some ⟨bp0, 0, none⟩)), (20, .pointer (some ⟨bp0, 0, none⟩)), (22, .int .u8 x9848)]) (by kernel_rfl) rfl rfl (by kernel_rfl) (np_then (np_blk np_RQ)) ⟨f5.now, trivial⟩ (fun W_ hS => ⟨(load1 tab rfl ((Bx.cell hS.1 0).trans rfl)), (load1 tab rfl ((Bx.cell hS.1 0).trans rfl)), trivial⟩) fun a hk => ?_
      refine xd_each [4, 6] (by kernel_rfl) rfl ⟨?_, ?_, trivial⟩
      · refine xd_one hk rfl rfl ?_
        refine op_quiet tab hk (lv := [.slice A10141 (l10143).length c10142]) (v := .slice A10141 (l10143).length c10142) rfl ⟨(load1 tab rfl ((Bx.cell f900019.now 0).trans rfl)), trivial⟩ ?_
        have hk := hk.put 21 (.slice A10141 (l10143).length c10142) rfl
        refine ⟨.inr ⟨f5.now, trivial⟩, ?_⟩
        exact xd_to hG rfl (N10657 _ _ ⟨o9852, (by exact Kn.pick (ks := [2, 8, 9, 10, 17, 21, 22]) hk rfl), hs, f10144, f5, f7153, f900019, fxr⟩)
      · refine xd_one hk rfl rfl ?_
        refine op_slice (o := o9852) tab hk (vs := [.int .u8 x9848]) (cs := [.int .u8 x9848]) rfl rfl rfl rfl rfl rfl rfl rfl rfl 614 fun bx10677 w10674 o10675 st10676 f10678 => ?_
        replace f10144 := f10144.st st10676 (by decide)
        replace f5 := f5.st st10676 (by decide)
        replace f7153 := f7153.st st10676 (by decide)
        replace f900019 := f900019.st st10676 (by decide)
        replace fxr := fxr.st st10676 (by decide)
        replace hs := hs.locB st10676 rfl hbB
        have f10679 : Ft (Own (encInt .u8) 5 (.slice (some ⟨bx10677, 0, none⟩) (([x9848] : List Int)).length 1) ([x9848] : List Int)) w10674 o10675 614 := f10678.imp fun _ h_ => Own.of_box h_ rfl (by simp)
        have hk := hk.put 23 (.slice (some ⟨bx10677, 0, none⟩) (([x9848] : List Int)).length 1) rfl
        refine ⟨.inr ⟨f5.now, trivial⟩, ?_⟩
        exact xd_to hG rfl (N10695 _ _ ⟨(fun b_ => R_86 (o10675 b_)), (some ⟨bx10677, 0, none⟩), 1, (by exact Kn.pick (ks := [2, 8, 9, 10, 17, 20, 23]) hk rfl), (hs.relabM hbB R_86 (by intro l_ hl_; unfold R_86; (try dsimp only); (repeat' split) <;> omega)), (f10144.relab R_86 rfl), (f10679.relab R_86 rfl), (f5.relab R_86 rfl), (f7153.relab R_86 rfl), (f900019.relab R_86 rfl), (fxr.relab R_86 rfl), (Nat.le_refl _)⟩)
    · rintro ds10426 w10425 o10140 a hk fxm ⟨A10141, c10142, l10143, hs, f10144, f5, f7153, f900019, hc10145, H⟩
      rw [num_Out_Num_r4] at H
      refine blk_n ?_
      refine blk_n ?_
      refine then_n ?_
      exact ⟨(fun b_ => R_87 (o10140 b_)), ds10426, A10141, c10142, l10143, (some ad9835), c7152, (by exact Kn.pick (ks := [2, 8, 9, 10]) hk rfl), (hs.relabM hob R_87 (by decide)), (f5.relab R_87 rfl), (f900019.relab R_87 rfl), (f10144.relab R_87 rfl), (f7153.relab R_87 rfl), (fxm.relab R_87 rfl), hc10145, hc7154, H⟩
    · exact fun _ _ _ _ _ _ _ h_ => h_.elim

/-! (*tidewrack/num.Out).Bytes -/
abbrev R_88 (Lp0 Lp0_0 : Nat) (l_ : Nat) : Nat := if l_ = 1 then Lp0 else if l_ = 2 then Lp0_0 else 0
theorem num_Out_Bytes_calls (bp0 : Nat) (Ap0_0 : Option Addr) (cp0_0 : Nat) (p0 : T128) (w : World) (o : Nat → Nat) (Lp0 : Nat) (hp0 : Ft (Bx bp0 129 [.slice Ap0_0 (p0.b).length cp0_0]) w o Lp0) (Lp0_0 : Nat) (hp0_0 : Ft (Own (encInt .u8) 5 (.slice Ap0_0 (p0.b).length cp0_0) p0.b) w o Lp0_0) (hcp0_0 : (p0.b).length ≤ cp0_0) (hd0 : ([Lp0, Lp0_0] : List Nat).Nodup) (r : ByteArray × T128) (H : num_Out_Bytes p0 = some r) :
    Calls Tryz.prog 90 #[.pointer (some ⟨bp0, 0, none⟩)] w (Ret fun v_ w' => ∃ o' : Nat → Nat, ∃ A0 : Option Addr, ∃ c0 : Nat, v_ = .string r.1 ∧ St [Lp0, Lp0_0] w o w' o' ∧ Ft (Bx bp0 129 [.slice A0 (r.2.b).length c0]) w' o' Lp0 ∧ Ft (Own (encInt .u8) 5 (.slice A0 (r.2.b).length c0) r.2.b) w' o' Lp0_0 ∧ (r.2.b).length ≤ c0) := by
  refine x_enter (vs := [.pointer (some ⟨bp0, 0, none⟩)]) Tryz.func90 rfl rfl rfl fun a hk => ?_
  obtain ⟨oi, hs0, h0, h1, hob, hoz, hoa⟩ := St.startM2 w o (m := 2) hd0 rfl
  have hs := hs0 [1, 2]
  have hom := lab_in hob (MM := [1, 2]) (by decide)
  have f900000 := h1 1 2 hp0_0 rfl rfl
  have f900019 := h1 0 1 hp0 rfl rfl
  clear h0 h1 hs0
  rw [num_Out_Bytes] at H
  refine x_seq ?_
  refine wpIn_region_lit ?_
  refine x_run tab hk (k := 1) (lv := []) (ks := [0]) (e' := [(0, .pointer (some ⟨bp0, 0, none⟩))]) rfl trivial fun a hk => ?_
  refine wpListIn_nil ?_
  refine then_n ?_
  refine x_seq ?_
  refine wpIn_region_lit ?_
  refine x_run tab hk (k := 6) (lv := [.slice Ap0_0 (p0.b).length cp0_0, .string (strOfNums p0.b)]) (ks := [2]) (e' := [(2, .string (strOfNums p0.b))]) rfl ⟨(load1 tab rfl ((Bx.cell f900019.now 0).trans rfl)), (ask_str tab rfl rfl rfl rfl (Own.rd f900000.now) (Own.plain f900000.now _ _ _ rfl)), trivial⟩ fun a hk => ?_
  refine wpListIn_nil ?_
  refine then_n ?_
  refine wpIn_ret ?_
  obtain rfl := Option.some.inj H
  exact x_retG hk (rs := [.tmp 2]) (vs := [.string (strOfNums p0.b)]) rfl ⟨rfl, trivial⟩ ⟨cl w oi o [1, 2] (R_88 Lp0 Lp0_0) oi, Ap0_0, cp0_0, rfl, hs.closeM hoz (by decide) (R_88 Lp0 Lp0_0), hs.closeM_ft (o := o) (ρ := R_88 Lp0 Lp0_0) f900019 (lab_at hoa (i := 0) rfl) rfl, hs.closeM_ft (o := o) (ρ := R_88 Lp0 Lp0_0) f900000 (lab_at hoa (i := 1) rfl) rfl, hcp0_0⟩

/-! tidewrack/book.Pack -/
abbrev R_89 (l_ : Nat) : Nat := if l_ = 1 then 21 else if l_ = 3 then 20 else l_
abbrev R_90 (l_ : Nat) : Nat := if l_ = 20 then 14 else if l_ = 21 then 15 else l_
set_option maxHeartbeats 4000000 in
set_option maxRecDepth 20000 in
theorem book_Pack_calls (K : Nat) (Ap0 : Option Addr) (cp0 : Nat) (p0 : List T46) (w : World) (o : Nat → Nat) (Lp0 : Nat) (hp0 : Ft (RdC ET46 Ap0 p0) w o Lp0) (hcp0 : (p0).length ≤ cp0)  (r : ByteArray) (H : book_Pack K p0 = some r) :
    Calls Tryz.prog 64 #[.slice Ap0 (p0).length cp0] w (Ret fun v_ w' => ∃ o' : Nat → Nat, v_ = .string r ∧ St [] w o w' o') := by
  refine x_enter (vs := [.slice Ap0 (p0).length cp0]) Tryz.func64 rfl rfl rfl fun a hk => ?_
  obtain ⟨o0, hs, h0⟩ := St.start w o
  have f900000 := h0 _ _ hp0
  clear h0
  rw [book_Pack] at H
  refine x_seq ?_
  refine wpIn_region_lit ?_
  refine x_run tab hk (k := 1) (lv := []) (ks := [0]) (e' := [(0, .slice Ap0 (p0).length cp0)]) rfl trivial fun a hk => ?_
  refine wpListIn_nil ?_
  refine then_n ?_
  refine x_seq ?_
  refine wpIn_region_lit ?_
  refine x_op hk rfl ?_
  refine op_alloc (o := o0) tab (t := 129) (cs := [.slice none 0 0]) rfl rfl 1 fun bx4 w1 o2 st3 f5 => ?_
  replace f900000 := f900000.st st3 (by decide)
  replace hs := hs.loc0 st3 (by decide)
  have hk := hk.put 3 (.pointer (some ⟨bx4, 0, none⟩)) rfl
  refine wpListIn_nil ?_
  refine then_n ?_
  refine x_seq ?_
  refine wpIn_region_lit ?_
  refine x_run tab hk (k := 2) (lv := []) (ks := [0, 3, 7]) (e' := [(0, .slice Ap0 (p0).length cp0), (3, .pointer (some ⟨bx4, 0, none⟩)), (7, .int .i64 ((p0).length : Int))]) rfl trivial fun a hk => ?_
  refine x_op hk rfl ?_
  refine op_slice (o := o2) tab hk (vs := [.int .i64 ((p0).length : Int)]) (cs := [.int .i64 ((p0).length : Int)]) rfl rfl rfl rfl rfl rfl rfl rfl rfl 2 fun bx9 w6 o7 st8 f10 => ?_
  replace f5 := f5.st st8 (by decide)
  replace f900000 := f900000.st st8 (by decide)
  replace hs := hs.loc0 st8 (by decide)
  have f11 : Ft (Own (encInt .i64) 3 (.slice (some ⟨bx9, 0, none⟩) (([((p0).length : Int)] : List Int)).length 1) ([((p0).length : Int)] : List Int)) w6 o7 2 := f10.imp fun _ h_ => Own.of_box h_ rfl (by simp)
  have hk := hk.put 8 (.slice (some ⟨bx9, 0, none⟩) (([((p0).length : Int)] : List Int)).length 1) rfl
  refine x_op hk rfl ?_
  obtain ⟨t15, hc16, H⟩ := bindS H
  refine op_call hk ent_89 (vs := [.pointer (some ⟨bx4, 0, none⟩), .slice (some ⟨bx9, 0, none⟩) (([((p0).length : Int)] : List Int)).length 1]) rfl (num_Out_Num_calls K bx4 none 0 (⟨([] : List Int)⟩ : T128) (some ⟨bx9, 0, none⟩) 1 ([((p0).length : Int)] : List Int) _ o7 1 f5 3 (Ft.of_all (fun _ => Own.nil _ _ _) _ _ 3) (by simp) _ (f11.imp fun _ h_ => Own.rd h_) (Nat.le_refl _) (by decide) (by decide)   _ hc16) ?_
  rintro _ w17 ⟨o18, A21, c22, rfl, st19, f20, f23, hc24⟩
  replace f11 := f11.st st19 (by decide)
  replace f900000 := f900000.st st19 (by decide)
  replace hs := hs.loc0 st19 (by decide)
  have hk := hk.put 9 (.pointer (some ⟨bx4, 0, none⟩)) rfl
  refine wpListIn_nil ?_
  refine then_n ?_
  refine x_mid (fun a_ w_ => ∃ o139 : Nat → Nat, ∃ A140 : Option Addr, ∃ c141 : Nat, ∃ l142 : List Int, Kn 25 a_ [(3, .pointer (some ⟨bx4, 0, none⟩))] ∧ St [] w (fun _ => 0) w_ o139 ∧ Ft (Own (encInt .u8) 5 (.slice A140 (l142).length c141) l142) w_ o139 14 ∧ Ft (Bx bx4 129 [.slice A140 (l142).length c141]) w_ o139 15 ∧ (l142).length ≤ c141 ∧ book_Pack_j1 l142 = some r) ?_ ?_
  rotate_left
  · rintro a w145 ⟨o139, A140, c141, l142, hk, hs, f143, f20, hc144, H⟩
    rw [book_Pack_j1] at H
    refine x_seq ?_
    refine wpIn_region_lit ?_
    refine x_op hk rfl ?_
    obtain ⟨t149, hc150, H⟩ := bindS H
    refine op_call hk ent_90 (vs := [.pointer (some ⟨bx4, 0, none⟩)]) rfl (num_Out_Bytes_calls bx4 A140 c141 (⟨l142⟩ : T128) _ o139 15 f20 14 f143 hc144 (by decide)   _ hc150) ?_
    rintro _ w151 ⟨o152, A155, c156, rfl, st153, f154, f157, hc158⟩
    replace hs := hs.loc0 st153 (by decide)
    have hk := hk.put 24 (.string t149.1) rfl
    refine x_run tab hk (k := 1) (lv := []) (ks := [2]) (e' := [(2, .string t149.1)]) rfl trivial fun a hk => ?_
    refine wpListIn_nil ?_
    refine then_n ?_
    refine wpIn_ret ?_
    obtain rfl := Option.some.inj H
    exact x_retG hk (rs := [.tmp 2]) (vs := [.string t149.1]) rfl ⟨rfl, trivial⟩ ⟨fun b_ => if b_ < w.heap.size then o b_ else (fun _ => 0) (o152 b_), rfl, hs.close0 o (fun _ => 0)⟩
  refine x_seq ?_
  refine wpIn_region_lit ?_
  refine x_run tab hk (k := 3) (lv := []) (ks := [3, 10, 11, 12]) (e' := [(3, .pointer (some ⟨bx4, 0, none⟩)), (10, .slice Ap0 (p0).length cp0), (11, .int .i64 ((p0).length : Int)), (12, .int .i64 0)]) rfl trivial fun a hk => ?_
  refine wpListIn_nil ?_
  refine then_n ?_
  refine wpIn_block ?_
  refine x_loop (fun j_ a_ w_ => ∃ o192 : Nat → Nat, ∃ A193 : Option Addr, ∃ c194 : Nat, ∃ l195 : List Int, ∃ x198 : Int, Kn 25 a_ [(3, .pointer (some ⟨bx4, 0, none⟩)), (10, .slice Ap0 (p0).length cp0), (11, .int .i64 ((p0).length : Int)), (12, .int .i64 x198)] ∧ St [] w (fun _ => 0) w_ o192 ∧ Ft (Own (encInt .u8) 5 (.slice A193 (l195).length c194) l195) w_ o192 20 ∧ Ft (Bx bx4 129 [.slice A193 (l195).length c194]) w_ o192 21 ∧ Ft (RdC ET46 Ap0 p0) w_ o192 0 ∧ (l195).length ≤ c194 ∧ book_Pack_l2 K p0 j_ l195 x198 = some r) (k := K) ⟨(fun b_ => R_89 (o18 b_)), A21, c22, t15.b, 0, (by exact Kn.pick (ks := [3, 10, 11, 12]) hk rfl), (hs.relab0 R_89 rfl), (f23.relab R_89 rfl), (f20.relab R_89 rfl), (f900000.relab R_89 rfl), hc24, H⟩ (fun _ _ z => z.elim fun _ z => z.elim fun _ z => z.elim fun _ z => z.elim fun _ z => z.elim fun _ z => z.elim fun _ z => z.elim fun _ z => z.elim fun _ z => z.elim fun _ z => z.elim fun _ z => z.elim fun _ z => absurd (show (none : Option ByteArray) = some r from z) (by simp)) ?_
  refine fun k230 a w229 z0 => z0.elim fun o192 z1 => z1.elim fun A193 z2 => z2.elim fun c194 z3 => z3.elim fun l195 z4 => z4.elim fun x198 z5 => z5.elim fun hk z6 => z6.elim fun hs z7 => z7.elim fun f196 z8 => z8.elim fun f20 z9 => z9.elim fun f900000 z10 => z10.elim fun hc197 H => ?_
  clear z0 z1 z2 z3 z4 z5 z6 z7 z8 z9 z10
  rw [book_Pack_l2] at H
  obtain ⟨lp231, hlp232⟩ : ∃ lp_, lp_ = book_Pack_l2 K p0 k230 := ⟨_, rfl⟩
  rw [← hlp232] at H
  refine x_seq ?_
  refine wpIn_region_lit ?_
  refine x_run tab hk (k := 1) (lv := []) (ks := [3, 10, 11, 12, 13]) (e' := [(3, .pointer (some ⟨bx4, 0, none⟩)), (10, .slice Ap0 (p0).length cp0), (11, .int .i64 ((p0).length : Int)), (12, .int .i64 x198), (13, .bool (decide (x198 < ((p0).length : Int))))]) rfl trivial fun a hk => ?_
  refine wpListIn_nil ?_
  refine then_n ?_
  refine x_seq ?_
  cases b233 : (decide (x198 < ((p0).length : Int)))
  · rw [b233] at hk H
    replace H := bifF H
    refine x_if hk (b := false) rfl ?_
    refine (show Code.wpIn _ _ _ _ _ _ _ from ?_)
    refine wpIn_exit ?_
    refine then_x ?_
    refine then_x ?_
    refine blk_x ?_
    refine then_n ?_
    exact ⟨(fun b_ => R_90 (o192 b_)), A193, c194, l195, (by exact Kn.pick (ks := [3]) hk rfl), (hs.relab0 R_90 rfl), (f196.relab R_90 rfl), (f20.relab R_90 rfl), hc197, H⟩
  · rw [b233] at hk H
    replace H := bifT H
    refine x_if hk (b := true) rfl ?_
    refine (show Code.wpIn _ _ _ _ _ _ _ from ?_)
    refine wpIn_skip ?_
    refine then_n ?_
    refine x_seq ?_
    refine wpIn_block ?_
    refine x_seq ?_
    refine wpIn_region_lit ?_
    obtain ⟨q234, H⟩ := ifS H
    obtain ⟨ad235, hAad235⟩ := RdC.addr f900000.now q234
    have hk_C := hk
    have f196_C := f196
    have f20_C := f20
    have f900000_C := f900000
    subst hAad235
    have hk := hk_C
    clear hk_C
    have f196 := f196_C
    clear f196_C
    have f20 := f20_C
    clear f20_C
    have f900000 := f900000_C
    clear f900000_C
    refine x_run tab hk (k := 2) (lv := [.agg #[.int .i32 ((rdD zT46 p0 x198).Rune), .int .i64 ((rdD zT46 p0 x198).Style)]]) (ks := [3, 10, 11, 12, 15]) (e' := [(3, .pointer (some ⟨bx4, 0, none⟩)), (10, .slice (some ad235) (p0).length cp0), (11, .int .i64 ((p0).length : Int)), (12, .int .i64 x198), (15, .agg #[.int .i32 ((rdD zT46 p0 x198).Rune), .int .i64 ((rdD zT46 p0 x198).Style)])]) rfl ⟨q234, (load_elem (E := ET46) (i := x198) (dx := zT46) tab rfl rfl f900000.now q234), trivial⟩ fun a hk => ?_
    refine x_op hk rfl ?_
    refine op_alloc (o := o192) tab (t := 47) (cs := [.int .i32 0, .int .i64 0]) rfl rfl 24 fun bx239 w236 o237 st238 f240 => ?_
    replace f196 := f196.st st238 (by decide)
    replace f20 := f20.st st238 (by decide)
    replace f900000 := f900000.st st238 (by decide)
    replace hs := hs.loc0 st238 (by decide)
    have hk := hk.put 5 (.pointer (some ⟨bx239, 0, none⟩)) rfl
    refine x_op hk rfl ?_
    refine op_store tab hk (t := 47) (v := .agg #[.int .i32 ((rdD zT46 p0 x198).Rune), .int .i64 ((rdD zT46 p0 x198).Style)]) (b := bx239) (k := 0) (cs' := [.int .i32 ((rdD zT46 p0 x198).Rune), .int .i64 ((rdD zT46 p0 x198).Style)]) rfl rfl rfl rfl rfl rfl f240 rfl rfl fun w241 o242 st243 f240_ => ?_
    replace f196 := f196.st st243 (by decide)
    replace f20 := f20.st st243 (by decide)
    replace f900000 := f900000.st st243 (by decide)
    replace hs := hs.loc0 st243 (by decide)
    replace f240 := f240_
    refine wpListIn_nil ?_
    refine then_n ?_
    refine wpIn_region_lit ?_
    refine x_run tab hk (k := 5) (lv := [.int .i32 ((rdD zT46 p0 x198).Rune), .int .i64 ((rdD zT46 p0 x198).Style)]) (ks := [3, 10, 11, 12, 18, 20]) (e' := [(3, .pointer (some ⟨bx4, 0, none⟩)), (10, .slice (some ad235) (p0).length cp0), (11, .int .i64 ((p0).length : Int)), (12, .int .i64 x198), (18, .int .i64 (IntKind.wrap .i64 ((rdD zT46 p0 x198).Rune))), (20, .int .i64 ((rdD zT46 p0 x198).Style))]) rfl ⟨(load1 tab rfl ((Bx.cell f240.now 0).trans rfl)), (load1 tab rfl ((Bx.cell f240.now 1).trans rfl)), trivial⟩ fun a hk => ?_
    refine x_op hk rfl ?_
    refine op_slice (o := o242) tab hk (vs := [.int .i64 (IntKind.wrap .i64 ((rdD zT46 p0 x198).Rune)), .int .i64 ((rdD zT46 p0 x198).Style)]) (cs := [.int .i64 (IntKind.wrap .i64 ((rdD zT46 p0 x198).Rune)), .int .i64 ((rdD zT46 p0 x198).Style)]) rfl rfl rfl rfl rfl rfl rfl rfl rfl 25 fun bx247 w244 o245 st246 f248 => ?_
    replace f196 := f196.st st246 (by decide)
    replace f20 := f20.st st246 (by decide)
    replace f900000 := f900000.st st246 (by decide)
    replace hs := hs.loc0 st246 (by decide)
    have f249 : Ft (Own (encInt .i64) 3 (.slice (some ⟨bx247, 0, none⟩) (([(IntKind.wrap .i64 ((rdD zT46 p0 x198).Rune)), (rdD zT46 p0 x198).Style] : List Int)).length 2) ([(IntKind.wrap .i64 ((rdD zT46 p0 x198).Rune)), (rdD zT46 p0 x198).Style] : List Int)) w244 o245 25 := f248.imp fun _ h_ => Own.of_box h_ rfl (by simp)
    have hk := hk.put 21 (.slice (some ⟨bx247, 0, none⟩) (([(IntKind.wrap .i64 ((rdD zT46 p0 x198).Rune)), (rdD zT46 p0 x198).Style] : List Int)).length 2) rfl
    refine x_op hk rfl ?_
    obtain ⟨t253, hc254, H⟩ := bindS H
    refine op_call hk ent_89 (vs := [.pointer (some ⟨bx4, 0, none⟩), .slice (some ⟨bx247, 0, none⟩) (([(IntKind.wrap .i64 ((rdD zT46 p0 x198).Rune)), (rdD zT46 p0 x198).Style] : List Int)).length 2]) rfl (num_Out_Num_calls K bx4 A193 c194 (⟨l195⟩ : T128) (some ⟨bx247, 0, none⟩) 2 ([(IntKind.wrap .i64 ((rdD zT46 p0 x198).Rune)), (rdD zT46 p0 x198).Style] : List Int) _ o245 21 f20 20 f196 hc197 _ (f249.imp fun _ h_ => Own.rd h_) (Nat.le_refl _) (by decide) (by decide)   _ hc254) ?_
    rintro _ w255 ⟨o256, A259, c260, rfl, st257, f258, f261, hc262⟩
    replace f249 := f249.st st257 (by decide)
    replace f900000 := f900000.st st257 (by decide)
    replace hs := hs.loc0 st257 (by decide)
    have hk := hk.put 22 (.pointer (some ⟨bx4, 0, none⟩)) rfl
    refine wpListIn_nil ?_
    refine blk_n ?_
    refine then_n ?_
    refine wpIn_region_lit ?_
    refine x_run tab hk (k := 2) (lv := []) (ks := [3, 10, 11, 12]) (e' := [(3, .pointer (some ⟨bx4, 0, none⟩)), (10, .slice (some ad235) (p0).length cp0), (11, .int .i64 ((p0).length : Int)), (12, .int .i64 (IntKind.wrap .i64 (x198 + 1)))]) rfl trivial fun a hk => ?_
    refine wpListIn_nil ?_
    refine then_n ?_
    exact ⟨k230, Nat.le_refl _, o256, A259, c260, t253.b, (IntKind.wrap .i64 (x198 + 1)), (by exact Kn.pick (ks := [3, 10, 11, 12]) hk rfl), hs, f261, f258, f900000, hc262, (hlp232 ▸ H)⟩

/-! tidewrack/sum.step -/
set_option maxHeartbeats 4000000 in
set_option maxRecDepth 20000 in
theorem sum_step_calls (p0 : Int) (p1 : Int) (w : World) (o : Nat → Nat) (Lg2 : Nat) (hg2 : Ft (RdC (encInt .u32) (some ⟨2, 0, none⟩) glob2) w o Lg2)   (r : Int) (H : sum_step p0 p1 = some r) :
    Calls Tryz.prog 88 #[.int .u32 p0, .int .u8 p1] w (Ret fun v_ w' => ∃ o' : Nat → Nat, v_ = .int .u32 r ∧ St [] w o w' o') := by
  refine x_enter (vs := [.int .u32 p0, .int .u8 p1]) Tryz.func88 rfl rfl rfl fun a hk => ?_
  obtain ⟨o0, hs, h0⟩ := St.start w o
  have fg2 := h0 _ _ hg2
  clear h0
  rw [sum_step] at H
  refine x_seq ?_
  refine wpIn_region_lit ?_
  refine x_run tab hk (k := 1) (lv := []) (ks := [0, 1]) (e' := [(0, .int .u32 p0), (1, .int .u8 p1)]) rfl trivial fun a hk => ?_
  refine wpListIn_nil ?_
  refine then_n ?_
  refine x_seq ?_
  refine wpIn_region_lit ?_
  refine x_run tab hk (k := 5) (lv := []) (ks := [0]) (e' := [(0, .int .u32 (bits .xor .u32 p0 (IntKind.wrap .u32 p1)))]) rfl trivial fun a hk => ?_
  refine wpListIn_nil ?_
  refine then_n ?_
  refine x_seq ?_
  refine wpIn_region_lit ?_
  obtain ⟨q1, H⟩ := ifS H
  refine x_run tab hk (k := 8) (lv := [.int .u32 (rdD 0 glob2 (bits .and .u32 (bits .xor .u32 p0 (IntKind.wrap .u32 p1)) 15))]) (ks := [0]) (e' := [(0, .int .u32 (bits .xor .u32 (Int.fdiv (bits .xor .u32 p0 (IntKind.wrap .u32 p1)) (2 ^ min (Int.toNat 4) 32)) (rdD 0 glob2 (bits .and .u32 (bits .xor .u32 p0 (IntKind.wrap .u32 p1)) 15))))]) rfl ⟨(show 0 ≤ (4 : Int) from by decide), q1, (load1 tab rfl (RdC.at0 (E := (encInt .u32)) (d := 0) (i := (bits .and .u32 (bits .xor .u32 p0 (IntKind.wrap .u32 p1)) 15)) fg2.now q1 rfl)), trivial⟩ fun a hk => ?_
  refine wpListIn_nil ?_
  refine then_n ?_
  refine x_seq ?_
  refine wpIn_region_lit ?_
  obtain ⟨q2, H⟩ := ifS H
  refine x_run tab hk (k := 8) (lv := [.int .u32 (rdD 0 glob2 (bits .and .u32 (bits .xor .u32 (Int.fdiv (bits .xor .u32 p0 (IntKind.wrap .u32 p1)) (2 ^ min (Int.toNat 4) 32)) (rdD 0 glob2 (bits .and .u32 (bits .xor .u32 p0 (IntKind.wrap .u32 p1)) 15))) 15))]) (ks := [4]) (e' := [(4, .int .u32 (bits .xor .u32 (Int.fdiv (bits .xor .u32 (Int.fdiv (bits .xor .u32 p0 (IntKind.wrap .u32 p1)) (2 ^ min (Int.toNat 4) 32)) (rdD 0 glob2 (bits .and .u32 (bits .xor .u32 p0 (IntKind.wrap .u32 p1)) 15))) (2 ^ min (Int.toNat 4) 32)) (rdD 0 glob2 (bits .and .u32 (bits .xor .u32 (Int.fdiv (bits .xor .u32 p0 (IntKind.wrap .u32 p1)) (2 ^ min (Int.toNat 4) 32)) (rdD 0 glob2 (bits .and .u32 (bits .xor .u32 p0 (IntKind.wrap .u32 p1)) 15))) 15))))]) rfl ⟨(show 0 ≤ (4 : Int) from by decide), q2, (load1 tab rfl (RdC.at0 (E := (encInt .u32)) (d := 0) (i := (bits .and .u32 (bits .xor .u32 (Int.fdiv (bits .xor .u32 p0 (IntKind.wrap .u32 p1)) (2 ^ min (Int.toNat 4) 32)) (rdD 0 glob2 (bits .and .u32 (bits .xor .u32 p0 (IntKind.wrap .u32 p1)) 15))) 15)) fg2.now q2 rfl)), trivial⟩ fun a hk => ?_
  refine wpListIn_nil ?_
  refine then_n ?_
  refine wpIn_ret ?_
  obtain rfl := Option.some.inj H
  exact x_retG hk (rs := [.tmp 4]) (vs := [.int .u32 (bits .xor .u32 (Int.fdiv (bits .xor .u32 (Int.fdiv (bits .xor .u32 p0 (IntKind.wrap .u32 p1)) (2 ^ min (Int.toNat 4) 32)) (rdD 0 glob2 (bits .and .u32 (bits .xor .u32 p0 (IntKind.wrap .u32 p1)) 15))) (2 ^ min (Int.toNat 4) 32)) (rdD 0 glob2 (bits .and .u32 (bits .xor .u32 (Int.fdiv (bits .xor .u32 p0 (IntKind.wrap .u32 p1)) (2 ^ min (Int.toNat 4) 32)) (rdD 0 glob2 (bits .and .u32 (bits .xor .u32 p0 (IntKind.wrap .u32 p1)) 15))) 15)))]) rfl ⟨rfl, trivial⟩ ⟨fun b_ => if b_ < w.heap.size then o b_ else (fun _ => 0) (o0 b_), rfl, hs.close0 o (fun _ => 0)⟩

/-! tidewrack/sum.Of -/
set_option maxHeartbeats 4000000 in
set_option maxRecDepth 20000 in
theorem sum_Of_calls (K : Nat) (Ap0 : Option Addr) (cp0 : Nat) (p0 : List ByteArray) (w : World) (o : Nat → Nat) (Lg2 : Nat) (hg2 : Ft (RdC (encInt .u32) (some ⟨2, 0, none⟩) glob2) w o Lg2) (Lp0 : Nat) (hp0 : Ft (RdC encStr Ap0 p0) w o Lp0) (hcp0 : (p0).length ≤ cp0)  (r : Int) (H : sum_Of K p0 = some r) :
    Calls Tryz.prog 63 #[.slice Ap0 (p0).length cp0] w (Ret fun v_ w' => ∃ o' : Nat → Nat, v_ = .int .u32 r ∧ St [] w o w' o') := by
  refine x_enter (vs := [.slice Ap0 (p0).length cp0]) Tryz.func63 rfl rfl rfl fun a hk => ?_
  obtain ⟨o0, hs, h0⟩ := St.start w o
  have fg2 := h0 _ _ hg2
  have f900000 := h0 _ _ hp0
  clear h0
  rw [sum_Of] at H
  refine x_seq ?_
  refine wpIn_region_lit ?_
  refine x_run tab hk (k := 1) (lv := []) (ks := [0]) (e' := [(0, .slice Ap0 (p0).length cp0)]) rfl trivial fun a hk => ?_
  refine wpListIn_nil ?_
  refine then_n ?_
  refine x_seq ?_
  refine wpIn_region_lit ?_
  refine x_run tab hk (k := 1) (lv := []) (ks := [0, 3]) (e' := [(0, .slice Ap0 (p0).length cp0), (3, .int .u32 4294967295)]) rfl trivial fun a hk => ?_
  refine wpListIn_nil ?_
  refine then_n ?_
  refine x_mid (fun a_ w_ => ∃ o327 : Nat → Nat, ∃ x328 : Int, Kn 27 a_ [(3, .int .u32 x328)] ∧ St [] w (fun _ => 0) w_ o327 ∧ Ft (RdC (encInt .u32) (some ⟨2, 0, none⟩) glob2) w_ o327 0 ∧ sum_Of_j1 x328 = some r) ?_ ?_
  rotate_left
  · rintro a w329 ⟨o327, x328, hk, hs, fg2, H⟩
    rw [sum_Of_j1] at H
    refine x_seq ?_
    refine wpIn_region_lit ?_
    refine x_run tab hk (k := 3) (lv := []) (ks := [2]) (e' := [(2, .int .u32 (bits .xor .u32 4294967295 x328))]) rfl trivial fun a hk => ?_
    refine wpListIn_nil ?_
    refine then_n ?_
    refine wpIn_ret ?_
    obtain rfl := Option.some.inj H
    exact x_retG hk (rs := [.tmp 2]) (vs := [.int .u32 (bits .xor .u32 4294967295 x328)]) rfl ⟨rfl, trivial⟩ ⟨fun b_ => if b_ < w.heap.size then o b_ else (fun _ => 0) (o327 b_), rfl, hs.close0 o (fun _ => 0)⟩
  refine x_seq ?_
  refine wpIn_region_lit ?_
  refine x_run tab hk (k := 3) (lv := []) (ks := [3, 7, 8, 9]) (e' := [(3, .int .u32 4294967295), (7, .slice Ap0 (p0).length cp0), (8, .int .i64 ((p0).length : Int)), (9, .int .i64 0)]) rfl trivial fun a hk => ?_
  refine wpListIn_nil ?_
  refine then_n ?_
  refine wpIn_block ?_
  refine x_loop (fun j_ a_ w_ => ∃ o435 : Nat → Nat, ∃ x436 : Int, ∃ A437 : Option Addr, ∃ c438 : Nat, ∃ x441 : Int, Kn 27 a_ [(3, .int .u32 x436), (7, .slice A437 (p0).length c438), (8, .int .i64 ((p0).length : Int)), (9, .int .i64 x441)] ∧ St [] w (fun _ => 0) w_ o435 ∧ Ft (RdC encStr A437 p0) w_ o435 0 ∧ Ft (RdC (encInt .u32) (some ⟨2, 0, none⟩) glob2) w_ o435 0 ∧ (p0).length ≤ c438 ∧ sum_Of_l2 K p0 j_ x436 x441 = some r) (k := K) ⟨o0, 4294967295, Ap0, cp0, 0, (by exact Kn.pick (ks := [3, 7, 8, 9]) hk rfl), hs, f900000, fg2, hcp0, H⟩ (fun _ _ z => z.elim fun _ z => z.elim fun _ z => z.elim fun _ z => z.elim fun _ z => z.elim fun _ z => z.elim fun _ z => z.elim fun _ z => z.elim fun _ z => z.elim fun _ z => z.elim fun _ z => absurd (show (none : Option Int) = some r from z) (by simp)) ?_
  rintro k545 a w544 ⟨o435, x436, A437, c438, x441, hk, hs, f439, fg2, hc440, H⟩
  rw [sum_Of_l2] at H
  obtain ⟨lp546, hlp547⟩ : ∃ lp_, lp_ = sum_Of_l2 K p0 k545 := ⟨_, rfl⟩
  rw [← hlp547] at H
  refine x_seq ?_
  refine wpIn_region_lit ?_
  refine x_run tab hk (k := 1) (lv := []) (ks := [3, 7, 8, 9, 10]) (e' := [(3, .int .u32 x436), (7, .slice A437 (p0).length c438), (8, .int .i64 ((p0).length : Int)), (9, .int .i64 x441), (10, .bool (decide (x441 < ((p0).length : Int))))]) rfl trivial fun a hk => ?_
  refine wpListIn_nil ?_
  refine then_n ?_
  refine x_seq ?_
  cases b548 : (decide (x441 < ((p0).length : Int)))
  · rw [b548] at hk H
    replace H := bifF H
    refine x_if hk (b := false) rfl ?_
    refine (show Code.wpIn _ _ _ _ _ _ _ from ?_)
    refine wpIn_exit ?_
    refine then_x ?_
    refine then_x ?_
    refine blk_x ?_
    refine then_n ?_
    exact ⟨o435, x436, (by exact Kn.pick (ks := [3]) hk rfl), hs, fg2, H⟩
  · rw [b548] at hk H
    replace H := bifT H
    refine x_if hk (b := true) rfl ?_
    refine (show Code.wpIn _ _ _ _ _ _ _ from ?_)
    refine wpIn_skip ?_
    refine then_n ?_
    refine x_mid (fun a_ w_ => ∃ o601 : Nat → Nat, ∃ x602 : Int, ∃ A603 : Option Addr, ∃ c604 : Nat, Kn 27 a_ [(3, .int .u32 x602), (7, .slice A603 (p0).length c604), (8, .int .i64 ((p0).length : Int)), (9, .int .i64 x441)] ∧ St [] w (fun _ => 0) w_ o601 ∧ Ft (RdC encStr A603 p0) w_ o601 0 ∧ Ft (RdC (encInt .u32) (some ⟨2, 0, none⟩) glob2) w_ o601 0 ∧ (p0).length ≤ c604 ∧ sum_Of_j3 x441 lp546 x602 = some r) ?_ ?_
    rotate_left
    · rintro a w607 ⟨o601, x602, A603, c604, hk, hs, f605, fg2, hc606, H⟩
      rw [sum_Of_j3] at H
      refine wpIn_region_lit ?_
      refine x_run tab hk (k := 2) (lv := []) (ks := [3, 7, 8, 9]) (e' := [(3, .int .u32 x602), (7, .slice A603 (p0).length c604), (8, .int .i64 ((p0).length : Int)), (9, .int .i64 (IntKind.wrap .i64 (x441 + 1)))]) rfl trivial fun a hk => ?_
      refine wpListIn_nil ?_
      refine then_n ?_
      exact ⟨k545, Nat.le_refl _, o601, x602, A603, c604, (IntKind.wrap .i64 (x441 + 1)), (by exact Kn.pick (ks := [3, 7, 8, 9]) hk rfl), hs, f605, fg2, hc606, (hlp547 ▸ H)⟩
    refine wpIn_block ?_
    refine x_seq ?_
    refine wpIn_region_lit ?_
    obtain ⟨q608, H⟩ := ifS H
    obtain ⟨ad609, hAad609⟩ := RdC.addr f439.now q608
    have hk_C := hk
    have f439_C := f439
    have fg2_C := fg2
    subst hAad609
    have hk := hk_C
    clear hk_C
    have f439 := f439_C
    clear f439_C
    have fg2 := fg2_C
    clear fg2_C
    refine x_run tab hk (k := 3) (lv := [.string (rdD (⟨#[]⟩ : ByteArray) p0 x441)]) (ks := [3, 5, 7, 8, 9]) (e' := [(3, .int .u32 x436), (5, .string (rdD (⟨#[]⟩ : ByteArray) p0 x441)), (7, .slice (some ad609) (p0).length c438), (8, .int .i64 ((p0).length : Int)), (9, .int .i64 x441)]) rfl ⟨q608, (load1 tab rfl (RdC.at0 (E := encStr) (d := (⟨#[]⟩ : ByteArray)) (i := x441) f439.now q608 rfl)), trivial⟩ fun a hk => ?_
    refine wpListIn_nil ?_
    refine then_n ?_
    refine x_seq ?_
    refine wpIn_region_lit ?_
    refine x_run tab hk (k := 3) (lv := []) (ks := [3, 5, 7, 8, 9, 14, 15]) (e' := [(3, .int .u32 x436), (5, .string (rdD (⟨#[]⟩ : ByteArray) p0 x441)), (7, .slice (some ad609) (p0).length c438), (8, .int .i64 ((p0).length : Int)), (9, .int .i64 x441), (14, .int .i64 (((rdD (⟨#[]⟩ : ByteArray) p0 x441)).size : Int)), (15, .int .i64 0)]) rfl trivial fun a hk => ?_
    refine wpListIn_nil ?_
    refine then_n ?_
    refine wpIn_block ?_
    refine x_loop (fun j_ a_ w_ => ∃ o623 : Nat → Nat, ∃ x624 : Int, ∃ x625 : Int, Kn 27 a_ [(3, .int .u32 x624), (5, .string (rdD (⟨#[]⟩ : ByteArray) p0 x441)), (7, .slice (some ad609) (p0).length c438), (8, .int .i64 ((p0).length : Int)), (9, .int .i64 x441), (14, .int .i64 (((rdD (⟨#[]⟩ : ByteArray) p0 x441)).size : Int)), (15, .int .i64 x625)] ∧ St [] w (fun _ => 0) w_ o623 ∧ Ft (RdC encStr (some ad609) p0) w_ o623 0 ∧ Ft (RdC (encInt .u32) (some ⟨2, 0, none⟩) glob2) w_ o623 0 ∧ sum_Of_l4 p0 x441 lp546 j_ x624 x625 = some r) (k := K) ⟨o435, x436, 0, (by exact Kn.pick (ks := [3, 5, 7, 8, 9, 14, 15]) hk rfl), hs, f439, fg2, H⟩ (fun _ _ z => z.elim fun _ z => z.elim fun _ z => z.elim fun _ z => z.elim fun _ z => z.elim fun _ z => z.elim fun _ z => z.elim fun _ z => absurd (show (none : Option Int) = some r from z) (by simp)) ?_
    rintro k637 a w636 ⟨o623, x624, x625, hk, hs, f439, fg2, H⟩
    rw [sum_Of_l4] at H
    obtain ⟨lp638, hlp639⟩ : ∃ lp_, lp_ = sum_Of_l4 p0 x441 lp546 k637 := ⟨_, rfl⟩
    rw [← hlp639] at H
    refine x_seq ?_
    refine wpIn_region_lit ?_
    refine x_run tab hk (k := 1) (lv := []) (ks := [3, 5, 7, 8, 9, 14, 15, 16]) (e' := [(3, .int .u32 x624), (5, .string (rdD (⟨#[]⟩ : ByteArray) p0 x441)), (7, .slice (some ad609) (p0).length c438), (8, .int .i64 ((p0).length : Int)), (9, .int .i64 x441), (14, .int .i64 (((rdD (⟨#[]⟩ : ByteArray) p0 x441)).size : Int)), (15, .int .i64 x625), (16, .bool (decide (x625 < (((rdD (⟨#[]⟩ : ByteArray) p0 x441)).size : Int))))]) rfl trivial fun a hk => ?_
    refine wpListIn_nil ?_
    refine then_n ?_
    refine x_seq ?_
    cases b640 : (decide (x625 < (((rdD (⟨#[]⟩ : ByteArray) p0 x441)).size : Int)))
    · rw [b640] at hk H
      replace H := bifF H
      refine x_if hk (b := false) rfl ?_
      refine (show Code.wpIn _ _ _ _ _ _ _ from ?_)
      refine wpIn_exit ?_
      refine then_x ?_
      refine then_x ?_
      refine blk_x ?_
      refine blk_n ?_
      refine then_n ?_
      exact ⟨o623, x624, (some ad609), c438, (by exact Kn.pick (ks := [3, 7, 8, 9]) hk rfl), hs, f439, fg2, hc440, H⟩
    · rw [b640] at hk H
      replace H := bifT H
      refine x_if hk (b := true) rfl ?_
      refine (show Code.wpIn _ _ _ _ _ _ _ from ?_)
      refine wpIn_skip ?_
      refine then_n ?_
      refine x_seq ?_
      refine wpIn_block ?_
      refine x_seq ?_
      refine wpIn_region_lit ?_
      refine x_run tab hk (k := 2) (lv := []) (ks := [3, 5, 6, 7, 8, 9, 14, 15]) (e' := [(3, .int .u32 x624), (5, .string (rdD (⟨#[]⟩ : ByteArray) p0 x441)), (6, .int .i64 x625), (7, .slice (some ad609) (p0).length c438), (8, .int .i64 ((p0).length : Int)), (9, .int .i64 x441), (14, .int .i64 (((rdD (⟨#[]⟩ : ByteArray) p0 x441)).size : Int)), (15, .int .i64 x625)]) rfl trivial fun a hk => ?_
      refine wpListIn_nil ?_
      refine then_n ?_
      refine wpIn_region_lit ?_
      obtain ⟨q641, H⟩ := ifS H
      refine x_run tab hk (k := 4) (lv := []) (ks := [5, 7, 8, 9, 14, 15, 18, 21]) (e' := [(5, .string (rdD (⟨#[]⟩ : ByteArray) p0 x441)), (7, .slice (some ad609) (p0).length c438), (8, .int .i64 ((p0).length : Int)), (9, .int .i64 x441), (14, .int .i64 (((rdD (⟨#[]⟩ : ByteArray) p0 x441)).size : Int)), (15, .int .i64 x625), (18, .int .u32 x624), (21, .int .u8 (bt (rdD (⟨#[]⟩ : ByteArray) p0 x441) x625))]) rfl ⟨q641, trivial⟩ fun a hk => ?_
      refine x_op hk rfl ?_
      obtain ⟨t645, hc646, H⟩ := bindS H
      refine op_call hk ent_88 (vs := [.int .u32 x624, .int .u8 (bt (rdD (⟨#[]⟩ : ByteArray) p0 x441) x625)]) rfl (sum_step_calls x624 (bt (rdD (⟨#[]⟩ : ByteArray) p0 x441) x625) _ o623 0 fg2   _ hc646) ?_
      rintro _ w647 ⟨o648, rfl, st649⟩
      replace f439 := f439.st st649 (by decide)
      replace fg2 := fg2.st st649 (by decide)
      replace hs := hs.loc0 st649 (by decide)
      have hk := hk.put 22 (.int .u32 t645) rfl
      refine x_run tab hk (k := 1) (lv := []) (ks := [3, 5, 7, 8, 9, 14, 15]) (e' := [(3, .int .u32 t645), (5, .string (rdD (⟨#[]⟩ : ByteArray) p0 x441)), (7, .slice (some ad609) (p0).length c438), (8, .int .i64 ((p0).length : Int)), (9, .int .i64 x441), (14, .int .i64 (((rdD (⟨#[]⟩ : ByteArray) p0 x441)).size : Int)), (15, .int .i64 x625)]) rfl trivial fun a hk => ?_
      refine wpListIn_nil ?_
      refine blk_n ?_
      refine then_n ?_
      refine wpIn_region_lit ?_
      refine x_run tab hk (k := 2) (lv := []) (ks := [3, 5, 7, 8, 9, 14, 15]) (e' := [(3, .int .u32 t645), (5, .string (rdD (⟨#[]⟩ : ByteArray) p0 x441)), (7, .slice (some ad609) (p0).length c438), (8, .int .i64 ((p0).length : Int)), (9, .int .i64 x441), (14, .int .i64 (((rdD (⟨#[]⟩ : ByteArray) p0 x441)).size : Int)), (15, .int .i64 (IntKind.wrap .i64 (x625 + 1)))]) rfl trivial fun a hk => ?_
      refine wpListIn_nil ?_
      refine then_n ?_
      exact ⟨k637, Nat.le_refl _, o648, t645, (IntKind.wrap .i64 (x625 + 1)), (by exact Kn.pick (ks := [3, 5, 7, 8, 9, 14, 15]) hk rfl), hs, f439, fg2, (hlp639 ▸ H)⟩

/-! tidewrack/book.next -/
set_option maxHeartbeats 4000000 in
set_option maxRecDepth 20000 in
theorem book_next_calls (K : Nat) (p0 : Int) (Ap1 : Option Addr) (cp1 : Nat) (p1 : List T46) (w : World) (o : Nat → Nat) (Lg2 : Nat) (hg2 : Ft (RdC (encInt .u32) (some ⟨2, 0, none⟩) glob2) w o Lg2) (Lp1 : Nat) (hp1 : Ft (RdC ET46 Ap1 p1) w o Lp1) (hcp1 : (p1).length ≤ cp1)  (r : Int) (H : book_next K p0 p1 = some r) :
    Calls Tryz.prog 31 #[.int .i64 p0, .slice Ap1 (p1).length cp1] w (Ret fun v_ w' => ∃ o' : Nat → Nat, v_ = .int .i64 r ∧ St [] w o w' o') := by
  refine x_enter (vs := [.int .i64 p0, .slice Ap1 (p1).length cp1]) Tryz.func31 rfl rfl rfl fun a hk => ?_
  obtain ⟨o0, hs, h0⟩ := St.start w o
  have fg2 := h0 _ _ hg2
  have f900020 := h0 _ _ hp1
  clear h0
  rw [book_next] at H
  refine x_seq ?_
  refine wpIn_region_lit ?_
  refine x_run tab hk (k := 1) (lv := []) (ks := [0, 1]) (e' := [(0, .int .i64 p0), (1, .slice Ap1 (p1).length cp1)]) rfl trivial fun a hk => ?_
  refine wpListIn_nil ?_
  refine then_n ?_
  refine x_seq ?_
  refine wpIn_region_lit ?_
  refine x_run tab hk (k := 6) (lv := []) (ks := [9, 10]) (e' := [(9, .int .i64 (Int.tmod (IntKind.wrap .i64 ((Int.tmod (IntKind.wrap .i64 (p0 * 256)) 281474976710597) * 256)) 281474976710597)), (10, .slice Ap1 (p1).length cp1)]) rfl ⟨(show (281474976710597 : Int) ≠ 0 from by decide), (show (281474976710597 : Int) ≠ 0 from by decide), trivial⟩ fun a hk => ?_
  refine x_op hk rfl ?_
  obtain ⟨t4, hc5, H⟩ := bindS H
  refine op_call hk ent_64 (vs := [.slice Ap1 (p1).length cp1]) rfl (book_Pack_calls K Ap1 cp1 p1 _ o0 _ f900020 hcp1   _ hc5) ?_
  rintro _ w6 ⟨o7, rfl, st8⟩
  replace f900020 := f900020.st st8 (by decide)
  replace fg2 := fg2.st st8 (by decide)
  replace hs := hs.loc0 st8 (by decide)
  have hk := hk.put 11 (.string t4) rfl
  refine x_op hk rfl ?_
  refine op_slice (o := o7) tab hk (vs := [.string t4]) (cs := [.string t4]) rfl rfl rfl rfl rfl rfl rfl rfl rfl 1 fun bx12 w9 o10 st11 f13 => ?_
  replace f900020 := f900020.st st11 (by decide)
  replace fg2 := fg2.st st11 (by decide)
  replace hs := hs.loc0 st11 (by decide)
  have f14 : Ft (Own encStr 9 (.slice (some ⟨bx12, 0, none⟩) (([t4] : List ByteArray)).length 1) ([t4] : List ByteArray)) w9 o10 1 := f13.imp fun _ h_ => Own.of_box h_ rfl (by simp)
  have hk := hk.put 12 (.slice (some ⟨bx12, 0, none⟩) (([t4] : List ByteArray)).length 1) rfl
  refine x_op hk rfl ?_
  obtain ⟨t18, hc19, H⟩ := bindS H
  refine op_call hk ent_63 (vs := [.slice (some ⟨bx12, 0, none⟩) (([t4] : List ByteArray)).length 1]) rfl (sum_Of_calls K (some ⟨bx12, 0, none⟩) 1 ([t4] : List ByteArray) _ o10 0 fg2 _ (f14.imp fun _ h_ => Own.rd h_) (Nat.le_refl _)   _ hc19) ?_
  rintro _ w20 ⟨o21, rfl, st22⟩
  replace f14 := f14.st st22 (by decide)
  replace f900020 := f900020.st st22 (by decide)
  replace fg2 := fg2.st st22 (by decide)
  replace hs := hs.loc0 st22 (by decide)
  have hk := hk.put 13 (.int .u32 t18) rfl
  refine x_run tab hk (k := 4) (lv := []) (ks := [4]) (e' := [(4, .int .i64 (Int.tmod (IntKind.wrap .i64 ((Int.tmod (IntKind.wrap .i64 ((Int.tmod (IntKind.wrap .i64 (p0 * 256)) 281474976710597) * 256)) 281474976710597) + (IntKind.wrap .i64 t18))) 281474976710597))]) rfl ⟨(show (281474976710597 : Int) ≠ 0 from by decide), trivial⟩ fun a hk => ?_
  refine wpListIn_nil ?_
  refine then_n ?_
  refine wpIn_ret ?_
  obtain rfl := Option.some.inj H
  exact x_retG hk (rs := [.tmp 4]) (vs := [.int .i64 (Int.tmod (IntKind.wrap .i64 ((Int.tmod (IntKind.wrap .i64 ((Int.tmod (IntKind.wrap .i64 (p0 * 256)) 281474976710597) * 256)) 281474976710597) + (IntKind.wrap .i64 t18))) 281474976710597)]) rfl ⟨rfl, trivial⟩ ⟨fun b_ => if b_ < w.heap.size then o b_ else (fun _ => 0) (o21 b_), rfl, hs.close0 o (fun _ => 0)⟩

/-! (*tidewrack/book.Book).close -/
abbrev R_91 (LF Lp0 Lp0_0 Lp0_1 Lp0_2 : Nat) (l_ : Nat) : Nat := if l_ = 1 then LF else if l_ = 2 then Lp0 else if l_ = 3 then Lp0_0 else if l_ = 4 then Lp0_1 else if l_ = 5 then Lp0_2 else 0
abbrev R_92 (l_ : Nat) : Nat := if l_ = 57 then 58 else l_
abbrev R_93 (l_ : Nat) : Nat := if l_ = 69 then 1 else l_
abbrev R_94 (l_ : Nat) : Nat := if l_ = 73 then 1 else l_
abbrev R_95 (l_ : Nat) : Nat := if l_ = 72 then 73 else l_
abbrev R_96 (l_ : Nat) : Nat := if l_ = 72 then 1 else l_
abbrev R_97 (l_ : Nat) : Nat := if l_ = 75 then 76 else l_
abbrev R_98 (l_ : Nat) : Nat := if l_ = 71 then 72 else l_
set_option maxHeartbeats 4000000 in
set_option maxRecDepth 20000 in
theorem book_Book_close_calls (K : Nat) (bp0 : Nat) (Ap0_0 : Option Addr) (cp0_0 : Nat) (Ap0_1 : Option Addr) (cp0_1 : Nat) (Ap0_2 : Option Addr) (cp0_2 : Nat) (p0 : T60) (Ap1 : Option Addr) (cp1 : Nat) (p1 : List T46) (w : World) (o : Nat → Nat) (LF : Nat) (Lg2 : Nat) (hg2 : Ft (RdC (encInt .u32) (some ⟨2, 0, none⟩) glob2) w o Lg2) (Lp0 : Nat) (hp0 : Ft (Bx bp0 61 [.slice Ap0_0 (p0.l).length cp0_0, .slice Ap0_1 (p0.chains).length cp0_1, .slice Ap0_2 (p0.begun).length cp0_2]) w o Lp0) (Lp0_0 : Nat) (hp0_0 : NOwn (dRows ET46) 43 Ap0_0 cp0_0 p0.l w o Lp0_0 LF) (hcp0_0 : (p0.l).length ≤ cp0_0) (Lp0_1 : Nat) (hp0_1 : Ft (Own (encInt .i64) 3 (.slice Ap0_1 (p0.chains).length cp0_1) p0.chains) w o Lp0_1) (hcp0_1 : (p0.chains).length ≤ cp0_1) (Lp0_2 : Nat) (hp0_2 : Ft (Own ET46 47 (.slice Ap0_2 (p0.begun).length cp0_2) p0.begun) w o Lp0_2) (hcp0_2 : (p0.begun).length ≤ cp0_2) (hp1 : Ft (RdC ET46 Ap1 p1) w o Lp0_2) (hcp1 : (p1).length ≤ cp1) (hd0 : ([LF, Lp0, Lp0_0, Lp0_1, Lp0_2] : List Nat).Nodup) (hd1 : Lg2 ∉ [LF, Lp0, Lp0_0, Lp0_1, Lp0_2]) (r : T60) (H : book_Book_close K p0 p1 = some r) :
    Calls Tryz.prog 15 #[.pointer (some ⟨bp0, 0, none⟩), .slice Ap1 (p1).length cp1] w (Ret fun v_ w' => ∃ o' : Nat → Nat, ∃ A0 : Option Addr, ∃ c0 : Nat, ∃ A1 : Option Addr, ∃ c1 : Nat, ∃ A2 : Option Addr, ∃ c2 : Nat, v_ = .tuple #[] ∧ St [Lp0, Lp0_0, Lp0_1] w o w' o' ∧ Ft (Bx bp0 61 [.slice A0 (r.l).length c0, .slice A1 (r.chains).length c1, .slice A2 (r.begun).length c2]) w' o' Lp0 ∧ NOwn (dRows ET46) 43 A0 c0 r.l w' o' Lp0_0 LF ∧ (r.l).length ≤ c0 ∧ Ft (Own (encInt .i64) 3 (.slice A1 (r.chains).length c1) r.chains) w' o' Lp0_1 ∧ (r.chains).length ≤ c1 ∧ Ft (Own ET46 47 (.slice A2 (r.begun).length c2) r.begun) w' o' Lp0_2 ∧ (r.begun).length ≤ c2) := by
  refine x_enter (vs := [.pointer (some ⟨bp0, 0, none⟩), .slice Ap1 (p1).length cp1]) Tryz.func15 rfl rfl rfl fun a hk => ?_
  obtain ⟨oi, hs0, h0, h1, hob, hoz, hoa⟩ := St.startM2 w o (m := 5) hd0 rfl
  have hs := hs0 [2, 3, 4]
  have fg2 := h0 _ _ hd1 hg2
  have f900000 := hp0_0.conv (fun _ h_ => h1 2 3 h_ rfl rfl) (fun _ h_ => h1 0 1 h_ rfl rfl)
  have f900001 := h1 3 4 hp0_1 rfl rfl
  have f900002 := h1 4 5 hp0_2 rfl rfl
  have f900019 := h1 1 2 hp0 rfl rfl
  have f900020 := h1 4 5 hp1 rfl rfl
  clear h0 h1 hs0
  rw [book_Book_close] at H
  refine x_seq ?_
  refine x_cut (fun a_ w_ => ∃ o308 : Nat → Nat, ∃ A309 : Option Addr, ∃ c310 : Nat, ∃ l311 : List (List T46), Kn 38 a_ [(0, .pointer (some ⟨bp0, 0, none⟩)), (1, .slice Ap1 (p1).length cp1)] ∧ St [2, 3, 4] w oi w_ o308 ∧ NOwn (dRows ET46) 43 A309 c310 l311 w_ o308 3 1 ∧ Ft (Own (encInt .i64) 3 (.slice Ap0_1 (p0.chains).length cp0_1) p0.chains) w_ o308 4 ∧ Ft (Own ET46 47 (.slice Ap0_2 (p0.begun).length cp0_2) p0.begun) w_ o308 5 ∧ Ft (Bx bp0 61 [.slice A309 (l311).length c310, .slice Ap0_1 (p0.chains).length cp0_1, .slice Ap0_2 (p0.begun).length cp0_2]) w_ o308 2 ∧ Ft (RdC ET46 Ap1 p1) w_ o308 5 ∧ Ft (RdC (encInt .u32) (some ⟨2, 0, none⟩) glob2) w_ o308 0 ∧ (l311).length ≤ c310 ∧ book_Book_close_j1 K p0 p1 l311 = some r) ?_ ?_
  rotate_left
  · refine fun a w314 z0 => z0.elim fun o308 z1 => z1.elim fun A309 z2 => z2.elim fun c310 z3 => z3.elim fun l311 z4 => z4.elim fun hk z5 => z5.elim fun hs z6 => z6.elim fun f312 z7 => z7.elim fun f900001 z8 => z8.elim fun f900002 z9 => z9.elim fun f900019 z10 => z10.elim fun f900020 z11 => z11.elim fun fg2 z12 => z12.elim fun hc313 H => ?_
    clear z0 z1 z2 z3 z4 z5 z6 z7 z8 z9 z10 z11 z12
    rw [book_Book_close_j1] at H
    refine then_n ?_
    refine x_cut (fun a_ w_ => ∃ o798 : Nat → Nat, ∃ A799 : Option Addr, ∃ c800 : Nat, ∃ l801 : List Int, Kn 38 a_ [] ∧ St [2, 3, 4] w oi w_ o798 ∧ NOwn (dRows ET46) 43 A309 c310 l311 w_ o798 3 1 ∧ Ft (Own (encInt .i64) 3 (.slice A799 (l801).length c800) l801) w_ o798 4 ∧ Ft (Own ET46 47 (.slice Ap0_2 (p0.begun).length cp0_2) p0.begun) w_ o798 5 ∧ Ft (Bx bp0 61 [.slice A309 (l311).length c310, .slice A799 (l801).length c800, .slice Ap0_2 (p0.begun).length cp0_2]) w_ o798 2 ∧ Ft (RdC (encInt .u32) (some ⟨2, 0, none⟩) glob2) w_ o798 0 ∧ (l801).length ≤ c800 ∧ book_Book_close_j2 p0 l311 l801 = some r) ?_ ?_
    rotate_left
    · refine fun a w804 z0 => z0.elim fun o798 z1 => z1.elim fun A799 z2 => z2.elim fun c800 z3 => z3.elim fun l801 z4 => z4.elim fun hk z5 => z5.elim fun hs z6 => z6.elim fun f312 z7 => z7.elim fun f802 z8 => z8.elim fun f900002 z9 => z9.elim fun f900019 z10 => z10.elim fun fg2 z11 => z11.elim fun hc803 H => ?_
      clear z0 z1 z2 z3 z4 z5 z6 z7 z8 z9 z10 z11
      rw [book_Book_close_j2] at H
      obtain rfl := Option.some.inj H
      exact x_endG hk (rs := []) (vs := []) rfl trivial ⟨cl w oi o [2, 3, 4] (R_91 LF Lp0 Lp0_0 Lp0_1 Lp0_2) o798, A309, c310, A799, c800, Ap0_2, cp0_2, rfl, hs.closeF (Lm := [Lp0, Lp0_0, Lp0_1]) (Sh := [Lp0_2]) hoa rfl (R_91 LF Lp0 Lp0_0 Lp0_1 Lp0_2), hs.closeM_ft (o := o) (ρ := R_91 LF Lp0 Lp0_0 Lp0_1 Lp0_2) f900019 (lab_at hoa (i := 1) rfl) rfl, f312.conv (fun _ h_ => hs.closeM_ft (o := o) (ρ := R_91 LF Lp0 Lp0_0 Lp0_1 Lp0_2) h_ (lab_at hoa (i := 2) rfl) rfl) (fun _ h_ => hs.closeM_ft (o := o) (ρ := R_91 LF Lp0 Lp0_0 Lp0_1 Lp0_2) h_ (lab_at hoa (i := 0) rfl) rfl), hc313, hs.closeM_ft (o := o) (ρ := R_91 LF Lp0 Lp0_0 Lp0_1 Lp0_2) f802 (lab_at hoa (i := 3) rfl) rfl, hc803, hs.closeM_ft (o := o) (ρ := R_91 LF Lp0 Lp0_0 Lp0_1 Lp0_2) f900002 (lab_at hoa (i := 4) rfl) rfl, hcp0_2⟩
    obtain ⟨q832, H⟩ := ifS H
    obtain ⟨ad833, hAad833⟩ := RdC.addr (Own.rd f900001.now) q832
    have hk_C := hk
    have f312_C := f312
    have f900001_C := f900001
    have f900002_C := f900002
    have f900019_C := f900019
    have f900020_C := f900020
    have fg2_C := fg2
    subst hAad833
    have hk := hk_C
    clear hk_C
    have f312 := f312_C
    clear f312_C
    have f900001 := f900001_C
    clear f900001_C
    have f900002 := f900002_C
    clear f900002_C
    have f900019 := f900019_C
    clear f900019_C
    have f900020 := f900020_C
    clear f900020_C
    have fg2 := fg2_C
    clear fg2_C
    obtain ⟨t837, hc838, H⟩ := bindS H
    obtain ⟨q851, H⟩ := ifS H
    refine xd_begin (o := o308) (fun W_ => True) mixed rfl rfl fun w1007 st1008 => ?_
    replace f312 := f312.st st1008 (by decide)
    replace f900001 := f900001.st st1008 (by decide)
    replace f900002 := f900002.st st1008 (by decide)
    replace f900019 := f900019.st st1008 (by decide)
    replace f900020 := f900020.st st1008 (by decide)
    replace fg2 := fg2.st st1008 (by decide)
    replace hs := hs.locQ st1008 hob rfl
    refine xd_abs fun G hG => ?_
    have N1020 : ∀ (a_ : Act) (w_ : World), (∃ o1018 : Nat → Nat, Kn 38 a_ [(15, .pointer (some ⟨bp0, 0, none⟩)), (19, .slice (some ad833) (p0.chains).length cp0_1), (23, .slice (some ad833) (p0.chains).length cp0_1), (26, .pointer (some ((⟨bp0, 0, none⟩ : Addr).add 1))), (32, .slice Ap1 (p1).length cp1)] ∧ St [2, 3, 4] w oi w_ o1018 ∧ NOwn (dRows ET46) 43 A309 c310 l311 w_ o1018 3 1 ∧ Ft (Own (encInt .i64) 3 (.slice (some ad833) (p0.chains).length cp0_1) p0.chains) w_ o1018 4 ∧ Ft (Own ET46 47 (.slice Ap0_2 (p0.begun).length cp0_2) p0.begun) w_ o1018 5 ∧ Ft (Bx bp0 61 [.slice A309 (l311).length c310, .slice (some ad833) (p0.chains).length cp0_1, .slice Ap0_2 (p0.begun).length cp0_2]) w_ o1018 2 ∧ Ft (RdC ET46 Ap1 p1) w_ o1018 5 ∧ Ft (RdC (encInt .u32) (some ⟨2, 0, none⟩) glob2) w_ o1018 0) → G 11 #[true, true, true, true, true, true, true, true, true, true, true, true, false, false, false, false, false, true, false, false, false, false, false, false] a_ w_ := by
      rintro a w1019 ⟨o1018, hk, hs, f312, f900001, f900002, f900019, f900020, fg2⟩
      refine xd_of hG ?_
      refine xd_op hk (i := 12) (by kernel_rfl) rfl rfl ?_
      refine op_quiet tab hk (lv := [.slice (some ad833) (p0.chains).length cp0_1]) (v := .slice (some ad833) (p0.chains).length cp0_1) rfl ⟨(load1 tab rfl ((Bx.cell f900019.now 1).trans rfl)), trivial⟩ ?_
      have hk := hk.put 27 (.slice (some ad833) (p0.chains).length cp0_1) rfl
      refine ⟨.inr trivial, ?_⟩
      refine xd_take tab hk (k := 7) (is := [13, 14, 15]) (ls' := #[true, true, true, true, true, true, true, true, true, true, true, true, true, true, true, true, false, true, false, false, false, false, false, false]) (lv := []) (ks := [15, 19, 30, 32]) (e' := [(15, .pointer (some ⟨bp0, 0, none⟩)), (19, .slice (some ad833) (p0.chains).length cp0_1), (30, .pointer (some (ad833.add (Int.toNat (IntKind.wrap .i64 (((p0.chains).length : Int) - 1)) * 1)))), (32, .slice Ap1 (p1).length cp1)]) (by kernel_rfl) rfl rfl (by kernel_rfl) (np_then np_body) trivial (fun W_ hS => ⟨q832, trivial⟩) fun a hk => ?_
      refine xd_op hk (i := 16) (by kernel_rfl) rfl rfl ?_
      refine op_quiet tab hk (lv := [.int .i64 (rdD 0 p0.chains (IntKind.wrap .i64 (((p0.chains).length : Int) - 1)))]) (v := .int .i64 (rdD 0 p0.chains (IntKind.wrap .i64 (((p0.chains).length : Int) - 1)))) rfl ⟨(load1 tab rfl (RdC.at0 (E := (encInt .i64)) (d := 0) (i := (IntKind.wrap .i64 (((p0.chains).length : Int) - 1))) (Own.rd f900001.now) q832 rfl)), trivial⟩ ?_
      have hk := hk.put 31 (.int .i64 (rdD 0 p0.chains (IntKind.wrap .i64 (((p0.chains).length : Int) - 1)))) rfl
      refine ⟨.inr trivial, ?_⟩
      refine xd_op hk (i := 18) (by kernel_rfl) rfl rfl ?_
      refine op_call hk ent_31 (vs := [.int .i64 (rdD 0 p0.chains (IntKind.wrap .i64 (((p0.chains).length : Int) - 1))), .slice Ap1 (p1).length cp1]) rfl (book_next_calls K (rdD 0 p0.chains (IntKind.wrap .i64 (((p0.chains).length : Int) - 1))) Ap1 cp1 p1 _ o1018 0 fg2 _ f900020 hcp1   _ hc838) ?_
      rintro _ w1024 ⟨o1025, rfl, st1026⟩
      replace f312 := f312.st st1026 (by decide)
      replace f900001 := f900001.st st1026 (by decide)
      replace f900002 := f900002.st st1026 (by decide)
      replace f900019 := f900019.st st1026 (by decide)
      replace f900020 := f900020.st st1026 (by decide)
      replace fg2 := fg2.st st1026 (by decide)
      replace hs := hs.locQ st1026 hob rfl
      have hk := hk.put 33 (.int .i64 t837) rfl
      refine ⟨.inr trivial, ?_⟩
      refine xd_op hk (i := 19) (by kernel_rfl) rfl rfl ?_
      refine op_slice (o := o1025) tab hk (vs := [.int .i64 t837]) (cs := [.int .i64 t837]) rfl rfl rfl rfl rfl rfl rfl rfl rfl 52 fun bx1030 w1027 o1028 st1029 f1031 => ?_
      replace f312 := f312.st st1029 (by decide)
      replace f900001 := f900001.st st1029 (by decide)
      replace f900002 := f900002.st st1029 (by decide)
      replace f900019 := f900019.st st1029 (by decide)
      replace f900020 := f900020.st st1029 (by decide)
      replace fg2 := fg2.st st1029 (by decide)
      replace hs := hs.locQ st1029 hob rfl
      have f1032 : Ft (Own (encInt .i64) 3 (.slice (some ⟨bx1030, 0, none⟩) (([t837] : List Int)).length 1) ([t837] : List Int)) w1027 o1028 52 := f1031.imp fun _ h_ => Own.of_box h_ rfl (by simp)
      have hk := hk.put 34 (.slice (some ⟨bx1030, 0, none⟩) (([t837] : List Int)).length 1) rfl
      refine ⟨.inr trivial, ?_⟩
      refine xd_op hk (i := 20) (by kernel_rfl) rfl rfl ?_
      refine op_append (o := o1028) (E := (encInt .i64)) (xs := p0.chains) (ys := ([t837] : List Int)) tab hk rfl rfl rfl rfl rfl rfl rfl f900001 (Own.rd f1032.now) q851 fun A1036 c1037 w1033 o1034 st1035 f1038 hc1039 => ?_
      replace f1032 := f1032.st st1035 (by decide)
      replace f312 := f312.st st1035 (by decide)
      replace f900002 := f900002.st st1035 (by decide)
      replace f900019 := f900019.st st1035 (by decide)
      replace f900020 := f900020.st st1035 (by decide)
      replace fg2 := fg2.st st1035 (by decide)
      replace hs := hs.locQ st1035 hob rfl
      have hk := hk.put 35 (.slice A1036 ((p0.chains ++ ([t837] : List Int))).length c1037) rfl
      refine ⟨.inr trivial, ?_⟩
      refine xd_take tab hk (k := 1) (is := [21, 22]) (ls' := #[true, true, true, true, true, true, true, true, true, true, true, true, true, true, true, true, true, true, true, true, true, true, true, false]) (lv := []) (ks := [35, 37]) (e' := [(35, .slice A1036 ((p0.chains ++ ([t837] : List Int))).length c1037), (37, .pointer (some ((⟨bp0, 0, none⟩ : Addr).add 1)))]) (by kernel_rfl) rfl rfl (by kernel_rfl) (np_then np_body) trivial (fun W_ hS => trivial) fun a hk => ?_
      refine xd_op hk (i := 23) (by kernel_rfl) rfl rfl ?_
      refine op_store tab hk (t := 27) (v := .slice A1036 ((p0.chains ++ ([t837] : List Int))).length c1037) (b := bp0) (k := 1) (cs' := [.slice A309 (l311).length c310, .slice A1036 ((p0.chains ++ ([t837] : List Int))).length c1037, .slice Ap0_2 (p0.begun).length cp0_2]) rfl rfl rfl rfl rfl rfl f900019 rfl rfl fun w1040 o1041 st1042 f900019_ => ?_
      replace f1032 := f1032.st st1042 (by decide)
      replace f1038 := f1038.st st1042 (by decide)
      replace f312 := f312.st st1042 (by decide)
      replace f900002 := f900002.st st1042 (by decide)
      replace f900020 := f900020.st st1042 (by decide)
      replace fg2 := fg2.st st1042 (by decide)
      replace hs := hs.locQ st1042 hob rfl
      replace f900019 := f900019_
      refine ⟨.inr trivial, ?_⟩
      refine xd_done (by kernel_rfl) ?_
      refine then_n ?_
      exact ⟨o1041, A1036, c1037, (p0.chains ++ ([t837] : List Int)), (by exact Kn.pick (ks := []) hk rfl), hs, f312, f1038, f900002, f900019, fg2, hc1039, H⟩
    have N1048 : ∀ (a_ : Act) (w_ : World), (∃ o1046 : Nat → Nat, Kn 38 a_ [(15, .pointer (some ⟨bp0, 0, none⟩)), (19, .slice (some ad833) (p0.chains).length cp0_1), (22, .pointer (some ((⟨bp0, 0, none⟩ : Addr).add 1))), (27, .slice (some ad833) (p0.chains).length cp0_1), (32, .slice Ap1 (p1).length cp1)] ∧ St [2, 3, 4] w oi w_ o1046 ∧ NOwn (dRows ET46) 43 A309 c310 l311 w_ o1046 3 1 ∧ Ft (Own (encInt .i64) 3 (.slice (some ad833) (p0.chains).length cp0_1) p0.chains) w_ o1046 4 ∧ Ft (Own ET46 47 (.slice Ap0_2 (p0.begun).length cp0_2) p0.begun) w_ o1046 5 ∧ Ft (Bx bp0 61 [.slice A309 (l311).length c310, .slice (some ad833) (p0.chains).length cp0_1, .slice Ap0_2 (p0.begun).length cp0_2]) w_ o1046 2 ∧ Ft (RdC ET46 Ap1 p1) w_ o1046 5 ∧ Ft (RdC (encInt .u32) (some ⟨2, 0, none⟩) glob2) w_ o1046 0) → G 11 #[true, true, true, true, true, true, true, true, false, true, true, true, true, false, false, false, false, true, false, false, false, false, false, false] a_ w_ := by
      rintro a w1047 ⟨o1046, hk, hs, f312, f900001, f900002, f900019, f900020, fg2⟩
      refine xd_of hG ?_
      refine xd_take tab hk (k := 9) (is := [13, 14]) (ls' := #[true, true, true, true, true, true, true, true, false, true, true, true, true, true, true, false, false, true, false, false, false, false, false, false]) (lv := []) (ks := [15, 19, 22, 29, 32]) (e' := [(15, .pointer (some ⟨bp0, 0, none⟩)), (19, .slice (some ad833) (p0.chains).length cp0_1), (22, .pointer (some ((⟨bp0, 0, none⟩ : Addr).add 1))), (29, .int .i64 (IntKind.wrap .i64 (((p0.chains).length : Int) - 1))), (32, .slice Ap1 (p1).length cp1)]) (by kernel_rfl) rfl rfl (by kernel_rfl) (np_then np_body) trivial (fun W_ hS => trivial) fun a hk => ?_
      refine xd_op hk (i := 8) (by kernel_rfl) rfl rfl ?_
      refine op_quiet tab hk (lv := [.slice (some ad833) (p0.chains).length cp0_1]) (v := .slice (some ad833) (p0.chains).length cp0_1) rfl ⟨(load1 tab rfl ((Bx.cell f900019.now 1).trans rfl)), trivial⟩ ?_
      have hk := hk.put 23 (.slice (some ad833) (p0.chains).length cp0_1) rfl
      refine ⟨.inr trivial, ?_⟩
      refine xd_take tab hk (k := 7) (is := [15]) (ls' := #[true, true, true, true, true, true, true, true, true, true, true, true, true, true, true, true, false, true, false, false, false, false, false, false]) (lv := []) (ks := [15, 19, 30, 32]) (e' := [(15, .pointer (some ⟨bp0, 0, none⟩)), (19, .slice (some ad833) (p0.chains).length cp0_1), (30, .pointer (some (ad833.add (Int.toNat (IntKind.wrap .i64 (((p0.chains).length : Int) - 1)) * 1)))), (32, .slice Ap1 (p1).length cp1)]) (by kernel_rfl) rfl rfl (by kernel_rfl) (np_then np_body) trivial (fun W_ hS => ⟨q832, trivial⟩) fun a hk => ?_
      refine xd_op hk (i := 16) (by kernel_rfl) rfl rfl ?_
      refine op_quiet tab hk (lv := [.int .i64 (rdD 0 p0.chains (IntKind.wrap .i64 (((p0.chains).length : Int) - 1)))]) (v := .int .i64 (rdD 0 p0.chains (IntKind.wrap .i64 (((p0.chains).length : Int) - 1)))) rfl ⟨(load1 tab rfl (RdC.at0 (E := (encInt .i64)) (d := 0) (i := (IntKind.wrap .i64 (((p0.chains).length : Int) - 1))) (Own.rd f900001.now) q832 rfl)), trivial⟩ ?_
      have hk := hk.put 31 (.int .i64 (rdD 0 p0.chains (IntKind.wrap .i64 (((p0.chains).length : Int) - 1)))) rfl
      refine ⟨.inr trivial, ?_⟩
      refine xd_op hk (i := 18) (by kernel_rfl) rfl rfl ?_
      refine op_call hk ent_31 (vs := [.int .i64 (rdD 0 p0.chains (IntKind.wrap .i64 (((p0.chains).length : Int) - 1))), .slice Ap1 (p1).length cp1]) rfl (book_next_calls K (rdD 0 p0.chains (IntKind.wrap .i64 (((p0.chains).length : Int) - 1))) Ap1 cp1 p1 _ o1046 0 fg2 _ f900020 hcp1   _ hc838) ?_
      rintro _ w1052 ⟨o1053, rfl, st1054⟩
      replace f312 := f312.st st1054 (by decide)
      replace f900001 := f900001.st st1054 (by decide)
      replace f900002 := f900002.st st1054 (by decide)
      replace f900019 := f900019.st st1054 (by decide)
      replace f900020 := f900020.st st1054 (by decide)
      replace fg2 := fg2.st st1054 (by decide)
      replace hs := hs.locQ st1054 hob rfl
      have hk := hk.put 33 (.int .i64 t837) rfl
      refine ⟨.inr trivial, ?_⟩
      refine xd_op hk (i := 19) (by kernel_rfl) rfl rfl ?_
      refine op_slice (o := o1053) tab hk (vs := [.int .i64 t837]) (cs := [.int .i64 t837]) rfl rfl rfl rfl rfl rfl rfl rfl rfl 53 fun bx1058 w1055 o1056 st1057 f1059 => ?_
      replace f312 := f312.st st1057 (by decide)
      replace f900001 := f900001.st st1057 (by decide)
      replace f900002 := f900002.st st1057 (by decide)
      replace f900019 := f900019.st st1057 (by decide)
      replace f900020 := f900020.st st1057 (by decide)
      replace fg2 := fg2.st st1057 (by decide)
      replace hs := hs.locQ st1057 hob rfl
      have f1060 : Ft (Own (encInt .i64) 3 (.slice (some ⟨bx1058, 0, none⟩) (([t837] : List Int)).length 1) ([t837] : List Int)) w1055 o1056 53 := f1059.imp fun _ h_ => Own.of_box h_ rfl (by simp)
      have hk := hk.put 34 (.slice (some ⟨bx1058, 0, none⟩) (([t837] : List Int)).length 1) rfl
      refine ⟨.inr trivial, ?_⟩
      refine xd_op hk (i := 20) (by kernel_rfl) rfl rfl ?_
      refine op_append (o := o1056) (E := (encInt .i64)) (xs := p0.chains) (ys := ([t837] : List Int)) tab hk rfl rfl rfl rfl rfl rfl rfl f900001 (Own.rd f1060.now) q851 fun A1064 c1065 w1061 o1062 st1063 f1066 hc1067 => ?_
      replace f1060 := f1060.st st1063 (by decide)
      replace f312 := f312.st st1063 (by decide)
      replace f900002 := f900002.st st1063 (by decide)
      replace f900019 := f900019.st st1063 (by decide)
      replace f900020 := f900020.st st1063 (by decide)
      replace fg2 := fg2.st st1063 (by decide)
      replace hs := hs.locQ st1063 hob rfl
      have hk := hk.put 35 (.slice A1064 ((p0.chains ++ ([t837] : List Int))).length c1065) rfl
      refine ⟨.inr trivial, ?_⟩
      refine xd_take tab hk (k := 1) (is := [21, 22]) (ls' := #[true, true, true, true, true, true, true, true, true, true, true, true, true, true, true, true, true, true, true, true, true, true, true, false]) (lv := []) (ks := [35, 37]) (e' := [(35, .slice A1064 ((p0.chains ++ ([t837] : List Int))).length c1065), (37, .pointer (some ((⟨bp0, 0, none⟩ : Addr).add 1)))]) (by kernel_rfl) rfl rfl (by kernel_rfl) (np_then np_body) trivial (fun W_ hS => trivial) fun a hk => ?_
      refine xd_op hk (i := 23) (by kernel_rfl) rfl rfl ?_
      refine op_store tab hk (t := 27) (v := .slice A1064 ((p0.chains ++ ([t837] : List Int))).length c1065) (b := bp0) (k := 1) (cs' := [.slice A309 (l311).length c310, .slice A1064 ((p0.chains ++ ([t837] : List Int))).length c1065, .slice Ap0_2 (p0.begun).length cp0_2]) rfl rfl rfl rfl rfl rfl f900019 rfl rfl fun w1068 o1069 st1070 f900019_ => ?_
      replace f1060 := f1060.st st1070 (by decide)
      replace f1066 := f1066.st st1070 (by decide)
      replace f312 := f312.st st1070 (by decide)
      replace f900002 := f900002.st st1070 (by decide)
      replace f900020 := f900020.st st1070 (by decide)
      replace fg2 := fg2.st st1070 (by decide)
      replace hs := hs.locQ st1070 hob rfl
      replace f900019 := f900019_
      refine ⟨.inr trivial, ?_⟩
      refine xd_done (by kernel_rfl) ?_
      refine then_n ?_
      exact ⟨o1069, A1064, c1065, (p0.chains ++ ([t837] : List Int)), (by exact Kn.pick (ks := []) hk rfl), hs, f312, f1066, f900002, f900019, fg2, hc1067, H⟩
    have N1014 : ∀ (a_ : Act) (w_ : World), (∃ o1012 : Nat → Nat, Kn 38 a_ [(15, .pointer (some ⟨bp0, 0, none⟩)), (19, .slice (some ad833) (p0.chains).length cp0_1), (22, .pointer (some ((⟨bp0, 0, none⟩ : Addr).add 1))), (26, .pointer (some ((⟨bp0, 0, none⟩ : Addr).add 1))), (32, .slice Ap1 (p1).length cp1)] ∧ St [2, 3, 4] w oi w_ o1012 ∧ NOwn (dRows ET46) 43 A309 c310 l311 w_ o1012 3 1 ∧ Ft (Own (encInt .i64) 3 (.slice (some ad833) (p0.chains).length cp0_1) p0.chains) w_ o1012 4 ∧ Ft (Own ET46 47 (.slice Ap0_2 (p0.begun).length cp0_2) p0.begun) w_ o1012 5 ∧ Ft (Bx bp0 61 [.slice A309 (l311).length c310, .slice (some ad833) (p0.chains).length cp0_1, .slice Ap0_2 (p0.begun).length cp0_2]) w_ o1012 2 ∧ Ft (RdC ET46 Ap1 p1) w_ o1012 5 ∧ Ft (RdC (encInt .u32) (some ⟨2, 0, none⟩) glob2) w_ o1012 0) → G 12 #[true, true, true, true, true, true, true, true, false, true, true, true, false, false, false, false, false, true, false, false, false, false, false, false] a_ w_ := by
      rintro a w1013 ⟨o1012, hk, hs, f312, f900001, f900002, f900019, f900020, fg2⟩
      refine xd_of hG ?_
      refine xd_each [8, 12] (by kernel_rfl) rfl ⟨?_, ?_, trivial⟩
      · refine xd_one hk rfl rfl ?_
        refine op_quiet tab hk (lv := [.slice (some ad833) (p0.chains).length cp0_1]) (v := .slice (some ad833) (p0.chains).length cp0_1) rfl ⟨(load1 tab rfl ((Bx.cell f900019.now 1).trans rfl)), trivial⟩ ?_
        have hk := hk.put 23 (.slice (some ad833) (p0.chains).length cp0_1) rfl
        refine ⟨.inr trivial, ?_⟩
        exact xd_to hG rfl (N1020 _ _ ⟨o1012, (by exact Kn.pick (ks := [15, 19, 23, 26, 32]) hk rfl), hs, f312, f900001, f900002, f900019, f900020, fg2⟩)
      · refine xd_one hk rfl rfl ?_
        refine op_quiet tab hk (lv := [.slice (some ad833) (p0.chains).length cp0_1]) (v := .slice (some ad833) (p0.chains).length cp0_1) rfl ⟨(load1 tab rfl ((Bx.cell f900019.now 1).trans rfl)), trivial⟩ ?_
        have hk := hk.put 27 (.slice (some ad833) (p0.chains).length cp0_1) rfl
        refine ⟨.inr trivial, ?_⟩
        exact xd_to hG rfl (N1048 _ _ ⟨o1012, (by exact Kn.pick (ks := [15, 19, 22, 27, 32]) hk rfl), hs, f312, f900001, f900002, f900019, f900020, fg2⟩)
    have N1088 : ∀ (a_ : Act) (w_ : World), (∃ o1086 : Nat → Nat, Kn 38 a_ [(15, .pointer (some ⟨bp0, 0, none⟩)), (19, .slice (some ad833) (p0.chains).length cp0_1), (30, .pointer (some (ad833.add (Int.toNat (IntKind.wrap .i64 (((p0.chains).length : Int) - 1)) * 1)))), (32, .slice Ap1 (p1).length cp1)] ∧ St [2, 3, 4] w oi w_ o1086 ∧ NOwn (dRows ET46) 43 A309 c310 l311 w_ o1086 3 1 ∧ Ft (Own (encInt .i64) 3 (.slice (some ad833) (p0.chains).length cp0_1) p0.chains) w_ o1086 4 ∧ Ft (Own ET46 47 (.slice Ap0_2 (p0.begun).length cp0_2) p0.begun) w_ o1086 5 ∧ Ft (Bx bp0 61 [.slice A309 (l311).length c310, .slice (some ad833) (p0.chains).length cp0_1, .slice Ap0_2 (p0.begun).length cp0_2]) w_ o1086 2 ∧ Ft (RdC ET46 Ap1 p1) w_ o1086 5 ∧ Ft (RdC (encInt .u32) (some ⟨2, 0, none⟩) glob2) w_ o1086 0) → G 7 #[true, true, true, true, true, true, true, true, true, true, true, true, true, true, true, true, false, true, false, false, false, false, false, false] a_ w_ := by
      rintro a w1087 ⟨o1086, hk, hs, f312, f900001, f900002, f900019, f900020, fg2⟩
      refine xd_of hG ?_
      refine xd_op hk (i := 16) (by kernel_rfl) rfl rfl ?_
      refine op_quiet tab hk (lv := [.int .i64 (rdD 0 p0.chains (IntKind.wrap .i64 (((p0.chains).length : Int) - 1)))]) (v := .int .i64 (rdD 0 p0.chains (IntKind.wrap .i64 (((p0.chains).length : Int) - 1)))) rfl ⟨(load1 tab rfl (RdC.at0 (E := (encInt .i64)) (d := 0) (i := (IntKind.wrap .i64 (((p0.chains).length : Int) - 1))) (Own.rd f900001.now) q832 rfl)), trivial⟩ ?_
      have hk := hk.put 31 (.int .i64 (rdD 0 p0.chains (IntKind.wrap .i64 (((p0.chains).length : Int) - 1)))) rfl
      refine ⟨.inr trivial, ?_⟩
      refine xd_op hk (i := 18) (by kernel_rfl) rfl rfl ?_
      refine op_call hk ent_31 (vs := [.int .i64 (rdD 0 p0.chains (IntKind.wrap .i64 (((p0.chains).length : Int) - 1))), .slice Ap1 (p1).length cp1]) rfl (book_next_calls K (rdD 0 p0.chains (IntKind.wrap .i64 (((p0.chains).length : Int) - 1))) Ap1 cp1 p1 _ o1086 0 fg2 _ f900020 hcp1   _ hc838) ?_
      rintro _ w1092 ⟨o1093, rfl, st1094⟩
      replace f312 := f312.st st1094 (by decide)
      replace f900001 := f900001.st st1094 (by decide)
      replace f900002 := f900002.st st1094 (by decide)
      replace f900019 := f900019.st st1094 (by decide)
      replace f900020 := f900020.st st1094 (by decide)
      replace fg2 := fg2.st st1094 (by decide)
      replace hs := hs.locQ st1094 hob rfl
      have hk := hk.put 33 (.int .i64 t837) rfl
      refine ⟨.inr trivial, ?_⟩
      refine xd_op hk (i := 19) (by kernel_rfl) rfl rfl ?_
      refine op_slice (o := o1093) tab hk (vs := [.int .i64 t837]) (cs := [.int .i64 t837]) rfl rfl rfl rfl rfl rfl rfl rfl rfl 54 fun bx1098 w1095 o1096 st1097 f1099 => ?_
      replace f312 := f312.st st1097 (by decide)
      replace f900001 := f900001.st st1097 (by decide)
      replace f900002 := f900002.st st1097 (by decide)
      replace f900019 := f900019.st st1097 (by decide)
      replace f900020 := f900020.st st1097 (by decide)
      replace fg2 := fg2.st st1097 (by decide)
      replace hs := hs.locQ st1097 hob rfl
      have f1100 : Ft (Own (encInt .i64) 3 (.slice (some ⟨bx1098, 0, none⟩) (([t837] : List Int)).length 1) ([t837] : List Int)) w1095 o1096 54 := f1099.imp fun _ h_ => Own.of_box h_ rfl (by simp)
      have hk := hk.put 34 (.slice (some ⟨bx1098, 0, none⟩) (([t837] : List Int)).length 1) rfl
      refine ⟨.inr trivial, ?_⟩
      refine xd_op hk (i := 20) (by kernel_rfl) rfl rfl ?_
      refine op_append (o := o1096) (E := (encInt .i64)) (xs := p0.chains) (ys := ([t837] : List Int)) tab hk rfl rfl rfl rfl rfl rfl rfl f900001 (Own.rd f1100.now) q851 fun A1104 c1105 w1101 o1102 st1103 f1106 hc1107 => ?_
      replace f1100 := f1100.st st1103 (by decide)
      replace f312 := f312.st st1103 (by decide)
      replace f900002 := f900002.st st1103 (by decide)
      replace f900019 := f900019.st st1103 (by decide)
      replace f900020 := f900020.st st1103 (by decide)
      replace fg2 := fg2.st st1103 (by decide)
      replace hs := hs.locQ st1103 hob rfl
      have hk := hk.put 35 (.slice A1104 ((p0.chains ++ ([t837] : List Int))).length c1105) rfl
      refine ⟨.inr trivial, ?_⟩
      refine xd_take tab hk (k := 1) (is := [21, 22]) (ls' := #[true, true, true, true, true, true, true, true, true, true, true, true, true, true, true, true, true, true, true, true, true, true, true, false]) (lv := []) (ks := [35, 37]) (e' := [(35, .slice A1104 ((p0.chains ++ ([t837] : List Int))).length c1105), (37, .pointer (some ((⟨bp0, 0, none⟩ : Addr).add 1)))]) (by kernel_rfl) rfl rfl (by kernel_rfl) (np_then np_body) trivial (fun W_ hS => trivial) fun a hk => ?_
      refine xd_op hk (i := 23) (by kernel_rfl) rfl rfl ?_
      refine op_store tab hk (t := 27) (v := .slice A1104 ((p0.chains ++ ([t837] : List Int))).length c1105) (b := bp0) (k := 1) (cs' := [.slice A309 (l311).length c310, .slice A1104 ((p0.chains ++ ([t837] : List Int))).length c1105, .slice Ap0_2 (p0.begun).length cp0_2]) rfl rfl rfl rfl rfl rfl f900019 rfl rfl fun w1108 o1109 st1110 f900019_ => ?_
      replace f1100 := f1100.st st1110 (by decide)
      replace f1106 := f1106.st st1110 (by decide)
      replace f312 := f312.st st1110 (by decide)
      replace f900002 := f900002.st st1110 (by decide)
      replace f900020 := f900020.st st1110 (by decide)
      replace fg2 := fg2.st st1110 (by decide)
      replace hs := hs.locQ st1110 hob rfl
      replace f900019 := f900019_
      refine ⟨.inr trivial, ?_⟩
      refine xd_done (by kernel_rfl) ?_
      refine then_n ?_
      exact ⟨o1109, A1104, c1105, (p0.chains ++ ([t837] : List Int)), (by exact Kn.pick (ks := []) hk rfl), hs, f312, f1106, f900002, f900019, fg2, hc1107, H⟩
    have N1122 : ∀ (a_ : Act) (w_ : World), (∃ o1120 : Nat → Nat, Kn 38 a_ [(15, .pointer (some ⟨bp0, 0, none⟩)), (19, .slice (some ad833) (p0.chains).length cp0_1), (31, .int .i64 (rdD 0 p0.chains (IntKind.wrap .i64 (((p0.chains).length : Int) - 1)))), (32, .slice Ap1 (p1).length cp1)] ∧ St [2, 3, 4] w oi w_ o1120 ∧ NOwn (dRows ET46) 43 A309 c310 l311 w_ o1120 3 1 ∧ Ft (Own (encInt .i64) 3 (.slice (some ad833) (p0.chains).length cp0_1) p0.chains) w_ o1120 4 ∧ Ft (Own ET46 47 (.slice Ap0_2 (p0.begun).length cp0_2) p0.begun) w_ o1120 5 ∧ Ft (Bx bp0 61 [.slice A309 (l311).length c310, .slice (some ad833) (p0.chains).length cp0_1, .slice Ap0_2 (p0.begun).length cp0_2]) w_ o1120 2 ∧ Ft (RdC ET46 Ap1 p1) w_ o1120 5 ∧ Ft (RdC (encInt .u32) (some ⟨2, 0, none⟩) glob2) w_ o1120 0) → G 6 #[true, true, true, true, true, true, true, true, true, true, true, true, true, true, true, true, true, true, false, false, false, false, false, false] a_ w_ := by
      rintro a w1121 ⟨o1120, hk, hs, f312, f900001, f900002, f900019, f900020, fg2⟩
      refine xd_of hG ?_
      refine xd_op hk (i := 18) (by kernel_rfl) rfl rfl ?_
      refine op_call hk ent_31 (vs := [.int .i64 (rdD 0 p0.chains (IntKind.wrap .i64 (((p0.chains).length : Int) - 1))), .slice Ap1 (p1).length cp1]) rfl (book_next_calls K (rdD 0 p0.chains (IntKind.wrap .i64 (((p0.chains).length : Int) - 1))) Ap1 cp1 p1 _ o1120 0 fg2 _ f900020 hcp1   _ hc838) ?_
      rintro _ w1126 ⟨o1127, rfl, st1128⟩
      replace f312 := f312.st st1128 (by decide)
      replace f900001 := f900001.st st1128 (by decide)
      replace f900002 := f900002.st st1128 (by decide)
      replace f900019 := f900019.st st1128 (by decide)
      replace f900020 := f900020.st st1128 (by decide)
      replace fg2 := fg2.st st1128 (by decide)
      replace hs := hs.locQ st1128 hob rfl
      have hk := hk.put 33 (.int .i64 t837) rfl
      refine ⟨.inr trivial, ?_⟩
      refine xd_op hk (i := 19) (by kernel_rfl) rfl rfl ?_
      refine op_slice (o := o1127) tab hk (vs := [.int .i64 t837]) (cs := [.int .i64 t837]) rfl rfl rfl rfl rfl rfl rfl rfl rfl 55 fun bx1132 w1129 o1130 st1131 f1133 => ?_
      replace f312 := f312.st st1131 (by decide)
      replace f900001 := f900001.st st1131 (by decide)
      replace f900002 := f900002.st st1131 (by decide)
      replace f900019 := f900019.st st1131 (by decide)
      replace f900020 := f900020.st st1131 (by decide)
      replace fg2 := fg2.st st1131 (by decide)
      replace hs := hs.locQ st1131 hob rfl
      have f1134 : Ft (Own (encInt .i64) 3 (.slice (some ⟨bx1132, 0, none⟩) (([t837] : List Int)).length 1) ([t837] : List Int)) w1129 o1130 55 := f1133.imp fun _ h_ => Own.of_box h_ rfl (by simp)
      have hk := hk.put 34 (.slice (some ⟨bx1132, 0, none⟩) (([t837] : List Int)).length 1) rfl
      refine ⟨.inr trivial, ?_⟩
      refine xd_op hk (i := 20) (by kernel_rfl) rfl rfl ?_
      refine op_append (o := o1130) (E := (encInt .i64)) (xs := p0.chains) (ys := ([t837] : List Int)) tab hk rfl rfl rfl rfl rfl rfl rfl f900001 (Own.rd f1134.now) q851 fun A1138 c1139 w1135 o1136 st1137 f1140 hc1141 => ?_
      replace f1134 := f1134.st st1137 (by decide)
      replace f312 := f312.st st1137 (by decide)
      replace f900002 := f900002.st st1137 (by decide)
      replace f900019 := f900019.st st1137 (by decide)
      replace f900020 := f900020.st st1137 (by decide)
      replace fg2 := fg2.st st1137 (by decide)
      replace hs := hs.locQ st1137 hob rfl
      have hk := hk.put 35 (.slice A1138 ((p0.chains ++ ([t837] : List Int))).length c1139) rfl
      refine ⟨.inr trivial, ?_⟩
      refine xd_take tab hk (k := 1) (is := [21, 22]) (ls' := #[true, true, true, true, true, true, true, true, true, true, true, true, true, true, true, true, true, true, true, true, true, true, true, false]) (lv := []) (ks := [35, 37]) (e' := [(35, .slice A1138 ((p0.chains ++ ([t837] : List Int))).length c1139), (37, .pointer (some ((⟨bp0, 0, none⟩ : Addr).add 1)))]) (by kernel_rfl) rfl rfl (by kernel_rfl) (np_then np_body) trivial (fun W_ hS => trivial) fun a hk => ?_
      refine xd_op hk (i := 23) (by kernel_rfl) rfl rfl ?_
      refine op_store tab hk (t := 27) (v := .slice A1138 ((p0.chains ++ ([t837] : List Int))).length c1139) (b := bp0) (k := 1) (cs' := [.slice A309 (l311).length c310, .slice A1138 ((p0.chains ++ ([t837] : List Int))).length c1139, .slice Ap0_2 (p0.begun).length cp0_2]) rfl rfl rfl rfl rfl rfl f900019 rfl rfl fun w1142 o1143 st1144 f900019_ => ?_
      replace f1134 := f1134.st st1144 (by decide)
      replace f1140 := f1140.st st1144 (by decide)
      replace f312 := f312.st st1144 (by decide)
      replace f900002 := f900002.st st1144 (by decide)
      replace f900020 := f900020.st st1144 (by decide)
      replace fg2 := fg2.st st1144 (by decide)
      replace hs := hs.locQ st1144 hob rfl
      replace f900019 := f900019_
      refine ⟨.inr trivial, ?_⟩
      refine xd_done (by kernel_rfl) ?_
      refine then_n ?_
      exact ⟨o1143, A1138, c1139, (p0.chains ++ ([t837] : List Int)), (by exact Kn.pick (ks := []) hk rfl), hs, f312, f1140, f900002, f900019, fg2, hc1141, H⟩
    have N1162 : ∀ (a_ : Act) (w_ : World), (∃ o1160 : Nat → Nat, Kn 38 a_ [(15, .pointer (some ⟨bp0, 0, none⟩)), (19, .slice (some ad833) (p0.chains).length cp0_1), (33, .int .i64 t837)] ∧ St [2, 3, 4] w oi w_ o1160 ∧ NOwn (dRows ET46) 43 A309 c310 l311 w_ o1160 3 1 ∧ Ft (Own (encInt .i64) 3 (.slice (some ad833) (p0.chains).length cp0_1) p0.chains) w_ o1160 4 ∧ Ft (Own ET46 47 (.slice Ap0_2 (p0.begun).length cp0_2) p0.begun) w_ o1160 5 ∧ Ft (Bx bp0 61 [.slice A309 (l311).length c310, .slice (some ad833) (p0.chains).length cp0_1, .slice Ap0_2 (p0.begun).length cp0_2]) w_ o1160 2 ∧ Ft (RdC (encInt .u32) (some ⟨2, 0, none⟩) glob2) w_ o1160 0) → G 5 #[true, true, true, true, true, true, true, true, true, true, true, true, true, true, true, true, true, true, true, false, false, false, false, false] a_ w_ := by
      rintro a w1161 ⟨o1160, hk, hs, f312, f900001, f900002, f900019, fg2⟩
      refine xd_of hG ?_
      refine xd_op hk (i := 19) (by kernel_rfl) rfl rfl ?_
      refine op_slice (o := o1160) tab hk (vs := [.int .i64 t837]) (cs := [.int .i64 t837]) rfl rfl rfl rfl rfl rfl rfl rfl rfl 56 fun bx1166 w1163 o1164 st1165 f1167 => ?_
      replace f312 := f312.st st1165 (by decide)
      replace f900001 := f900001.st st1165 (by decide)
      replace f900002 := f900002.st st1165 (by decide)
      replace f900019 := f900019.st st1165 (by decide)
      replace fg2 := fg2.st st1165 (by decide)
      replace hs := hs.locQ st1165 hob rfl
      have f1168 : Ft (Own (encInt .i64) 3 (.slice (some ⟨bx1166, 0, none⟩) (([t837] : List Int)).length 1) ([t837] : List Int)) w1163 o1164 56 := f1167.imp fun _ h_ => Own.of_box h_ rfl (by simp)
      have hk := hk.put 34 (.slice (some ⟨bx1166, 0, none⟩) (([t837] : List Int)).length 1) rfl
      refine ⟨.inr trivial, ?_⟩
      refine xd_op hk (i := 20) (by kernel_rfl) rfl rfl ?_
      refine op_append (o := o1164) (E := (encInt .i64)) (xs := p0.chains) (ys := ([t837] : List Int)) tab hk rfl rfl rfl rfl rfl rfl rfl f900001 (Own.rd f1168.now) q851 fun A1172 c1173 w1169 o1170 st1171 f1174 hc1175 => ?_
      replace f1168 := f1168.st st1171 (by decide)
      replace f312 := f312.st st1171 (by decide)
      replace f900002 := f900002.st st1171 (by decide)
      replace f900019 := f900019.st st1171 (by decide)
      replace fg2 := fg2.st st1171 (by decide)
      replace hs := hs.locQ st1171 hob rfl
      have hk := hk.put 35 (.slice A1172 ((p0.chains ++ ([t837] : List Int))).length c1173) rfl
      refine ⟨.inr trivial, ?_⟩
      refine xd_take tab hk (k := 1) (is := [21, 22]) (ls' := #[true, true, true, true, true, true, true, true, true, true, true, true, true, true, true, true, true, true, true, true, true, true, true, false]) (lv := []) (ks := [35, 37]) (e' := [(35, .slice A1172 ((p0.chains ++ ([t837] : List Int))).length c1173), (37, .pointer (some ((⟨bp0, 0, none⟩ : Addr).add 1)))]) (by kernel_rfl) rfl rfl (by kernel_rfl) (np_then np_body) trivial (fun W_ hS => trivial) fun a hk => ?_
      refine xd_op hk (i := 23) (by kernel_rfl) rfl rfl ?_
      refine op_store tab hk (t := 27) (v := .slice A1172 ((p0.chains ++ ([t837] : List Int))).length c1173) (b := bp0) (k := 1) (cs' := [.slice A309 (l311).length c310, .slice A1172 ((p0.chains ++ ([t837] : List Int))).length c1173, .slice Ap0_2 (p0.begun).length cp0_2]) rfl rfl rfl rfl rfl rfl f900019 rfl rfl fun w1176 o1177 st1178 f900019_ => ?_
      replace f1168 := f1168.st st1178 (by decide)
      replace f1174 := f1174.st st1178 (by decide)
      replace f312 := f312.st st1178 (by decide)
      replace f900002 := f900002.st st1178 (by decide)
      replace fg2 := fg2.st st1178 (by decide)
      replace hs := hs.locQ st1178 hob rfl
      replace f900019 := f900019_
      refine ⟨.inr trivial, ?_⟩
      refine xd_done (by kernel_rfl) ?_
      refine then_n ?_
      exact ⟨o1177, A1172, c1173, (p0.chains ++ ([t837] : List Int)), (by exact Kn.pick (ks := []) hk rfl), hs, f312, f1174, f900002, f900019, fg2, hc1175, H⟩
    have N1200 : ∀ (a_ : Act) (w_ : World), (∃ o1194 : Nat → Nat, ∃ A1195 : Option Addr, ∃ c1196 : Nat, Kn 38 a_ [(15, .pointer (some ⟨bp0, 0, none⟩)), (18, .pointer (some ((⟨bp0, 0, none⟩ : Addr).add 1))), (34, .slice A1195 (([t837] : List Int)).length c1196)] ∧ St [2, 3, 4] w oi w_ o1194 ∧ Ft (Own (encInt .i64) 3 (.slice A1195 (([t837] : List Int)).length c1196) ([t837] : List Int)) w_ o1194 58 ∧ NOwn (dRows ET46) 43 A309 c310 l311 w_ o1194 3 1 ∧ Ft (Own (encInt .i64) 3 (.slice (some ad833) (p0.chains).length cp0_1) p0.chains) w_ o1194 4 ∧ Ft (Own ET46 47 (.slice Ap0_2 (p0.begun).length cp0_2) p0.begun) w_ o1194 5 ∧ Ft (Bx bp0 61 [.slice A309 (l311).length c310, .slice (some ad833) (p0.chains).length cp0_1, .slice Ap0_2 (p0.begun).length cp0_2]) w_ o1194 2 ∧ Ft (RdC (encInt .u32) (some ⟨2, 0, none⟩) glob2) w_ o1194 0 ∧ (([t837] : List Int)).length ≤ c1196) → G 5 #[true, true, true, true, false, true, true, true, true, true, true, true, true, true, true, true, true, true, true, true, false, false, false, false] a_ w_ := by
      refine fun a w1199 z0 => z0.elim fun o1194 z1 => z1.elim fun A1195 z2 => z2.elim fun c1196 z3 => z3.elim fun hk z4 => z4.elim fun hs z5 => z5.elim fun f1197 z6 => z6.elim fun f312 z7 => z7.elim fun f900001 z8 => z8.elim fun f900002 z9 => z9.elim fun f900019 z10 => z10.elim fun fg2 hc1198 => ?_
      clear z0 z1 z2 z3 z4 z5 z6 z7 z8 z9 z10
      refine xd_of hG ?_
      refine xd_op hk (i := 4) (by kernel_rfl) rfl rfl ?_
      refine op_quiet tab hk (lv := [.slice (some ad833) (p0.chains).length cp0_1]) (v := .slice (some ad833) (p0.chains).length cp0_1) rfl ⟨(load1 tab rfl ((Bx.cell f900019.now 1).trans rfl)), trivial⟩ ?_
      have hk := hk.put 19 (.slice (some ad833) (p0.chains).length cp0_1) rfl
      refine ⟨.inr trivial, ?_⟩
      refine xd_op hk (i := 20) (by kernel_rfl) rfl rfl ?_
      refine op_append (o := o1194) (E := (encInt .i64)) (xs := p0.chains) (ys := ([t837] : List Int)) tab hk rfl rfl rfl rfl rfl rfl rfl f900001 (Own.rd f1197.now) q851 fun A1204 c1205 w1201 o1202 st1203 f1206 hc1207 => ?_
      replace f1197 := f1197.st st1203 (by decide)
      replace f312 := f312.st st1203 (by decide)
      replace f900002 := f900002.st st1203 (by decide)
      replace f900019 := f900019.st st1203 (by decide)
      replace fg2 := fg2.st st1203 (by decide)
      replace hs := hs.locQ st1203 hob rfl
      have hk := hk.put 35 (.slice A1204 ((p0.chains ++ ([t837] : List Int))).length c1205) rfl
      refine ⟨.inr trivial, ?_⟩
      refine xd_take tab hk (k := 1) (is := [21, 22]) (ls' := #[true, true, true, true, true, true, true, true, true, true, true, true, true, true, true, true, true, true, true, true, true, true, true, false]) (lv := []) (ks := [35, 37]) (e' := [(35, .slice A1204 ((p0.chains ++ ([t837] : List Int))).length c1205), (37, .pointer (some ((⟨bp0, 0, none⟩ : Addr).add 1)))]) (by kernel_rfl) rfl rfl (by kernel_rfl) (np_then np_body) trivial (fun W_ hS => trivial) fun a hk => ?_
      refine xd_op hk (i := 23) (by kernel_rfl) rfl rfl ?_
      refine op_store tab hk (t := 27) (v := .slice A1204 ((p0.chains ++ ([t837] : List Int))).length c1205) (b := bp0) (k := 1) (cs' := [.slice A309 (l311).length c310, .slice A1204 ((p0.chains ++ ([t837] : List Int))).length c1205, .slice Ap0_2 (p0.begun).length cp0_2]) rfl rfl rfl rfl rfl rfl f900019 rfl rfl fun w1208 o1209 st1210 f900019_ => ?_
      replace f1197 := f1197.st st1210 (by decide)
      replace f1206 := f1206.st st1210 (by decide)
      replace f312 := f312.st st1210 (by decide)
      replace f900002 := f900002.st st1210 (by decide)
      replace fg2 := fg2.st st1210 (by decide)
      replace hs := hs.locQ st1210 hob rfl
      replace f900019 := f900019_
      refine ⟨.inr trivial, ?_⟩
      refine xd_done (by kernel_rfl) ?_
      refine then_n ?_
      exact ⟨o1209, A1204, c1205, (p0.chains ++ ([t837] : List Int)), (by exact Kn.pick (ks := []) hk rfl), hs, f312, f1206, f900002, f900019, fg2, hc1207, H⟩
    have N1156 : ∀ (a_ : Act) (w_ : World), (∃ o1154 : Nat → Nat, Kn 38 a_ [(15, .pointer (some ⟨bp0, 0, none⟩)), (18, .pointer (some ((⟨bp0, 0, none⟩ : Addr).add 1))), (33, .int .i64 t837)] ∧ St [2, 3, 4] w oi w_ o1154 ∧ NOwn (dRows ET46) 43 A309 c310 l311 w_ o1154 3 1 ∧ Ft (Own (encInt .i64) 3 (.slice (some ad833) (p0.chains).length cp0_1) p0.chains) w_ o1154 4 ∧ Ft (Own ET46 47 (.slice Ap0_2 (p0.begun).length cp0_2) p0.begun) w_ o1154 5 ∧ Ft (Bx bp0 61 [.slice A309 (l311).length c310, .slice (some ad833) (p0.chains).length cp0_1, .slice Ap0_2 (p0.begun).length cp0_2]) w_ o1154 2 ∧ Ft (RdC (encInt .u32) (some ⟨2, 0, none⟩) glob2) w_ o1154 0) → G 6 #[true, true, true, true, false, true, true, true, true, true, true, true, true, true, true, true, true, true, true, false, false, false, false, false] a_ w_ := by
      rintro a w1155 ⟨o1154, hk, hs, f312, f900001, f900002, f900019, fg2⟩
      refine xd_of hG ?_
      refine xd_each [4, 19] (by kernel_rfl) rfl ⟨?_, ?_, trivial⟩
      · refine xd_one hk rfl rfl ?_
        refine op_quiet tab hk (lv := [.slice (some ad833) (p0.chains).length cp0_1]) (v := .slice (some ad833) (p0.chains).length cp0_1) rfl ⟨(load1 tab rfl ((Bx.cell f900019.now 1).trans rfl)), trivial⟩ ?_
        have hk := hk.put 19 (.slice (some ad833) (p0.chains).length cp0_1) rfl
        refine ⟨.inr trivial, ?_⟩
        exact xd_to hG rfl (N1162 _ _ ⟨o1154, (by exact Kn.pick (ks := [15, 19, 33]) hk rfl), hs, f312, f900001, f900002, f900019, fg2⟩)
      · refine xd_one hk rfl rfl ?_
        refine op_slice (o := o1154) tab hk (vs := [.int .i64 t837]) (cs := [.int .i64 t837]) rfl rfl rfl rfl rfl rfl rfl rfl rfl 57 fun bx1182 w1179 o1180 st1181 f1183 => ?_
        replace f312 := f312.st st1181 (by decide)
        replace f900001 := f900001.st st1181 (by decide)
        replace f900002 := f900002.st st1181 (by decide)
        replace f900019 := f900019.st st1181 (by decide)
        replace fg2 := fg2.st st1181 (by decide)
        replace hs := hs.locQ st1181 hob rfl
        have f1184 : Ft (Own (encInt .i64) 3 (.slice (some ⟨bx1182, 0, none⟩) (([t837] : List Int)).length 1) ([t837] : List Int)) w1179 o1180 57 := f1183.imp fun _ h_ => Own.of_box h_ rfl (by simp)
        have hk := hk.put 34 (.slice (some ⟨bx1182, 0, none⟩) (([t837] : List Int)).length 1) rfl
        refine ⟨.inr trivial, ?_⟩
        exact xd_to hG rfl (N1200 _ _ ⟨(fun b_ => R_92 (o1180 b_)), (some ⟨bx1182, 0, none⟩), 1, (by exact Kn.pick (ks := [15, 18, 34]) hk rfl), (hs.relabM hob R_92 (by decide)), (f1184.relab R_92 rfl), (f312.relab R_92 rfl), (f900001.relab R_92 rfl), (f900002.relab R_92 rfl), (f900019.relab R_92 rfl), (fg2.relab R_92 rfl), (Nat.le_refl _)⟩)
    have N1116 : ∀ (a_ : Act) (w_ : World), (∃ o1114 : Nat → Nat, Kn 38 a_ [(15, .pointer (some ⟨bp0, 0, none⟩)), (18, .pointer (some ((⟨bp0, 0, none⟩ : Addr).add 1))), (31, .int .i64 (rdD 0 p0.chains (IntKind.wrap .i64 (((p0.chains).length : Int) - 1)))), (32, .slice Ap1 (p1).length cp1)] ∧ St [2, 3, 4] w oi w_ o1114 ∧ NOwn (dRows ET46) 43 A309 c310 l311 w_ o1114 3 1 ∧ Ft (Own (encInt .i64) 3 (.slice (some ad833) (p0.chains).length cp0_1) p0.chains) w_ o1114 4 ∧ Ft (Own ET46 47 (.slice Ap0_2 (p0.begun).length cp0_2) p0.begun) w_ o1114 5 ∧ Ft (Bx bp0 61 [.slice A309 (l311).length c310, .slice (some ad833) (p0.chains).length cp0_1, .slice Ap0_2 (p0.begun).length cp0_2]) w_ o1114 2 ∧ Ft (RdC ET46 Ap1 p1) w_ o1114 5 ∧ Ft (RdC (encInt .u32) (some ⟨2, 0, none⟩) glob2) w_ o1114 0) → G 7 #[true, true, true, true, false, true, true, true, true, true, true, true, true, true, true, true, true, true, false, false, false, false, false, false] a_ w_ := by
      rintro a w1115 ⟨o1114, hk, hs, f312, f900001, f900002, f900019, f900020, fg2⟩
      refine xd_of hG ?_
      refine xd_each [4, 18] (by kernel_rfl) rfl ⟨?_, ?_, trivial⟩
      · refine xd_one hk rfl rfl ?_
        refine op_quiet tab hk (lv := [.slice (some ad833) (p0.chains).length cp0_1]) (v := .slice (some ad833) (p0.chains).length cp0_1) rfl ⟨(load1 tab rfl ((Bx.cell f900019.now 1).trans rfl)), trivial⟩ ?_
        have hk := hk.put 19 (.slice (some ad833) (p0.chains).length cp0_1) rfl
        refine ⟨.inr trivial, ?_⟩
        exact xd_to hG rfl (N1122 _ _ ⟨o1114, (by exact Kn.pick (ks := [15, 19, 31, 32]) hk rfl), hs, f312, f900001, f900002, f900019, f900020, fg2⟩)
      · refine xd_one hk rfl rfl ?_
        refine op_call hk ent_31 (vs := [.int .i64 (rdD 0 p0.chains (IntKind.wrap .i64 (((p0.chains).length : Int) - 1))), .slice Ap1 (p1).length cp1]) rfl (book_next_calls K (rdD 0 p0.chains (IntKind.wrap .i64 (((p0.chains).length : Int) - 1))) Ap1 cp1 p1 _ o1114 0 fg2 _ f900020 hcp1   _ hc838) ?_
        rintro _ w1148 ⟨o1149, rfl, st1150⟩
        replace f312 := f312.st st1150 (by decide)
        replace f900001 := f900001.st st1150 (by decide)
        replace f900002 := f900002.st st1150 (by decide)
        replace f900019 := f900019.st st1150 (by decide)
        replace f900020 := f900020.st st1150 (by decide)
        replace fg2 := fg2.st st1150 (by decide)
        replace hs := hs.locQ st1150 hob rfl
        have hk := hk.put 33 (.int .i64 t837) rfl
        refine ⟨.inr trivial, ?_⟩
        exact xd_to hG rfl (N1156 _ _ ⟨o1149, (by exact Kn.pick (ks := [15, 18, 33]) hk rfl), hs, f312, f900001, f900002, f900019, fg2⟩)
    have N1082 : ∀ (a_ : Act) (w_ : World), (∃ o1080 : Nat → Nat, Kn 38 a_ [(15, .pointer (some ⟨bp0, 0, none⟩)), (18, .pointer (some ((⟨bp0, 0, none⟩ : Addr).add 1))), (23, .slice (some ad833) (p0.chains).length cp0_1), (27, .slice (some ad833) (p0.chains).length cp0_1), (32, .slice Ap1 (p1).length cp1)] ∧ St [2, 3, 4] w oi w_ o1080 ∧ NOwn (dRows ET46) 43 A309 c310 l311 w_ o1080 3 1 ∧ Ft (Own (encInt .i64) 3 (.slice (some ad833) (p0.chains).length cp0_1) p0.chains) w_ o1080 4 ∧ Ft (Own ET46 47 (.slice Ap0_2 (p0.begun).length cp0_2) p0.begun) w_ o1080 5 ∧ Ft (Bx bp0 61 [.slice A309 (l311).length c310, .slice (some ad833) (p0.chains).length cp0_1, .slice Ap0_2 (p0.begun).length cp0_2]) w_ o1080 2 ∧ Ft (RdC ET46 Ap1 p1) w_ o1080 5 ∧ Ft (RdC (encInt .u32) (some ⟨2, 0, none⟩) glob2) w_ o1080 0) → G 11 #[true, true, true, true, false, true, true, true, true, true, true, true, true, false, false, false, false, true, false, false, false, false, false, false] a_ w_ := by
      rintro a w1081 ⟨o1080, hk, hs, f312, f900001, f900002, f900019, f900020, fg2⟩
      refine xd_of hG ?_
      refine xd_take tab hk (k := 8) (is := [13, 14, 15]) (ls' := #[true, true, true, true, false, true, true, true, true, true, true, true, true, true, true, true, false, true, false, false, false, false, false, false]) (lv := []) (ks := [15, 18, 30, 32]) (e' := [(15, .pointer (some ⟨bp0, 0, none⟩)), (18, .pointer (some ((⟨bp0, 0, none⟩ : Addr).add 1))), (30, .pointer (some (ad833.add (Int.toNat (IntKind.wrap .i64 (((p0.chains).length : Int) - 1)) * 1)))), (32, .slice Ap1 (p1).length cp1)]) (by kernel_rfl) rfl rfl (by kernel_rfl) (np_then np_body) trivial (fun W_ hS => ⟨q832, trivial⟩) fun a hk => ?_
      refine xd_each [4, 16] (by kernel_rfl) rfl ⟨?_, ?_, trivial⟩
      · refine xd_one hk rfl rfl ?_
        refine op_quiet tab hk (lv := [.slice (some ad833) (p0.chains).length cp0_1]) (v := .slice (some ad833) (p0.chains).length cp0_1) rfl ⟨(load1 tab rfl ((Bx.cell f900019.now 1).trans rfl)), trivial⟩ ?_
        have hk := hk.put 19 (.slice (some ad833) (p0.chains).length cp0_1) rfl
        refine ⟨.inr trivial, ?_⟩
        exact xd_to hG rfl (N1088 _ _ ⟨o1080, (by exact Kn.pick (ks := [15, 19, 30, 32]) hk rfl), hs, f312, f900001, f900002, f900019, f900020, fg2⟩)
      · refine xd_one hk rfl rfl ?_
        refine op_quiet tab hk (lv := [.int .i64 (rdD 0 p0.chains (IntKind.wrap .i64 (((p0.chains).length : Int) - 1)))]) (v := .int .i64 (rdD 0 p0.chains (IntKind.wrap .i64 (((p0.chains).length : Int) - 1)))) rfl ⟨(load1 tab rfl (RdC.at0 (E := (encInt .i64)) (d := 0) (i := (IntKind.wrap .i64 (((p0.chains).length : Int) - 1))) (Own.rd f900001.now) q832 rfl)), trivial⟩ ?_
        have hk := hk.put 31 (.int .i64 (rdD 0 p0.chains (IntKind.wrap .i64 (((p0.chains).length : Int) - 1)))) rfl
        refine ⟨.inr trivial, ?_⟩
        exact xd_to hG rfl (N1116 _ _ ⟨o1080, (by exact Kn.pick (ks := [15, 18, 31, 32]) hk rfl), hs, f312, f900001, f900002, f900019, f900020, fg2⟩)
    have N1076 : ∀ (a_ : Act) (w_ : World), (∃ o1074 : Nat → Nat, Kn 38 a_ [(15, .pointer (some ⟨bp0, 0, none⟩)), (18, .pointer (some ((⟨bp0, 0, none⟩ : Addr).add 1))), (23, .slice (some ad833) (p0.chains).length cp0_1), (26, .pointer (some ((⟨bp0, 0, none⟩ : Addr).add 1))), (32, .slice Ap1 (p1).length cp1)] ∧ St [2, 3, 4] w oi w_ o1074 ∧ NOwn (dRows ET46) 43 A309 c310 l311 w_ o1074 3 1 ∧ Ft (Own (encInt .i64) 3 (.slice (some ad833) (p0.chains).length cp0_1) p0.chains) w_ o1074 4 ∧ Ft (Own ET46 47 (.slice Ap0_2 (p0.begun).length cp0_2) p0.begun) w_ o1074 5 ∧ Ft (Bx bp0 61 [.slice A309 (l311).length c310, .slice (some ad833) (p0.chains).length cp0_1, .slice Ap0_2 (p0.begun).length cp0_2]) w_ o1074 2 ∧ Ft (RdC ET46 Ap1 p1) w_ o1074 5 ∧ Ft (RdC (encInt .u32) (some ⟨2, 0, none⟩) glob2) w_ o1074 0) → G 12 #[true, true, true, true, false, true, true, true, true, true, true, true, false, false, false, false, false, true, false, false, false, false, false, false] a_ w_ := by
      rintro a w1075 ⟨o1074, hk, hs, f312, f900001, f900002, f900019, f900020, fg2⟩
      refine xd_of hG ?_
      refine xd_each [4, 12] (by kernel_rfl) rfl ⟨?_, ?_, trivial⟩
      · refine xd_one hk rfl rfl ?_
        refine op_quiet tab hk (lv := [.slice (some ad833) (p0.chains).length cp0_1]) (v := .slice (some ad833) (p0.chains).length cp0_1) rfl ⟨(load1 tab rfl ((Bx.cell f900019.now 1).trans rfl)), trivial⟩ ?_
        have hk := hk.put 19 (.slice (some ad833) (p0.chains).length cp0_1) rfl
        refine ⟨.inr trivial, ?_⟩
        exact xd_to hG rfl (N1020 _ _ ⟨o1074, (by exact Kn.pick (ks := [15, 19, 23, 26, 32]) hk rfl), hs, f312, f900001, f900002, f900019, f900020, fg2⟩)
      · refine xd_one hk rfl rfl ?_
        refine op_quiet tab hk (lv := [.slice (some ad833) (p0.chains).length cp0_1]) (v := .slice (some ad833) (p0.chains).length cp0_1) rfl ⟨(load1 tab rfl ((Bx.cell f900019.now 1).trans rfl)), trivial⟩ ?_
        have hk := hk.put 27 (.slice (some ad833) (p0.chains).length cp0_1) rfl
        refine ⟨.inr trivial, ?_⟩
        exact xd_to hG rfl (N1082 _ _ ⟨o1074, (by exact Kn.pick (ks := [15, 18, 23, 27, 32]) hk rfl), hs, f312, f900001, f900002, f900019, f900020, fg2⟩)
    have N1222 : ∀ (a_ : Act) (w_ : World), (∃ o1220 : Nat → Nat, Kn 38 a_ [(15, .pointer (some ⟨bp0, 0, none⟩)), (19, .slice (some ad833) (p0.chains).length cp0_1), (22, .pointer (some ((⟨bp0, 0, none⟩ : Addr).add 1))), (29, .int .i64 (IntKind.wrap .i64 (((p0.chains).length : Int) - 1))), (32, .slice Ap1 (p1).length cp1)] ∧ St [2, 3, 4] w oi w_ o1220 ∧ NOwn (dRows ET46) 43 A309 c310 l311 w_ o1220 3 1 ∧ Ft (Own (encInt .i64) 3 (.slice (some ad833) (p0.chains).length cp0_1) p0.chains) w_ o1220 4 ∧ Ft (Own ET46 47 (.slice Ap0_2 (p0.begun).length cp0_2) p0.begun) w_ o1220 5 ∧ Ft (Bx bp0 61 [.slice A309 (l311).length c310, .slice (some ad833) (p0.chains).length cp0_1, .slice Ap0_2 (p0.begun).length cp0_2]) w_ o1220 2 ∧ Ft (RdC ET46 Ap1 p1) w_ o1220 5 ∧ Ft (RdC (encInt .u32) (some ⟨2, 0, none⟩) glob2) w_ o1220 0) → G 9 #[true, true, true, true, true, true, true, true, false, true, true, true, true, true, true, false, false, true, false, false, false, false, false, false] a_ w_ := by
      rintro a w1221 ⟨o1220, hk, hs, f312, f900001, f900002, f900019, f900020, fg2⟩
      refine xd_of hG ?_
      refine xd_op hk (i := 8) (by kernel_rfl) rfl rfl ?_
      refine op_quiet tab hk (lv := [.slice (some ad833) (p0.chains).length cp0_1]) (v := .slice (some ad833) (p0.chains).length cp0_1) rfl ⟨(load1 tab rfl ((Bx.cell f900019.now 1).trans rfl)), trivial⟩ ?_
      have hk := hk.put 23 (.slice (some ad833) (p0.chains).length cp0_1) rfl
      refine ⟨.inr trivial, ?_⟩
      refine xd_take tab hk (k := 7) (is := [15]) (ls' := #[true, true, true, true, true, true, true, true, true, true, true, true, true, true, true, true, false, true, false, false, false, false, false, false]) (lv := []) (ks := [15, 19, 30, 32]) (e' := [(15, .pointer (some ⟨bp0, 0, none⟩)), (19, .slice (some ad833) (p0.chains).length cp0_1), (30, .pointer (some (ad833.add (Int.toNat (IntKind.wrap .i64 (((p0.chains).length : Int) - 1)) * 1)))), (32, .slice Ap1 (p1).length cp1)]) (by kernel_rfl) rfl rfl (by kernel_rfl) (np_then np_body) trivial (fun W_ hS => ⟨q832, trivial⟩) fun a hk => ?_
      refine xd_op hk (i := 16) (by kernel_rfl) rfl rfl ?_
      refine op_quiet tab hk (lv := [.int .i64 (rdD 0 p0.chains (IntKind.wrap .i64 (((p0.chains).length : Int) - 1)))]) (v := .int .i64 (rdD 0 p0.chains (IntKind.wrap .i64 (((p0.chains).length : Int) - 1)))) rfl ⟨(load1 tab rfl (RdC.at0 (E := (encInt .i64)) (d := 0) (i := (IntKind.wrap .i64 (((p0.chains).length : Int) - 1))) (Own.rd f900001.now) q832 rfl)), trivial⟩ ?_
      have hk := hk.put 31 (.int .i64 (rdD 0 p0.chains (IntKind.wrap .i64 (((p0.chains).length : Int) - 1)))) rfl
      refine ⟨.inr trivial, ?_⟩
      refine xd_op hk (i := 18) (by kernel_rfl) rfl rfl ?_
      refine op_call hk ent_31 (vs := [.int .i64 (rdD 0 p0.chains (IntKind.wrap .i64 (((p0.chains).length : Int) - 1))), .slice Ap1 (p1).length cp1]) rfl (book_next_calls K (rdD 0 p0.chains (IntKind.wrap .i64 (((p0.chains).length : Int) - 1))) Ap1 cp1 p1 _ o1220 0 fg2 _ f900020 hcp1   _ hc838) ?_
      rintro _ w1226 ⟨o1227, rfl, st1228⟩
      replace f312 := f312.st st1228 (by decide)
      replace f900001 := f900001.st st1228 (by decide)
      replace f900002 := f900002.st st1228 (by decide)
      replace f900019 := f900019.st st1228 (by decide)
      replace f900020 := f900020.st st1228 (by decide)
      replace fg2 := fg2.st st1228 (by decide)
      replace hs := hs.locQ st1228 hob rfl
      have hk := hk.put 33 (.int .i64 t837) rfl
      refine ⟨.inr trivial, ?_⟩
      refine xd_op hk (i := 19) (by kernel_rfl) rfl rfl ?_
      refine op_slice (o := o1227) tab hk (vs := [.int .i64 t837]) (cs := [.int .i64 t837]) rfl rfl rfl rfl rfl rfl rfl rfl rfl 59 fun bx1232 w1229 o1230 st1231 f1233 => ?_
      replace f312 := f312.st st1231 (by decide)
      replace f900001 := f900001.st st1231 (by decide)
      replace f900002 := f900002.st st1231 (by decide)
      replace f900019 := f900019.st st1231 (by decide)
      replace f900020 := f900020.st st1231 (by decide)
      replace fg2 := fg2.st st1231 (by decide)
      replace hs := hs.locQ st1231 hob rfl
      have f1234 : Ft (Own (encInt .i64) 3 (.slice (some ⟨bx1232, 0, none⟩) (([t837] : List Int)).length 1) ([t837] : List Int)) w1229 o1230 59 := f1233.imp fun _ h_ => Own.of_box h_ rfl (by simp)
      have hk := hk.put 34 (.slice (some ⟨bx1232, 0, none⟩) (([t837] : List Int)).length 1) rfl
      refine ⟨.inr trivial, ?_⟩
      refine xd_op hk (i := 20) (by kernel_rfl) rfl rfl ?_
      refine op_append (o := o1230) (E := (encInt .i64)) (xs := p0.chains) (ys := ([t837] : List Int)) tab hk rfl rfl rfl rfl rfl rfl rfl f900001 (Own.rd f1234.now) q851 fun A1238 c1239 w1235 o1236 st1237 f1240 hc1241 => ?_
      replace f1234 := f1234.st st1237 (by decide)
      replace f312 := f312.st st1237 (by decide)
      replace f900002 := f900002.st st1237 (by decide)
      replace f900019 := f900019.st st1237 (by decide)
      replace f900020 := f900020.st st1237 (by decide)
      replace fg2 := fg2.st st1237 (by decide)
      replace hs := hs.locQ st1237 hob rfl
      have hk := hk.put 35 (.slice A1238 ((p0.chains ++ ([t837] : List Int))).length c1239) rfl
      refine ⟨.inr trivial, ?_⟩
      refine xd_take tab hk (k := 1) (is := [21, 22]) (ls' := #[true, true, true, true, true, true, true, true, true, true, true, true, true, true, true, true, true, true, true, true, true, true, true, false]) (lv := []) (ks := [35, 37]) (e' := [(35, .slice A1238 ((p0.chains ++ ([t837] : List Int))).length c1239), (37, .pointer (some ((⟨bp0, 0, none⟩ : Addr).add 1)))]) (by kernel_rfl) rfl rfl (by kernel_rfl) (np_then np_body) trivial (fun W_ hS => trivial) fun a hk => ?_
      refine xd_op hk (i := 23) (by kernel_rfl) rfl rfl ?_
      refine op_store tab hk (t := 27) (v := .slice A1238 ((p0.chains ++ ([t837] : List Int))).length c1239) (b := bp0) (k := 1) (cs' := [.slice A309 (l311).length c310, .slice A1238 ((p0.chains ++ ([t837] : List Int))).length c1239, .slice Ap0_2 (p0.begun).length cp0_2]) rfl rfl rfl rfl rfl rfl f900019 rfl rfl fun w1242 o1243 st1244 f900019_ => ?_
      replace f1234 := f1234.st st1244 (by decide)
      replace f1240 := f1240.st st1244 (by decide)
      replace f312 := f312.st st1244 (by decide)
      replace f900002 := f900002.st st1244 (by decide)
      replace f900020 := f900020.st st1244 (by decide)
      replace fg2 := fg2.st st1244 (by decide)
      replace hs := hs.locQ st1244 hob rfl
      replace f900019 := f900019_
      refine ⟨.inr trivial, ?_⟩
      refine xd_done (by kernel_rfl) ?_
      refine then_n ?_
      exact ⟨o1243, A1238, c1239, (p0.chains ++ ([t837] : List Int)), (by exact Kn.pick (ks := []) hk rfl), hs, f312, f1240, f900002, f900019, fg2, hc1241, H⟩
    have N1250 : ∀ (a_ : Act) (w_ : World), (∃ o1248 : Nat → Nat, Kn 38 a_ [(15, .pointer (some ⟨bp0, 0, none⟩)), (18, .pointer (some ((⟨bp0, 0, none⟩ : Addr).add 1))), (23, .slice (some ad833) (p0.chains).length cp0_1), (29, .int .i64 (IntKind.wrap .i64 (((p0.chains).length : Int) - 1))), (32, .slice Ap1 (p1).length cp1)] ∧ St [2, 3, 4] w oi w_ o1248 ∧ NOwn (dRows ET46) 43 A309 c310 l311 w_ o1248 3 1 ∧ Ft (Own (encInt .i64) 3 (.slice (some ad833) (p0.chains).length cp0_1) p0.chains) w_ o1248 4 ∧ Ft (Own ET46 47 (.slice Ap0_2 (p0.begun).length cp0_2) p0.begun) w_ o1248 5 ∧ Ft (Bx bp0 61 [.slice A309 (l311).length c310, .slice (some ad833) (p0.chains).length cp0_1, .slice Ap0_2 (p0.begun).length cp0_2]) w_ o1248 2 ∧ Ft (RdC ET46 Ap1 p1) w_ o1248 5 ∧ Ft (RdC (encInt .u32) (some ⟨2, 0, none⟩) glob2) w_ o1248 0) → G 9 #[true, true, true, true, false, true, true, true, true, true, true, true, true, true, true, false, false, true, false, false, false, false, false, false] a_ w_ := by
      rintro a w1249 ⟨o1248, hk, hs, f312, f900001, f900002, f900019, f900020, fg2⟩
      refine xd_of hG ?_
      refine xd_take tab hk (k := 8) (is := [15]) (ls' := #[true, true, true, true, false, true, true, true, true, true, true, true, true, true, true, true, false, true, false, false, false, false, false, false]) (lv := []) (ks := [15, 18, 30, 32]) (e' := [(15, .pointer (some ⟨bp0, 0, none⟩)), (18, .pointer (some ((⟨bp0, 0, none⟩ : Addr).add 1))), (30, .pointer (some (ad833.add (Int.toNat (IntKind.wrap .i64 (((p0.chains).length : Int) - 1)) * 1)))), (32, .slice Ap1 (p1).length cp1)]) (by kernel_rfl) rfl rfl (by kernel_rfl) (np_then np_body) trivial (fun W_ hS => ⟨q832, trivial⟩) fun a hk => ?_
      refine xd_each [4, 16] (by kernel_rfl) rfl ⟨?_, ?_, trivial⟩
      · refine xd_one hk rfl rfl ?_
        refine op_quiet tab hk (lv := [.slice (some ad833) (p0.chains).length cp0_1]) (v := .slice (some ad833) (p0.chains).length cp0_1) rfl ⟨(load1 tab rfl ((Bx.cell f900019.now 1).trans rfl)), trivial⟩ ?_
        have hk := hk.put 19 (.slice (some ad833) (p0.chains).length cp0_1) rfl
        refine ⟨.inr trivial, ?_⟩
        exact xd_to hG rfl (N1088 _ _ ⟨o1248, (by exact Kn.pick (ks := [15, 19, 30, 32]) hk rfl), hs, f312, f900001, f900002, f900019, f900020, fg2⟩)
      · refine xd_one hk rfl rfl ?_
        refine op_quiet tab hk (lv := [.int .i64 (rdD 0 p0.chains (IntKind.wrap .i64 (((p0.chains).length : Int) - 1)))]) (v := .int .i64 (rdD 0 p0.chains (IntKind.wrap .i64 (((p0.chains).length : Int) - 1)))) rfl ⟨(load1 tab rfl (RdC.at0 (E := (encInt .i64)) (d := 0) (i := (IntKind.wrap .i64 (((p0.chains).length : Int) - 1))) (Own.rd f900001.now) q832 rfl)), trivial⟩ ?_
        have hk := hk.put 31 (.int .i64 (rdD 0 p0.chains (IntKind.wrap .i64 (((p0.chains).length : Int) - 1)))) rfl
        refine ⟨.inr trivial, ?_⟩
        exact xd_to hG rfl (N1116 _ _ ⟨o1248, (by exact Kn.pick (ks := [15, 18, 31, 32]) hk rfl), hs, f312, f900001, f900002, f900019, f900020, fg2⟩)
    have N1216 : ∀ (a_ : Act) (w_ : World), (∃ o1214 : Nat → Nat, Kn 38 a_ [(15, .pointer (some ⟨bp0, 0, none⟩)), (18, .pointer (some ((⟨bp0, 0, none⟩ : Addr).add 1))), (22, .pointer (some ((⟨bp0, 0, none⟩ : Addr).add 1))), (27, .slice (some ad833) (p0.chains).length cp0_1), (32, .slice Ap1 (p1).length cp1)] ∧ St [2, 3, 4] w oi w_ o1214 ∧ NOwn (dRows ET46) 43 A309 c310 l311 w_ o1214 3 1 ∧ Ft (Own (encInt .i64) 3 (.slice (some ad833) (p0.chains).length cp0_1) p0.chains) w_ o1214 4 ∧ Ft (Own ET46 47 (.slice Ap0_2 (p0.begun).length cp0_2) p0.begun) w_ o1214 5 ∧ Ft (Bx bp0 61 [.slice A309 (l311).length c310, .slice (some ad833) (p0.chains).length cp0_1, .slice Ap0_2 (p0.begun).length cp0_2]) w_ o1214 2 ∧ Ft (RdC ET46 Ap1 p1) w_ o1214 5 ∧ Ft (RdC (encInt .u32) (some ⟨2, 0, none⟩) glob2) w_ o1214 0) → G 12 #[true, true, true, true, false, true, true, true, false, true, true, true, true, false, false, false, false, true, false, false, false, false, false, false] a_ w_ := by
      rintro a w1215 ⟨o1214, hk, hs, f312, f900001, f900002, f900019, f900020, fg2⟩
      refine xd_of hG ?_
      refine xd_take tab hk (k := 10) (is := [13, 14]) (ls' := #[true, true, true, true, false, true, true, true, false, true, true, true, true, true, true, false, false, true, false, false, false, false, false, false]) (lv := []) (ks := [15, 18, 22, 29, 32]) (e' := [(15, .pointer (some ⟨bp0, 0, none⟩)), (18, .pointer (some ((⟨bp0, 0, none⟩ : Addr).add 1))), (22, .pointer (some ((⟨bp0, 0, none⟩ : Addr).add 1))), (29, .int .i64 (IntKind.wrap .i64 (((p0.chains).length : Int) - 1))), (32, .slice Ap1 (p1).length cp1)]) (by kernel_rfl) rfl rfl (by kernel_rfl) (np_then np_body) trivial (fun W_ hS => trivial) fun a hk => ?_
      refine xd_each [4, 8] (by kernel_rfl) rfl ⟨?_, ?_, trivial⟩
      · refine xd_one hk rfl rfl ?_
        refine op_quiet tab hk (lv := [.slice (some ad833) (p0.chains).length cp0_1]) (v := .slice (some ad833) (p0.chains).length cp0_1) rfl ⟨(load1 tab rfl ((Bx.cell f900019.now 1).trans rfl)), trivial⟩ ?_
        have hk := hk.put 19 (.slice (some ad833) (p0.chains).length cp0_1) rfl
        refine ⟨.inr trivial, ?_⟩
        exact xd_to hG rfl (N1222 _ _ ⟨o1214, (by exact Kn.pick (ks := [15, 19, 22, 29, 32]) hk rfl), hs, f312, f900001, f900002, f900019, f900020, fg2⟩)
      · refine xd_one hk rfl rfl ?_
        refine op_quiet tab hk (lv := [.slice (some ad833) (p0.chains).length cp0_1]) (v := .slice (some ad833) (p0.chains).length cp0_1) rfl ⟨(load1 tab rfl ((Bx.cell f900019.now 1).trans rfl)), trivial⟩ ?_
        have hk := hk.put 23 (.slice (some ad833) (p0.chains).length cp0_1) rfl
        refine ⟨.inr trivial, ?_⟩
        exact xd_to hG rfl (N1250 _ _ ⟨o1214, (by exact Kn.pick (ks := [15, 18, 23, 29, 32]) hk rfl), hs, f312, f900001, f900002, f900019, f900020, fg2⟩)
    refine xd_of hG ?_
    refine xd_take tab hk (k := 13) (is := [0, 1, 2, 3, 5, 6, 7, 9, 10, 11, 17]) (ls' := #[true, true, true, true, false, true, true, true, false, true, true, true, false, false, false, false, false, true, false, false, false, false, false, false]) (lv := []) (ks := [15, 18, 22, 26, 32]) (e' := [(15, .pointer (some ⟨bp0, 0, none⟩)), (18, .pointer (some ((⟨bp0, 0, none⟩ : Addr).add 1))), (22, .pointer (some ((⟨bp0, 0, none⟩ : Addr).add 1))), (26, .pointer (some ((⟨bp0, 0, none⟩ : Addr).add 1))), (32, .slice Ap1 (p1).length cp1)]) (by kernel_rfl) rfl rfl (by kernel_rfl) (np_then np_body) trivial (fun W_ hS => trivial) fun a hk => ?_
    refine xd_each [4, 8, 12] (by kernel_rfl) rfl ⟨?_, ?_, ?_, trivial⟩
    · refine xd_one hk rfl rfl ?_
      refine op_quiet tab hk (lv := [.slice (some ad833) (p0.chains).length cp0_1]) (v := .slice (some ad833) (p0.chains).length cp0_1) rfl ⟨(load1 tab rfl ((Bx.cell f900019.now 1).trans rfl)), trivial⟩ ?_
      have hk := hk.put 19 (.slice (some ad833) (p0.chains).length cp0_1) rfl
      refine ⟨.inr trivial, ?_⟩
      exact xd_to hG rfl (N1014 _ _ ⟨o308, (by exact Kn.pick (ks := [15, 19, 22, 26, 32]) hk rfl), hs, f312, f900001, f900002, f900019, f900020, fg2⟩)
    · refine xd_one hk rfl rfl ?_
      refine op_quiet tab hk (lv := [.slice (some ad833) (p0.chains).length cp0_1]) (v := .slice (some ad833) (p0.chains).length cp0_1) rfl ⟨(load1 tab rfl ((Bx.cell f900019.now 1).trans rfl)), trivial⟩ ?_
      have hk := hk.put 23 (.slice (some ad833) (p0.chains).length cp0_1) rfl
      refine ⟨.inr trivial, ?_⟩
      exact xd_to hG rfl (N1076 _ _ ⟨o308, (by exact Kn.pick (ks := [15, 18, 23, 26, 32]) hk rfl), hs, f312, f900001, f900002, f900019, f900020, fg2⟩)
    · refine xd_one hk rfl rfl ?_
      refine op_quiet tab hk (lv := [.slice (some ad833) (p0.chains).length cp0_1]) (v := .slice (some ad833) (p0.chains).length cp0_1) rfl ⟨(load1 tab rfl ((Bx.cell f900019.now 1).trans rfl)), trivial⟩ ?_
      have hk := hk.put 27 (.slice (some ad833) (p0.chains).length cp0_1) rfl
      refine ⟨.inr trivial, ?_⟩
      exact xd_to hG rfl (N1216 _ _ ⟨o308, (by exact Kn.pick (ks := [15, 18, 22, 27, 32]) hk rfl), hs, f312, f900001, f900002, f900019, f900020, fg2⟩)
  obtain ⟨t1285, hc1286, H⟩ := bindS H
  obtain ⟨q1305, H⟩ := ifS H
  refine xd_begin (o := oi) (fun W_ => True) mixed rfl rfl fun w1387 st1388 => ?_
  replace f900000 := f900000.st st1388 (by decide)
  replace f900001 := f900001.st st1388 (by decide)
  replace f900002 := f900002.st st1388 (by decide)
  replace f900019 := f900019.st st1388 (by decide)
  replace f900020 := f900020.st st1388 (by decide)
  replace fg2 := fg2.st st1388 (by decide)
  replace hs := hs.locQ st1388 hob rfl
  refine xd_abs fun G hG => ?_
  have N1394 : ∀ (a_ : Act) (w_ : World), (∃ o1392 : Nat → Nat, Kn 38 a_ [(0, .pointer (some ⟨bp0, 0, none⟩)), (1, .slice Ap1 (p1).length cp1), (4, .pointer (some ⟨bp0, 0, none⟩)), (8, .slice Ap0_0 (p0.l).length cp0_0), (9, .slice Ap1 (p1).length cp1)] ∧ St [2, 3, 4] w oi w_ o1392 ∧ NOwn (dRows ET46) 43 Ap0_0 cp0_0 p0.l w_ o1392 3 1 ∧ Ft (Own (encInt .i64) 3 (.slice Ap0_1 (p0.chains).length cp0_1) p0.chains) w_ o1392 4 ∧ Ft (Own ET46 47 (.slice Ap0_2 (p0.begun).length cp0_2) p0.begun) w_ o1392 5 ∧ Ft (Bx bp0 61 [.slice Ap0_0 (p0.l).length cp0_0, .slice Ap0_1 (p0.chains).length cp0_1, .slice Ap0_2 (p0.begun).length cp0_2]) w_ o1392 2 ∧ Ft (RdC ET46 Ap1 p1) w_ o1392 5 ∧ Ft (RdC (encInt .u32) (some ⟨2, 0, none⟩) glob2) w_ o1392 0) → G 6 #[true, true, true, true, true, true, false, false, false, false, false, false] a_ w_ := by
    rintro a w1393 ⟨o1392, hk, hs, f900000, f900001, f900002, f900019, f900020, fg2⟩
    refine xd_of hG ?_
    refine xd_op hk (i := 6) (by kernel_rfl) rfl rfl ?_
    refine op_call hk ent_16 (vs := [.slice Ap1 (p1).length cp1]) rfl (slices_Clone''_calls Ap1 cp1 p1 _ o1392 _ f900020 hcp1 69  _ hc1286) ?_
    rintro _ w1398 ⟨o1399, A1401, c1402, rfl, st1400, f1403, hc1404⟩
    replace f900000 := f900000.st st1400 (by decide)
    replace f900001 := f900001.st st1400 (by decide)
    replace f900002 := f900002.st st1400 (by decide)
    replace f900019 := f900019.st st1400 (by decide)
    replace f900020 := f900020.st st1400 (by decide)
    replace fg2 := fg2.st st1400 (by decide)
    replace hs := hs.locQ st1400 hob rfl
    have hk := hk.put 10 (.slice A1401 (t1285).length c1402) rfl
    refine ⟨.inr trivial, ?_⟩
    refine xd_op hk (i := 7) (by kernel_rfl) rfl rfl ?_
    obtain ⟨o1408, hR1409⟩ := relab_ex o1399 R_93
    replace hs : St [2, 3, 4] w oi w1398 o1408 := by rw [hR1409]; exact (hs.relabM hob R_93 (by decide))
    replace f1403 : Ft (Own ET46 47 (.slice A1401 (t1285).length c1402) t1285) w1398 o1408 1 := by rw [hR1409]; exact f1403.relab R_93 rfl
    replace f900000 : NOwn (dRows ET46) 43 Ap0_0 cp0_0 p0.l w1398 o1408 3 1 := by rw [hR1409]; exact f900000.relab R_93 rfl
    replace f900001 : Ft (Own (encInt .i64) 3 (.slice Ap0_1 (p0.chains).length cp0_1) p0.chains) w1398 o1408 4 := by rw [hR1409]; exact f900001.relab R_93 rfl
    replace f900002 : Ft (Own ET46 47 (.slice Ap0_2 (p0.begun).length cp0_2) p0.begun) w1398 o1408 5 := by rw [hR1409]; exact f900002.relab R_93 rfl
    replace f900019 : Ft (Bx bp0 61 [.slice Ap0_0 (p0.l).length cp0_0, .slice Ap0_1 (p0.chains).length cp0_1, .slice Ap0_2 (p0.begun).length cp0_2]) w1398 o1408 2 := by rw [hR1409]; exact f900019.relab R_93 rfl
    replace f900020 : Ft (RdC ET46 Ap1 p1) w1398 o1408 5 := by rw [hR1409]; exact f900020.relab R_93 rfl
    replace fg2 : Ft (RdC (encInt .u32) (some ⟨2, 0, none⟩) glob2) w1398 o1408 0 := by rw [hR1409]; exact fg2.relab R_93 rfl
    refine op_slice (o := o1408) tab hk (vs := [.slice A1401 (t1285).length c1402]) (cs := [.slice A1401 (t1285).length c1402]) rfl rfl rfl rfl rfl rfl rfl rfl rfl 70 fun bx1410 w1405 o1406 st1407 f1411 => ?_
    replace f1403 := f1403.st st1407 (by decide)
    replace f900000 := f900000.st st1407 (by decide)
    replace f900001 := f900001.st st1407 (by decide)
    replace f900002 := f900002.st st1407 (by decide)
    replace f900019 := f900019.st st1407 (by decide)
    replace f900020 := f900020.st st1407 (by decide)
    replace fg2 := fg2.st st1407 (by decide)
    replace hs := hs.locQ st1407 hob rfl
    have f1412 : NOwn (dRows ET46) 43 (some ⟨bx1410, 0, none⟩) 1 ([t1285] : List (List T46)) w1405 o1406 70 1 := NOwn.lit f1411 [⟨A1401, c1402, t1285⟩] rfl (Inn.consF (f1403.imp fun _ h_ => Own.rd h_) hc1404 (Inn.nilF _ _ _ _)) rfl (Nat.le_of_ble_eq_true rfl)
    have hk := hk.put 11 (.slice (some ⟨bx1410, 0, none⟩) (([t1285] : List (List T46))).length 1) rfl
    refine ⟨.inr trivial, ?_⟩
    refine xd_op hk (i := 8) (by kernel_rfl) rfl rfl ?_
    refine op_appendN (o := o1406) (D := (dRows ET46)) (xs := p0.l) (ys := ([t1285] : List (List T46))) tab hk rfl rfl rfl rfl rfl rfl rfl f900000 f1412.rd (by decide) q1305 fun A1416 c1417 w1413 o1414 st1415 f1418 hc1419 => ?_
    replace f1403 := f1403.st st1415 (by decide)
    replace f1412 := f1412.st st1415 (by decide)
    replace f900001 := f900001.st st1415 (by decide)
    replace f900002 := f900002.st st1415 (by decide)
    replace f900019 := f900019.st st1415 (by decide)
    replace f900020 := f900020.st st1415 (by decide)
    replace fg2 := fg2.st st1415 (by decide)
    replace hs := hs.locQ st1415 hob rfl
    have hk := hk.put 12 (.slice A1416 ((p0.l ++ ([t1285] : List (List T46)))).length c1417) rfl
    refine ⟨.inr trivial, ?_⟩
    refine xd_take tab hk (k := 1) (is := [9, 10]) (ls' := #[true, true, true, true, true, true, true, true, true, true, true, false]) (lv := []) (ks := [0, 1, 12, 14]) (e' := [(0, .pointer (some ⟨bp0, 0, none⟩)), (1, .slice Ap1 (p1).length cp1), (12, .slice A1416 ((p0.l ++ ([t1285] : List (List T46)))).length c1417), (14, .pointer (some ⟨bp0, 0, none⟩))]) (by kernel_rfl) rfl rfl (by kernel_rfl) (np_then (np_then np_body)) trivial (fun W_ hS => trivial) fun a hk => ?_
    refine xd_op hk (i := 11) (by kernel_rfl) rfl rfl ?_
    refine op_store tab hk (t := 59) (v := .slice A1416 ((p0.l ++ ([t1285] : List (List T46)))).length c1417) (b := bp0) (k := 0) (cs' := [.slice A1416 ((p0.l ++ ([t1285] : List (List T46)))).length c1417, .slice Ap0_1 (p0.chains).length cp0_1, .slice Ap0_2 (p0.begun).length cp0_2]) rfl rfl rfl rfl rfl rfl f900019 rfl rfl fun w1420 o1421 st1422 f900019_ => ?_
    replace f1403 := f1403.st st1422 (by decide)
    replace f1412 := f1412.st st1422 (by decide)
    replace f1418 := f1418.st st1422 (by decide)
    replace f900001 := f900001.st st1422 (by decide)
    replace f900002 := f900002.st st1422 (by decide)
    replace f900020 := f900020.st st1422 (by decide)
    replace fg2 := fg2.st st1422 (by decide)
    replace hs := hs.locQ st1422 hob rfl
    replace f900019 := f900019_
    refine ⟨.inr trivial, ?_⟩
    refine xd_done (by kernel_rfl) ?_
    refine then_n ?_
    exact ⟨o1421, A1416, c1417, (p0.l ++ ([t1285] : List (List T46))), (by exact Kn.pick (ks := [0, 1]) hk rfl), hs, f1418, f900001, f900002, f900019, f900020, fg2, hc1419, H⟩
  have N1464 : ∀ (a_ : Act) (w_ : World), (∃ o1458 : Nat → Nat, ∃ A1459 : Option Addr, ∃ c1460 : Nat, Kn 38 a_ [(0, .pointer (some ⟨bp0, 0, none⟩)), (1, .slice Ap1 (p1).length cp1), (4, .pointer (some ⟨bp0, 0, none⟩)), (8, .slice Ap0_0 (p0.l).length cp0_0), (10, .slice A1459 (t1285).length c1460)] ∧ St [2, 3, 4] w oi w_ o1458 ∧ Ft (Own ET46 47 (.slice A1459 (t1285).length c1460) t1285) w_ o1458 73 ∧ NOwn (dRows ET46) 43 Ap0_0 cp0_0 p0.l w_ o1458 3 1 ∧ Ft (Own (encInt .i64) 3 (.slice Ap0_1 (p0.chains).length cp0_1) p0.chains) w_ o1458 4 ∧ Ft (Own ET46 47 (.slice Ap0_2 (p0.begun).length cp0_2) p0.begun) w_ o1458 5 ∧ Ft (Bx bp0 61 [.slice Ap0_0 (p0.l).length cp0_0, .slice Ap0_1 (p0.chains).length cp0_1, .slice Ap0_2 (p0.begun).length cp0_2]) w_ o1458 2 ∧ Ft (RdC ET46 Ap1 p1) w_ o1458 5 ∧ Ft (RdC (encInt .u32) (some ⟨2, 0, none⟩) glob2) w_ o1458 0 ∧ (t1285).length ≤ c1460) → G 5 #[true, true, true, true, true, true, true, false, false, false, false, false] a_ w_ := by
    refine fun a w1463 z0 => z0.elim fun o1458 z1 => z1.elim fun A1459 z2 => z2.elim fun c1460 z3 => z3.elim fun hk z4 => z4.elim fun hs z5 => z5.elim fun f1461 z6 => z6.elim fun f900000 z7 => z7.elim fun f900001 z8 => z8.elim fun f900002 z9 => z9.elim fun f900019 z10 => z10.elim fun f900020 z11 => z11.elim fun fg2 hc1462 => ?_
    clear z0 z1 z2 z3 z4 z5 z6 z7 z8 z9 z10 z11
    refine xd_of hG ?_
    refine xd_op hk (i := 7) (by kernel_rfl) rfl rfl ?_
    obtain ⟨o1468, hR1469⟩ := relab_ex o1458 R_94
    replace hs : St [2, 3, 4] w oi w1463 o1468 := by rw [hR1469]; exact (hs.relabM hob R_94 (by decide))
    replace f1461 : Ft (Own ET46 47 (.slice A1459 (t1285).length c1460) t1285) w1463 o1468 1 := by rw [hR1469]; exact f1461.relab R_94 rfl
    replace f900000 : NOwn (dRows ET46) 43 Ap0_0 cp0_0 p0.l w1463 o1468 3 1 := by rw [hR1469]; exact f900000.relab R_94 rfl
    replace f900001 : Ft (Own (encInt .i64) 3 (.slice Ap0_1 (p0.chains).length cp0_1) p0.chains) w1463 o1468 4 := by rw [hR1469]; exact f900001.relab R_94 rfl
    replace f900002 : Ft (Own ET46 47 (.slice Ap0_2 (p0.begun).length cp0_2) p0.begun) w1463 o1468 5 := by rw [hR1469]; exact f900002.relab R_94 rfl
    replace f900019 : Ft (Bx bp0 61 [.slice Ap0_0 (p0.l).length cp0_0, .slice Ap0_1 (p0.chains).length cp0_1, .slice Ap0_2 (p0.begun).length cp0_2]) w1463 o1468 2 := by rw [hR1469]; exact f900019.relab R_94 rfl
    replace f900020 : Ft (RdC ET46 Ap1 p1) w1463 o1468 5 := by rw [hR1469]; exact f900020.relab R_94 rfl
    replace fg2 : Ft (RdC (encInt .u32) (some ⟨2, 0, none⟩) glob2) w1463 o1468 0 := by rw [hR1469]; exact fg2.relab R_94 rfl
    refine op_slice (o := o1468) tab hk (vs := [.slice A1459 (t1285).length c1460]) (cs := [.slice A1459 (t1285).length c1460]) rfl rfl rfl rfl rfl rfl rfl rfl rfl 74 fun bx1470 w1465 o1466 st1467 f1471 => ?_
    replace f1461 := f1461.st st1467 (by decide)
    replace f900000 := f900000.st st1467 (by decide)
    replace f900001 := f900001.st st1467 (by decide)
    replace f900002 := f900002.st st1467 (by decide)
    replace f900019 := f900019.st st1467 (by decide)
    replace f900020 := f900020.st st1467 (by decide)
    replace fg2 := fg2.st st1467 (by decide)
    replace hs := hs.locQ st1467 hob rfl
    have f1472 : NOwn (dRows ET46) 43 (some ⟨bx1470, 0, none⟩) 1 ([t1285] : List (List T46)) w1465 o1466 74 1 := NOwn.lit f1471 [⟨A1459, c1460, t1285⟩] rfl (Inn.consF (f1461.imp fun _ h_ => Own.rd h_) hc1462 (Inn.nilF _ _ _ _)) rfl (Nat.le_of_ble_eq_true rfl)
    have hk := hk.put 11 (.slice (some ⟨bx1470, 0, none⟩) (([t1285] : List (List T46))).length 1) rfl
    refine ⟨.inr trivial, ?_⟩
    refine xd_op hk (i := 8) (by kernel_rfl) rfl rfl ?_
    refine op_appendN (o := o1466) (D := (dRows ET46)) (xs := p0.l) (ys := ([t1285] : List (List T46))) tab hk rfl rfl rfl rfl rfl rfl rfl f900000 f1472.rd (by decide) q1305 fun A1476 c1477 w1473 o1474 st1475 f1478 hc1479 => ?_
    replace f1461 := f1461.st st1475 (by decide)
    replace f1472 := f1472.st st1475 (by decide)
    replace f900001 := f900001.st st1475 (by decide)
    replace f900002 := f900002.st st1475 (by decide)
    replace f900019 := f900019.st st1475 (by decide)
    replace f900020 := f900020.st st1475 (by decide)
    replace fg2 := fg2.st st1475 (by decide)
    replace hs := hs.locQ st1475 hob rfl
    have hk := hk.put 12 (.slice A1476 ((p0.l ++ ([t1285] : List (List T46)))).length c1477) rfl
    refine ⟨.inr trivial, ?_⟩
    refine xd_take tab hk (k := 1) (is := [9, 10]) (ls' := #[true, true, true, true, true, true, true, true, true, true, true, false]) (lv := []) (ks := [0, 1, 12, 14]) (e' := [(0, .pointer (some ⟨bp0, 0, none⟩)), (1, .slice Ap1 (p1).length cp1), (12, .slice A1476 ((p0.l ++ ([t1285] : List (List T46)))).length c1477), (14, .pointer (some ⟨bp0, 0, none⟩))]) (by kernel_rfl) rfl rfl (by kernel_rfl) (np_then (np_then np_body)) trivial (fun W_ hS => trivial) fun a hk => ?_
    refine xd_op hk (i := 11) (by kernel_rfl) rfl rfl ?_
    refine op_store tab hk (t := 59) (v := .slice A1476 ((p0.l ++ ([t1285] : List (List T46)))).length c1477) (b := bp0) (k := 0) (cs' := [.slice A1476 ((p0.l ++ ([t1285] : List (List T46)))).length c1477, .slice Ap0_1 (p0.chains).length cp0_1, .slice Ap0_2 (p0.begun).length cp0_2]) rfl rfl rfl rfl rfl rfl f900019 rfl rfl fun w1480 o1481 st1482 f900019_ => ?_
    replace f1461 := f1461.st st1482 (by decide)
    replace f1472 := f1472.st st1482 (by decide)
    replace f1478 := f1478.st st1482 (by decide)
    replace f900001 := f900001.st st1482 (by decide)
    replace f900002 := f900002.st st1482 (by decide)
    replace f900020 := f900020.st st1482 (by decide)
    replace fg2 := fg2.st st1482 (by decide)
    replace hs := hs.locQ st1482 hob rfl
    replace f900019 := f900019_
    refine ⟨.inr trivial, ?_⟩
    refine xd_done (by kernel_rfl) ?_
    refine then_n ?_
    exact ⟨o1481, A1476, c1477, (p0.l ++ ([t1285] : List (List T46))), (by exact Kn.pick (ks := [0, 1]) hk rfl), hs, f1478, f900001, f900002, f900019, f900020, fg2, hc1479, H⟩
  have N1506 : ∀ (a_ : Act) (w_ : World), (∃ o1500 : Nat → Nat, ∃ A1501 : Option Addr, ∃ c1502 : Nat, Kn 38 a_ [(0, .pointer (some ⟨bp0, 0, none⟩)), (1, .slice Ap1 (p1).length cp1), (4, .pointer (some ⟨bp0, 0, none⟩)), (7, .pointer (some ⟨bp0, 0, none⟩)), (11, .slice A1501 (([t1285] : List (List T46))).length c1502)] ∧ St [2, 3, 4] w oi w_ o1500 ∧ NOwn (dRows ET46) 43 A1501 c1502 ([t1285] : List (List T46)) w_ o1500 76 1 ∧ NOwn (dRows ET46) 43 Ap0_0 cp0_0 p0.l w_ o1500 3 1 ∧ Ft (Own (encInt .i64) 3 (.slice Ap0_1 (p0.chains).length cp0_1) p0.chains) w_ o1500 4 ∧ Ft (Own ET46 47 (.slice Ap0_2 (p0.begun).length cp0_2) p0.begun) w_ o1500 5 ∧ Ft (Bx bp0 61 [.slice Ap0_0 (p0.l).length cp0_0, .slice Ap0_1 (p0.chains).length cp0_1, .slice Ap0_2 (p0.begun).length cp0_2]) w_ o1500 2 ∧ Ft (RdC ET46 Ap1 p1) w_ o1500 5 ∧ Ft (RdC (encInt .u32) (some ⟨2, 0, none⟩) glob2) w_ o1500 0 ∧ (([t1285] : List (List T46))).length ≤ c1502) → G 5 #[true, true, true, true, false, true, true, true, false, false, false, false] a_ w_ := by
    refine fun a w1505 z0 => z0.elim fun o1500 z1 => z1.elim fun A1501 z2 => z2.elim fun c1502 z3 => z3.elim fun hk z4 => z4.elim fun hs z5 => z5.elim fun f1503 z6 => z6.elim fun f900000 z7 => z7.elim fun f900001 z8 => z8.elim fun f900002 z9 => z9.elim fun f900019 z10 => z10.elim fun f900020 z11 => z11.elim fun fg2 hc1504 => ?_
    clear z0 z1 z2 z3 z4 z5 z6 z7 z8 z9 z10 z11
    refine xd_of hG ?_
    refine xd_op hk (i := 4) (by kernel_rfl) rfl rfl ?_
    refine op_quiet tab hk (lv := [.slice Ap0_0 (p0.l).length cp0_0]) (v := .slice Ap0_0 (p0.l).length cp0_0) rfl ⟨(load1 tab rfl ((Bx.cell f900019.now 0).trans rfl)), trivial⟩ ?_
    have hk := hk.put 8 (.slice Ap0_0 (p0.l).length cp0_0) rfl
    refine ⟨.inr trivial, ?_⟩
    refine xd_op hk (i := 8) (by kernel_rfl) rfl rfl ?_
    refine op_appendN (o := o1500) (D := (dRows ET46)) (xs := p0.l) (ys := ([t1285] : List (List T46))) tab hk rfl rfl rfl rfl rfl rfl rfl f900000 f1503.rd (by decide) q1305 fun A1510 c1511 w1507 o1508 st1509 f1512 hc1513 => ?_
    replace f1503 := f1503.st st1509 (by decide)
    replace f900001 := f900001.st st1509 (by decide)
    replace f900002 := f900002.st st1509 (by decide)
    replace f900019 := f900019.st st1509 (by decide)
    replace f900020 := f900020.st st1509 (by decide)
    replace fg2 := fg2.st st1509 (by decide)
    replace hs := hs.locQ st1509 hob rfl
    have hk := hk.put 12 (.slice A1510 ((p0.l ++ ([t1285] : List (List T46)))).length c1511) rfl
    refine ⟨.inr trivial, ?_⟩
    refine xd_take tab hk (k := 1) (is := [9, 10]) (ls' := #[true, true, true, true, true, true, true, true, true, true, true, false]) (lv := []) (ks := [0, 1, 12, 14]) (e' := [(0, .pointer (some ⟨bp0, 0, none⟩)), (1, .slice Ap1 (p1).length cp1), (12, .slice A1510 ((p0.l ++ ([t1285] : List (List T46)))).length c1511), (14, .pointer (some ⟨bp0, 0, none⟩))]) (by kernel_rfl) rfl rfl (by kernel_rfl) (np_then (np_then np_body)) trivial (fun W_ hS => trivial) fun a hk => ?_
    refine xd_op hk (i := 11) (by kernel_rfl) rfl rfl ?_
    refine op_store tab hk (t := 59) (v := .slice A1510 ((p0.l ++ ([t1285] : List (List T46)))).length c1511) (b := bp0) (k := 0) (cs' := [.slice A1510 ((p0.l ++ ([t1285] : List (List T46)))).length c1511, .slice Ap0_1 (p0.chains).length cp0_1, .slice Ap0_2 (p0.begun).length cp0_2]) rfl rfl rfl rfl rfl rfl f900019 rfl rfl fun w1514 o1515 st1516 f900019_ => ?_
    replace f1503 := f1503.st st1516 (by decide)
    replace f1512 := f1512.st st1516 (by decide)
    replace f900001 := f900001.st st1516 (by decide)
    replace f900002 := f900002.st st1516 (by decide)
    replace f900020 := f900020.st st1516 (by decide)
    replace fg2 := fg2.st st1516 (by decide)
    replace hs := hs.locQ st1516 hob rfl
    replace f900019 := f900019_
    refine ⟨.inr trivial, ?_⟩
    refine xd_done (by kernel_rfl) ?_
    refine then_n ?_
    exact ⟨o1515, A1510, c1511, (p0.l ++ ([t1285] : List (List T46))), (by exact Kn.pick (ks := [0, 1]) hk rfl), hs, f1512, f900001, f900002, f900019, f900020, fg2, hc1513, H⟩
  have N1448 : ∀ (a_ : Act) (w_ : World), (∃ o1442 : Nat → Nat, ∃ A1443 : Option Addr, ∃ c1444 : Nat, Kn 38 a_ [(0, .pointer (some ⟨bp0, 0, none⟩)), (1, .slice Ap1 (p1).length cp1), (4, .pointer (some ⟨bp0, 0, none⟩)), (7, .pointer (some ⟨bp0, 0, none⟩)), (10, .slice A1443 (t1285).length c1444)] ∧ St [2, 3, 4] w oi w_ o1442 ∧ Ft (Own ET46 47 (.slice A1443 (t1285).length c1444) t1285) w_ o1442 72 ∧ NOwn (dRows ET46) 43 Ap0_0 cp0_0 p0.l w_ o1442 3 1 ∧ Ft (Own (encInt .i64) 3 (.slice Ap0_1 (p0.chains).length cp0_1) p0.chains) w_ o1442 4 ∧ Ft (Own ET46 47 (.slice Ap0_2 (p0.begun).length cp0_2) p0.begun) w_ o1442 5 ∧ Ft (Bx bp0 61 [.slice Ap0_0 (p0.l).length cp0_0, .slice Ap0_1 (p0.chains).length cp0_1, .slice Ap0_2 (p0.begun).length cp0_2]) w_ o1442 2 ∧ Ft (RdC ET46 Ap1 p1) w_ o1442 5 ∧ Ft (RdC (encInt .u32) (some ⟨2, 0, none⟩) glob2) w_ o1442 0 ∧ (t1285).length ≤ c1444) → G 6 #[true, true, true, true, false, true, true, false, false, false, false, false] a_ w_ := by
    refine fun a w1447 z0 => z0.elim fun o1442 z1 => z1.elim fun A1443 z2 => z2.elim fun c1444 z3 => z3.elim fun hk z4 => z4.elim fun hs z5 => z5.elim fun f1445 z6 => z6.elim fun f900000 z7 => z7.elim fun f900001 z8 => z8.elim fun f900002 z9 => z9.elim fun f900019 z10 => z10.elim fun f900020 z11 => z11.elim fun fg2 hc1446 => ?_
    clear z0 z1 z2 z3 z4 z5 z6 z7 z8 z9 z10 z11
    refine xd_of hG ?_
    refine xd_each [4, 7] (by kernel_rfl) rfl ⟨?_, ?_, trivial⟩
    · refine xd_one hk rfl rfl ?_
      refine op_quiet tab hk (lv := [.slice Ap0_0 (p0.l).length cp0_0]) (v := .slice Ap0_0 (p0.l).length cp0_0) rfl ⟨(load1 tab rfl ((Bx.cell f900019.now 0).trans rfl)), trivial⟩ ?_
      have hk := hk.put 8 (.slice Ap0_0 (p0.l).length cp0_0) rfl
      refine ⟨.inr trivial, ?_⟩
      exact xd_to hG rfl (N1464 _ _ ⟨(fun b_ => R_95 (o1442 b_)), A1443, c1444, (by exact Kn.pick (ks := [0, 1, 4, 8, 10]) hk rfl), (hs.relabM hob R_95 (by decide)), (f1445.relab R_95 rfl), (f900000.relab R_95 rfl), (f900001.relab R_95 rfl), (f900002.relab R_95 rfl), (f900019.relab R_95 rfl), (f900020.relab R_95 rfl), (fg2.relab R_95 rfl), hc1446⟩)
    · refine xd_one hk rfl rfl ?_
      obtain ⟨o1486, hR1487⟩ := relab_ex o1442 R_96
      replace hs : St [2, 3, 4] w oi w1447 o1486 := by rw [hR1487]; exact (hs.relabM hob R_96 (by decide))
      replace f1445 : Ft (Own ET46 47 (.slice A1443 (t1285).length c1444) t1285) w1447 o1486 1 := by rw [hR1487]; exact f1445.relab R_96 rfl
      replace f900000 : NOwn (dRows ET46) 43 Ap0_0 cp0_0 p0.l w1447 o1486 3 1 := by rw [hR1487]; exact f900000.relab R_96 rfl
      replace f900001 : Ft (Own (encInt .i64) 3 (.slice Ap0_1 (p0.chains).length cp0_1) p0.chains) w1447 o1486 4 := by rw [hR1487]; exact f900001.relab R_96 rfl
      replace f900002 : Ft (Own ET46 47 (.slice Ap0_2 (p0.begun).length cp0_2) p0.begun) w1447 o1486 5 := by rw [hR1487]; exact f900002.relab R_96 rfl
      replace f900019 : Ft (Bx bp0 61 [.slice Ap0_0 (p0.l).length cp0_0, .slice Ap0_1 (p0.chains).length cp0_1, .slice Ap0_2 (p0.begun).length cp0_2]) w1447 o1486 2 := by rw [hR1487]; exact f900019.relab R_96 rfl
      replace f900020 : Ft (RdC ET46 Ap1 p1) w1447 o1486 5 := by rw [hR1487]; exact f900020.relab R_96 rfl
      replace fg2 : Ft (RdC (encInt .u32) (some ⟨2, 0, none⟩) glob2) w1447 o1486 0 := by rw [hR1487]; exact fg2.relab R_96 rfl
      refine op_slice (o := o1486) tab hk (vs := [.slice A1443 (t1285).length c1444]) (cs := [.slice A1443 (t1285).length c1444]) rfl rfl rfl rfl rfl rfl rfl rfl rfl 75 fun bx1488 w1483 o1484 st1485 f1489 => ?_
      replace f1445 := f1445.st st1485 (by decide)
      replace f900000 := f900000.st st1485 (by decide)
      replace f900001 := f900001.st st1485 (by decide)
      replace f900002 := f900002.st st1485 (by decide)
      replace f900019 := f900019.st st1485 (by decide)
      replace f900020 := f900020.st st1485 (by decide)
      replace fg2 := fg2.st st1485 (by decide)
      replace hs := hs.locQ st1485 hob rfl
      have f1490 : NOwn (dRows ET46) 43 (some ⟨bx1488, 0, none⟩) 1 ([t1285] : List (List T46)) w1483 o1484 75 1 := NOwn.lit f1489 [⟨A1443, c1444, t1285⟩] rfl (Inn.consF (f1445.imp fun _ h_ => Own.rd h_) hc1446 (Inn.nilF _ _ _ _)) rfl (Nat.le_of_ble_eq_true rfl)
      have hk := hk.put 11 (.slice (some ⟨bx1488, 0, none⟩) (([t1285] : List (List T46))).length 1) rfl
      refine ⟨.inr trivial, ?_⟩
      exact xd_to hG rfl (N1506 _ _ ⟨(fun b_ => R_97 (o1484 b_)), (some ⟨bx1488, 0, none⟩), 1, (by exact Kn.pick (ks := [0, 1, 4, 7, 11]) hk rfl), (hs.relabM hob R_97 (by decide)), (f1490.relab R_97 rfl), (f900000.relab R_97 rfl), (f900001.relab R_97 rfl), (f900002.relab R_97 rfl), (f900019.relab R_97 rfl), (f900020.relab R_97 rfl), (fg2.relab R_97 rfl), (Nat.le_refl _)⟩)
  refine xd_of hG ?_
  refine xd_take tab hk (k := 7) (is := [0, 1, 2, 3, 5]) (ls' := #[true, true, true, true, false, true, false, false, false, false, false, false]) (lv := []) (ks := [0, 1, 4, 7, 9]) (e' := [(0, .pointer (some ⟨bp0, 0, none⟩)), (1, .slice Ap1 (p1).length cp1), (4, .pointer (some ⟨bp0, 0, none⟩)), (7, .pointer (some ⟨bp0, 0, none⟩)), (9, .slice Ap1 (p1).length cp1)]) (by kernel_rfl) rfl rfl (by kernel_rfl) (np_then (np_then np_body)) trivial (fun W_ hS => trivial) fun a hk => ?_
  refine xd_each [4, 6] (by kernel_rfl) rfl ⟨?_, ?_, trivial⟩
  · refine xd_one hk rfl rfl ?_
    refine op_quiet tab hk (lv := [.slice Ap0_0 (p0.l).length cp0_0]) (v := .slice Ap0_0 (p0.l).length cp0_0) rfl ⟨(load1 tab rfl ((Bx.cell f900019.now 0).trans rfl)), trivial⟩ ?_
    have hk := hk.put 8 (.slice Ap0_0 (p0.l).length cp0_0) rfl
    refine ⟨.inr trivial, ?_⟩
    exact xd_to hG rfl (N1394 _ _ ⟨oi, (by exact Kn.pick (ks := [0, 1, 4, 8, 9]) hk rfl), hs, f900000, f900001, f900002, f900019, f900020, fg2⟩)
  · refine xd_one hk rfl rfl ?_
    refine op_call hk ent_16 (vs := [.slice Ap1 (p1).length cp1]) rfl (slices_Clone''_calls Ap1 cp1 p1 _ oi _ f900020 hcp1 71  _ hc1286) ?_
    rintro _ w1426 ⟨o1427, A1429, c1430, rfl, st1428, f1431, hc1432⟩
    replace f900000 := f900000.st st1428 (by decide)
    replace f900001 := f900001.st st1428 (by decide)
    replace f900002 := f900002.st st1428 (by decide)
    replace f900019 := f900019.st st1428 (by decide)
    replace f900020 := f900020.st st1428 (by decide)
    replace fg2 := fg2.st st1428 (by decide)
    replace hs := hs.locQ st1428 hob rfl
    have hk := hk.put 10 (.slice A1429 (t1285).length c1430) rfl
    refine ⟨.inr trivial, ?_⟩
    exact xd_to hG rfl (N1448 _ _ ⟨(fun b_ => R_98 (o1427 b_)), A1429, c1430, (by exact Kn.pick (ks := [0, 1, 4, 7, 10]) hk rfl), (hs.relabM hob R_98 (by decide)), (f1431.relab R_98 rfl), (f900000.relab R_98 rfl), (f900001.relab R_98 rfl), (f900002.relab R_98 rfl), (f900019.relab R_98 rfl), (f900020.relab R_98 rfl), (fg2.relab R_98 rfl), hc1432⟩)

end Go.Proofs.YtpciioffkjpieaaGreatDoor
