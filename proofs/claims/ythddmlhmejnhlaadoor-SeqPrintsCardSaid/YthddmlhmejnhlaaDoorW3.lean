/- Walks, printed by an own program: the machine's calls compute the plain functions. -/
import Derived.Test.YthddmlhmejnhlaaDoorW2
set_option linter.unusedVariables false
set_option linter.unusedSimpArgs false
namespace Go.Proofs.YthddmlhmejnhlaaDoor
open Go Go.Proofs.XC
/-! tidewrack/tidewrackref07.prints -/
theorem tidewrackref07_prints_calls (K : Nat) (Ap0 : Option Addr) (cp0 : Nat) (p0 : List Int) (w : World) (o : Nat → Nat) (LF : Nat) (Lp0 : Nat) (hp0 : Ft (RdC (encInt .i64) Ap0 p0) w o Lp0) (hcp0 : (p0).length ≤ cp0) (hd0 : ([LF] : List Nat).Nodup) (hd1 : Lp0 ∉ [LF]) (R0 : Nat) (r : List T47) (H : tidewrackref07_prints K p0 = some r) :
    Calls Tryd.prog 20 #[.slice Ap0 (p0).length cp0] w (Ret fun v_ w' => ∃ o' : Nat → Nat, ∃ A0 : Option Addr, ∃ c0 : Nat, v_ = .slice A0 (r).length c0 ∧ St [] w o w' o' ∧ NOwn dT47 48 A0 c0 r w' o' R0 LF ∧ (r).length ≤ c0) := by
  refine x_enter (vs := [.slice Ap0 (p0).length cp0]) Tryd.func20 rfl rfl rfl fun a hk => ?_
  obtain ⟨oi, hs0, h0, h1, hob, hoz, hoa⟩ := St.startM2 w o (m := 1) hd0 rfl
  have hs := hs0 []
  have f900000 := h0 _ _ hd1 hp0
  clear h0 h1 hs0
  rw [tidewrackref07_prints] at H
  refine x_seq ?_
  refine wpIn_region_lit ?_
  refine x_run tab hk (k := 1) (lv := []) (ks := [0]) (e' := [(0, .slice Ap0 (p0).length cp0)]) rfl trivial fun a hk => ?_
  refine wpListIn_nil ?_
  refine then_n ?_
  refine x_seq ?_
  refine wpIn_region_lit ?_
  refine x_op hk rfl ?_
  refine op_slice (o := oi) tab hk (vs := []) (cs := []) rfl rfl rfl rfl rfl rfl rfl rfl rfl 2 fun bx4 w1 o2 st3 f5 => ?_
  replace f900000 := f900000.st st3 (by decide)
  replace hs := hs.locQ st3 hob rfl
  have f6 : NOwn dT47 48 (some ⟨bx4, 0, none⟩) 0 ([] : List T47) w1 o2 2 1 := NOwn.litD (D := dT47) f5 [] rfl (Inn.nilD _ _ _ _) rfl (Nat.le_of_ble_eq_true rfl)
  have hk := hk.put 6 (.slice (some ⟨bx4, 0, none⟩) (([] : List T47)).length 0) rfl
  refine x_run tab hk (k := 1) (lv := []) (ks := [0, 3]) (e' := [(0, .slice Ap0 (p0).length cp0), (3, .slice (some ⟨bx4, 0, none⟩) (([] : List T47)).length 0)]) rfl trivial fun a hk => ?_
  refine wpListIn_nil ?_
  refine then_n ?_
  refine x_mid (fun a_ w_ => ∃ o82 : Nat → Nat, ∃ A83 : Option Addr, ∃ c84 : Nat, ∃ l85 : List T47, Kn 20 a_ [(3, .slice A83 (l85).length c84)] ∧ St [] w oi w_ o82 ∧ NOwn dT47 48 A83 c84 l85 w_ o82 8 1 ∧ (l85).length ≤ c84 ∧ tidewrackref07_prints_j1 l85 = some r) ?_ ?_
  rotate_left
  · rintro a w88 ⟨o82, A83, c84, l85, hk, hs, f86, hc87, H⟩
    rw [tidewrackref07_prints_j1] at H
    refine x_seq ?_
    refine wpIn_region_lit ?_
    refine x_run tab hk (k := 2) (lv := []) (ks := [2]) (e' := [(2, .slice A83 (l85).length c84)]) rfl trivial fun a hk => ?_
    refine wpListIn_nil ?_
    refine then_n ?_
    refine wpIn_ret ?_
    obtain rfl := Option.some.inj H
    exact x_retG hk (rs := [.tmp 2]) (vs := [.slice A83 (l85).length c84]) rfl ⟨rfl, trivial⟩ ⟨cl w oi o [] (fun l_ => if l_ = 1 then LF else if l_ = 8 then R0 else 0) o82, A83, c84, rfl, hs.closeF (Lm := []) (Sh := []) hoa rfl (fun l_ => if l_ = 1 then LF else if l_ = 8 then R0 else 0), f86.conv (fun _ h_ => hs.closeM_ft (o := o) (ρ := fun l_ => if l_ = 1 then LF else if l_ = 8 then R0 else 0) h_ (lab_none hob rfl) rfl) (fun _ h_ => hs.closeM_ft (o := o) (ρ := fun l_ => if l_ = 1 then LF else if l_ = 8 then R0 else 0) h_ (lab_at hoa (i := 0) rfl) rfl), hc87⟩
  refine x_seq ?_
  refine wpIn_region_lit ?_
  refine x_run tab hk (k := 3) (lv := []) (ks := [3, 7, 8, 9]) (e' := [(3, .slice (some ⟨bx4, 0, none⟩) (([] : List T47)).length 0), (7, .slice Ap0 (p0).length cp0), (8, .int .i64 ((p0).length : Int)), (9, .int .i64 0)]) rfl trivial fun a hk => ?_
  refine wpListIn_nil ?_
  refine then_n ?_
  refine wpIn_block ?_
  refine x_loop (fun j_ a_ w_ => ∃ o109 : Nat → Nat, ∃ A110 : Option Addr, ∃ c111 : Nat, ∃ l112 : List T47, ∃ x115 : Int, Kn 20 a_ [(3, .slice A110 (l112).length c111), (7, .slice Ap0 (p0).length cp0), (8, .int .i64 ((p0).length : Int)), (9, .int .i64 x115)] ∧ St [] w oi w_ o109 ∧ NOwn dT47 48 A110 c111 l112 w_ o109 11 1 ∧ Ft (RdC (encInt .i64) Ap0 p0) w_ o109 0 ∧ (l112).length ≤ c111 ∧ tidewrackref07_prints_l2 p0 j_ l112 x115 = some r) (k := K) ⟨(fun b_ => (fun l_ => if l_ = 2 then 11 else l_) (o2 b_)), (some ⟨bx4, 0, none⟩), 0, ([] : List T47), 0, (by exact Kn.pick (ks := [3, 7, 8, 9]) hk rfl), (hs.relabM hob (fun l_ => if l_ = 2 then 11 else l_) (by decide)), (f6.relab (fun l_ => if l_ = 2 then 11 else l_) rfl), (f900000.relab (fun l_ => if l_ = 2 then 11 else l_) rfl), (Nat.le_refl _), H⟩ (by rintro _ _ ⟨_, _, _, _, _, _, _, _, _, _, H_⟩; exact absurd (show (none : Option (List T47)) = some r from H_) (by simp)) ?_
  rintro k134 a w133 ⟨o109, A110, c111, l112, x115, hk, hs, f113, f900000, hc114, H⟩
  rw [tidewrackref07_prints_l2] at H
  obtain ⟨lp135, hlp136⟩ : ∃ lp_, lp_ = tidewrackref07_prints_l2 p0 k134 := ⟨_, rfl⟩
  rw [← hlp136] at H
  refine x_seq ?_
  refine wpIn_region_lit ?_
  refine x_run tab hk (k := 1) (lv := []) (ks := [3, 7, 8, 9, 10]) (e' := [(3, .slice A110 (l112).length c111), (7, .slice Ap0 (p0).length cp0), (8, .int .i64 ((p0).length : Int)), (9, .int .i64 x115), (10, .bool (decide (x115 < ((p0).length : Int))))]) rfl trivial fun a hk => ?_
  refine wpListIn_nil ?_
  refine then_n ?_
  refine x_seq ?_
  cases b137 : (decide (x115 < ((p0).length : Int)))
  · rw [b137] at hk H
    replace H := bifF H
    refine x_if hk (b := false) rfl ?_
    refine (show Code.wpIn _ _ _ _ _ _ _ from ?_)
    refine wpIn_exit ?_
    refine then_x ?_
    refine then_x ?_
    refine blk_x ?_
    refine then_n ?_
    exact ⟨(fun b_ => (fun l_ => if l_ = 11 then 8 else l_) (o109 b_)), A110, c111, l112, (by exact Kn.pick (ks := [3]) hk rfl), (hs.relabM hob (fun l_ => if l_ = 11 then 8 else l_) (by decide)), (f113.relab (fun l_ => if l_ = 11 then 8 else l_) rfl), hc114, H⟩
  · rw [b137] at hk H
    replace H := bifT H
    refine x_if hk (b := true) rfl ?_
    refine (show Code.wpIn _ _ _ _ _ _ _ from ?_)
    refine wpIn_skip ?_
    refine then_n ?_
    refine x_seq ?_
    refine wpIn_block ?_
    refine x_seq ?_
    refine wpIn_region_lit ?_
    obtain ⟨q138, H⟩ := ifS H
    obtain ⟨ad139, hAad139⟩ := RdC.addr f900000.now q138
    have hk_C := hk
    have f113_C := f113
    have f900000_C := f900000
    subst hAad139
    have hk := hk_C
    clear hk_C
    have f113 := f113_C
    clear f113_C
    have f900000 := f900000_C
    clear f900000_C
    refine x_run tab hk (k := 3) (lv := [.int .i64 (rdD 0 p0 x115)]) (ks := [3, 5, 7, 8, 9]) (e' := [(3, .slice A110 (l112).length c111), (5, .int .i64 (rdD 0 p0 x115)), (7, .slice (some ad139) (p0).length cp0), (8, .int .i64 ((p0).length : Int)), (9, .int .i64 x115)]) rfl ⟨q138, (load1 tab rfl (RdC.at0 (E := (encInt .i64)) (d := 0) (i := x115) f900000.now q138 rfl)), trivial⟩ fun a hk => ?_
    refine wpListIn_nil ?_
    refine then_n ?_
    refine wpIn_region_lit ?_
    refine x_run tab hk (k := 3) (lv := []) (ks := [7, 8, 9, 13, 15]) (e' := [(7, .slice (some ad139) (p0).length cp0), (8, .int .i64 ((p0).length : Int)), (9, .int .i64 x115), (13, .slice A110 (l112).length c111), (15, .agg #[.int .i64 1, .int .i64 (rdD 0 p0 x115), .int .i64 0, .bool false, .slice none 0 0, .string (⟨#[]⟩ : ByteArray)])]) rfl trivial fun a hk => ?_
    refine x_op hk rfl ?_
    refine op_slice (o := o109) tab hk (vs := [.agg #[.int .i64 1, .int .i64 (rdD 0 p0 x115), .int .i64 0, .bool false, .slice none 0 0, .string (⟨#[]⟩ : ByteArray)]]) (cs := [.int .i64 1, .int .i64 (rdD 0 p0 x115), .int .i64 0, .bool false, .slice none 0 0, .string (⟨#[]⟩ : ByteArray)]) rfl rfl rfl rfl rfl rfl rfl rfl rfl 13 fun bx143 w140 o141 st142 f144 => ?_
    replace f113 := f113.st st142 (by decide)
    replace f900000 := f900000.st st142 (by decide)
    replace hs := hs.locQ st142 hob rfl
    have f145 : NOwn dT47 48 (some ⟨bx143, 0, none⟩) 1 ([(⟨1, (rdD 0 p0 x115), 0, false, ([] : List Int), (⟨#[]⟩ : ByteArray)⟩ : T47)] : List T47) w140 o141 13 1 := NOwn.litD (D := dT47) f144 [(⟨(⟨1, (rdD 0 p0 x115), 0, false, ([] : List Int), (⟨#[]⟩ : ByteArray)⟩ : T47), none, 0⟩ : NT47)] rfl (Inn.consD (D := dT47) (r := (⟨(⟨1, (rdD 0 p0 x115), 0, false, ([] : List Int), (⟨#[]⟩ : ByteArray)⟩ : T47), none, 0⟩ : NT47)) ((Ft.of_all (P := RdC (encInt .i64) none []) (fun _ h_ => absurd h_ (by simp)) _ _ _).imp fun _ h_ => ⟨h_, (by simp)⟩) (Inn.nilD _ _ _ _)) rfl (Nat.le_of_ble_eq_true rfl)
    have hk := hk.put 16 (.slice (some ⟨bx143, 0, none⟩) (([(⟨1, (rdD 0 p0 x115), 0, false, ([] : List Int), (⟨#[]⟩ : ByteArray)⟩ : T47)] : List T47)).length 1) rfl
    refine x_op hk rfl ?_
    obtain ⟨q149, H⟩ := ifS H
    refine op_appendN (o := o141) (D := dT47) (xs := l112) (ys := ([(⟨1, (rdD 0 p0 x115), 0, false, ([] : List Int), (⟨#[]⟩ : ByteArray)⟩ : T47)] : List T47)) tab hk rfl rfl rfl rfl rfl rfl rfl f113 f145.rd (by decide) q149 fun A150 c151 w146 o147 st148 f152 hc153 => ?_
    replace f145 := f145.st st148 (by decide)
    replace f900000 := f900000.st st148 (by decide)
    replace hs := hs.locQ st148 hob rfl
    have hk := hk.put 17 (.slice A150 ((l112 ++ ([(⟨1, (rdD 0 p0 x115), 0, false, ([] : List Int), (⟨#[]⟩ : ByteArray)⟩ : T47)] : List T47))).length c151) rfl
    refine x_run tab hk (k := 1) (lv := []) (ks := [3, 7, 8, 9]) (e' := [(3, .slice A150 ((l112 ++ ([(⟨1, (rdD 0 p0 x115), 0, false, ([] : List Int), (⟨#[]⟩ : ByteArray)⟩ : T47)] : List T47))).length c151), (7, .slice (some ad139) (p0).length cp0), (8, .int .i64 ((p0).length : Int)), (9, .int .i64 x115)]) rfl trivial fun a hk => ?_
    refine wpListIn_nil ?_
    refine blk_n ?_
    refine then_n ?_
    refine wpIn_region_lit ?_
    refine x_run tab hk (k := 2) (lv := []) (ks := [3, 7, 8, 9]) (e' := [(3, .slice A150 ((l112 ++ ([(⟨1, (rdD 0 p0 x115), 0, false, ([] : List Int), (⟨#[]⟩ : ByteArray)⟩ : T47)] : List T47))).length c151), (7, .slice (some ad139) (p0).length cp0), (8, .int .i64 ((p0).length : Int)), (9, .int .i64 (IntKind.wrap .i64 (x115 + 1)))]) rfl trivial fun a hk => ?_
    refine wpListIn_nil ?_
    refine then_n ?_
    exact ⟨k134, Nat.le_refl _, o147, A150, c151, (l112 ++ ([(⟨1, (rdD 0 p0 x115), 0, false, ([] : List Int), (⟨#[]⟩ : ByteArray)⟩ : T47)] : List T47)), (IntKind.wrap .i64 (x115 + 1)), (by exact Kn.pick (ks := [3, 7, 8, 9]) hk rfl), hs, f152, f900000, hc153, (hlp136 ▸ H)⟩

/-! tidewrack/tidewrackref07.Titles -/
theorem tidewrackref07_Titles_calls (p0 : ByteArray) (w : World) (o : Nat → Nat) (LF : Nat)  (hd0 : ([LF] : List Nat).Nodup) (R0 : Nat) (r : List T47) (H : tidewrackref07_Titles p0 = some r) :
    Calls Tryd.prog 21 #[.string p0] w (Ret fun v_ w' => ∃ o' : Nat → Nat, ∃ A0 : Option Addr, ∃ c0 : Nat, v_ = .slice A0 (r).length c0 ∧ St [] w o w' o' ∧ NOwn dT47 48 A0 c0 r w' o' R0 LF ∧ (r).length ≤ c0) := by
  refine x_enter (vs := [.string p0]) Tryd.func21 rfl rfl rfl fun a hk => ?_
  obtain ⟨oi, hs0, h0, h1, hob, hoz, hoa⟩ := St.startM2 w o (m := 1) hd0 rfl
  have hs := hs0 []
  clear h0 h1 hs0
  rw [tidewrackref07_Titles] at H
  refine x_seq ?_
  refine wpIn_region_lit ?_
  refine x_run tab hk (k := 1) (lv := []) (ks := [0]) (e' := [(0, .string p0)]) rfl trivial fun a hk => ?_
  refine wpListIn_nil ?_
  refine then_n ?_
  refine x_mid (fun a_ w_ => ∃ o9 : Nat → Nat, ∃ x10 : ByteArray, Kn 30 a_ [(0, .string x10)] ∧ St [] w oi w_ o9 ∧ tidewrackref07_Titles_j1 x10 = some r) ?_ ?_
  rotate_left
  · rintro a w11 ⟨o9, x10, hk, hs, H⟩
    rw [tidewrackref07_Titles_j1] at H
    refine x_seq ?_
    refine x_mid (fun a_ w_ => ∃ o24 : Nat → Nat, ∃ x25 : Bool, Kn 30 a_ [(0, .string x10), (25, .bool x25)] ∧ St [] w oi w_ o24 ∧ tidewrackref07_Titles_j2 x10 x25 = some r) ?_ ?_
    rotate_left
    · rintro a w26 ⟨o24, x25, hk, hs, H⟩
      rw [tidewrackref07_Titles_j2] at H
      cases b27 : x25
      · rw [b27] at hk H
        replace H := bifF H
        refine x_if hk (b := false) rfl ?_
        refine (show Code.wpIn _ _ _ _ _ _ _ from ?_)
        refine wpIn_skip ?_
        refine then_n ?_
        refine x_seq ?_
        refine wpIn_region_lit ?_
        refine x_run tab hk (k := 1) (lv := []) (ks := [2]) (e' := [(2, .slice none 0 0)]) rfl trivial fun a hk => ?_
        refine wpListIn_nil ?_
        refine then_n ?_
        refine wpIn_ret ?_
        obtain rfl := Option.some.inj H
        exact x_retG hk (rs := [.tmp 2]) (vs := [.slice none 0 0]) rfl ⟨rfl, trivial⟩ ⟨cl w oi o [] (fun l_ => if l_ = 1 then LF else 0) o24, none, 0, rfl, hs.closeF (Lm := []) (Sh := []) hoa rfl (fun l_ => if l_ = 1 then LF else 0), (NOwn.nil _ _ _ _ _ _), (by simp)⟩
      · rw [b27] at hk H
        replace H := bifT H
        refine x_if hk (b := true) rfl ?_
        refine (show Code.wpIn _ _ _ _ _ _ _ from ?_)
        refine x_seq ?_
        refine wpIn_region_lit ?_
        obtain ⟨q28, H⟩ := ifS H
        refine x_run tab hk (k := 3) (lv := []) (ks := [28]) (e' := [(28, .agg #[.int .i64 5, .int .i64 0, .int .i64 0, .bool false, .slice none 0 0, .string (ByteArray.extract x10 (Int.toNat 2) (x10).size)])]) rfl ⟨(show 0 ≤ (2 : Int) from by decide), q28, trivial⟩ fun a hk => ?_
        refine x_op hk rfl ?_
        refine op_slice (o := o24) tab hk (vs := [.agg #[.int .i64 5, .int .i64 0, .int .i64 0, .bool false, .slice none 0 0, .string (ByteArray.extract x10 (Int.toNat 2) (x10).size)]]) (cs := [.int .i64 5, .int .i64 0, .int .i64 0, .bool false, .slice none 0 0, .string (ByteArray.extract x10 (Int.toNat 2) (x10).size)]) rfl rfl rfl rfl rfl rfl rfl rfl rfl 2 fun bx32 w29 o30 st31 f33 => ?_
        replace hs := hs.locQ st31 hob rfl
        have f34 : NOwn dT47 48 (some ⟨bx32, 0, none⟩) 1 ([(⟨5, 0, 0, false, ([] : List Int), (ByteArray.extract x10 (Int.toNat 2) (x10).size)⟩ : T47)] : List T47) w29 o30 2 1 := NOwn.litD (D := dT47) f33 [(⟨(⟨5, 0, 0, false, ([] : List Int), (ByteArray.extract x10 (Int.toNat 2) (x10).size)⟩ : T47), none, 0⟩ : NT47)] rfl (Inn.consD (D := dT47) (r := (⟨(⟨5, 0, 0, false, ([] : List Int), (ByteArray.extract x10 (Int.toNat 2) (x10).size)⟩ : T47), none, 0⟩ : NT47)) ((Ft.of_all (P := RdC (encInt .i64) none []) (fun _ h_ => absurd h_ (by simp)) _ _ _).imp fun _ h_ => ⟨h_, (by simp)⟩) (Inn.nilD _ _ _ _)) rfl (Nat.le_of_ble_eq_true rfl)
        have hk := hk.put 29 (.slice (some ⟨bx32, 0, none⟩) (([(⟨5, 0, 0, false, ([] : List Int), (ByteArray.extract x10 (Int.toNat 2) (x10).size)⟩ : T47)] : List T47)).length 1) rfl
        refine x_run tab hk (k := 1) (lv := []) (ks := [2]) (e' := [(2, .slice (some ⟨bx32, 0, none⟩) (([(⟨5, 0, 0, false, ([] : List Int), (ByteArray.extract x10 (Int.toNat 2) (x10).size)⟩ : T47)] : List T47)).length 1)]) rfl trivial fun a hk => ?_
        refine wpListIn_nil ?_
        refine then_n ?_
        refine wpIn_ret ?_
        refine then_r ?_
        obtain rfl := Option.some.inj H
        exact x_retG hk (rs := [.tmp 2]) (vs := [.slice (some ⟨bx32, 0, none⟩) (([(⟨5, 0, 0, false, ([] : List Int), (ByteArray.extract x10 (Int.toNat 2) (x10).size)⟩ : T47)] : List T47)).length 1]) rfl ⟨rfl, trivial⟩ ⟨cl w oi o [] (fun l_ => if l_ = 1 then LF else if l_ = 2 then R0 else 0) o30, (some ⟨bx32, 0, none⟩), 1, rfl, hs.closeF (Lm := []) (Sh := []) hoa rfl (fun l_ => if l_ = 1 then LF else if l_ = 2 then R0 else 0), f34.conv (fun _ h_ => hs.closeM_ft (o := o) (ρ := fun l_ => if l_ = 1 then LF else if l_ = 2 then R0 else 0) h_ (lab_none hob rfl) rfl) (fun _ h_ => hs.closeM_ft (o := o) (ρ := fun l_ => if l_ = 1 then LF else if l_ = 2 then R0 else 0) h_ (lab_at hoa (i := 0) rfl) rfl), (Nat.le_refl _)⟩
    refine wpIn_region_lit ?_
    refine x_run tab hk (k := 4) (lv := []) (ks := [0, 11]) (e' := [(0, .string x10), (11, .bool (decide (((x10).size : Int) > (1 : Int))))]) rfl trivial fun a hk => ?_
    cases b35 : (decide (((x10).size : Int) > (1 : Int)))
    · rw [b35] at hk H
      replace H := bifF H
      refine x_run tab hk (k := 13) (lv := []) (ks := [0, 21, 24]) (e' := [(0, .string x10), (21, .bool false), (24, undef)]) rfl trivial fun a hk => ?_
      refine x_run tab hk (k := 1) (lv := []) (ks := [0, 25]) (e' := [(0, .string x10), (25, .bool false)]) rfl trivial fun a hk => ?_
      refine wpListIn_nil ?_
      refine then_n ?_
      exact ⟨o9, false, (by exact Kn.pick (ks := [0, 25]) hk rfl), hs, H⟩
    · rw [b35] at hk H
      replace H := bifT H
      obtain ⟨q36, H⟩ := ifS H
      refine x_run tab hk (k := 4) (lv := []) (ks := [0, 11, 15]) (e' := [(0, .string x10), (11, .bool true), (15, .bool ((bt x10 (0 : Int)) == (48 : Int)))]) rfl ⟨q36, trivial⟩ fun a hk => ?_
      cases b37 : ((bt x10 (0 : Int)) == (48 : Int))
      · rw [b37] at hk H
        replace H := bifF H
        refine x_run tab hk (k := 6) (lv := []) (ks := [0, 21]) (e' := [(0, .string x10), (21, .bool ((bt x10 (0 : Int)) == (50 : Int)))]) rfl ⟨q36, trivial⟩ fun a hk => ?_
        cases b38 : ((bt x10 (0 : Int)) == (50 : Int))
        · rw [b38] at hk H
          replace H := bifF H
          refine x_run tab hk (k := 4) (lv := []) (ks := [0, 25]) (e' := [(0, .string x10), (25, .bool false)]) rfl trivial fun a hk => ?_
          refine wpListIn_nil ?_
          refine then_n ?_
          exact ⟨o9, false, (by exact Kn.pick (ks := [0, 25]) hk rfl), hs, H⟩
        · rw [b38] at hk H
          replace H := bifT H
          obtain ⟨q39, H⟩ := ifS H
          refine x_run tab hk (k := 4) (lv := []) (ks := [0, 25]) (e' := [(0, .string x10), (25, .bool ((bt x10 (1 : Int)) == (59 : Int)))]) rfl ⟨q39, trivial⟩ fun a hk => ?_
          refine wpListIn_nil ?_
          refine then_n ?_
          exact ⟨o9, ((bt x10 (1 : Int)) == (59 : Int)), (by exact Kn.pick (ks := [0, 25]) hk rfl), hs, H⟩
      · rw [b37] at hk H
        replace H := bifT H
        obtain ⟨q40, H⟩ := ifS H
        refine x_run tab hk (k := 10) (lv := []) (ks := [0, 25]) (e' := [(0, .string x10), (25, .bool ((bt x10 (1 : Int)) == (59 : Int)))]) rfl ⟨q40, trivial⟩ fun a hk => ?_
        refine wpListIn_nil ?_
        refine then_n ?_
        exact ⟨o9, ((bt x10 (1 : Int)) == (59 : Int)), (by exact Kn.pick (ks := [0, 25]) hk rfl), hs, H⟩
  refine x_seq ?_
  refine wpIn_region_lit ?_
  refine x_run tab hk (k := 3) (lv := []) (ks := [0, 5]) (e' := [(0, .string p0), (5, .bool (decide (((p0).size : Int) > (200 : Int))))]) rfl trivial fun a hk => ?_
  refine wpListIn_nil ?_
  refine then_n ?_
  cases b41 : (decide (((p0).size : Int) > (200 : Int)))
  · rw [b41] at hk H
    replace H := bifF H
    refine x_if hk (b := false) rfl ?_
    refine (show Code.wpIn _ _ _ _ _ _ _ from ?_)
    refine wpIn_skip ?_
    refine then_n ?_
    exact ⟨oi, p0, (by exact Kn.pick (ks := [0]) hk rfl), hs, H⟩
  · rw [b41] at hk H
    replace H := bifT H
    refine x_if hk (b := true) rfl ?_
    refine (show Code.wpIn _ _ _ _ _ _ _ from ?_)
    refine wpIn_region_lit ?_
    obtain ⟨q42, H⟩ := ifS H
    refine x_run tab hk (k := 3) (lv := []) (ks := [0]) (e' := [(0, .string (ByteArray.extract p0 0 (Int.toNat 200)))]) rfl ⟨(show 0 ≤ (200 : Int) from by decide), q42, trivial⟩ fun a hk => ?_
    refine wpListIn_nil ?_
    refine then_n ?_
    exact ⟨oi, (ByteArray.extract p0 0 (Int.toNat 200)), (by exact Kn.pick (ks := [0]) hk rfl), hs, H⟩

/-! tidewrack/tidewrackref07.Order -/
theorem tidewrackref07_Order_calls (K : Nat) (p0 : ByteArray) (p1 : Int) (w : World) (o : Nat → Nat) (LF : Nat)  (hd0 : ([LF] : List Nat).Nodup) (R0 : Nat) (r : List T47) (H : tidewrackref07_Order K p0 p1 = some r) :
    Calls Tryd.prog 22 #[.string p0, .int .i64 p1] w (Ret fun v_ w' => ∃ o' : Nat → Nat, ∃ A0 : Option Addr, ∃ c0 : Nat, v_ = .slice A0 (r).length c0 ∧ St [] w o w' o' ∧ NOwn dT47 48 A0 c0 r w' o' R0 LF ∧ (r).length ≤ c0) := by
  refine x_enter (vs := [.string p0, .int .i64 p1]) Tryd.func22 rfl rfl rfl fun a hk => ?_
  obtain ⟨oi, hs0, h0, h1, hob, hoz, hoa⟩ := St.startM2 w o (m := 1) hd0 rfl
  have hs := hs0 []
  clear h0 h1 hs0
  rw [tidewrackref07_Order] at H
  refine x_seq ?_
  refine wpIn_region_lit ?_
  refine x_run tab hk (k := 1) (lv := []) (ks := [0, 1]) (e' := [(0, .string p0), (1, .int .i64 p1)]) rfl trivial fun a hk => ?_
  refine wpListIn_nil ?_
  refine then_n ?_
  refine x_seq ?_
  refine wpIn_region_lit ?_
  refine x_run tab hk (k := 2) (lv := []) (ks := [0, 9]) (e' := [(0, .string p0), (9, .agg #[.int .i64 4, .int .i64 0, .int .i64 p1, .bool false, .slice none 0 0, .string (⟨#[]⟩ : ByteArray)])]) rfl trivial fun a hk => ?_
  refine x_op hk rfl ?_
  refine op_alloc (o := oi) tab (t := 48) (cs := [.int .i64 0, .int .i64 0, .int .i64 0, .bool false, .slice none 0 0, .string (⟨#[]⟩ : ByteArray)]) rfl rfl 2 fun bx4 w1 o2 st3 f5 => ?_
  replace hs := hs.locQ st3 hob rfl
  have hk := hk.put 5 (.pointer (some ⟨bx4, 0, none⟩)) rfl
  refine x_op hk rfl ?_
  refine op_store tab hk (t := 48) (v := .agg #[.int .i64 4, .int .i64 0, .int .i64 p1, .bool false, .slice none 0 0, .string (⟨#[]⟩ : ByteArray)]) (b := bx4) (k := 0) (cs' := [.int .i64 4, .int .i64 0, .int .i64 p1, .bool false, .slice none 0 0, .string (⟨#[]⟩ : ByteArray)]) rfl rfl rfl rfl rfl rfl f5 rfl rfl fun w6 o7 st8 f5_ => ?_
  replace hs := hs.locQ st8 hob rfl
  replace f5 := f5_
  refine wpListIn_nil ?_
  refine then_n ?_
  refine x_mid (fun a_ w_ => ∃ o34 : Nat → Nat, ∃ x35 : ByteArray, ∃ x36 : Bool, Kn 83 a_ [(0, .string x35), (5, .pointer (some ⟨bx4, 0, none⟩))] ∧ St [] w oi w_ o34 ∧ Ft (Bx bx4 48 [.int .i64 4, .int .i64 0, .int .i64 p1, .bool x36, .slice none 0 0, .string (⟨#[]⟩ : ByteArray)]) w_ o34 4 ∧ tidewrackref07_Order_j1 K p1 x35 x36 = some r) ?_ ?_
  rotate_left
  · rintro a w37 ⟨o34, x35, x36, hk, hs, f5, H⟩
    rw [tidewrackref07_Order_j1] at H
    refine x_seq ?_
    refine x_seq ?_
    refine wpIn_region_lit ?_
    refine x_run tab hk (k := 2) (lv := []) (ks := [0, 5, 21]) (e' := [(0, .string x35), (5, .pointer (some ⟨bx4, 0, none⟩)), (21, .bool (ByteArray.toList x35 == ByteArray.toList (⟨#[]⟩ : ByteArray)))]) rfl trivial fun a hk => ?_
    refine wpListIn_nil ?_
    refine then_n ?_
    cases b38 : (ByteArray.toList x35 == ByteArray.toList (⟨#[]⟩ : ByteArray))
    · rw [b38] at hk H
      replace H := bifF H
      refine x_if hk (b := false) rfl ?_
      refine (show Code.wpIn _ _ _ _ _ _ _ from ?_)
      refine wpIn_skip ?_
      refine then_n ?_
      refine x_seq ?_
      refine wpIn_region_lit ?_
      refine x_run tab hk (k := 1) (lv := []) (ks := [0, 5, 6]) (e' := [(0, .string x35), (5, .pointer (some ⟨bx4, 0, none⟩)), (6, .int .i64 0)]) rfl trivial fun a hk => ?_
      refine wpListIn_nil ?_
      refine then_n ?_
      refine x_mid (fun a_ w_ => ∃ o277 : Nat → Nat, ∃ A278 : Option Addr, ∃ c279 : Nat, ∃ l280 : List Int, Kn 83 a_ [(5, .pointer (some ⟨bx4, 0, none⟩))] ∧ St [] w oi w_ o277 ∧ Ft (Own (encInt .i64) 3 (.slice A278 (l280).length c279) l280) w_ o277 33 ∧ Ft (Bx bx4 48 [.int .i64 4, .int .i64 0, .int .i64 p1, .bool x36, .slice A278 (l280).length c279, .string (⟨#[]⟩ : ByteArray)]) w_ o277 34 ∧ (l280).length ≤ c279 ∧ tidewrackref07_Order_j2 p1 x36 l280 = some r) ?_ ?_
      rotate_left
      · rintro a w283 ⟨o277, A278, c279, l280, hk, hs, f281, f5, hc282, H⟩
        rw [tidewrackref07_Order_j2] at H
        refine x_seq ?_
        refine wpIn_region_lit ?_
        refine x_run tab hk (k := 1) (lv := [.agg #[.int .i64 4, .int .i64 0, .int .i64 p1, .bool x36, .slice A278 (l280).length c279, .string (⟨#[]⟩ : ByteArray)]]) (ks := [81]) (e' := [(81, .agg #[.int .i64 4, .int .i64 0, .int .i64 p1, .bool x36, .slice A278 (l280).length c279, .string (⟨#[]⟩ : ByteArray)])]) rfl ⟨(load_box tab rfl rfl f5.now (k := 0) rfl rfl), trivial⟩ fun a hk => ?_
        refine x_op hk rfl ?_
        obtain ⟨o287, hR288⟩ := relab_ex o277 (fun l_ => if l_ = 33 then 1 else l_)
        replace hs : St [] w oi w283 o287 := by rw [hR288]; exact (hs.relabM hob (fun l_ => if l_ = 33 then 1 else l_) (by decide))
        replace f281 : Ft (Own (encInt .i64) 3 (.slice A278 (l280).length c279) l280) w283 o287 1 := by rw [hR288]; exact f281.relab (fun l_ => if l_ = 33 then 1 else l_) rfl
        refine op_slice (o := o287) tab hk (vs := [.agg #[.int .i64 4, .int .i64 0, .int .i64 p1, .bool x36, .slice A278 (l280).length c279, .string (⟨#[]⟩ : ByteArray)]]) (cs := [.int .i64 4, .int .i64 0, .int .i64 p1, .bool x36, .slice A278 (l280).length c279, .string (⟨#[]⟩ : ByteArray)]) rfl rfl rfl rfl rfl rfl rfl rfl rfl 35 fun bx289 w284 o285 st286 f290 => ?_
        replace f281 := f281.st st286 (by decide)
        replace hs := hs.locQ st286 hob rfl
        have f291 : NOwn dT47 48 (some ⟨bx289, 0, none⟩) 1 ([(⟨4, 0, p1, x36, l280, (⟨#[]⟩ : ByteArray)⟩ : T47)] : List T47) w284 o285 35 1 := NOwn.litD (D := dT47) f290 [(⟨(⟨4, 0, p1, x36, l280, (⟨#[]⟩ : ByteArray)⟩ : T47), A278, c279⟩ : NT47)] rfl (Inn.consD (D := dT47) (r := (⟨(⟨4, 0, p1, x36, l280, (⟨#[]⟩ : ByteArray)⟩ : T47), A278, c279⟩ : NT47)) ((f281.imp fun _ h_ => Own.rd h_).imp fun _ h_ => ⟨h_, hc282⟩) (Inn.nilD _ _ _ _)) rfl (Nat.le_of_ble_eq_true rfl)
        have hk := hk.put 82 (.slice (some ⟨bx289, 0, none⟩) (([(⟨4, 0, p1, x36, l280, (⟨#[]⟩ : ByteArray)⟩ : T47)] : List T47)).length 1) rfl
        refine x_run tab hk (k := 1) (lv := []) (ks := [4]) (e' := [(4, .slice (some ⟨bx289, 0, none⟩) (([(⟨4, 0, p1, x36, l280, (⟨#[]⟩ : ByteArray)⟩ : T47)] : List T47)).length 1)]) rfl trivial fun a hk => ?_
        refine wpListIn_nil ?_
        refine then_n ?_
        refine wpIn_ret ?_
        obtain rfl := Option.some.inj H
        exact x_retG hk (rs := [.tmp 4]) (vs := [.slice (some ⟨bx289, 0, none⟩) (([(⟨4, 0, p1, x36, l280, (⟨#[]⟩ : ByteArray)⟩ : T47)] : List T47)).length 1]) rfl ⟨rfl, trivial⟩ ⟨cl w oi o [] (fun l_ => if l_ = 1 then LF else if l_ = 35 then R0 else 0) o285, (some ⟨bx289, 0, none⟩), 1, rfl, hs.closeF (Lm := []) (Sh := []) hoa rfl (fun l_ => if l_ = 1 then LF else if l_ = 35 then R0 else 0), f291.conv (fun _ h_ => hs.closeM_ft (o := o) (ρ := fun l_ => if l_ = 1 then LF else if l_ = 35 then R0 else 0) h_ (lab_none hob rfl) rfl) (fun _ h_ => hs.closeM_ft (o := o) (ρ := fun l_ => if l_ = 1 then LF else if l_ = 35 then R0 else 0) h_ (lab_at hoa (i := 0) rfl) rfl), (Nat.le_refl _)⟩
      refine x_seq ?_
      refine wpIn_region_lit ?_
      refine x_run tab hk (k := 1) (lv := []) (ks := [0, 5, 6, 7]) (e' := [(0, .string x35), (5, .pointer (some ⟨bx4, 0, none⟩)), (6, .int .i64 0), (7, .int .i64 0)]) rfl trivial fun a hk => ?_
      refine wpListIn_nil ?_
      refine then_n ?_
      refine wpIn_block ?_
      refine x_loop (fun j_ a_ w_ => ∃ o366 : Nat → Nat, ∃ A367 : Option Addr, ∃ c368 : Nat, ∃ l369 : List Int, ∃ x372 : Int, ∃ x373 : Int, Kn 83 a_ [(0, .string x35), (5, .pointer (some ⟨bx4, 0, none⟩)), (6, .int .i64 x372), (7, .int .i64 x373)] ∧ St [] w oi w_ o366 ∧ Ft (Own (encInt .i64) 3 (.slice A367 (l369).length c368) l369) w_ o366 43 ∧ Ft (Bx bx4 48 [.int .i64 4, .int .i64 0, .int .i64 p1, .bool x36, .slice A367 (l369).length c368, .string (⟨#[]⟩ : ByteArray)]) w_ o366 44 ∧ (l369).length ≤ c368 ∧ tidewrackref07_Order_l3 p1 x35 x36 j_ l369 x372 x373 = some r) (k := K) ⟨(fun b_ => (fun l_ => if l_ = 4 then 44 else l_) (o34 b_)), none, 0, ([] : List Int), 0, 0, (by exact Kn.pick (ks := [0, 5, 6, 7]) hk rfl), (hs.relabM hob (fun l_ => if l_ = 4 then 44 else l_) (by decide)), (Ft.of_all (fun _ => Own.nil _ _ _) _ _ _), (f5.relab (fun l_ => if l_ = 4 then 44 else l_) rfl), (by simp), H⟩ (by rintro _ _ ⟨_, _, _, _, _, _, _, _, _, _, _, H_⟩; exact absurd (show (none : Option (List T47)) = some r from H_) (by simp)) ?_
      rintro k446 a w445 ⟨o366, A367, c368, l369, x372, x373, hk, hs, f370, f5, hc371, H⟩
      rw [tidewrackref07_Order_l3] at H
      obtain ⟨lp447, hlp448⟩ : ∃ lp_, lp_ = tidewrackref07_Order_l3 p1 x35 x36 k446 := ⟨_, rfl⟩
      rw [← hlp448] at H
      refine x_seq ?_
      refine x_seq ?_
      refine wpIn_region_lit ?_
      refine x_run tab hk (k := 4) (lv := []) (ks := [0, 5, 6, 7, 27]) (e' := [(0, .string x35), (5, .pointer (some ⟨bx4, 0, none⟩)), (6, .int .i64 x372), (7, .int .i64 x373), (27, .bool (decide (x373 ≤ ((x35).size : Int))))]) rfl trivial fun a hk => ?_
      refine wpListIn_nil ?_
      refine then_n ?_
      cases b449 : (decide (x373 ≤ ((x35).size : Int)))
      · rw [b449] at hk H
        replace H := bifF H
        refine x_if hk (b := false) rfl ?_
        refine (show Code.wpIn _ _ _ _ _ _ _ from ?_)
        refine wpIn_exit ?_
        refine then_x ?_
        refine then_x ?_
        refine blk_x ?_
        refine then_n ?_
        exact ⟨(fun b_ => (fun l_ => if l_ = 43 then 33 else if l_ = 44 then 34 else l_) (o366 b_)), A367, c368, l369, (by exact Kn.pick (ks := [5]) hk rfl), (hs.relabM hob (fun l_ => if l_ = 43 then 33 else if l_ = 44 then 34 else l_) (by decide)), (f370.relab (fun l_ => if l_ = 43 then 33 else if l_ = 44 then 34 else l_) rfl), (f5.relab (fun l_ => if l_ = 43 then 33 else if l_ = 44 then 34 else l_) rfl), hc371, H⟩
      · rw [b449] at hk H
        replace H := bifT H
        refine x_if hk (b := true) rfl ?_
        refine (show Code.wpIn _ _ _ _ _ _ _ from ?_)
        refine wpIn_skip ?_
        refine then_n ?_
        refine x_seq ?_
        refine wpIn_block ?_
        refine x_mid (fun a_ w_ => ∃ o470 : Nat → Nat, Kn 83 a_ [(0, .string x35), (5, .pointer (some ⟨bx4, 0, none⟩)), (6, .int .i64 x372), (7, .int .i64 x373)] ∧ St [] w oi w_ o470 ∧ Ft (Own (encInt .i64) 3 (.slice A367 (l369).length c368) l369) w_ o470 56 ∧ Ft (Bx bx4 48 [.int .i64 4, .int .i64 0, .int .i64 p1, .bool x36, .slice A367 (l369).length c368, .string (⟨#[]⟩ : ByteArray)]) w_ o470 57 ∧ tidewrackref07_Order_j4 x35 l369 x372 x373 lp447 = some r) ?_ ?_
        rotate_left
        · rintro a w471 ⟨o470, hk, hs, f370, f5, H⟩
          rw [tidewrackref07_Order_j4] at H
          refine x_mid (fun a_ w_ => ∃ o479 : Nat → Nat, Kn 83 a_ [(0, .string x35), (5, .pointer (some ⟨bx4, 0, none⟩)), (6, .int .i64 x372), (7, .int .i64 x373)] ∧ St [] w oi w_ o479 ∧ Ft (Own (encInt .i64) 3 (.slice A367 (l369).length c368) l369) w_ o479 58 ∧ Ft (Bx bx4 48 [.int .i64 4, .int .i64 0, .int .i64 p1, .bool x36, .slice A367 (l369).length c368, .string (⟨#[]⟩ : ByteArray)]) w_ o479 59 ∧ tidewrackref07_Order_j5 l369 x372 x373 lp447 = some r) ?_ ?_
          rotate_left
          · rintro a w480 ⟨o479, hk, hs, f370, f5, H⟩
            rw [tidewrackref07_Order_j5] at H
            refine x_seq ?_
            refine x_seq ?_
            refine wpIn_region_lit ?_
            refine x_run tab hk (k := 4) (lv := [.slice A367 (l369).length c368]) (ks := [0, 5, 6, 7, 74]) (e' := [(0, .string x35), (5, .pointer (some ⟨bx4, 0, none⟩)), (6, .int .i64 x372), (7, .int .i64 x373), (74, .bool (decide (((l369).length : Int) < (16 : Int))))]) rfl ⟨(load1 tab rfl ((Bx.cell f5.now 4).trans rfl)), trivial⟩ fun a hk => ?_
            refine wpListIn_nil ?_
            refine then_n ?_
            cases b481 : (decide (((l369).length : Int) < (16 : Int)))
            · rw [b481] at hk H
              replace H := bifF H
              refine x_if hk (b := false) rfl ?_
              refine (show Code.wpIn _ _ _ _ _ _ _ from ?_)
              refine wpIn_skip ?_
              refine then_n ?_
              refine wpIn_region_lit ?_
              refine x_run tab hk (k := 1) (lv := []) (ks := [0, 5, 6, 7]) (e' := [(0, .string x35), (5, .pointer (some ⟨bx4, 0, none⟩)), (6, .int .i64 0), (7, .int .i64 x373)]) rfl trivial fun a hk => ?_
              refine wpListIn_nil ?_
              refine blk_n ?_
              refine then_n ?_
              refine wpIn_region_lit ?_
              refine x_run tab hk (k := 3) (lv := []) (ks := [0, 5, 6, 7]) (e' := [(0, .string x35), (5, .pointer (some ⟨bx4, 0, none⟩)), (6, .int .i64 0), (7, .int .i64 (IntKind.wrap .i64 (x373 + 1)))]) rfl trivial fun a hk => ?_
              refine wpListIn_nil ?_
              refine then_n ?_
              exact ⟨k446, Nat.le_refl _, (fun b_ => (fun l_ => if l_ = 58 then 43 else if l_ = 59 then 44 else l_) (o479 b_)), A367, c368, l369, 0, (IntKind.wrap .i64 (x373 + 1)), (by exact Kn.pick (ks := [0, 5, 6, 7]) hk rfl), (hs.relabM hob (fun l_ => if l_ = 58 then 43 else if l_ = 59 then 44 else l_) (by decide)), (f370.relab (fun l_ => if l_ = 58 then 43 else if l_ = 59 then 44 else l_) rfl), (f5.relab (fun l_ => if l_ = 58 then 43 else if l_ = 59 then 44 else l_) rfl), hc371, (hlp448 ▸ H)⟩
            · rw [b481] at hk H
              replace H := bifT H
              refine x_if hk (b := true) rfl ?_
              refine (show Code.wpIn _ _ _ _ _ _ _ from ?_)
              refine wpIn_region_lit ?_
              refine x_run tab hk (k := 3) (lv := [.slice A367 (l369).length c368]) (ks := [0, 5, 7, 76, 77]) (e' := [(0, .string x35), (5, .pointer (some ⟨bx4, 0, none⟩)), (7, .int .i64 x373), (76, .slice A367 (l369).length c368), (77, .int .i64 x372)]) rfl ⟨(load1 tab rfl ((Bx.cell f5.now 4).trans rfl)), trivial⟩ fun a hk => ?_
              refine x_op hk rfl ?_
              refine op_slice (o := o479) tab hk (vs := [.int .i64 x372]) (cs := [.int .i64 x372]) rfl rfl rfl rfl rfl rfl rfl rfl rfl 60 fun bx485 w482 o483 st484 f486 => ?_
              replace f370 := f370.st st484 (by decide)
              replace f5 := f5.st st484 (by decide)
              replace hs := hs.locQ st484 hob rfl
              have f487 : Ft (Own (encInt .i64) 3 (.slice (some ⟨bx485, 0, none⟩) (([x372] : List Int)).length 1) ([x372] : List Int)) w482 o483 60 := f486.imp fun _ h_ => Own.of_box h_ rfl (by simp)
              have hk := hk.put 78 (.slice (some ⟨bx485, 0, none⟩) (([x372] : List Int)).length 1) rfl
              refine x_op hk rfl ?_
              obtain ⟨q491, H⟩ := ifS H
              refine op_append (o := o483) (E := (encInt .i64)) (xs := l369) (ys := ([x372] : List Int)) tab hk rfl rfl rfl rfl rfl rfl rfl f370 (Own.rd f487.now) q491 fun A492 c493 w488 o489 st490 f494 hc495 => ?_
              replace f487 := f487.st st490 (by decide)
              replace f5 := f5.st st490 (by decide)
              replace hs := hs.locQ st490 hob rfl
              have hk := hk.put 79 (.slice A492 ((l369 ++ ([x372] : List Int))).length c493) rfl
              refine x_run tab hk (k := 1) (lv := []) (ks := [0, 5, 7, 79, 80]) (e' := [(0, .string x35), (5, .pointer (some ⟨bx4, 0, none⟩)), (7, .int .i64 x373), (79, .slice A492 ((l369 ++ ([x372] : List Int))).length c493), (80, .pointer (some ((⟨bx4, 0, none⟩ : Addr).add 4)))]) rfl trivial fun a hk => ?_
              refine x_op hk rfl ?_
              refine op_store tab hk (t := 24) (v := .slice A492 ((l369 ++ ([x372] : List Int))).length c493) (b := bx4) (k := 4) (cs' := [.int .i64 4, .int .i64 0, .int .i64 p1, .bool x36, .slice A492 ((l369 ++ ([x372] : List Int))).length c493, .string (⟨#[]⟩ : ByteArray)]) rfl rfl rfl rfl rfl rfl f5 rfl rfl fun w496 o497 st498 f5_ => ?_
              replace f494 := f494.st st498 (by decide)
              replace hs := hs.locQ st498 hob rfl
              replace f5 := f5_
              refine wpListIn_nil ?_
              refine then_n ?_
              refine wpIn_region_lit ?_
              refine x_run tab hk (k := 1) (lv := []) (ks := [0, 5, 6, 7]) (e' := [(0, .string x35), (5, .pointer (some ⟨bx4, 0, none⟩)), (6, .int .i64 0), (7, .int .i64 x373)]) rfl trivial fun a hk => ?_
              refine wpListIn_nil ?_
              refine blk_n ?_
              refine then_n ?_
              refine wpIn_region_lit ?_
              refine x_run tab hk (k := 3) (lv := []) (ks := [0, 5, 6, 7]) (e' := [(0, .string x35), (5, .pointer (some ⟨bx4, 0, none⟩)), (6, .int .i64 0), (7, .int .i64 (IntKind.wrap .i64 (x373 + 1)))]) rfl trivial fun a hk => ?_
              refine wpListIn_nil ?_
              refine then_n ?_
              exact ⟨k446, Nat.le_refl _, (fun b_ => (fun l_ => if l_ = 58 then 43 else if l_ = 59 then 44 else l_) (o497 b_)), A492, c493, (l369 ++ ([x372] : List Int)), 0, (IntKind.wrap .i64 (x373 + 1)), (by exact Kn.pick (ks := [0, 5, 6, 7]) hk rfl), (hs.relabM hob (fun l_ => if l_ = 58 then 43 else if l_ = 59 then 44 else l_) (by decide)), (f494.relab (fun l_ => if l_ = 58 then 43 else if l_ = 59 then 44 else l_) rfl), (f5.relab (fun l_ => if l_ = 58 then 43 else if l_ = 59 then 44 else l_) rfl), hc495, (hlp448 ▸ H)⟩
          refine x_seq ?_
          refine wpIn_region_lit ?_
          refine x_run tab hk (k := 5) (lv := []) (ks := [0, 5, 6, 7, 59]) (e' := [(0, .string x35), (5, .pointer (some ⟨bx4, 0, none⟩)), (6, .int .i64 x372), (7, .int .i64 x373), (59, .bool (decide (x373 < ((x35).size : Int))))]) rfl trivial fun a hk => ?_
          cases b499 : (decide (x373 < ((x35).size : Int)))
          · rw [b499] at hk H
            replace H := bifF H
            refine x_run tab hk (k := 10) (lv := []) (ks := [0, 5, 6, 7, 65, 69]) (e' := [(0, .string x35), (5, .pointer (some ⟨bx4, 0, none⟩)), (6, .int .i64 x372), (7, .int .i64 x373), (65, .bool false), (69, undef)]) rfl trivial fun a hk => ?_
            refine x_run tab hk (k := 1) (lv := []) (ks := [0, 5, 6, 7, 70]) (e' := [(0, .string x35), (5, .pointer (some ⟨bx4, 0, none⟩)), (6, .int .i64 x372), (7, .int .i64 x373), (70, .bool false)]) rfl trivial fun a hk => ?_
            refine wpListIn_nil ?_
            refine then_n ?_
            refine x_if hk (b := false) rfl ?_
            refine (show Code.wpIn _ _ _ _ _ _ _ from ?_)
            refine wpIn_skip ?_
            refine then_n ?_
            exact ⟨(fun b_ => (fun l_ => if l_ = 56 then 58 else if l_ = 57 then 59 else l_) (o470 b_)), (by exact Kn.pick (ks := [0, 5, 6, 7]) hk rfl), (hs.relabM hob (fun l_ => if l_ = 56 then 58 else if l_ = 57 then 59 else l_) (by decide)), (f370.relab (fun l_ => if l_ = 56 then 58 else if l_ = 57 then 59 else l_) rfl), (f5.relab (fun l_ => if l_ = 56 then 58 else if l_ = 57 then 59 else l_) rfl), H⟩
          · rw [b499] at hk H
            replace H := bifT H
            obtain ⟨q500, H⟩ := ifS H
            refine x_run tab hk (k := 6) (lv := []) (ks := [0, 5, 6, 7, 65]) (e' := [(0, .string x35), (5, .pointer (some ⟨bx4, 0, none⟩)), (6, .int .i64 x372), (7, .int .i64 x373), (65, .bool ((bt x35 x373) != (59 : Int)))]) rfl ⟨q500, trivial⟩ fun a hk => ?_
            cases b501 : ((bt x35 x373) != (59 : Int))
            · rw [b501] at hk H
              replace H := bifF H
              refine x_run tab hk (k := 5) (lv := []) (ks := [0, 5, 6, 7, 70]) (e' := [(0, .string x35), (5, .pointer (some ⟨bx4, 0, none⟩)), (6, .int .i64 x372), (7, .int .i64 x373), (70, .bool false)]) rfl trivial fun a hk => ?_
              refine wpListIn_nil ?_
              refine then_n ?_
              refine x_if hk (b := false) rfl ?_
              refine (show Code.wpIn _ _ _ _ _ _ _ from ?_)
              refine wpIn_skip ?_
              refine then_n ?_
              exact ⟨(fun b_ => (fun l_ => if l_ = 56 then 58 else if l_ = 57 then 59 else l_) (o470 b_)), (by exact Kn.pick (ks := [0, 5, 6, 7]) hk rfl), (hs.relabM hob (fun l_ => if l_ = 56 then 58 else if l_ = 57 then 59 else l_) (by decide)), (f370.relab (fun l_ => if l_ = 56 then 58 else if l_ = 57 then 59 else l_) rfl), (f5.relab (fun l_ => if l_ = 56 then 58 else if l_ = 57 then 59 else l_) rfl), H⟩
            · rw [b501] at hk H
              replace H := bifT H
              refine x_run tab hk (k := 5) (lv := []) (ks := [0, 5, 6, 7, 70]) (e' := [(0, .string x35), (5, .pointer (some ⟨bx4, 0, none⟩)), (6, .int .i64 x372), (7, .int .i64 x373), (70, .bool ((bt x35 x373) != (58 : Int)))]) rfl ⟨q500, trivial⟩ fun a hk => ?_
              refine wpListIn_nil ?_
              refine then_n ?_
              cases b502 : ((bt x35 x373) != (58 : Int))
              · rw [b502] at hk H
                replace H := bifF H
                refine x_if hk (b := false) rfl ?_
                refine (show Code.wpIn _ _ _ _ _ _ _ from ?_)
                refine wpIn_skip ?_
                refine then_n ?_
                exact ⟨(fun b_ => (fun l_ => if l_ = 56 then 58 else if l_ = 57 then 59 else l_) (o470 b_)), (by exact Kn.pick (ks := [0, 5, 6, 7]) hk rfl), (hs.relabM hob (fun l_ => if l_ = 56 then 58 else if l_ = 57 then 59 else l_) (by decide)), (f370.relab (fun l_ => if l_ = 56 then 58 else if l_ = 57 then 59 else l_) rfl), (f5.relab (fun l_ => if l_ = 56 then 58 else if l_ = 57 then 59 else l_) rfl), H⟩
              · rw [b502] at hk H
                replace H := bifT H
                refine x_if hk (b := true) rfl ?_
                refine (show Code.wpIn _ _ _ _ _ _ _ from ?_)
                refine x_seq ?_
                refine wpIn_region_lit ?_
                refine x_run tab hk (k := 1) (lv := []) (ks := [4]) (e' := [(4, .slice none 0 0)]) rfl trivial fun a hk => ?_
                refine wpListIn_nil ?_
                refine then_n ?_
                refine wpIn_ret ?_
                refine then_r ?_
                refine blk_r ?_
                refine then_r ?_
                refine then_r ?_
                refine blk_r ?_
                refine then_r ?_
                obtain rfl := Option.some.inj H
                exact x_retG hk (rs := [.tmp 4]) (vs := [.slice none 0 0]) rfl ⟨rfl, trivial⟩ ⟨cl w oi o [] (fun l_ => if l_ = 1 then LF else 0) o470, none, 0, rfl, hs.closeF (Lm := []) (Sh := []) hoa rfl (fun l_ => if l_ = 1 then LF else 0), (NOwn.nil _ _ _ _ _ _), (by simp)⟩
        refine x_mid (fun a_ w_ => ∃ o512 : Nat → Nat, ∃ x513 : Bool, Kn 83 a_ [(0, .string x35), (5, .pointer (some ⟨bx4, 0, none⟩)), (6, .int .i64 x372), (7, .int .i64 x373), (45, .bool x513)] ∧ St [] w oi w_ o512 ∧ Ft (Own (encInt .i64) 3 (.slice A367 (l369).length c368) l369) w_ o512 61 ∧ Ft (Bx bx4 48 [.int .i64 4, .int .i64 0, .int .i64 p1, .bool x36, .slice A367 (l369).length c368, .string (⟨#[]⟩ : ByteArray)]) w_ o512 62 ∧ tidewrackref07_Order_j6 x35 l369 x372 x373 lp447 x513 = some r) ?_ ?_
        rotate_left
        · rintro a w514 ⟨o512, x513, hk, hs, f370, f5, H⟩
          rw [tidewrackref07_Order_j6] at H
          cases b515 : x513
          · rw [b515] at hk H
            replace H := bifF H
            refine x_if hk (b := false) rfl ?_
            refine (show Code.wpIn _ _ _ _ _ _ _ from ?_)
            refine wpIn_skip ?_
            refine then_n ?_
            exact ⟨(fun b_ => (fun l_ => if l_ = 61 then 56 else if l_ = 62 then 57 else l_) (o512 b_)), (by exact Kn.pick (ks := [0, 5, 6, 7]) hk rfl), (hs.relabM hob (fun l_ => if l_ = 61 then 56 else if l_ = 62 then 57 else l_) (by decide)), (f370.relab (fun l_ => if l_ = 61 then 56 else if l_ = 62 then 57 else l_) rfl), (f5.relab (fun l_ => if l_ = 61 then 56 else if l_ = 62 then 57 else l_) rfl), H⟩
          · rw [b515] at hk H
            replace H := bifT H
            refine x_if hk (b := true) rfl ?_
            refine (show Code.wpIn _ _ _ _ _ _ _ from ?_)
            refine x_seq ?_
            refine wpIn_region_lit ?_
            obtain ⟨q516, H⟩ := ifS H
            refine x_run tab hk (k := 10) (lv := []) (ks := [0, 5, 6, 7]) (e' := [(0, .string x35), (5, .pointer (some ⟨bx4, 0, none⟩)), (6, .int .i64 (mnI 9999 (IntKind.wrap .i64 ((IntKind.wrap .i64 ((IntKind.wrap .i64 (10 * x372)) + (IntKind.wrap .i64 (bt x35 x373)))) - 48)))), (7, .int .i64 x373)]) rfl ⟨q516, trivial⟩ fun a hk => ?_
            refine wpListIn_nil ?_
            refine then_n ?_
            refine wpIn_exit ?_
            refine then_x ?_
            refine blk_x ?_
            refine then_n ?_
            refine wpIn_region_lit ?_
            refine x_run tab hk (k := 3) (lv := []) (ks := [0, 5, 6, 7]) (e' := [(0, .string x35), (5, .pointer (some ⟨bx4, 0, none⟩)), (6, .int .i64 (mnI 9999 (IntKind.wrap .i64 ((IntKind.wrap .i64 ((IntKind.wrap .i64 (10 * x372)) + (IntKind.wrap .i64 (bt x35 x373)))) - 48)))), (7, .int .i64 (IntKind.wrap .i64 (x373 + 1)))]) rfl trivial fun a hk => ?_
            refine wpListIn_nil ?_
            refine then_n ?_
            exact ⟨k446, Nat.le_refl _, (fun b_ => (fun l_ => if l_ = 61 then 43 else if l_ = 62 then 44 else l_) (o512 b_)), A367, c368, l369, (mnI 9999 (IntKind.wrap .i64 ((IntKind.wrap .i64 ((IntKind.wrap .i64 (10 * x372)) + (IntKind.wrap .i64 (bt x35 x373)))) - 48))), (IntKind.wrap .i64 (x373 + 1)), (by exact Kn.pick (ks := [0, 5, 6, 7]) hk rfl), (hs.relabM hob (fun l_ => if l_ = 61 then 43 else if l_ = 62 then 44 else l_) (by decide)), (f370.relab (fun l_ => if l_ = 61 then 43 else if l_ = 62 then 44 else l_) rfl), (f5.relab (fun l_ => if l_ = 61 then 43 else if l_ = 62 then 44 else l_) rfl), hc371, (hlp448 ▸ H)⟩
        refine wpIn_region_lit ?_
        refine x_run tab hk (k := 5) (lv := []) (ks := [0, 5, 6, 7, 34]) (e' := [(0, .string x35), (5, .pointer (some ⟨bx4, 0, none⟩)), (6, .int .i64 x372), (7, .int .i64 x373), (34, .bool (decide (x373 < ((x35).size : Int))))]) rfl trivial fun a hk => ?_
        cases b517 : (decide (x373 < ((x35).size : Int)))
        · rw [b517] at hk H
          replace H := bifF H
          refine x_run tab hk (k := 10) (lv := []) (ks := [0, 5, 6, 7, 40, 44]) (e' := [(0, .string x35), (5, .pointer (some ⟨bx4, 0, none⟩)), (6, .int .i64 x372), (7, .int .i64 x373), (40, .bool false), (44, undef)]) rfl trivial fun a hk => ?_
          refine x_run tab hk (k := 1) (lv := []) (ks := [0, 5, 6, 7, 45]) (e' := [(0, .string x35), (5, .pointer (some ⟨bx4, 0, none⟩)), (6, .int .i64 x372), (7, .int .i64 x373), (45, .bool false)]) rfl trivial fun a hk => ?_
          refine wpListIn_nil ?_
          refine then_n ?_
          exact ⟨(fun b_ => (fun l_ => if l_ = 43 then 61 else if l_ = 44 then 62 else l_) (o366 b_)), false, (by exact Kn.pick (ks := [0, 5, 6, 7, 45]) hk rfl), (hs.relabM hob (fun l_ => if l_ = 43 then 61 else if l_ = 44 then 62 else l_) (by decide)), (f370.relab (fun l_ => if l_ = 43 then 61 else if l_ = 44 then 62 else l_) rfl), (f5.relab (fun l_ => if l_ = 43 then 61 else if l_ = 44 then 62 else l_) rfl), H⟩
        · rw [b517] at hk H
          replace H := bifT H
          obtain ⟨q518, H⟩ := ifS H
          refine x_run tab hk (k := 6) (lv := []) (ks := [0, 5, 6, 7, 40]) (e' := [(0, .string x35), (5, .pointer (some ⟨bx4, 0, none⟩)), (6, .int .i64 x372), (7, .int .i64 x373), (40, .bool (decide ((bt x35 x373) ≥ (48 : Int))))]) rfl ⟨q518, trivial⟩ fun a hk => ?_
          cases b519 : (decide ((bt x35 x373) ≥ (48 : Int)))
          · rw [b519] at hk H
            replace H := bifF H
            refine x_run tab hk (k := 5) (lv := []) (ks := [0, 5, 6, 7, 45]) (e' := [(0, .string x35), (5, .pointer (some ⟨bx4, 0, none⟩)), (6, .int .i64 x372), (7, .int .i64 x373), (45, .bool false)]) rfl trivial fun a hk => ?_
            refine wpListIn_nil ?_
            refine then_n ?_
            exact ⟨(fun b_ => (fun l_ => if l_ = 43 then 61 else if l_ = 44 then 62 else l_) (o366 b_)), false, (by exact Kn.pick (ks := [0, 5, 6, 7, 45]) hk rfl), (hs.relabM hob (fun l_ => if l_ = 43 then 61 else if l_ = 44 then 62 else l_) (by decide)), (f370.relab (fun l_ => if l_ = 43 then 61 else if l_ = 44 then 62 else l_) rfl), (f5.relab (fun l_ => if l_ = 43 then 61 else if l_ = 44 then 62 else l_) rfl), H⟩
          · rw [b519] at hk H
            replace H := bifT H
            refine x_run tab hk (k := 5) (lv := []) (ks := [0, 5, 6, 7, 45]) (e' := [(0, .string x35), (5, .pointer (some ⟨bx4, 0, none⟩)), (6, .int .i64 x372), (7, .int .i64 x373), (45, .bool (decide ((bt x35 x373) ≤ (57 : Int))))]) rfl ⟨q518, trivial⟩ fun a hk => ?_
            refine wpListIn_nil ?_
            refine then_n ?_
            exact ⟨(fun b_ => (fun l_ => if l_ = 43 then 61 else if l_ = 44 then 62 else l_) (o366 b_)), (decide ((bt x35 x373) ≤ (57 : Int))), (by exact Kn.pick (ks := [0, 5, 6, 7, 45]) hk rfl), (hs.relabM hob (fun l_ => if l_ = 43 then 61 else if l_ = 44 then 62 else l_) (by decide)), (f370.relab (fun l_ => if l_ = 43 then 61 else if l_ = 44 then 62 else l_) rfl), (f5.relab (fun l_ => if l_ = 43 then 61 else if l_ = 44 then 62 else l_) rfl), H⟩
    · rw [b38] at hk H
      replace H := bifT H
      refine x_if hk (b := true) rfl ?_
      refine (show Code.wpIn _ _ _ _ _ _ _ from ?_)
      refine x_seq ?_
      refine wpIn_region_lit ?_
      refine x_run tab hk (k := 1) (lv := [.agg #[.int .i64 4, .int .i64 0, .int .i64 p1, .bool x36, .slice none 0 0, .string (⟨#[]⟩ : ByteArray)]]) (ks := [22]) (e' := [(22, .agg #[.int .i64 4, .int .i64 0, .int .i64 p1, .bool x36, .slice none 0 0, .string (⟨#[]⟩ : ByteArray)])]) rfl ⟨(load_box tab rfl rfl f5.now (k := 0) rfl rfl), trivial⟩ fun a hk => ?_
      refine x_op hk rfl ?_
      refine op_slice (o := o34) tab hk (vs := [.agg #[.int .i64 4, .int .i64 0, .int .i64 p1, .bool x36, .slice none 0 0, .string (⟨#[]⟩ : ByteArray)]]) (cs := [.int .i64 4, .int .i64 0, .int .i64 p1, .bool x36, .slice none 0 0, .string (⟨#[]⟩ : ByteArray)]) rfl rfl rfl rfl rfl rfl rfl rfl rfl 63 fun bx523 w520 o521 st522 f524 => ?_
      replace hs := hs.locQ st522 hob rfl
      have f525 : NOwn dT47 48 (some ⟨bx523, 0, none⟩) 1 ([(⟨4, 0, p1, x36, ([] : List Int), (⟨#[]⟩ : ByteArray)⟩ : T47)] : List T47) w520 o521 63 1 := NOwn.litD (D := dT47) f524 [(⟨(⟨4, 0, p1, x36, ([] : List Int), (⟨#[]⟩ : ByteArray)⟩ : T47), none, 0⟩ : NT47)] rfl (Inn.consD (D := dT47) (r := (⟨(⟨4, 0, p1, x36, ([] : List Int), (⟨#[]⟩ : ByteArray)⟩ : T47), none, 0⟩ : NT47)) ((Ft.of_all (P := RdC (encInt .i64) none []) (fun _ h_ => absurd h_ (by simp)) _ _ _).imp fun _ h_ => ⟨h_, (by simp)⟩) (Inn.nilD _ _ _ _)) rfl (Nat.le_of_ble_eq_true rfl)
      have hk := hk.put 23 (.slice (some ⟨bx523, 0, none⟩) (([(⟨4, 0, p1, x36, ([] : List Int), (⟨#[]⟩ : ByteArray)⟩ : T47)] : List T47)).length 1) rfl
      refine x_run tab hk (k := 1) (lv := []) (ks := [4]) (e' := [(4, .slice (some ⟨bx523, 0, none⟩) (([(⟨4, 0, p1, x36, ([] : List Int), (⟨#[]⟩ : ByteArray)⟩ : T47)] : List T47)).length 1)]) rfl trivial fun a hk => ?_
      refine wpListIn_nil ?_
      refine then_n ?_
      refine wpIn_ret ?_
      refine then_r ?_
      obtain rfl := Option.some.inj H
      exact x_retG hk (rs := [.tmp 4]) (vs := [.slice (some ⟨bx523, 0, none⟩) (([(⟨4, 0, p1, x36, ([] : List Int), (⟨#[]⟩ : ByteArray)⟩ : T47)] : List T47)).length 1]) rfl ⟨rfl, trivial⟩ ⟨cl w oi o [] (fun l_ => if l_ = 1 then LF else if l_ = 63 then R0 else 0) o521, (some ⟨bx523, 0, none⟩), 1, rfl, hs.closeF (Lm := []) (Sh := []) hoa rfl (fun l_ => if l_ = 1 then LF else if l_ = 63 then R0 else 0), f525.conv (fun _ h_ => hs.closeM_ft (o := o) (ρ := fun l_ => if l_ = 1 then LF else if l_ = 63 then R0 else 0) h_ (lab_none hob rfl) rfl) (fun _ h_ => hs.closeM_ft (o := o) (ρ := fun l_ => if l_ = 1 then LF else if l_ = 63 then R0 else 0) h_ (lab_at hoa (i := 0) rfl) rfl), (Nat.le_refl _)⟩
  refine x_mid (fun a_ w_ => ∃ o534 : Nat → Nat, ∃ x535 : Bool, Kn 83 a_ [(0, .string p0), (5, .pointer (some ⟨bx4, 0, none⟩)), (16, .bool x535)] ∧ St [] w oi w_ o534 ∧ Ft (Bx bx4 48 [.int .i64 4, .int .i64 0, .int .i64 p1, .bool false, .slice none 0 0, .string (⟨#[]⟩ : ByteArray)]) w_ o534 64 ∧ tidewrackref07_Order_j7 K p0 p1 x535 = some r) ?_ ?_
  rotate_left
  · rintro a w536 ⟨o534, x535, hk, hs, f5, H⟩
    rw [tidewrackref07_Order_j7] at H
    cases b537 : x535
    · rw [b537] at hk H
      replace H := bifF H
      refine x_if hk (b := false) rfl ?_
      refine (show Code.wpIn _ _ _ _ _ _ _ from ?_)
      refine wpIn_skip ?_
      refine then_n ?_
      exact ⟨(fun b_ => (fun l_ => if l_ = 64 then 4 else l_) (o534 b_)), p0, false, (by exact Kn.pick (ks := [0, 5]) hk rfl), (hs.relabM hob (fun l_ => if l_ = 64 then 4 else l_) (by decide)), (f5.relab (fun l_ => if l_ = 64 then 4 else l_) rfl), H⟩
    · rw [b537] at hk H
      replace H := bifT H
      refine x_if hk (b := true) rfl ?_
      refine (show Code.wpIn _ _ _ _ _ _ _ from ?_)
      refine x_seq ?_
      refine wpIn_region_lit ?_
      refine x_run tab hk (k := 1) (lv := []) (ks := [0, 5, 17]) (e' := [(0, .string p0), (5, .pointer (some ⟨bx4, 0, none⟩)), (17, .pointer (some ((⟨bx4, 0, none⟩ : Addr).add 3)))]) rfl trivial fun a hk => ?_
      refine x_op hk rfl ?_
      refine op_store tab hk (t := 4) (v := .bool true) (b := bx4) (k := 3) (cs' := [.int .i64 4, .int .i64 0, .int .i64 p1, .bool true, .slice none 0 0, .string (⟨#[]⟩ : ByteArray)]) rfl rfl rfl rfl rfl rfl f5 rfl rfl fun w538 o539 st540 f5_ => ?_
      replace hs := hs.locQ st540 hob rfl
      replace f5 := f5_
      refine wpListIn_nil ?_
      refine then_n ?_
      refine wpIn_region_lit ?_
      obtain ⟨q541, H⟩ := ifS H
      refine x_run tab hk (k := 3) (lv := []) (ks := [0, 5]) (e' := [(0, .string (ByteArray.extract p0 (Int.toNat 1) (p0).size)), (5, .pointer (some ⟨bx4, 0, none⟩))]) rfl ⟨(show 0 ≤ (1 : Int) from by decide), q541, trivial⟩ fun a hk => ?_
      refine wpListIn_nil ?_
      refine then_n ?_
      exact ⟨(fun b_ => (fun l_ => if l_ = 64 then 4 else l_) (o539 b_)), (ByteArray.extract p0 (Int.toNat 1) (p0).size), true, (by exact Kn.pick (ks := [0, 5]) hk rfl), (hs.relabM hob (fun l_ => if l_ = 64 then 4 else l_) (by decide)), (f5.relab (fun l_ => if l_ = 64 then 4 else l_) rfl), H⟩
  refine wpIn_region_lit ?_
  refine x_run tab hk (k := 3) (lv := []) (ks := [0, 5, 12]) (e' := [(0, .string p0), (5, .pointer (some ⟨bx4, 0, none⟩)), (12, .bool (!(ByteArray.toList p0 == ByteArray.toList (⟨#[]⟩ : ByteArray))))]) rfl trivial fun a hk => ?_
  cases b542 : (!(ByteArray.toList p0 == ByteArray.toList (⟨#[]⟩ : ByteArray)))
  · rw [b542] at hk H
    replace H := bifF H
    refine x_run tab hk (k := 4) (lv := []) (ks := [0, 5, 16]) (e' := [(0, .string p0), (5, .pointer (some ⟨bx4, 0, none⟩)), (16, .bool false)]) rfl trivial fun a hk => ?_
    refine wpListIn_nil ?_
    refine then_n ?_
    exact ⟨(fun b_ => (fun l_ => if l_ = 2 then 64 else l_) (o7 b_)), false, (by exact Kn.pick (ks := [0, 5, 16]) hk rfl), (hs.relabM hob (fun l_ => if l_ = 2 then 64 else l_) (by decide)), (f5.relab (fun l_ => if l_ = 2 then 64 else l_) rfl), H⟩
  · rw [b542] at hk H
    replace H := bifT H
    obtain ⟨q543, H⟩ := ifS H
    refine x_run tab hk (k := 4) (lv := []) (ks := [0, 5, 16]) (e' := [(0, .string p0), (5, .pointer (some ⟨bx4, 0, none⟩)), (16, .bool ((bt p0 (0 : Int)) == (63 : Int)))]) rfl ⟨q543, trivial⟩ fun a hk => ?_
    refine wpListIn_nil ?_
    refine then_n ?_
    exact ⟨(fun b_ => (fun l_ => if l_ = 2 then 64 else l_) (o7 b_)), ((bt p0 (0 : Int)) == (63 : Int)), (by exact Kn.pick (ks := [0, 5, 16]) hk rfl), (hs.relabM hob (fun l_ => if l_ = 2 then 64 else l_) (by decide)), (f5.relab (fun l_ => if l_ = 2 then 64 else l_) rfl), H⟩

/-! tidewrack/tidewrackref07.Read -/
set_option maxHeartbeats 4000000 in
theorem tidewrackref07_Read_calls (K : Nat) (p0 : ByteArray) (w : World) (o : Nat → Nat) (LF : Nat)  (hd0 : ([LF] : List Nat).Nodup) (R0 : Nat) (r : List T47) (H : tidewrackref07_Read K p0 = some r) :
    Calls Tryd.prog 13 #[.string p0] w (Ret fun v_ w' => ∃ o' : Nat → Nat, ∃ A0 : Option Addr, ∃ c0 : Nat, v_ = .slice A0 (r).length c0 ∧ St [] w o w' o' ∧ NOwn dT47 48 A0 c0 r w' o' R0 LF ∧ (r).length ≤ c0) := by
  refine x_enter (vs := [.string p0]) Tryd.func13 rfl rfl rfl fun a hk => ?_
  obtain ⟨oi, hs0, h0, h1, hob, hoz, hoa⟩ := St.startM2 w o (m := 1) hd0 rfl
  have hs := hs0 []
  clear h0 h1 hs0
  rw [tidewrackref07_Read] at H
  refine x_seq ?_
  refine wpIn_region_lit ?_
  refine x_run tab hk (k := 1) (lv := []) (ks := [0]) (e' := [(0, .string p0)]) rfl trivial fun a hk => ?_
  refine wpListIn_nil ?_
  refine then_n ?_
  refine x_seq ?_
  refine wpIn_region_lit ?_
  refine x_op hk rfl ?_
  refine op_slice (o := oi) tab hk (vs := []) (cs := []) rfl rfl rfl rfl rfl rfl rfl rfl rfl 2 fun bx4 w1 o2 st3 f5 => ?_
  replace hs := hs.locQ st3 hob rfl
  have f6 : NOwn dT47 48 (some ⟨bx4, 0, none⟩) 0 ([] : List T47) w1 o2 2 1 := NOwn.litD (D := dT47) f5 [] rfl (Inn.nilD _ _ _ _) rfl (Nat.le_of_ble_eq_true rfl)
  have hk := hk.put 11 (.slice (some ⟨bx4, 0, none⟩) (([] : List T47)).length 0) rfl
  refine x_run tab hk (k := 1) (lv := []) (ks := [0, 3]) (e' := [(0, .string p0), (3, .slice (some ⟨bx4, 0, none⟩) (([] : List T47)).length 0)]) rfl trivial fun a hk => ?_
  refine wpListIn_nil ?_
  refine then_n ?_
  refine x_seq ?_
  refine wpIn_region_lit ?_
  refine x_run tab hk (k := 1) (lv := []) (ks := [0, 3, 4]) (e' := [(0, .string p0), (3, .slice (some ⟨bx4, 0, none⟩) (([] : List T47)).length 0), (4, .int .i64 0)]) rfl trivial fun a hk => ?_
  refine wpListIn_nil ?_
  refine then_n ?_
  refine x_seq ?_
  refine wpIn_region_lit ?_
  refine x_run tab hk (k := 1) (lv := []) (ks := [0, 3, 4, 5]) (e' := [(0, .string p0), (3, .slice (some ⟨bx4, 0, none⟩) (([] : List T47)).length 0), (4, .int .i64 0), (5, .int .i64 0)]) rfl trivial fun a hk => ?_
  refine wpListIn_nil ?_
  refine then_n ?_
  refine x_seq ?_
  refine wpIn_region_lit ?_
  refine x_run tab hk (k := 1) (lv := []) (ks := [0, 3, 4, 5, 6]) (e' := [(0, .string p0), (3, .slice (some ⟨bx4, 0, none⟩) (([] : List T47)).length 0), (4, .int .i64 0), (5, .int .i64 0), (6, .string (⟨#[]⟩ : ByteArray))]) rfl trivial fun a hk => ?_
  refine wpListIn_nil ?_
  refine then_n ?_
  refine x_mid (fun a_ w_ => ∃ o1162 : Nat → Nat, ∃ A1163 : Option Addr, ∃ c1164 : Nat, ∃ l1165 : List T47, Kn 161 a_ [(3, .slice A1163 (l1165).length c1164)] ∧ St [] w oi w_ o1162 ∧ NOwn dT47 48 A1163 c1164 l1165 w_ o1162 86 1 ∧ (l1165).length ≤ c1164 ∧ tidewrackref07_Read_j1 l1165 = some r) ?_ ?_
  rotate_left
  · rintro a w1168 ⟨o1162, A1163, c1164, l1165, hk, hs, f1166, hc1167, H⟩
    rw [tidewrackref07_Read_j1] at H
    refine x_seq ?_
    refine wpIn_region_lit ?_
    refine x_run tab hk (k := 2) (lv := []) (ks := [2]) (e' := [(2, .slice A1163 (l1165).length c1164)]) rfl trivial fun a hk => ?_
    refine wpListIn_nil ?_
    refine then_n ?_
    refine wpIn_ret ?_
    obtain rfl := Option.some.inj H
    exact x_retG hk (rs := [.tmp 2]) (vs := [.slice A1163 (l1165).length c1164]) rfl ⟨rfl, trivial⟩ ⟨cl w oi o [] (fun l_ => if l_ = 1 then LF else if l_ = 86 then R0 else 0) o1162, A1163, c1164, rfl, hs.closeF (Lm := []) (Sh := []) hoa rfl (fun l_ => if l_ = 1 then LF else if l_ = 86 then R0 else 0), f1166.conv (fun _ h_ => hs.closeM_ft (o := o) (ρ := fun l_ => if l_ = 1 then LF else if l_ = 86 then R0 else 0) h_ (lab_none hob rfl) rfl) (fun _ h_ => hs.closeM_ft (o := o) (ρ := fun l_ => if l_ = 1 then LF else if l_ = 86 then R0 else 0) h_ (lab_at hoa (i := 0) rfl) rfl), hc1167⟩
  refine wpIn_block ?_
  refine x_loop (fun j_ a_ w_ => ∃ o1547 : Nat → Nat, ∃ A1548 : Option Addr, ∃ c1549 : Nat, ∃ l1550 : List T47, ∃ x1553 : Int, ∃ x1554 : Int, ∃ x1555 : ByteArray, Kn 161 a_ [(0, .string p0), (3, .slice A1548 (l1550).length c1549), (4, .int .i64 x1553), (5, .int .i64 x1554), (6, .string x1555)] ∧ St [] w oi w_ o1547 ∧ NOwn dT47 48 A1548 c1549 l1550 w_ o1547 115 1 ∧ (l1550).length ≤ c1549 ∧ tidewrackref07_Read_l2 K p0 j_ l1550 x1553 x1554 x1555 = some r) (k := K) ⟨(fun b_ => (fun l_ => if l_ = 2 then 115 else l_) (o2 b_)), (some ⟨bx4, 0, none⟩), 0, ([] : List T47), 0, 0, (⟨#[]⟩ : ByteArray), (by exact Kn.pick (ks := [0, 3, 4, 5, 6]) hk rfl), (hs.relabM hob (fun l_ => if l_ = 2 then 115 else l_) (by decide)), (f6.relab (fun l_ => if l_ = 2 then 115 else l_) rfl), (Nat.le_refl _), H⟩ (by rintro _ _ ⟨_, _, _, _, _, _, _, _, _, _, _, H_⟩; exact absurd (show (none : Option (List T47)) = some r from H_) (by simp)) ?_
  rintro k1934 a w1933 ⟨o1547, A1548, c1549, l1550, x1553, x1554, x1555, hk, hs, f1551, hc1552, H⟩
  rw [tidewrackref07_Read_l2] at H
  obtain ⟨lp1935, hlp1936⟩ : ∃ lp_, lp_ = tidewrackref07_Read_l2 K p0 k1934 := ⟨_, rfl⟩
  rw [← hlp1936] at H
  refine x_seq ?_
  refine x_seq ?_
  refine wpIn_region_lit ?_
  refine x_run tab hk (k := 4) (lv := []) (ks := [0, 3, 4, 5, 6, 15]) (e' := [(0, .string p0), (3, .slice A1548 (l1550).length c1549), (4, .int .i64 x1553), (5, .int .i64 x1554), (6, .string x1555), (15, .bool (decide (x1554 < ((p0).size : Int))))]) rfl trivial fun a hk => ?_
  refine wpListIn_nil ?_
  refine then_n ?_
  cases b1937 : (decide (x1554 < ((p0).size : Int)))
  · rw [b1937] at hk H
    replace H := bifF H
    refine x_if hk (b := false) rfl ?_
    refine (show Code.wpIn _ _ _ _ _ _ _ from ?_)
    refine wpIn_exit ?_
    refine then_x ?_
    refine then_x ?_
    refine blk_x ?_
    refine then_n ?_
    exact ⟨(fun b_ => (fun l_ => if l_ = 115 then 86 else l_) (o1547 b_)), A1548, c1549, l1550, (by exact Kn.pick (ks := [3]) hk rfl), (hs.relabM hob (fun l_ => if l_ = 115 then 86 else l_) (by decide)), (f1551.relab (fun l_ => if l_ = 115 then 86 else l_) rfl), hc1552, H⟩
  · rw [b1937] at hk H
    replace H := bifT H
    refine x_if hk (b := true) rfl ?_
    refine (show Code.wpIn _ _ _ _ _ _ _ from ?_)
    refine wpIn_skip ?_
    refine then_n ?_
    refine wpIn_block ?_
    refine x_mid (fun a_ w_ => ∃ o2051 : Nat → Nat, ∃ A2052 : Option Addr, ∃ c2053 : Nat, ∃ l2054 : List T47, ∃ x2057 : Int, Kn 161 a_ [(0, .string p0), (3, .slice A2052 (l2054).length c2053), (4, .int .i64 x1553), (5, .int .i64 x2057), (6, .string x1555)] ∧ St [] w oi w_ o2051 ∧ NOwn dT47 48 A2052 c2053 l2054 w_ o2051 151 1 ∧ (l2054).length ≤ c2053 ∧ tidewrackref07_Read_j3 K p0 x1553 x1555 lp1935 l2054 x2057 = some r) ?_ ?_
    rotate_left
    · rintro a w2058 ⟨o2051, A2052, c2053, l2054, x2057, hk, hs, f2055, hc2056, H⟩
      rw [tidewrackref07_Read_j3] at H
      refine x_seq ?_
      refine wpIn_region_lit ?_
      obtain ⟨q2059, H⟩ := ifS H
      refine x_run tab hk (k := 5) (lv := []) (ks := [0, 3, 4, 5, 6, 10]) (e' := [(0, .string p0), (3, .slice A2052 (l2054).length c2053), (4, .int .i64 x1553), (5, .int .i64 x2057), (6, .string x1555), (10, .int .i64 (IntKind.wrap .i64 (bt p0 x2057)))]) rfl ⟨q2059, trivial⟩ fun a hk => ?_
      refine wpListIn_nil ?_
      refine then_n ?_
      refine x_seq ?_
      refine wpIn_region_lit ?_
      refine x_run tab hk (k := 3) (lv := []) (ks := [0, 3, 4, 5, 6, 10]) (e' := [(0, .string p0), (3, .slice A2052 (l2054).length c2053), (4, .int .i64 x1553), (5, .int .i64 (IntKind.wrap .i64 (x2057 + 1))), (6, .string x1555), (10, .int .i64 (IntKind.wrap .i64 (bt p0 x2057)))]) rfl trivial fun a hk => ?_
      refine wpListIn_nil ?_
      refine then_n ?_
      refine x_seq ?_
      refine x_seq ?_
      refine wpIn_region_lit ?_
      refine x_run tab hk (k := 2) (lv := []) (ks := [0, 3, 4, 5, 6, 10, 68]) (e' := [(0, .string p0), (3, .slice A2052 (l2054).length c2053), (4, .int .i64 x1553), (5, .int .i64 (IntKind.wrap .i64 (x2057 + 1))), (6, .string x1555), (10, .int .i64 (IntKind.wrap .i64 (bt p0 x2057))), (68, .bool (x1553 == (4 : Int)))]) rfl trivial fun a hk => ?_
      refine wpListIn_nil ?_
      refine then_n ?_
      cases b2060 : (x1553 == (4 : Int))
      · rw [b2060] at hk H
        replace H := bifF H
        refine x_if hk (b := false) rfl ?_
        refine (show Code.wpIn _ _ _ _ _ _ _ from ?_)
        refine wpIn_skip ?_
        refine then_n ?_
        refine x_mid (fun a_ w_ => ∃ o2066 : Nat → Nat, Kn 161 a_ [(0, .string p0), (3, .slice A2052 (l2054).length c2053), (4, .int .i64 x1553), (5, .int .i64 (IntKind.wrap .i64 (x2057 + 1))), (6, .string x1555), (10, .int .i64 (IntKind.wrap .i64 (bt p0 x2057)))] ∧ St [] w oi w_ o2066 ∧ NOwn dT47 48 A2052 c2053 l2054 w_ o2066 152 1 ∧ tidewrackref07_Read_j4 K p0 x1553 x1555 lp1935 l2054 x2057 = some r) ?_ ?_
        rotate_left
        · rintro a w2067 ⟨o2066, hk, hs, f2055, H⟩
          rw [tidewrackref07_Read_j4] at H
          refine x_seq ?_
          refine x_seq ?_
          refine wpIn_region_lit ?_
          refine x_run tab hk (k := 2) (lv := []) (ks := [0, 3, 4, 5, 6, 10, 111]) (e' := [(0, .string p0), (3, .slice A2052 (l2054).length c2053), (4, .int .i64 x1553), (5, .int .i64 (IntKind.wrap .i64 (x2057 + 1))), (6, .string x1555), (10, .int .i64 (IntKind.wrap .i64 (bt p0 x2057))), (111, .bool ((IntKind.wrap .i64 (bt p0 x2057)) == (27 : Int)))]) rfl trivial fun a hk => ?_
          refine wpListIn_nil ?_
          refine then_n ?_
          cases b2068 : ((IntKind.wrap .i64 (bt p0 x2057)) == (27 : Int))
          · rw [b2068] at hk H
            replace H := bifF H
            refine x_if hk (b := false) rfl ?_
            refine (show Code.wpIn _ _ _ _ _ _ _ from ?_)
            refine wpIn_skip ?_
            refine then_n ?_
            refine x_seq ?_
            refine x_seq ?_
            refine wpIn_region_lit ?_
            refine x_run tab hk (k := 2) (lv := []) (ks := [0, 3, 4, 5, 6, 10, 113]) (e' := [(0, .string p0), (3, .slice A2052 (l2054).length c2053), (4, .int .i64 x1553), (5, .int .i64 (IntKind.wrap .i64 (x2057 + 1))), (6, .string x1555), (10, .int .i64 (IntKind.wrap .i64 (bt p0 x2057))), (113, .bool (decide ((IntKind.wrap .i64 (bt p0 x2057)) < (32 : Int))))]) rfl trivial fun a hk => ?_
            refine wpListIn_nil ?_
            refine then_n ?_
            cases b2069 : (decide ((IntKind.wrap .i64 (bt p0 x2057)) < (32 : Int)))
            · rw [b2069] at hk H
              replace H := bifF H
              refine x_if hk (b := false) rfl ?_
              refine (show Code.wpIn _ _ _ _ _ _ _ from ?_)
              refine wpIn_skip ?_
              refine then_n ?_
              refine x_seq ?_
              refine x_seq ?_
              refine wpIn_region_lit ?_
              refine x_run tab hk (k := 2) (lv := []) (ks := [0, 3, 4, 5, 6, 10, 120]) (e' := [(0, .string p0), (3, .slice A2052 (l2054).length c2053), (4, .int .i64 x1553), (5, .int .i64 (IntKind.wrap .i64 (x2057 + 1))), (6, .string x1555), (10, .int .i64 (IntKind.wrap .i64 (bt p0 x2057))), (120, .bool ((IntKind.wrap .i64 (bt p0 x2057)) == (127 : Int)))]) rfl trivial fun a hk => ?_
              refine wpListIn_nil ?_
              refine then_n ?_
              cases b2070 : ((IntKind.wrap .i64 (bt p0 x2057)) == (127 : Int))
              · rw [b2070] at hk H
                replace H := bifF H
                refine x_if hk (b := false) rfl ?_
                refine (show Code.wpIn _ _ _ _ _ _ _ from ?_)
                refine wpIn_skip ?_
                refine then_n ?_
                refine x_seq ?_
                refine wpIn_region_lit ?_
                refine x_run tab hk (k := 1) (lv := []) (ks := [0, 3, 4, 5, 6, 10, 121]) (e' := [(0, .string p0), (3, .slice A2052 (l2054).length c2053), (4, .int .i64 x1553), (5, .int .i64 (IntKind.wrap .i64 (x2057 + 1))), (6, .string x1555), (10, .int .i64 (IntKind.wrap .i64 (bt p0 x2057))), (121, .int .i64 x1553)]) rfl trivial fun a hk => ?_
                refine wpListIn_nil ?_
                refine then_n ?_
                refine wpIn_block ?_
                refine x_seq ?_
                refine wpIn_region_lit ?_
                refine x_run tab hk (k := 2) (lv := []) (ks := [0, 3, 4, 5, 6, 10, 121, 122]) (e' := [(0, .string p0), (3, .slice A2052 (l2054).length c2053), (4, .int .i64 x1553), (5, .int .i64 (IntKind.wrap .i64 (x2057 + 1))), (6, .string x1555), (10, .int .i64 (IntKind.wrap .i64 (bt p0 x2057))), (121, .int .i64 x1553), (122, .bool (x1553 == (1 : Int)))]) rfl trivial fun a hk => ?_
                refine wpListIn_nil ?_
                refine then_n ?_
                cases b2071 : (x1553 == (1 : Int))
                · rw [b2071] at hk H
                  replace H := bifF H
                  refine x_if hk (b := false) rfl ?_
                  refine (show Code.wpIn _ _ _ _ _ _ _ from ?_)
                  refine x_seq ?_
                  refine wpIn_region_lit ?_
                  refine x_run tab hk (k := 2) (lv := []) (ks := [0, 3, 4, 5, 6, 10, 121, 137]) (e' := [(0, .string p0), (3, .slice A2052 (l2054).length c2053), (4, .int .i64 x1553), (5, .int .i64 (IntKind.wrap .i64 (x2057 + 1))), (6, .string x1555), (10, .int .i64 (IntKind.wrap .i64 (bt p0 x2057))), (121, .int .i64 x1553), (137, .bool (x1553 == (2 : Int)))]) rfl trivial fun a hk => ?_
                  refine wpListIn_nil ?_
                  refine then_n ?_
                  cases b2072 : (x1553 == (2 : Int))
                  · rw [b2072] at hk H
                    replace H := bifF H
                    refine x_if hk (b := false) rfl ?_
                    refine (show Code.wpIn _ _ _ _ _ _ _ from ?_)
                    refine x_seq ?_
                    refine wpIn_region_lit ?_
                    refine x_run tab hk (k := 2) (lv := []) (ks := [0, 3, 4, 5, 6, 10, 141]) (e' := [(0, .string p0), (3, .slice A2052 (l2054).length c2053), (4, .int .i64 x1553), (5, .int .i64 (IntKind.wrap .i64 (x2057 + 1))), (6, .string x1555), (10, .int .i64 (IntKind.wrap .i64 (bt p0 x2057))), (141, .bool (x1553 == (3 : Int)))]) rfl trivial fun a hk => ?_
                    refine wpListIn_nil ?_
                    refine then_n ?_
                    cases b2073 : (x1553 == (3 : Int))
                    · rw [b2073] at hk H
                      replace H := bifF H
                      refine x_if hk (b := false) rfl ?_
                      refine (show Code.wpIn _ _ _ _ _ _ _ from ?_)
                      refine wpIn_skip ?_
                      refine blk_n ?_
                      refine blk_n ?_
                      refine then_n ?_
                      exact ⟨k1934, Nat.le_refl _, (fun b_ => (fun l_ => if l_ = 152 then 115 else l_) (o2066 b_)), A2052, c2053, l2054, x1553, (IntKind.wrap .i64 (x2057 + 1)), x1555, (by exact Kn.pick (ks := [0, 3, 4, 5, 6]) hk rfl), (hs.relabM hob (fun l_ => if l_ = 152 then 115 else l_) (by decide)), (f2055.relab (fun l_ => if l_ = 152 then 115 else l_) rfl), hc2056, (hlp1936 ▸ H)⟩
                    · rw [b2073] at hk H
                      replace H := bifT H
                      refine x_if hk (b := true) rfl ?_
                      refine (show Code.wpIn _ _ _ _ _ _ _ from ?_)
                      refine x_mid (fun a_ w_ => ∃ o2081 : Nat → Nat, ∃ x2082 : Bool, Kn 161 a_ [(0, .string p0), (3, .slice A2052 (l2054).length c2053), (4, .int .i64 x1553), (5, .int .i64 (IntKind.wrap .i64 (x2057 + 1))), (6, .string x1555), (10, .int .i64 (IntKind.wrap .i64 (bt p0 x2057))), (148, .bool x2082)] ∧ St [] w oi w_ o2081 ∧ NOwn dT47 48 A2052 c2053 l2054 w_ o2081 153 1 ∧ tidewrackref07_Read_j5 K p0 x1553 x1555 lp1935 l2054 x2057 x2082 = some r) ?_ ?_
                      rotate_left
                      · rintro a w2083 ⟨o2081, x2082, hk, hs, f2055, H⟩
                        rw [tidewrackref07_Read_j5] at H
                        cases b2084 : x2082
                        · rw [b2084] at hk H
                          replace H := bifF H
                          refine x_if hk (b := false) rfl ?_
                          refine (show Code.wpIn _ _ _ _ _ _ _ from ?_)
                          refine x_seq ?_
                          refine wpIn_region_lit ?_
                          refine x_run tab hk (k := 3) (lv := []) (ks := [0, 5, 6, 155, 156, 157]) (e' := [(0, .string p0), (5, .int .i64 (IntKind.wrap .i64 (x2057 + 1))), (6, .string x1555), (155, .slice A2052 (l2054).length c2053), (156, .string x1555), (157, .int .i64 (IntKind.wrap .i64 (bt p0 x2057)))]) rfl trivial fun a hk => ?_
                          refine x_op hk rfl ?_
                          obtain ⟨t2088, hc2089, H⟩ := bindS H
                          refine op_call hk ent_22 (vs := [.string x1555, .int .i64 (IntKind.wrap .i64 (bt p0 x2057))]) rfl (tidewrackref07_Order_calls K x1555 (IntKind.wrap .i64 (bt p0 x2057)) _ o2081 1 (by decide) 154  _ hc2089) ?_
                          rintro _ w2090 ⟨o2091, A2093, c2094, rfl, st2092, f2095, hc2096⟩
                          replace f2055 := f2055.st st2092 (by decide)
                          replace hs := hs.locQ st2092 hob rfl
                          have hk := hk.put 158 (.slice A2093 (t2088).length c2094) rfl
                          refine x_op hk rfl ?_
                          obtain ⟨q2100, H⟩ := ifS H
                          refine op_appendN (o := o2091) (D := dT47) (xs := l2054) (ys := t2088) tab hk rfl rfl rfl rfl rfl rfl rfl f2055 f2095.rd (by decide) q2100 fun A2101 c2102 w2097 o2098 st2099 f2103 hc2104 => ?_
                          replace f2095 := f2095.st st2099 (by decide)
                          replace hs := hs.locQ st2099 hob rfl
                          have hk := hk.put 159 (.slice A2101 ((l2054 ++ t2088)).length c2102) rfl
                          refine x_run tab hk (k := 1) (lv := []) (ks := [0, 3, 5, 6]) (e' := [(0, .string p0), (3, .slice A2101 ((l2054 ++ t2088)).length c2102), (5, .int .i64 (IntKind.wrap .i64 (x2057 + 1))), (6, .string x1555)]) rfl trivial fun a hk => ?_
                          refine wpListIn_nil ?_
                          refine then_n ?_
                          refine wpIn_region_lit ?_
                          refine x_run tab hk (k := 1) (lv := []) (ks := [0, 3, 4, 5, 6]) (e' := [(0, .string p0), (3, .slice A2101 ((l2054 ++ t2088)).length c2102), (4, .int .i64 0), (5, .int .i64 (IntKind.wrap .i64 (x2057 + 1))), (6, .string x1555)]) rfl trivial fun a hk => ?_
                          refine wpListIn_nil ?_
                          refine blk_n ?_
                          refine blk_n ?_
                          refine then_n ?_
                          exact ⟨k1934, Nat.le_refl _, (fun b_ => (fun l_ => if l_ = 153 then 115 else l_) (o2098 b_)), A2101, c2102, (l2054 ++ t2088), 0, (IntKind.wrap .i64 (x2057 + 1)), x1555, (by exact Kn.pick (ks := [0, 3, 4, 5, 6]) hk rfl), (hs.relabM hob (fun l_ => if l_ = 153 then 115 else l_) (by decide)), (f2103.relab (fun l_ => if l_ = 153 then 115 else l_) rfl), hc2104, (hlp1936 ▸ H)⟩
                        · rw [b2084] at hk H
                          replace H := bifT H
                          refine x_if hk (b := true) rfl ?_
                          refine (show Code.wpIn _ _ _ _ _ _ _ from ?_)
                          refine wpIn_region_lit ?_
                          refine x_run tab hk (k := 3) (lv := []) (ks := [0, 3, 4, 5, 149, 151]) (e' := [(0, .string p0), (3, .slice A2052 (l2054).length c2053), (4, .int .i64 x1553), (5, .int .i64 (IntKind.wrap .i64 (x2057 + 1))), (149, .string x1555), (151, .int .u8 (IntKind.wrap .u8 (IntKind.wrap .i64 (bt p0 x2057))))]) rfl trivial fun a hk => ?_
                          refine x_op hk rfl ?_
                          refine op_slice (o := o2081) tab hk (vs := [.int .u8 (IntKind.wrap .u8 (IntKind.wrap .i64 (bt p0 x2057)))]) (cs := [.int .u8 (IntKind.wrap .u8 (IntKind.wrap .i64 (bt p0 x2057)))]) rfl rfl rfl rfl rfl rfl rfl rfl rfl 155 fun bx2108 w2105 o2106 st2107 f2109 => ?_
                          replace f2055 := f2055.st st2107 (by decide)
                          replace hs := hs.locQ st2107 hob rfl
                          have f2110 : Ft (Own (encInt .u8) 5 (.slice (some ⟨bx2108, 0, none⟩) (([(IntKind.wrap .u8 (IntKind.wrap .i64 (bt p0 x2057)))] : List Int)).length 1) ([(IntKind.wrap .u8 (IntKind.wrap .i64 (bt p0 x2057)))] : List Int)) w2105 o2106 155 := f2109.imp fun _ h_ => Own.of_box h_ rfl (by simp)
                          have hk := hk.put 152 (.slice (some ⟨bx2108, 0, none⟩) (([(IntKind.wrap .u8 (IntKind.wrap .i64 (bt p0 x2057)))] : List Int)).length 1) rfl
                          obtain ⟨q2111, H⟩ := ifS H
                          refine x_run tab hk (k := 3) (lv := [.string (strOfNums ([(IntKind.wrap .u8 (IntKind.wrap .i64 (bt p0 x2057)))] : List Int))]) (ks := [0, 3, 4, 5, 6]) (e' := [(0, .string p0), (3, .slice A2052 (l2054).length c2053), (4, .int .i64 x1553), (5, .int .i64 (IntKind.wrap .i64 (x2057 + 1))), (6, .string (x1555 ++ (strOfNums ([(IntKind.wrap .u8 (IntKind.wrap .i64 (bt p0 x2057)))] : List Int))))]) rfl ⟨(ask_str tab rfl rfl rfl rfl (Own.rd f2110.now) (Own.plain f2110.now _ _ _ rfl)), q2111, trivial⟩ fun a hk => ?_
                          refine wpListIn_nil ?_
                          refine blk_n ?_
                          refine blk_n ?_
                          refine then_n ?_
                          exact ⟨k1934, Nat.le_refl _, (fun b_ => (fun l_ => if l_ = 153 then 115 else l_) (o2106 b_)), A2052, c2053, l2054, x1553, (IntKind.wrap .i64 (x2057 + 1)), (x1555 ++ (strOfNums ([(IntKind.wrap .u8 (IntKind.wrap .i64 (bt p0 x2057)))] : List Int))), (by exact Kn.pick (ks := [0, 3, 4, 5, 6]) hk rfl), (hs.relabM hob (fun l_ => if l_ = 153 then 115 else l_) (by decide)), (f2055.relab (fun l_ => if l_ = 153 then 115 else l_) rfl), hc2056, (hlp1936 ▸ H)⟩
                      refine wpIn_region_lit ?_
                      refine x_run tab hk (k := 3) (lv := []) (ks := [0, 3, 4, 5, 6, 10, 145]) (e' := [(0, .string p0), (3, .slice A2052 (l2054).length c2053), (4, .int .i64 x1553), (5, .int .i64 (IntKind.wrap .i64 (x2057 + 1))), (6, .string x1555), (10, .int .i64 (IntKind.wrap .i64 (bt p0 x2057))), (145, .bool (decide ((IntKind.wrap .i64 (bt p0 x2057)) < (64 : Int))))]) rfl trivial fun a hk => ?_
                      cases b2112 : (decide ((IntKind.wrap .i64 (bt p0 x2057)) < (64 : Int)))
                      · rw [b2112] at hk H
                        replace H := bifF H
                        refine x_run tab hk (k := 3) (lv := []) (ks := [0, 3, 4, 5, 6, 10, 148]) (e' := [(0, .string p0), (3, .slice A2052 (l2054).length c2053), (4, .int .i64 x1553), (5, .int .i64 (IntKind.wrap .i64 (x2057 + 1))), (6, .string x1555), (10, .int .i64 (IntKind.wrap .i64 (bt p0 x2057))), (148, .bool (decide ((IntKind.wrap .i64 (bt p0 x2057)) > (126 : Int))))]) rfl trivial fun a hk => ?_
                        refine wpListIn_nil ?_
                        refine then_n ?_
                        exact ⟨(fun b_ => (fun l_ => if l_ = 152 then 153 else l_) (o2066 b_)), (decide ((IntKind.wrap .i64 (bt p0 x2057)) > (126 : Int))), (by exact Kn.pick (ks := [0, 3, 4, 5, 6, 10, 148]) hk rfl), (hs.relabM hob (fun l_ => if l_ = 152 then 153 else l_) (by decide)), (f2055.relab (fun l_ => if l_ = 152 then 153 else l_) rfl), H⟩
                      · rw [b2112] at hk H
                        replace H := bifT H
                        refine x_run tab hk (k := 3) (lv := []) (ks := [0, 3, 4, 5, 6, 10, 148]) (e' := [(0, .string p0), (3, .slice A2052 (l2054).length c2053), (4, .int .i64 x1553), (5, .int .i64 (IntKind.wrap .i64 (x2057 + 1))), (6, .string x1555), (10, .int .i64 (IntKind.wrap .i64 (bt p0 x2057))), (148, .bool true)]) rfl trivial fun a hk => ?_
                        refine wpListIn_nil ?_
                        refine then_n ?_
                        exact ⟨(fun b_ => (fun l_ => if l_ = 152 then 153 else l_) (o2066 b_)), true, (by exact Kn.pick (ks := [0, 3, 4, 5, 6, 10, 148]) hk rfl), (hs.relabM hob (fun l_ => if l_ = 152 then 153 else l_) (by decide)), (f2055.relab (fun l_ => if l_ = 152 then 153 else l_) rfl), H⟩
                  · rw [b2072] at hk H
                    replace H := bifT H
                    refine x_if hk (b := true) rfl ?_
                    refine (show Code.wpIn _ _ _ _ _ _ _ from ?_)
                    refine x_seq ?_
                    refine wpIn_region_lit ?_
                    refine x_run tab hk (k := 2) (lv := []) (ks := [0, 3, 4, 5, 6, 140]) (e' := [(0, .string p0), (3, .slice A2052 (l2054).length c2053), (4, .int .i64 x1553), (5, .int .i64 (IntKind.wrap .i64 (x2057 + 1))), (6, .string x1555), (140, .bool (decide ((IntKind.wrap .i64 (bt p0 x2057)) ≥ (48 : Int))))]) rfl trivial fun a hk => ?_
                    refine wpListIn_nil ?_
                    refine then_n ?_
                    cases b2113 : (decide ((IntKind.wrap .i64 (bt p0 x2057)) ≥ (48 : Int)))
                    · rw [b2113] at hk H
                      replace H := bifF H
                      refine x_if hk (b := false) rfl ?_
                      refine (show Code.wpIn _ _ _ _ _ _ _ from ?_)
                      refine wpIn_skip ?_
                      refine blk_n ?_
                      refine blk_n ?_
                      refine then_n ?_
                      exact ⟨k1934, Nat.le_refl _, (fun b_ => (fun l_ => if l_ = 152 then 115 else l_) (o2066 b_)), A2052, c2053, l2054, x1553, (IntKind.wrap .i64 (x2057 + 1)), x1555, (by exact Kn.pick (ks := [0, 3, 4, 5, 6]) hk rfl), (hs.relabM hob (fun l_ => if l_ = 152 then 115 else l_) (by decide)), (f2055.relab (fun l_ => if l_ = 152 then 115 else l_) rfl), hc2056, (hlp1936 ▸ H)⟩
                    · rw [b2113] at hk H
                      replace H := bifT H
                      refine x_if hk (b := true) rfl ?_
                      refine (show Code.wpIn _ _ _ _ _ _ _ from ?_)
                      refine wpIn_region_lit ?_
                      refine x_run tab hk (k := 1) (lv := []) (ks := [0, 3, 4, 5, 6]) (e' := [(0, .string p0), (3, .slice A2052 (l2054).length c2053), (4, .int .i64 0), (5, .int .i64 (IntKind.wrap .i64 (x2057 + 1))), (6, .string x1555)]) rfl trivial fun a hk => ?_
                      refine wpListIn_nil ?_
                      refine blk_n ?_
                      refine blk_n ?_
                      refine then_n ?_
                      exact ⟨k1934, Nat.le_refl _, (fun b_ => (fun l_ => if l_ = 152 then 115 else l_) (o2066 b_)), A2052, c2053, l2054, 0, (IntKind.wrap .i64 (x2057 + 1)), x1555, (by exact Kn.pick (ks := [0, 3, 4, 5, 6]) hk rfl), (hs.relabM hob (fun l_ => if l_ = 152 then 115 else l_) (by decide)), (f2055.relab (fun l_ => if l_ = 152 then 115 else l_) rfl), hc2056, (hlp1936 ▸ H)⟩
                · rw [b2071] at hk H
                  replace H := bifT H
                  refine x_if hk (b := true) rfl ?_
                  refine (show Code.wpIn _ _ _ _ _ _ _ from ?_)
                  refine x_seq ?_
                  refine wpIn_region_lit ?_
                  refine x_run tab hk (k := 1) (lv := []) (ks := [0, 3, 4, 5, 10]) (e' := [(0, .string p0), (3, .slice A2052 (l2054).length c2053), (4, .int .i64 0), (5, .int .i64 (IntKind.wrap .i64 (x2057 + 1))), (10, .int .i64 (IntKind.wrap .i64 (bt p0 x2057)))]) rfl trivial fun a hk => ?_
                  refine wpListIn_nil ?_
                  refine then_n ?_
                  refine x_seq ?_
                  refine wpIn_region_lit ?_
                  refine x_run tab hk (k := 1) (lv := []) (ks := [0, 3, 4, 5, 6, 10]) (e' := [(0, .string p0), (3, .slice A2052 (l2054).length c2053), (4, .int .i64 0), (5, .int .i64 (IntKind.wrap .i64 (x2057 + 1))), (6, .string (⟨#[]⟩ : ByteArray)), (10, .int .i64 (IntKind.wrap .i64 (bt p0 x2057)))]) rfl trivial fun a hk => ?_
                  refine wpListIn_nil ?_
                  refine then_n ?_
                  refine x_seq ?_
                  refine wpIn_region_lit ?_
                  refine x_run tab hk (k := 2) (lv := []) (ks := [0, 3, 4, 5, 6, 10, 125]) (e' := [(0, .string p0), (3, .slice A2052 (l2054).length c2053), (4, .int .i64 0), (5, .int .i64 (IntKind.wrap .i64 (x2057 + 1))), (6, .string (⟨#[]⟩ : ByteArray)), (10, .int .i64 (IntKind.wrap .i64 (bt p0 x2057))), (125, .bool ((IntKind.wrap .i64 (bt p0 x2057)) == (91 : Int)))]) rfl trivial fun a hk => ?_
                  refine wpListIn_nil ?_
                  refine then_n ?_
                  cases b2114 : ((IntKind.wrap .i64 (bt p0 x2057)) == (91 : Int))
                  · rw [b2114] at hk H
                    replace H := bifF H
                    refine x_if hk (b := false) rfl ?_
                    refine (show Code.wpIn _ _ _ _ _ _ _ from ?_)
                    refine x_seq ?_
                    refine wpIn_region_lit ?_
                    refine x_run tab hk (k := 2) (lv := []) (ks := [0, 3, 4, 5, 6, 10, 127]) (e' := [(0, .string p0), (3, .slice A2052 (l2054).length c2053), (4, .int .i64 0), (5, .int .i64 (IntKind.wrap .i64 (x2057 + 1))), (6, .string (⟨#[]⟩ : ByteArray)), (10, .int .i64 (IntKind.wrap .i64 (bt p0 x2057))), (127, .bool ((IntKind.wrap .i64 (bt p0 x2057)) == (93 : Int)))]) rfl trivial fun a hk => ?_
                    refine wpListIn_nil ?_
                    refine then_n ?_
                    cases b2115 : ((IntKind.wrap .i64 (bt p0 x2057)) == (93 : Int))
                    · rw [b2115] at hk H
                      replace H := bifF H
                      refine x_if hk (b := false) rfl ?_
                      refine (show Code.wpIn _ _ _ _ _ _ _ from ?_)
                      refine x_seq ?_
                      refine wpIn_region_lit ?_
                      refine x_run tab hk (k := 2) (lv := []) (ks := [0, 3, 4, 5, 6, 10, 129]) (e' := [(0, .string p0), (3, .slice A2052 (l2054).length c2053), (4, .int .i64 0), (5, .int .i64 (IntKind.wrap .i64 (x2057 + 1))), (6, .string (⟨#[]⟩ : ByteArray)), (10, .int .i64 (IntKind.wrap .i64 (bt p0 x2057))), (129, .bool (decide ((IntKind.wrap .i64 (bt p0 x2057)) < (48 : Int))))]) rfl trivial fun a hk => ?_
                      refine wpListIn_nil ?_
                      refine then_n ?_
                      cases b2116 : (decide ((IntKind.wrap .i64 (bt p0 x2057)) < (48 : Int)))
                      · rw [b2116] at hk H
                        replace H := bifF H
                        refine x_if hk (b := false) rfl ?_
                        refine (show Code.wpIn _ _ _ _ _ _ _ from ?_)
                        refine x_seq ?_
                        refine wpIn_region_lit ?_
                        refine x_run tab hk (k := 2) (lv := []) (ks := [0, 3, 4, 5, 6, 10, 131]) (e' := [(0, .string p0), (3, .slice A2052 (l2054).length c2053), (4, .int .i64 0), (5, .int .i64 (IntKind.wrap .i64 (x2057 + 1))), (6, .string (⟨#[]⟩ : ByteArray)), (10, .int .i64 (IntKind.wrap .i64 (bt p0 x2057))), (131, .bool (decide ((IntKind.wrap .i64 (bt p0 x2057)) < (127 : Int))))]) rfl trivial fun a hk => ?_
                        refine wpListIn_nil ?_
                        refine then_n ?_
                        cases b2117 : (decide ((IntKind.wrap .i64 (bt p0 x2057)) < (127 : Int)))
                        · rw [b2117] at hk H
                          replace H := bifF H
                          refine x_if hk (b := false) rfl ?_
                          refine (show Code.wpIn _ _ _ _ _ _ _ from ?_)
                          refine wpIn_skip ?_
                          refine blk_n ?_
                          refine blk_n ?_
                          refine then_n ?_
                          exact ⟨k1934, Nat.le_refl _, (fun b_ => (fun l_ => if l_ = 152 then 115 else l_) (o2066 b_)), A2052, c2053, l2054, 0, (IntKind.wrap .i64 (x2057 + 1)), (⟨#[]⟩ : ByteArray), (by exact Kn.pick (ks := [0, 3, 4, 5, 6]) hk rfl), (hs.relabM hob (fun l_ => if l_ = 152 then 115 else l_) (by decide)), (f2055.relab (fun l_ => if l_ = 152 then 115 else l_) rfl), hc2056, (hlp1936 ▸ H)⟩
                        · rw [b2117] at hk H
                          replace H := bifT H
                          refine x_if hk (b := true) rfl ?_
                          refine (show Code.wpIn _ _ _ _ _ _ _ from ?_)
                          refine wpIn_region_lit ?_
                          refine x_run tab hk (k := 3) (lv := []) (ks := [0, 4, 5, 6, 132, 134]) (e' := [(0, .string p0), (4, .int .i64 0), (5, .int .i64 (IntKind.wrap .i64 (x2057 + 1))), (6, .string (⟨#[]⟩ : ByteArray)), (132, .slice A2052 (l2054).length c2053), (134, .agg #[.int .i64 3, .int .i64 0, .int .i64 (IntKind.wrap .i64 (bt p0 x2057)), .bool false, .slice none 0 0, .string (⟨#[]⟩ : ByteArray)])]) rfl trivial fun a hk => ?_
                          refine x_op hk rfl ?_
                          refine op_slice (o := o2066) tab hk (vs := [.agg #[.int .i64 3, .int .i64 0, .int .i64 (IntKind.wrap .i64 (bt p0 x2057)), .bool false, .slice none 0 0, .string (⟨#[]⟩ : ByteArray)]]) (cs := [.int .i64 3, .int .i64 0, .int .i64 (IntKind.wrap .i64 (bt p0 x2057)), .bool false, .slice none 0 0, .string (⟨#[]⟩ : ByteArray)]) rfl rfl rfl rfl rfl rfl rfl rfl rfl 156 fun bx2121 w2118 o2119 st2120 f2122 => ?_
                          replace f2055 := f2055.st st2120 (by decide)
                          replace hs := hs.locQ st2120 hob rfl
                          have f2123 : NOwn dT47 48 (some ⟨bx2121, 0, none⟩) 1 ([(⟨3, 0, (IntKind.wrap .i64 (bt p0 x2057)), false, ([] : List Int), (⟨#[]⟩ : ByteArray)⟩ : T47)] : List T47) w2118 o2119 156 1 := NOwn.litD (D := dT47) f2122 [(⟨(⟨3, 0, (IntKind.wrap .i64 (bt p0 x2057)), false, ([] : List Int), (⟨#[]⟩ : ByteArray)⟩ : T47), none, 0⟩ : NT47)] rfl (Inn.consD (D := dT47) (r := (⟨(⟨3, 0, (IntKind.wrap .i64 (bt p0 x2057)), false, ([] : List Int), (⟨#[]⟩ : ByteArray)⟩ : T47), none, 0⟩ : NT47)) ((Ft.of_all (P := RdC (encInt .i64) none []) (fun _ h_ => absurd h_ (by simp)) _ _ _).imp fun _ h_ => ⟨h_, (by simp)⟩) (Inn.nilD _ _ _ _)) rfl (Nat.le_of_ble_eq_true rfl)
                          have hk := hk.put 135 (.slice (some ⟨bx2121, 0, none⟩) (([(⟨3, 0, (IntKind.wrap .i64 (bt p0 x2057)), false, ([] : List Int), (⟨#[]⟩ : ByteArray)⟩ : T47)] : List T47)).length 1) rfl
                          refine x_op hk rfl ?_
                          obtain ⟨q2127, H⟩ := ifS H
                          refine op_appendN (o := o2119) (D := dT47) (xs := l2054) (ys := ([(⟨3, 0, (IntKind.wrap .i64 (bt p0 x2057)), false, ([] : List Int), (⟨#[]⟩ : ByteArray)⟩ : T47)] : List T47)) tab hk rfl rfl rfl rfl rfl rfl rfl f2055 f2123.rd (by decide) q2127 fun A2128 c2129 w2124 o2125 st2126 f2130 hc2131 => ?_
                          replace f2123 := f2123.st st2126 (by decide)
                          replace hs := hs.locQ st2126 hob rfl
                          have hk := hk.put 136 (.slice A2128 ((l2054 ++ ([(⟨3, 0, (IntKind.wrap .i64 (bt p0 x2057)), false, ([] : List Int), (⟨#[]⟩ : ByteArray)⟩ : T47)] : List T47))).length c2129) rfl
                          refine x_run tab hk (k := 1) (lv := []) (ks := [0, 3, 4, 5, 6]) (e' := [(0, .string p0), (3, .slice A2128 ((l2054 ++ ([(⟨3, 0, (IntKind.wrap .i64 (bt p0 x2057)), false, ([] : List Int), (⟨#[]⟩ : ByteArray)⟩ : T47)] : List T47))).length c2129), (4, .int .i64 0), (5, .int .i64 (IntKind.wrap .i64 (x2057 + 1))), (6, .string (⟨#[]⟩ : ByteArray))]) rfl trivial fun a hk => ?_
                          refine wpListIn_nil ?_
                          refine blk_n ?_
                          refine blk_n ?_
                          refine then_n ?_
                          exact ⟨k1934, Nat.le_refl _, (fun b_ => (fun l_ => if l_ = 152 then 115 else l_) (o2125 b_)), A2128, c2129, (l2054 ++ ([(⟨3, 0, (IntKind.wrap .i64 (bt p0 x2057)), false, ([] : List Int), (⟨#[]⟩ : ByteArray)⟩ : T47)] : List T47)), 0, (IntKind.wrap .i64 (x2057 + 1)), (⟨#[]⟩ : ByteArray), (by exact Kn.pick (ks := [0, 3, 4, 5, 6]) hk rfl), (hs.relabM hob (fun l_ => if l_ = 152 then 115 else l_) (by decide)), (f2130.relab (fun l_ => if l_ = 152 then 115 else l_) rfl), hc2131, (hlp1936 ▸ H)⟩
                      · rw [b2116] at hk H
                        replace H := bifT H
                        refine x_if hk (b := true) rfl ?_
                        refine (show Code.wpIn _ _ _ _ _ _ _ from ?_)
                        refine wpIn_region_lit ?_
                        refine x_run tab hk (k := 1) (lv := []) (ks := [0, 3, 4, 5, 6]) (e' := [(0, .string p0), (3, .slice A2052 (l2054).length c2053), (4, .int .i64 2), (5, .int .i64 (IntKind.wrap .i64 (x2057 + 1))), (6, .string (⟨#[]⟩ : ByteArray))]) rfl trivial fun a hk => ?_
                        refine wpListIn_nil ?_
                        refine blk_n ?_
                        refine blk_n ?_
                        refine then_n ?_
                        exact ⟨k1934, Nat.le_refl _, (fun b_ => (fun l_ => if l_ = 152 then 115 else l_) (o2066 b_)), A2052, c2053, l2054, 2, (IntKind.wrap .i64 (x2057 + 1)), (⟨#[]⟩ : ByteArray), (by exact Kn.pick (ks := [0, 3, 4, 5, 6]) hk rfl), (hs.relabM hob (fun l_ => if l_ = 152 then 115 else l_) (by decide)), (f2055.relab (fun l_ => if l_ = 152 then 115 else l_) rfl), hc2056, (hlp1936 ▸ H)⟩
                    · rw [b2115] at hk H
                      replace H := bifT H
                      refine x_if hk (b := true) rfl ?_
                      refine (show Code.wpIn _ _ _ _ _ _ _ from ?_)
                      refine wpIn_region_lit ?_
                      refine x_run tab hk (k := 1) (lv := []) (ks := [0, 3, 4, 5, 6]) (e' := [(0, .string p0), (3, .slice A2052 (l2054).length c2053), (4, .int .i64 4), (5, .int .i64 (IntKind.wrap .i64 (x2057 + 1))), (6, .string (⟨#[]⟩ : ByteArray))]) rfl trivial fun a hk => ?_
                      refine wpListIn_nil ?_
                      refine blk_n ?_
                      refine blk_n ?_
                      refine then_n ?_
                      exact ⟨k1934, Nat.le_refl _, (fun b_ => (fun l_ => if l_ = 152 then 115 else l_) (o2066 b_)), A2052, c2053, l2054, 4, (IntKind.wrap .i64 (x2057 + 1)), (⟨#[]⟩ : ByteArray), (by exact Kn.pick (ks := [0, 3, 4, 5, 6]) hk rfl), (hs.relabM hob (fun l_ => if l_ = 152 then 115 else l_) (by decide)), (f2055.relab (fun l_ => if l_ = 152 then 115 else l_) rfl), hc2056, (hlp1936 ▸ H)⟩
                  · rw [b2114] at hk H
                    replace H := bifT H
                    refine x_if hk (b := true) rfl ?_
                    refine (show Code.wpIn _ _ _ _ _ _ _ from ?_)
                    refine wpIn_region_lit ?_
                    refine x_run tab hk (k := 1) (lv := []) (ks := [0, 3, 4, 5, 6]) (e' := [(0, .string p0), (3, .slice A2052 (l2054).length c2053), (4, .int .i64 3), (5, .int .i64 (IntKind.wrap .i64 (x2057 + 1))), (6, .string (⟨#[]⟩ : ByteArray))]) rfl trivial fun a hk => ?_
                    refine wpListIn_nil ?_
                    refine blk_n ?_
                    refine blk_n ?_
                    refine then_n ?_
                    exact ⟨k1934, Nat.le_refl _, (fun b_ => (fun l_ => if l_ = 152 then 115 else l_) (o2066 b_)), A2052, c2053, l2054, 3, (IntKind.wrap .i64 (x2057 + 1)), (⟨#[]⟩ : ByteArray), (by exact Kn.pick (ks := [0, 3, 4, 5, 6]) hk rfl), (hs.relabM hob (fun l_ => if l_ = 152 then 115 else l_) (by decide)), (f2055.relab (fun l_ => if l_ = 152 then 115 else l_) rfl), hc2056, (hlp1936 ▸ H)⟩
              · rw [b2070] at hk H
                replace H := bifT H
                refine x_if hk (b := true) rfl ?_
                refine (show Code.wpIn _ _ _ _ _ _ _ from ?_)
                refine wpIn_exit ?_
                refine then_x ?_
                refine blk_x ?_
                refine then_n ?_
                exact ⟨k1934, Nat.le_refl _, (fun b_ => (fun l_ => if l_ = 152 then 115 else l_) (o2066 b_)), A2052, c2053, l2054, x1553, (IntKind.wrap .i64 (x2057 + 1)), x1555, (by exact Kn.pick (ks := [0, 3, 4, 5, 6]) hk rfl), (hs.relabM hob (fun l_ => if l_ = 152 then 115 else l_) (by decide)), (f2055.relab (fun l_ => if l_ = 152 then 115 else l_) rfl), hc2056, (hlp1936 ▸ H)⟩
            · rw [b2069] at hk H
              replace H := bifT H
              refine x_if hk (b := true) rfl ?_
              refine (show Code.wpIn _ _ _ _ _ _ _ from ?_)
              refine x_seq ?_
              refine wpIn_region_lit ?_
              refine x_run tab hk (k := 3) (lv := []) (ks := [0, 4, 5, 6, 114, 116]) (e' := [(0, .string p0), (4, .int .i64 x1553), (5, .int .i64 (IntKind.wrap .i64 (x2057 + 1))), (6, .string x1555), (114, .slice A2052 (l2054).length c2053), (116, .agg #[.int .i64 2, .int .i64 0, .int .i64 (IntKind.wrap .i64 (bt p0 x2057)), .bool false, .slice none 0 0, .string (⟨#[]⟩ : ByteArray)])]) rfl trivial fun a hk => ?_
              refine x_op hk rfl ?_
              refine op_slice (o := o2066) tab hk (vs := [.agg #[.int .i64 2, .int .i64 0, .int .i64 (IntKind.wrap .i64 (bt p0 x2057)), .bool false, .slice none 0 0, .string (⟨#[]⟩ : ByteArray)]]) (cs := [.int .i64 2, .int .i64 0, .int .i64 (IntKind.wrap .i64 (bt p0 x2057)), .bool false, .slice none 0 0, .string (⟨#[]⟩ : ByteArray)]) rfl rfl rfl rfl rfl rfl rfl rfl rfl 157 fun bx2135 w2132 o2133 st2134 f2136 => ?_
              replace f2055 := f2055.st st2134 (by decide)
              replace hs := hs.locQ st2134 hob rfl
              have f2137 : NOwn dT47 48 (some ⟨bx2135, 0, none⟩) 1 ([(⟨2, 0, (IntKind.wrap .i64 (bt p0 x2057)), false, ([] : List Int), (⟨#[]⟩ : ByteArray)⟩ : T47)] : List T47) w2132 o2133 157 1 := NOwn.litD (D := dT47) f2136 [(⟨(⟨2, 0, (IntKind.wrap .i64 (bt p0 x2057)), false, ([] : List Int), (⟨#[]⟩ : ByteArray)⟩ : T47), none, 0⟩ : NT47)] rfl (Inn.consD (D := dT47) (r := (⟨(⟨2, 0, (IntKind.wrap .i64 (bt p0 x2057)), false, ([] : List Int), (⟨#[]⟩ : ByteArray)⟩ : T47), none, 0⟩ : NT47)) ((Ft.of_all (P := RdC (encInt .i64) none []) (fun _ h_ => absurd h_ (by simp)) _ _ _).imp fun _ h_ => ⟨h_, (by simp)⟩) (Inn.nilD _ _ _ _)) rfl (Nat.le_of_ble_eq_true rfl)
              have hk := hk.put 117 (.slice (some ⟨bx2135, 0, none⟩) (([(⟨2, 0, (IntKind.wrap .i64 (bt p0 x2057)), false, ([] : List Int), (⟨#[]⟩ : ByteArray)⟩ : T47)] : List T47)).length 1) rfl
              refine x_op hk rfl ?_
              obtain ⟨q2141, H⟩ := ifS H
              refine op_appendN (o := o2133) (D := dT47) (xs := l2054) (ys := ([(⟨2, 0, (IntKind.wrap .i64 (bt p0 x2057)), false, ([] : List Int), (⟨#[]⟩ : ByteArray)⟩ : T47)] : List T47)) tab hk rfl rfl rfl rfl rfl rfl rfl f2055 f2137.rd (by decide) q2141 fun A2142 c2143 w2138 o2139 st2140 f2144 hc2145 => ?_
              replace f2137 := f2137.st st2140 (by decide)
              replace hs := hs.locQ st2140 hob rfl
              have hk := hk.put 118 (.slice A2142 ((l2054 ++ ([(⟨2, 0, (IntKind.wrap .i64 (bt p0 x2057)), false, ([] : List Int), (⟨#[]⟩ : ByteArray)⟩ : T47)] : List T47))).length c2143) rfl
              refine x_run tab hk (k := 1) (lv := []) (ks := [0, 3, 4, 5, 6]) (e' := [(0, .string p0), (3, .slice A2142 ((l2054 ++ ([(⟨2, 0, (IntKind.wrap .i64 (bt p0 x2057)), false, ([] : List Int), (⟨#[]⟩ : ByteArray)⟩ : T47)] : List T47))).length c2143), (4, .int .i64 x1553), (5, .int .i64 (IntKind.wrap .i64 (x2057 + 1))), (6, .string x1555)]) rfl trivial fun a hk => ?_
              refine wpListIn_nil ?_
              refine then_n ?_
              refine wpIn_exit ?_
              refine then_x ?_
              refine blk_x ?_
              refine then_n ?_
              exact ⟨k1934, Nat.le_refl _, (fun b_ => (fun l_ => if l_ = 152 then 115 else l_) (o2139 b_)), A2142, c2143, (l2054 ++ ([(⟨2, 0, (IntKind.wrap .i64 (bt p0 x2057)), false, ([] : List Int), (⟨#[]⟩ : ByteArray)⟩ : T47)] : List T47)), x1553, (IntKind.wrap .i64 (x2057 + 1)), x1555, (by exact Kn.pick (ks := [0, 3, 4, 5, 6]) hk rfl), (hs.relabM hob (fun l_ => if l_ = 152 then 115 else l_) (by decide)), (f2144.relab (fun l_ => if l_ = 152 then 115 else l_) rfl), hc2145, (hlp1936 ▸ H)⟩
          · rw [b2068] at hk H
            replace H := bifT H
            refine x_if hk (b := true) rfl ?_
            refine (show Code.wpIn _ _ _ _ _ _ _ from ?_)
            refine x_seq ?_
            refine wpIn_region_lit ?_
            refine x_run tab hk (k := 1) (lv := []) (ks := [0, 3, 4, 5, 6]) (e' := [(0, .string p0), (3, .slice A2052 (l2054).length c2053), (4, .int .i64 1), (5, .int .i64 (IntKind.wrap .i64 (x2057 + 1))), (6, .string x1555)]) rfl trivial fun a hk => ?_
            refine wpListIn_nil ?_
            refine then_n ?_
            refine wpIn_exit ?_
            refine then_x ?_
            refine blk_x ?_
            refine then_n ?_
            exact ⟨k1934, Nat.le_refl _, (fun b_ => (fun l_ => if l_ = 152 then 115 else l_) (o2066 b_)), A2052, c2053, l2054, 1, (IntKind.wrap .i64 (x2057 + 1)), x1555, (by exact Kn.pick (ks := [0, 3, 4, 5, 6]) hk rfl), (hs.relabM hob (fun l_ => if l_ = 152 then 115 else l_) (by decide)), (f2055.relab (fun l_ => if l_ = 152 then 115 else l_) rfl), hc2056, (hlp1936 ▸ H)⟩
        refine x_seq ?_
        refine wpIn_region_lit ?_
        refine x_run tab hk (k := 3) (lv := []) (ks := [0, 3, 4, 5, 6, 10, 106]) (e' := [(0, .string p0), (3, .slice A2052 (l2054).length c2053), (4, .int .i64 x1553), (5, .int .i64 (IntKind.wrap .i64 (x2057 + 1))), (6, .string x1555), (10, .int .i64 (IntKind.wrap .i64 (bt p0 x2057))), (106, .bool ((IntKind.wrap .i64 (bt p0 x2057)) == (24 : Int)))]) rfl trivial fun a hk => ?_
        cases b2146 : ((IntKind.wrap .i64 (bt p0 x2057)) == (24 : Int))
        · rw [b2146] at hk H
          replace H := bifF H
          refine x_run tab hk (k := 3) (lv := []) (ks := [0, 3, 4, 5, 6, 10, 109]) (e' := [(0, .string p0), (3, .slice A2052 (l2054).length c2053), (4, .int .i64 x1553), (5, .int .i64 (IntKind.wrap .i64 (x2057 + 1))), (6, .string x1555), (10, .int .i64 (IntKind.wrap .i64 (bt p0 x2057))), (109, .bool ((IntKind.wrap .i64 (bt p0 x2057)) == (26 : Int)))]) rfl trivial fun a hk => ?_
          refine wpListIn_nil ?_
          refine then_n ?_
          cases b2147 : ((IntKind.wrap .i64 (bt p0 x2057)) == (26 : Int))
          · rw [b2147] at hk H
            replace H := bifF H
            refine x_if hk (b := false) rfl ?_
            refine (show Code.wpIn _ _ _ _ _ _ _ from ?_)
            refine wpIn_skip ?_
            refine then_n ?_
            exact ⟨(fun b_ => (fun l_ => if l_ = 151 then 152 else l_) (o2051 b_)), (by exact Kn.pick (ks := [0, 3, 4, 5, 6, 10]) hk rfl), (hs.relabM hob (fun l_ => if l_ = 151 then 152 else l_) (by decide)), (f2055.relab (fun l_ => if l_ = 151 then 152 else l_) rfl), H⟩
          · rw [b2147] at hk H
            replace H := bifT H
            refine x_if hk (b := true) rfl ?_
            refine (show Code.wpIn _ _ _ _ _ _ _ from ?_)
            refine x_seq ?_
            refine wpIn_region_lit ?_
            refine x_run tab hk (k := 1) (lv := []) (ks := [0, 3, 4, 5, 6]) (e' := [(0, .string p0), (3, .slice A2052 (l2054).length c2053), (4, .int .i64 0), (5, .int .i64 (IntKind.wrap .i64 (x2057 + 1))), (6, .string x1555)]) rfl trivial fun a hk => ?_
            refine wpListIn_nil ?_
            refine then_n ?_
            refine wpIn_exit ?_
            refine then_x ?_
            refine blk_x ?_
            refine then_n ?_
            exact ⟨k1934, Nat.le_refl _, (fun b_ => (fun l_ => if l_ = 151 then 115 else l_) (o2051 b_)), A2052, c2053, l2054, 0, (IntKind.wrap .i64 (x2057 + 1)), x1555, (by exact Kn.pick (ks := [0, 3, 4, 5, 6]) hk rfl), (hs.relabM hob (fun l_ => if l_ = 151 then 115 else l_) (by decide)), (f2055.relab (fun l_ => if l_ = 151 then 115 else l_) rfl), hc2056, (hlp1936 ▸ H)⟩
        · rw [b2146] at hk H
          replace H := bifT H
          refine x_run tab hk (k := 3) (lv := []) (ks := [0, 3, 4, 5, 6, 10, 109]) (e' := [(0, .string p0), (3, .slice A2052 (l2054).length c2053), (4, .int .i64 x1553), (5, .int .i64 (IntKind.wrap .i64 (x2057 + 1))), (6, .string x1555), (10, .int .i64 (IntKind.wrap .i64 (bt p0 x2057))), (109, .bool true)]) rfl trivial fun a hk => ?_
          refine wpListIn_nil ?_
          refine then_n ?_
          refine x_if hk (b := true) rfl ?_
          refine (show Code.wpIn _ _ _ _ _ _ _ from ?_)
          refine x_seq ?_
          refine wpIn_region_lit ?_
          refine x_run tab hk (k := 1) (lv := []) (ks := [0, 3, 4, 5, 6]) (e' := [(0, .string p0), (3, .slice A2052 (l2054).length c2053), (4, .int .i64 0), (5, .int .i64 (IntKind.wrap .i64 (x2057 + 1))), (6, .string x1555)]) rfl trivial fun a hk => ?_
          refine wpListIn_nil ?_
          refine then_n ?_
          refine wpIn_exit ?_
          refine then_x ?_
          refine blk_x ?_
          refine then_n ?_
          exact ⟨k1934, Nat.le_refl _, (fun b_ => (fun l_ => if l_ = 151 then 115 else l_) (o2051 b_)), A2052, c2053, l2054, 0, (IntKind.wrap .i64 (x2057 + 1)), x1555, (by exact Kn.pick (ks := [0, 3, 4, 5, 6]) hk rfl), (hs.relabM hob (fun l_ => if l_ = 151 then 115 else l_) (by decide)), (f2055.relab (fun l_ => if l_ = 151 then 115 else l_) rfl), hc2056, (hlp1936 ▸ H)⟩
      · rw [b2060] at hk H
        replace H := bifT H
        refine x_if hk (b := true) rfl ?_
        refine (show Code.wpIn _ _ _ _ _ _ _ from ?_)
        refine x_seq ?_
        refine x_seq ?_
        refine wpIn_region_lit ?_
        refine x_run tab hk (k := 2) (lv := []) (ks := [0, 3, 4, 5, 6, 10, 70]) (e' := [(0, .string p0), (3, .slice A2052 (l2054).length c2053), (4, .int .i64 x1553), (5, .int .i64 (IntKind.wrap .i64 (x2057 + 1))), (6, .string x1555), (10, .int .i64 (IntKind.wrap .i64 (bt p0 x2057))), (70, .bool ((IntKind.wrap .i64 (bt p0 x2057)) == (7 : Int)))]) rfl trivial fun a hk => ?_
        refine wpListIn_nil ?_
        refine then_n ?_
        cases b2148 : ((IntKind.wrap .i64 (bt p0 x2057)) == (7 : Int))
        · rw [b2148] at hk H
          replace H := bifF H
          refine x_if hk (b := false) rfl ?_
          refine (show Code.wpIn _ _ _ _ _ _ _ from ?_)
          refine x_mid (fun a_ w_ => ∃ o2156 : Nat → Nat, ∃ x2157 : Bool, Kn 161 a_ [(0, .string p0), (3, .slice A2052 (l2054).length c2053), (4, .int .i64 x1553), (5, .int .i64 (IntKind.wrap .i64 (x2057 + 1))), (6, .string x1555), (10, .int .i64 (IntKind.wrap .i64 (bt p0 x2057))), (80, .bool x2157)] ∧ St [] w oi w_ o2156 ∧ NOwn dT47 48 A2052 c2053 l2054 w_ o2156 158 1 ∧ tidewrackref07_Read_j6 p0 x1553 x1555 lp1935 l2054 x2057 x2157 = some r) ?_ ?_
          rotate_left
          · rintro a w2158 ⟨o2156, x2157, hk, hs, f2055, H⟩
            rw [tidewrackref07_Read_j6] at H
            cases b2159 : x2157
            · rw [b2159] at hk H
              replace H := bifF H
              refine x_if hk (b := false) rfl ?_
              refine (show Code.wpIn _ _ _ _ _ _ _ from ?_)
              refine x_seq ?_
              refine wpIn_region_lit ?_
              refine x_run tab hk (k := 2) (lv := []) (ks := [0, 3, 4, 5, 6, 10, 82]) (e' := [(0, .string p0), (3, .slice A2052 (l2054).length c2053), (4, .int .i64 x1553), (5, .int .i64 (IntKind.wrap .i64 (x2057 + 1))), (6, .string x1555), (10, .int .i64 (IntKind.wrap .i64 (bt p0 x2057))), (82, .bool ((IntKind.wrap .i64 (bt p0 x2057)) != (27 : Int)))]) rfl trivial fun a hk => ?_
              refine wpListIn_nil ?_
              refine then_n ?_
              cases b2160 : ((IntKind.wrap .i64 (bt p0 x2057)) != (27 : Int))
              · rw [b2160] at hk H
                replace H := bifF H
                refine x_if hk (b := false) rfl ?_
                refine (show Code.wpIn _ _ _ _ _ _ _ from ?_)
                refine x_seq ?_
                refine x_seq ?_
                refine wpIn_region_lit ?_
                refine x_run tab hk (k := 4) (lv := []) (ks := [0, 3, 5, 6, 92]) (e' := [(0, .string p0), (3, .slice A2052 (l2054).length c2053), (5, .int .i64 (IntKind.wrap .i64 (x2057 + 1))), (6, .string x1555), (92, .bool ((IntKind.wrap .i64 (x2057 + 1)) == ((p0).size : Int)))]) rfl trivial fun a hk => ?_
                refine wpListIn_nil ?_
                refine then_n ?_
                cases b2161 : ((IntKind.wrap .i64 (x2057 + 1)) == ((p0).size : Int))
                · rw [b2161] at hk H
                  replace H := bifF H
                  refine x_if hk (b := false) rfl ?_
                  refine (show Code.wpIn _ _ _ _ _ _ _ from ?_)
                  refine wpIn_skip ?_
                  refine then_n ?_
                  refine x_seq ?_
                  refine wpIn_region_lit ?_
                  refine x_run tab hk (k := 1) (lv := []) (ks := [0, 3, 4, 5, 6]) (e' := [(0, .string p0), (3, .slice A2052 (l2054).length c2053), (4, .int .i64 1), (5, .int .i64 (IntKind.wrap .i64 (x2057 + 1))), (6, .string x1555)]) rfl trivial fun a hk => ?_
                  refine wpListIn_nil ?_
                  refine then_n ?_
                  refine x_seq ?_
                  refine wpIn_region_lit ?_
                  obtain ⟨q2162, H⟩ := ifS H
                  refine x_run tab hk (k := 4) (lv := []) (ks := [0, 3, 4, 5, 6, 97]) (e' := [(0, .string p0), (3, .slice A2052 (l2054).length c2053), (4, .int .i64 1), (5, .int .i64 (IntKind.wrap .i64 (x2057 + 1))), (6, .string x1555), (97, .bool ((bt p0 (IntKind.wrap .i64 (x2057 + 1))) == (92 : Int)))]) rfl ⟨q2162, trivial⟩ fun a hk => ?_
                  refine wpListIn_nil ?_
                  refine then_n ?_
                  cases b2163 : ((bt p0 (IntKind.wrap .i64 (x2057 + 1))) == (92 : Int))
                  · rw [b2163] at hk H
                    replace H := bifF H
                    refine x_if hk (b := false) rfl ?_
                    refine (show Code.wpIn _ _ _ _ _ _ _ from ?_)
                    refine wpIn_skip ?_
                    refine then_n ?_
                    refine wpIn_exit ?_
                    refine then_x ?_
                    refine blk_x ?_
                    refine then_n ?_
                    exact ⟨k1934, Nat.le_refl _, (fun b_ => (fun l_ => if l_ = 158 then 115 else l_) (o2156 b_)), A2052, c2053, l2054, 1, (IntKind.wrap .i64 (x2057 + 1)), x1555, (by exact Kn.pick (ks := [0, 3, 4, 5, 6]) hk rfl), (hs.relabM hob (fun l_ => if l_ = 158 then 115 else l_) (by decide)), (f2055.relab (fun l_ => if l_ = 158 then 115 else l_) rfl), hc2056, (hlp1936 ▸ H)⟩
                  · rw [b2163] at hk H
                    replace H := bifT H
                    refine x_if hk (b := true) rfl ?_
                    refine (show Code.wpIn _ _ _ _ _ _ _ from ?_)
                    refine x_seq ?_
                    refine wpIn_region_lit ?_
                    refine x_run tab hk (k := 2) (lv := []) (ks := [0, 5, 6, 98, 99]) (e' := [(0, .string p0), (5, .int .i64 (IntKind.wrap .i64 (x2057 + 1))), (6, .string x1555), (98, .slice A2052 (l2054).length c2053), (99, .string x1555)]) rfl trivial fun a hk => ?_
                    refine x_op hk rfl ?_
                    obtain ⟨t2167, hc2168, H⟩ := bindS H
                    refine op_call hk ent_21 (vs := [.string x1555]) rfl (tidewrackref07_Titles_calls x1555 _ o2156 1 (by decide) 159  _ hc2168) ?_
                    rintro _ w2169 ⟨o2170, A2172, c2173, rfl, st2171, f2174, hc2175⟩
                    replace f2055 := f2055.st st2171 (by decide)
                    replace hs := hs.locQ st2171 hob rfl
                    have hk := hk.put 100 (.slice A2172 (t2167).length c2173) rfl
                    refine x_op hk rfl ?_
                    obtain ⟨q2179, H⟩ := ifS H
                    refine op_appendN (o := o2170) (D := dT47) (xs := l2054) (ys := t2167) tab hk rfl rfl rfl rfl rfl rfl rfl f2055 f2174.rd (by decide) q2179 fun A2180 c2181 w2176 o2177 st2178 f2182 hc2183 => ?_
                    replace f2174 := f2174.st st2178 (by decide)
                    replace hs := hs.locQ st2178 hob rfl
                    have hk := hk.put 101 (.slice A2180 ((l2054 ++ t2167)).length c2181) rfl
                    refine x_run tab hk (k := 1) (lv := []) (ks := [0, 3, 5, 6]) (e' := [(0, .string p0), (3, .slice A2180 ((l2054 ++ t2167)).length c2181), (5, .int .i64 (IntKind.wrap .i64 (x2057 + 1))), (6, .string x1555)]) rfl trivial fun a hk => ?_
                    refine wpListIn_nil ?_
                    refine then_n ?_
                    refine x_seq ?_
                    refine wpIn_region_lit ?_
                    refine x_run tab hk (k := 1) (lv := []) (ks := [0, 3, 4, 5, 6]) (e' := [(0, .string p0), (3, .slice A2180 ((l2054 ++ t2167)).length c2181), (4, .int .i64 0), (5, .int .i64 (IntKind.wrap .i64 (x2057 + 1))), (6, .string x1555)]) rfl trivial fun a hk => ?_
                    refine wpListIn_nil ?_
                    refine then_n ?_
                    refine wpIn_region_lit ?_
                    refine x_run tab hk (k := 3) (lv := []) (ks := [0, 3, 4, 5, 6]) (e' := [(0, .string p0), (3, .slice A2180 ((l2054 ++ t2167)).length c2181), (4, .int .i64 0), (5, .int .i64 (IntKind.wrap .i64 ((IntKind.wrap .i64 (x2057 + 1)) + 1))), (6, .string x1555)]) rfl trivial fun a hk => ?_
                    refine wpListIn_nil ?_
                    refine then_n ?_
                    refine wpIn_exit ?_
                    refine then_x ?_
                    refine blk_x ?_
                    refine then_n ?_
                    exact ⟨k1934, Nat.le_refl _, (fun b_ => (fun l_ => if l_ = 158 then 115 else l_) (o2177 b_)), A2180, c2181, (l2054 ++ t2167), 0, (IntKind.wrap .i64 ((IntKind.wrap .i64 (x2057 + 1)) + 1)), x1555, (by exact Kn.pick (ks := [0, 3, 4, 5, 6]) hk rfl), (hs.relabM hob (fun l_ => if l_ = 158 then 115 else l_) (by decide)), (f2182.relab (fun l_ => if l_ = 158 then 115 else l_) rfl), hc2183, (hlp1936 ▸ H)⟩
                · rw [b2161] at hk H
                  replace H := bifT H
                  refine x_if hk (b := true) rfl ?_
                  refine (show Code.wpIn _ _ _ _ _ _ _ from ?_)
                  refine x_seq ?_
                  refine wpIn_region_lit ?_
                  refine x_run tab hk (k := 2) (lv := []) (ks := [2]) (e' := [(2, .slice A2052 (l2054).length c2053)]) rfl trivial fun a hk => ?_
                  refine wpListIn_nil ?_
                  refine then_n ?_
                  refine wpIn_ret ?_
                  refine then_r ?_
                  refine then_r ?_
                  refine then_r ?_
                  refine blk_r ?_
                  refine then_r ?_
                  refine blk_r ?_
                  refine then_r ?_
                  obtain rfl := Option.some.inj H
                  exact x_retG hk (rs := [.tmp 2]) (vs := [.slice A2052 (l2054).length c2053]) rfl ⟨rfl, trivial⟩ ⟨cl w oi o [] (fun l_ => if l_ = 1 then LF else if l_ = 158 then R0 else 0) o2156, A2052, c2053, rfl, hs.closeF (Lm := []) (Sh := []) hoa rfl (fun l_ => if l_ = 1 then LF else if l_ = 158 then R0 else 0), f2055.conv (fun _ h_ => hs.closeM_ft (o := o) (ρ := fun l_ => if l_ = 1 then LF else if l_ = 158 then R0 else 0) h_ (lab_none hob rfl) rfl) (fun _ h_ => hs.closeM_ft (o := o) (ρ := fun l_ => if l_ = 1 then LF else if l_ = 158 then R0 else 0) h_ (lab_at hoa (i := 0) rfl) rfl), hc2056⟩
              · rw [b2160] at hk H
                replace H := bifT H
                refine x_if hk (b := true) rfl ?_
                refine (show Code.wpIn _ _ _ _ _ _ _ from ?_)
                refine wpIn_region_lit ?_
                refine x_run tab hk (k := 3) (lv := []) (ks := [0, 3, 4, 5, 83, 85]) (e' := [(0, .string p0), (3, .slice A2052 (l2054).length c2053), (4, .int .i64 x1553), (5, .int .i64 (IntKind.wrap .i64 (x2057 + 1))), (83, .string x1555), (85, .int .u8 (IntKind.wrap .u8 (IntKind.wrap .i64 (bt p0 x2057))))]) rfl trivial fun a hk => ?_
                refine x_op hk rfl ?_
                refine op_slice (o := o2156) tab hk (vs := [.int .u8 (IntKind.wrap .u8 (IntKind.wrap .i64 (bt p0 x2057)))]) (cs := [.int .u8 (IntKind.wrap .u8 (IntKind.wrap .i64 (bt p0 x2057)))]) rfl rfl rfl rfl rfl rfl rfl rfl rfl 160 fun bx2187 w2184 o2185 st2186 f2188 => ?_
                replace f2055 := f2055.st st2186 (by decide)
                replace hs := hs.locQ st2186 hob rfl
                have f2189 : Ft (Own (encInt .u8) 5 (.slice (some ⟨bx2187, 0, none⟩) (([(IntKind.wrap .u8 (IntKind.wrap .i64 (bt p0 x2057)))] : List Int)).length 1) ([(IntKind.wrap .u8 (IntKind.wrap .i64 (bt p0 x2057)))] : List Int)) w2184 o2185 160 := f2188.imp fun _ h_ => Own.of_box h_ rfl (by simp)
                have hk := hk.put 86 (.slice (some ⟨bx2187, 0, none⟩) (([(IntKind.wrap .u8 (IntKind.wrap .i64 (bt p0 x2057)))] : List Int)).length 1) rfl
                obtain ⟨q2190, H⟩ := ifS H
                refine x_run tab hk (k := 3) (lv := [.string (strOfNums ([(IntKind.wrap .u8 (IntKind.wrap .i64 (bt p0 x2057)))] : List Int))]) (ks := [0, 3, 4, 5, 6]) (e' := [(0, .string p0), (3, .slice A2052 (l2054).length c2053), (4, .int .i64 x1553), (5, .int .i64 (IntKind.wrap .i64 (x2057 + 1))), (6, .string (x1555 ++ (strOfNums ([(IntKind.wrap .u8 (IntKind.wrap .i64 (bt p0 x2057)))] : List Int))))]) rfl ⟨(ask_str tab rfl rfl rfl rfl (Own.rd f2189.now) (Own.plain f2189.now _ _ _ rfl)), q2190, trivial⟩ fun a hk => ?_
                refine wpListIn_nil ?_
                refine then_n ?_
                refine wpIn_exit ?_
                refine then_x ?_
                refine blk_x ?_
                refine then_n ?_
                exact ⟨k1934, Nat.le_refl _, (fun b_ => (fun l_ => if l_ = 158 then 115 else l_) (o2185 b_)), A2052, c2053, l2054, x1553, (IntKind.wrap .i64 (x2057 + 1)), (x1555 ++ (strOfNums ([(IntKind.wrap .u8 (IntKind.wrap .i64 (bt p0 x2057)))] : List Int))), (by exact Kn.pick (ks := [0, 3, 4, 5, 6]) hk rfl), (hs.relabM hob (fun l_ => if l_ = 158 then 115 else l_) (by decide)), (f2055.relab (fun l_ => if l_ = 158 then 115 else l_) rfl), hc2056, (hlp1936 ▸ H)⟩
            · rw [b2159] at hk H
              replace H := bifT H
              refine x_if hk (b := true) rfl ?_
              refine (show Code.wpIn _ _ _ _ _ _ _ from ?_)
              refine wpIn_region_lit ?_
              refine x_run tab hk (k := 1) (lv := []) (ks := [0, 3, 4, 5, 6]) (e' := [(0, .string p0), (3, .slice A2052 (l2054).length c2053), (4, .int .i64 0), (5, .int .i64 (IntKind.wrap .i64 (x2057 + 1))), (6, .string x1555)]) rfl trivial fun a hk => ?_
              refine wpListIn_nil ?_
              refine then_n ?_
              refine wpIn_exit ?_
              refine then_x ?_
              refine blk_x ?_
              refine then_n ?_
              exact ⟨k1934, Nat.le_refl _, (fun b_ => (fun l_ => if l_ = 158 then 115 else l_) (o2156 b_)), A2052, c2053, l2054, 0, (IntKind.wrap .i64 (x2057 + 1)), x1555, (by exact Kn.pick (ks := [0, 3, 4, 5, 6]) hk rfl), (hs.relabM hob (fun l_ => if l_ = 158 then 115 else l_) (by decide)), (f2055.relab (fun l_ => if l_ = 158 then 115 else l_) rfl), hc2056, (hlp1936 ▸ H)⟩
          refine wpIn_region_lit ?_
          refine x_run tab hk (k := 3) (lv := []) (ks := [0, 3, 4, 5, 6, 10, 77]) (e' := [(0, .string p0), (3, .slice A2052 (l2054).length c2053), (4, .int .i64 x1553), (5, .int .i64 (IntKind.wrap .i64 (x2057 + 1))), (6, .string x1555), (10, .int .i64 (IntKind.wrap .i64 (bt p0 x2057))), (77, .bool ((IntKind.wrap .i64 (bt p0 x2057)) == (24 : Int)))]) rfl trivial fun a hk => ?_
          cases b2191 : ((IntKind.wrap .i64 (bt p0 x2057)) == (24 : Int))
          · rw [b2191] at hk H
            replace H := bifF H
            refine x_run tab hk (k := 3) (lv := []) (ks := [0, 3, 4, 5, 6, 10, 80]) (e' := [(0, .string p0), (3, .slice A2052 (l2054).length c2053), (4, .int .i64 x1553), (5, .int .i64 (IntKind.wrap .i64 (x2057 + 1))), (6, .string x1555), (10, .int .i64 (IntKind.wrap .i64 (bt p0 x2057))), (80, .bool ((IntKind.wrap .i64 (bt p0 x2057)) == (26 : Int)))]) rfl trivial fun a hk => ?_
            refine wpListIn_nil ?_
            refine then_n ?_
            exact ⟨(fun b_ => (fun l_ => if l_ = 151 then 158 else l_) (o2051 b_)), ((IntKind.wrap .i64 (bt p0 x2057)) == (26 : Int)), (by exact Kn.pick (ks := [0, 3, 4, 5, 6, 10, 80]) hk rfl), (hs.relabM hob (fun l_ => if l_ = 151 then 158 else l_) (by decide)), (f2055.relab (fun l_ => if l_ = 151 then 158 else l_) rfl), H⟩
          · rw [b2191] at hk H
            replace H := bifT H
            refine x_run tab hk (k := 3) (lv := []) (ks := [0, 3, 4, 5, 6, 10, 80]) (e' := [(0, .string p0), (3, .slice A2052 (l2054).length c2053), (4, .int .i64 x1553), (5, .int .i64 (IntKind.wrap .i64 (x2057 + 1))), (6, .string x1555), (10, .int .i64 (IntKind.wrap .i64 (bt p0 x2057))), (80, .bool true)]) rfl trivial fun a hk => ?_
            refine wpListIn_nil ?_
            refine then_n ?_
            exact ⟨(fun b_ => (fun l_ => if l_ = 151 then 158 else l_) (o2051 b_)), true, (by exact Kn.pick (ks := [0, 3, 4, 5, 6, 10, 80]) hk rfl), (hs.relabM hob (fun l_ => if l_ = 151 then 158 else l_) (by decide)), (f2055.relab (fun l_ => if l_ = 151 then 158 else l_) rfl), H⟩
        · rw [b2148] at hk H
          replace H := bifT H
          refine x_if hk (b := true) rfl ?_
          refine (show Code.wpIn _ _ _ _ _ _ _ from ?_)
          refine x_seq ?_
          refine wpIn_region_lit ?_
          refine x_run tab hk (k := 2) (lv := []) (ks := [0, 5, 6, 71, 72]) (e' := [(0, .string p0), (5, .int .i64 (IntKind.wrap .i64 (x2057 + 1))), (6, .string x1555), (71, .slice A2052 (l2054).length c2053), (72, .string x1555)]) rfl trivial fun a hk => ?_
          refine x_op hk rfl ?_
          obtain ⟨t2195, hc2196, H⟩ := bindS H
          refine op_call hk ent_21 (vs := [.string x1555]) rfl (tidewrackref07_Titles_calls x1555 _ o2051 1 (by decide) 161  _ hc2196) ?_
          rintro _ w2197 ⟨o2198, A2200, c2201, rfl, st2199, f2202, hc2203⟩
          replace f2055 := f2055.st st2199 (by decide)
          replace hs := hs.locQ st2199 hob rfl
          have hk := hk.put 73 (.slice A2200 (t2195).length c2201) rfl
          refine x_op hk rfl ?_
          obtain ⟨q2207, H⟩ := ifS H
          refine op_appendN (o := o2198) (D := dT47) (xs := l2054) (ys := t2195) tab hk rfl rfl rfl rfl rfl rfl rfl f2055 f2202.rd (by decide) q2207 fun A2208 c2209 w2204 o2205 st2206 f2210 hc2211 => ?_
          replace f2202 := f2202.st st2206 (by decide)
          replace hs := hs.locQ st2206 hob rfl
          have hk := hk.put 74 (.slice A2208 ((l2054 ++ t2195)).length c2209) rfl
          refine x_run tab hk (k := 1) (lv := []) (ks := [0, 3, 5, 6]) (e' := [(0, .string p0), (3, .slice A2208 ((l2054 ++ t2195)).length c2209), (5, .int .i64 (IntKind.wrap .i64 (x2057 + 1))), (6, .string x1555)]) rfl trivial fun a hk => ?_
          refine wpListIn_nil ?_
          refine then_n ?_
          refine wpIn_region_lit ?_
          refine x_run tab hk (k := 1) (lv := []) (ks := [0, 3, 4, 5, 6]) (e' := [(0, .string p0), (3, .slice A2208 ((l2054 ++ t2195)).length c2209), (4, .int .i64 0), (5, .int .i64 (IntKind.wrap .i64 (x2057 + 1))), (6, .string x1555)]) rfl trivial fun a hk => ?_
          refine wpListIn_nil ?_
          refine then_n ?_
          refine wpIn_exit ?_
          refine then_x ?_
          refine blk_x ?_
          refine then_n ?_
          exact ⟨k1934, Nat.le_refl _, (fun b_ => (fun l_ => if l_ = 151 then 115 else l_) (o2205 b_)), A2208, c2209, (l2054 ++ t2195), 0, (IntKind.wrap .i64 (x2057 + 1)), x1555, (by exact Kn.pick (ks := [0, 3, 4, 5, 6]) hk rfl), (hs.relabM hob (fun l_ => if l_ = 151 then 115 else l_) (by decide)), (f2210.relab (fun l_ => if l_ = 151 then 115 else l_) rfl), hc2211, (hlp1936 ▸ H)⟩
    refine x_seq ?_
    refine wpIn_region_lit ?_
    refine x_run tab hk (k := 2) (lv := []) (ks := [0, 3, 4, 5, 6, 17]) (e' := [(0, .string p0), (3, .slice A1548 (l1550).length c1549), (4, .int .i64 x1553), (5, .int .i64 x1554), (6, .string x1555), (17, .bool (x1553 == (0 : Int)))]) rfl trivial fun a hk => ?_
    refine wpListIn_nil ?_
    refine then_n ?_
    cases b2212 : (x1553 == (0 : Int))
    · rw [b2212] at hk H
      replace H := bifF H
      refine x_if hk (b := false) rfl ?_
      refine (show Code.wpIn _ _ _ _ _ _ _ from ?_)
      refine wpIn_skip ?_
      refine then_n ?_
      exact ⟨(fun b_ => (fun l_ => if l_ = 115 then 151 else l_) (o1547 b_)), A1548, c1549, l1550, x1554, (by exact Kn.pick (ks := [0, 3, 4, 5, 6]) hk rfl), (hs.relabM hob (fun l_ => if l_ = 115 then 151 else l_) (by decide)), (f1551.relab (fun l_ => if l_ = 115 then 151 else l_) rfl), hc1552, H⟩
    · rw [b2212] at hk H
      replace H := bifT H
      refine x_if hk (b := true) rfl ?_
      refine (show Code.wpIn _ _ _ _ _ _ _ from ?_)
      refine x_seq ?_
      refine wpIn_region_lit ?_
      refine x_run tab hk (k := 2) (lv := []) (ks := [0, 3, 4, 5, 6, 7]) (e' := [(0, .string p0), (3, .slice A1548 (l1550).length c1549), (4, .int .i64 x1553), (5, .int .i64 x1554), (6, .string x1555), (7, .int .i64 x1554)]) rfl trivial fun a hk => ?_
      refine wpListIn_nil ?_
      refine then_n ?_
      refine x_mid (fun a_ w_ => ∃ o2239 : Nat → Nat, ∃ x2240 : Int, Kn 161 a_ [(0, .string p0), (3, .slice A1548 (l1550).length c1549), (4, .int .i64 x1553), (5, .int .i64 x1554), (6, .string x1555), (7, .int .i64 x2240)] ∧ St [] w oi w_ o2239 ∧ NOwn dT47 48 A1548 c1549 l1550 w_ o2239 164 1 ∧ tidewrackref07_Read_j7 K p0 l1550 x1553 x1554 x1555 lp1935 x2240 = some r) ?_ ?_
      rotate_left
      · rintro a w2241 ⟨o2239, x2240, hk, hs, f1551, H⟩
        rw [tidewrackref07_Read_j7] at H
        refine x_seq ?_
        refine wpIn_region_lit ?_
        obtain ⟨q2242, H⟩ := ifS H
        obtain ⟨q2243, H⟩ := ifS H
        obtain ⟨q2244, H⟩ := ifS H
        obtain ⟨q2245, H⟩ := ifS H
        refine x_run tab hk (k := 4) (lv := []) (ks := [0, 3, 4, 6, 7, 41]) (e' := [(0, .string p0), (3, .slice A1548 (l1550).length c1549), (4, .int .i64 x1553), (6, .string x1555), (7, .int .i64 x2240), (41, .string (ByteArray.extract p0 (Int.toNat x1554) (Int.toNat x2240)))]) rfl ⟨q2242, q2243, q2244, q2245, trivial⟩ fun a hk => ?_
        refine x_op hk rfl ?_
        obtain ⟨t2249, hc2250, H⟩ := bindS H
        refine op_call hk ent_16 (vs := [.string (ByteArray.extract p0 (Int.toNat x1554) (Int.toNat x2240))]) rfl (tidewrackref05_Runes_calls K (ByteArray.extract p0 (Int.toNat x1554) (Int.toNat x2240)) _ o2239  165  _ hc2250) ?_
        rintro _ w2251 ⟨o2252, A2254, c2255, rfl, st2253, f2256, hc2257⟩
        replace f1551 := f1551.st st2253 (by decide)
        replace hs := hs.locQ st2253 hob rfl
        have hk := hk.put 42 (.tuple #[.slice A2254 (t2249.1).length c2255, .int .i64 t2249.2]) rfl
        refine x_run tab hk (k := 5) (lv := []) (ks := [0, 3, 4, 6, 7, 8, 9]) (e' := [(0, .string p0), (3, .slice A1548 (l1550).length c1549), (4, .int .i64 x1553), (6, .string x1555), (7, .int .i64 x2240), (8, .slice A2254 (t2249.1).length c2255), (9, .int .i64 t2249.2)]) rfl trivial fun a hk => ?_
        refine wpListIn_nil ?_
        refine then_n ?_
        refine x_seq ?_
        refine wpIn_region_lit ?_
        refine x_run tab hk (k := 2) (lv := []) (ks := [0, 4, 6, 7, 9, 45, 46]) (e' := [(0, .string p0), (4, .int .i64 x1553), (6, .string x1555), (7, .int .i64 x2240), (9, .int .i64 t2249.2), (45, .slice A1548 (l1550).length c1549), (46, .slice A2254 (t2249.1).length c2255)]) rfl trivial fun a hk => ?_
        refine x_op hk rfl ?_
        obtain ⟨t2261, hc2262, H⟩ := bindS H
        refine op_call hk ent_20 (vs := [.slice A2254 (t2249.1).length c2255]) rfl (tidewrackref07_prints_calls K A2254 c2255 t2249.1 _ o2252 1 _ (f2256.imp fun _ h_ => Own.rd h_) hc2257 (by decide) (by decide) 166  _ hc2262) ?_
        rintro _ w2263 ⟨o2264, A2266, c2267, rfl, st2265, f2268, hc2269⟩
        replace f1551 := f1551.st st2265 (by decide)
        replace f2256 := f2256.st st2265 (by decide)
        replace hs := hs.locQ st2265 hob rfl
        have hk := hk.put 47 (.slice A2266 (t2261).length c2267) rfl
        refine x_op hk rfl ?_
        obtain ⟨q2273, H⟩ := ifS H
        refine op_appendN (o := o2264) (D := dT47) (xs := l1550) (ys := t2261) tab hk rfl rfl rfl rfl rfl rfl rfl f1551 f2268.rd (by decide) q2273 fun A2274 c2275 w2270 o2271 st2272 f2276 hc2277 => ?_
        replace f2256 := f2256.st st2272 (by decide)
        replace f2268 := f2268.st st2272 (by decide)
        replace hs := hs.locQ st2272 hob rfl
        have hk := hk.put 48 (.slice A2274 ((l1550 ++ t2261)).length c2275) rfl
        refine x_run tab hk (k := 1) (lv := []) (ks := [0, 3, 4, 6, 7, 9]) (e' := [(0, .string p0), (3, .slice A2274 ((l1550 ++ t2261)).length c2275), (4, .int .i64 x1553), (6, .string x1555), (7, .int .i64 x2240), (9, .int .i64 t2249.2)]) rfl trivial fun a hk => ?_
        refine wpListIn_nil ?_
        refine then_n ?_
        refine x_seq ?_
        refine x_seq ?_
        refine wpIn_region_lit ?_
        refine x_run tab hk (k := 4) (lv := []) (ks := [0, 3, 4, 6, 7, 9, 52]) (e' := [(0, .string p0), (3, .slice A2274 ((l1550 ++ t2261)).length c2275), (4, .int .i64 x1553), (6, .string x1555), (7, .int .i64 x2240), (9, .int .i64 t2249.2), (52, .bool (x2240 == ((p0).size : Int)))]) rfl trivial fun a hk => ?_
        refine wpListIn_nil ?_
        refine then_n ?_
        cases b2278 : (x2240 == ((p0).size : Int))
        · rw [b2278] at hk H
          replace H := bifF H
          refine x_if hk (b := false) rfl ?_
          refine (show Code.wpIn _ _ _ _ _ _ _ from ?_)
          refine wpIn_skip ?_
          refine then_n ?_
          refine x_seq ?_
          refine x_seq ?_
          refine wpIn_region_lit ?_
          refine x_run tab hk (k := 2) (lv := []) (ks := [0, 3, 4, 6, 7, 55]) (e' := [(0, .string p0), (3, .slice A2274 ((l1550 ++ t2261)).length c2275), (4, .int .i64 x1553), (6, .string x1555), (7, .int .i64 x2240), (55, .bool (decide (t2249.2 > (0 : Int))))]) rfl trivial fun a hk => ?_
          refine wpListIn_nil ?_
          refine then_n ?_
          cases b2279 : (decide (t2249.2 > (0 : Int)))
          · rw [b2279] at hk H
            replace H := bifF H
            refine x_if hk (b := false) rfl ?_
            refine (show Code.wpIn _ _ _ _ _ _ _ from ?_)
            refine wpIn_skip ?_
            refine then_n ?_
            refine wpIn_region_lit ?_
            refine x_run tab hk (k := 2) (lv := []) (ks := [0, 3, 4, 5, 6]) (e' := [(0, .string p0), (3, .slice A2274 ((l1550 ++ t2261)).length c2275), (4, .int .i64 x1553), (5, .int .i64 x2240), (6, .string x1555)]) rfl trivial fun a hk => ?_
            refine wpListIn_nil ?_
            refine then_n ?_
            exact ⟨(fun b_ => (fun l_ => if l_ = 164 then 151 else l_) (o2271 b_)), A2274, c2275, (l1550 ++ t2261), x2240, (by exact Kn.pick (ks := [0, 3, 4, 5, 6]) hk rfl), (hs.relabM hob (fun l_ => if l_ = 164 then 151 else l_) (by decide)), (f2276.relab (fun l_ => if l_ = 164 then 151 else l_) rfl), hc2277, H⟩
          · rw [b2279] at hk H
            replace H := bifT H
            refine x_if hk (b := true) rfl ?_
            refine (show Code.wpIn _ _ _ _ _ _ _ from ?_)
            refine wpIn_region_lit ?_
            refine x_run tab hk (k := 2) (lv := []) (ks := [0, 4, 6, 7, 56, 57]) (e' := [(0, .string p0), (4, .int .i64 x1553), (6, .string x1555), (7, .int .i64 x2240), (56, .slice A2274 ((l1550 ++ t2261)).length c2275), (57, .agg #[.int .i64 1, .int .i64 65533, .int .i64 0, .bool false, .slice none 0 0, .string (⟨#[]⟩ : ByteArray)])]) rfl trivial fun a hk => ?_
            refine x_op hk rfl ?_
            refine op_slice (o := o2271) tab hk (vs := [.agg #[.int .i64 1, .int .i64 65533, .int .i64 0, .bool false, .slice none 0 0, .string (⟨#[]⟩ : ByteArray)]]) (cs := [.int .i64 1, .int .i64 65533, .int .i64 0, .bool false, .slice none 0 0, .string (⟨#[]⟩ : ByteArray)]) rfl rfl rfl rfl rfl rfl rfl rfl rfl 167 fun bx2283 w2280 o2281 st2282 f2284 => ?_
            replace f2276 := f2276.st st2282 (by decide)
            replace hs := hs.locQ st2282 hob rfl
            have f2285 : NOwn dT47 48 (some ⟨bx2283, 0, none⟩) 1 ([(⟨1, 65533, 0, false, ([] : List Int), (⟨#[]⟩ : ByteArray)⟩ : T47)] : List T47) w2280 o2281 167 1 := NOwn.litD (D := dT47) f2284 [(⟨(⟨1, 65533, 0, false, ([] : List Int), (⟨#[]⟩ : ByteArray)⟩ : T47), none, 0⟩ : NT47)] rfl (Inn.consD (D := dT47) (r := (⟨(⟨1, 65533, 0, false, ([] : List Int), (⟨#[]⟩ : ByteArray)⟩ : T47), none, 0⟩ : NT47)) ((Ft.of_all (P := RdC (encInt .i64) none []) (fun _ h_ => absurd h_ (by simp)) _ _ _).imp fun _ h_ => ⟨h_, (by simp)⟩) (Inn.nilD _ _ _ _)) rfl (Nat.le_of_ble_eq_true rfl)
            have hk := hk.put 58 (.slice (some ⟨bx2283, 0, none⟩) (([(⟨1, 65533, 0, false, ([] : List Int), (⟨#[]⟩ : ByteArray)⟩ : T47)] : List T47)).length 1) rfl
            refine x_op hk rfl ?_
            obtain ⟨q2289, H⟩ := ifS H
            refine op_appendN (o := o2281) (D := dT47) (xs := (l1550 ++ t2261)) (ys := ([(⟨1, 65533, 0, false, ([] : List Int), (⟨#[]⟩ : ByteArray)⟩ : T47)] : List T47)) tab hk rfl rfl rfl rfl rfl rfl rfl f2276 f2285.rd (by decide) q2289 fun A2290 c2291 w2286 o2287 st2288 f2292 hc2293 => ?_
            replace f2285 := f2285.st st2288 (by decide)
            replace hs := hs.locQ st2288 hob rfl
            have hk := hk.put 59 (.slice A2290 (((l1550 ++ t2261) ++ ([(⟨1, 65533, 0, false, ([] : List Int), (⟨#[]⟩ : ByteArray)⟩ : T47)] : List T47))).length c2291) rfl
            refine x_run tab hk (k := 1) (lv := []) (ks := [0, 3, 4, 6, 7]) (e' := [(0, .string p0), (3, .slice A2290 (((l1550 ++ t2261) ++ ([(⟨1, 65533, 0, false, ([] : List Int), (⟨#[]⟩ : ByteArray)⟩ : T47)] : List T47))).length c2291), (4, .int .i64 x1553), (6, .string x1555), (7, .int .i64 x2240)]) rfl trivial fun a hk => ?_
            refine wpListIn_nil ?_
            refine then_n ?_
            refine wpIn_region_lit ?_
            refine x_run tab hk (k := 2) (lv := []) (ks := [0, 3, 4, 5, 6]) (e' := [(0, .string p0), (3, .slice A2290 (((l1550 ++ t2261) ++ ([(⟨1, 65533, 0, false, ([] : List Int), (⟨#[]⟩ : ByteArray)⟩ : T47)] : List T47))).length c2291), (4, .int .i64 x1553), (5, .int .i64 x2240), (6, .string x1555)]) rfl trivial fun a hk => ?_
            refine wpListIn_nil ?_
            refine then_n ?_
            exact ⟨(fun b_ => (fun l_ => if l_ = 164 then 151 else l_) (o2287 b_)), A2290, c2291, ((l1550 ++ t2261) ++ ([(⟨1, 65533, 0, false, ([] : List Int), (⟨#[]⟩ : ByteArray)⟩ : T47)] : List T47)), x2240, (by exact Kn.pick (ks := [0, 3, 4, 5, 6]) hk rfl), (hs.relabM hob (fun l_ => if l_ = 164 then 151 else l_) (by decide)), (f2292.relab (fun l_ => if l_ = 164 then 151 else l_) rfl), hc2293, H⟩
        · rw [b2278] at hk H
          replace H := bifT H
          refine x_if hk (b := true) rfl ?_
          refine (show Code.wpIn _ _ _ _ _ _ _ from ?_)
          refine x_seq ?_
          refine wpIn_region_lit ?_
          refine x_run tab hk (k := 2) (lv := []) (ks := [2]) (e' := [(2, .slice A2274 ((l1550 ++ t2261)).length c2275)]) rfl trivial fun a hk => ?_
          refine wpListIn_nil ?_
          refine then_n ?_
          refine wpIn_ret ?_
          refine then_r ?_
          refine then_r ?_
          refine blk_r ?_
          refine then_r ?_
          refine blk_r ?_
          refine then_r ?_
          obtain rfl := Option.some.inj H
          exact x_retG hk (rs := [.tmp 2]) (vs := [.slice A2274 ((l1550 ++ t2261)).length c2275]) rfl ⟨rfl, trivial⟩ ⟨cl w oi o [] (fun l_ => if l_ = 1 then LF else if l_ = 164 then R0 else 0) o2271, A2274, c2275, rfl, hs.closeF (Lm := []) (Sh := []) hoa rfl (fun l_ => if l_ = 1 then LF else if l_ = 164 then R0 else 0), f2276.conv (fun _ h_ => hs.closeM_ft (o := o) (ρ := fun l_ => if l_ = 1 then LF else if l_ = 164 then R0 else 0) h_ (lab_none hob rfl) rfl) (fun _ h_ => hs.closeM_ft (o := o) (ρ := fun l_ => if l_ = 1 then LF else if l_ = 164 then R0 else 0) h_ (lab_at hoa (i := 0) rfl) rfl), hc2277⟩
      refine wpIn_block ?_
      refine x_loop (fun j_ a_ w_ => ∃ o2300 : Nat → Nat, ∃ x2301 : Int, Kn 161 a_ [(0, .string p0), (3, .slice A1548 (l1550).length c1549), (4, .int .i64 x1553), (5, .int .i64 x1554), (6, .string x1555), (7, .int .i64 x2301)] ∧ St [] w oi w_ o2300 ∧ NOwn dT47 48 A1548 c1549 l1550 w_ o2300 169 1 ∧ tidewrackref07_Read_l8 K p0 l1550 x1553 x1554 x1555 lp1935 j_ x2301 = some r) (k := K) ⟨(fun b_ => (fun l_ => if l_ = 115 then 169 else l_) (o1547 b_)), x1554, (by exact Kn.pick (ks := [0, 3, 4, 5, 6, 7]) hk rfl), (hs.relabM hob (fun l_ => if l_ = 115 then 169 else l_) (by decide)), (f1551.relab (fun l_ => if l_ = 115 then 169 else l_) rfl), H⟩ (by rintro _ _ ⟨_, _, _, _, _, H_⟩; exact absurd (show (none : Option (List T47)) = some r from H_) (by simp)) ?_
      rintro k2307 a w2306 ⟨o2300, x2301, hk, hs, f1551, H⟩
      rw [tidewrackref07_Read_l8] at H
      obtain ⟨lp2308, hlp2309⟩ : ∃ lp_, lp_ = tidewrackref07_Read_l8 K p0 l1550 x1553 x1554 x1555 lp1935 k2307 := ⟨_, rfl⟩
      rw [← hlp2309] at H
      refine x_seq ?_
      refine x_seq ?_
      refine wpIn_region_lit ?_
      refine x_run tab hk (k := 5) (lv := []) (ks := [0, 3, 4, 5, 6, 7, 23]) (e' := [(0, .string p0), (3, .slice A1548 (l1550).length c1549), (4, .int .i64 x1553), (5, .int .i64 x1554), (6, .string x1555), (7, .int .i64 x2301), (23, .bool (decide (x2301 < ((p0).size : Int))))]) rfl trivial fun a hk => ?_
      cases b2310 : (decide (x2301 < ((p0).size : Int)))
      · rw [b2310] at hk H
        replace H := bifF H
        refine x_run tab hk (k := 10) (lv := []) (ks := [0, 3, 4, 5, 6, 7, 29, 33]) (e' := [(0, .string p0), (3, .slice A1548 (l1550).length c1549), (4, .int .i64 x1553), (5, .int .i64 x1554), (6, .string x1555), (7, .int .i64 x2301), (29, .bool false), (33, undef)]) rfl trivial fun a hk => ?_
        refine x_run tab hk (k := 1) (lv := []) (ks := [0, 3, 4, 5, 6, 7, 34]) (e' := [(0, .string p0), (3, .slice A1548 (l1550).length c1549), (4, .int .i64 x1553), (5, .int .i64 x1554), (6, .string x1555), (7, .int .i64 x2301), (34, .bool false)]) rfl trivial fun a hk => ?_
        refine wpListIn_nil ?_
        refine then_n ?_
        refine x_if hk (b := false) rfl ?_
        refine (show Code.wpIn _ _ _ _ _ _ _ from ?_)
        refine wpIn_exit ?_
        refine then_x ?_
        refine then_x ?_
        refine blk_x ?_
        refine then_n ?_
        exact ⟨(fun b_ => (fun l_ => if l_ = 169 then 164 else l_) (o2300 b_)), x2301, (by exact Kn.pick (ks := [0, 3, 4, 5, 6, 7]) hk rfl), (hs.relabM hob (fun l_ => if l_ = 169 then 164 else l_) (by decide)), (f1551.relab (fun l_ => if l_ = 169 then 164 else l_) rfl), H⟩
      · rw [b2310] at hk H
        replace H := bifT H
        obtain ⟨q2311, H⟩ := ifS H
        refine x_run tab hk (k := 6) (lv := []) (ks := [0, 3, 4, 5, 6, 7, 29]) (e' := [(0, .string p0), (3, .slice A1548 (l1550).length c1549), (4, .int .i64 x1553), (5, .int .i64 x1554), (6, .string x1555), (7, .int .i64 x2301), (29, .bool (decide ((bt p0 x2301) ≥ (32 : Int))))]) rfl ⟨q2311, trivial⟩ fun a hk => ?_
        cases b2312 : (decide ((bt p0 x2301) ≥ (32 : Int)))
        · rw [b2312] at hk H
          replace H := bifF H
          refine x_run tab hk (k := 5) (lv := []) (ks := [0, 3, 4, 5, 6, 7, 34]) (e' := [(0, .string p0), (3, .slice A1548 (l1550).length c1549), (4, .int .i64 x1553), (5, .int .i64 x1554), (6, .string x1555), (7, .int .i64 x2301), (34, .bool false)]) rfl trivial fun a hk => ?_
          refine wpListIn_nil ?_
          refine then_n ?_
          refine x_if hk (b := false) rfl ?_
          refine (show Code.wpIn _ _ _ _ _ _ _ from ?_)
          refine wpIn_exit ?_
          refine then_x ?_
          refine then_x ?_
          refine blk_x ?_
          refine then_n ?_
          exact ⟨(fun b_ => (fun l_ => if l_ = 169 then 164 else l_) (o2300 b_)), x2301, (by exact Kn.pick (ks := [0, 3, 4, 5, 6, 7]) hk rfl), (hs.relabM hob (fun l_ => if l_ = 169 then 164 else l_) (by decide)), (f1551.relab (fun l_ => if l_ = 169 then 164 else l_) rfl), H⟩
        · rw [b2312] at hk H
          replace H := bifT H
          refine x_run tab hk (k := 5) (lv := []) (ks := [0, 3, 4, 5, 6, 7, 34]) (e' := [(0, .string p0), (3, .slice A1548 (l1550).length c1549), (4, .int .i64 x1553), (5, .int .i64 x1554), (6, .string x1555), (7, .int .i64 x2301), (34, .bool ((bt p0 x2301) != (127 : Int)))]) rfl ⟨q2311, trivial⟩ fun a hk => ?_
          refine wpListIn_nil ?_
          refine then_n ?_
          cases b2313 : ((bt p0 x2301) != (127 : Int))
          · rw [b2313] at hk H
            replace H := bifF H
            refine x_if hk (b := false) rfl ?_
            refine (show Code.wpIn _ _ _ _ _ _ _ from ?_)
            refine wpIn_exit ?_
            refine then_x ?_
            refine then_x ?_
            refine blk_x ?_
            refine then_n ?_
            exact ⟨(fun b_ => (fun l_ => if l_ = 169 then 164 else l_) (o2300 b_)), x2301, (by exact Kn.pick (ks := [0, 3, 4, 5, 6, 7]) hk rfl), (hs.relabM hob (fun l_ => if l_ = 169 then 164 else l_) (by decide)), (f1551.relab (fun l_ => if l_ = 169 then 164 else l_) rfl), H⟩
          · rw [b2313] at hk H
            replace H := bifT H
            refine x_if hk (b := true) rfl ?_
            refine (show Code.wpIn _ _ _ _ _ _ _ from ?_)
            refine wpIn_skip ?_
            refine then_n ?_
            refine wpIn_block ?_
            refine wpIn_region_lit ?_
            refine x_run tab hk (k := 3) (lv := []) (ks := [0, 3, 4, 5, 6, 7]) (e' := [(0, .string p0), (3, .slice A1548 (l1550).length c1549), (4, .int .i64 x1553), (5, .int .i64 x1554), (6, .string x1555), (7, .int .i64 (IntKind.wrap .i64 (x2301 + 1)))]) rfl trivial fun a hk => ?_
            refine wpListIn_nil ?_
            refine blk_n ?_
            refine then_n ?_
            exact ⟨k2307, Nat.le_refl _, o2300, (IntKind.wrap .i64 (x2301 + 1)), (by exact Kn.pick (ks := [0, 3, 4, 5, 6, 7]) hk rfl), hs, f1551, (hlp2309 ▸ H)⟩

/-! tidewrack/tidewracklaw07.Is -/
set_option maxHeartbeats 4000000 in
theorem tidewracklaw07_Is_calls (K : Nat) (Ap0 : Option Addr) (cp0 : Nat) (p0 : List T37) (Ap1 : Option Addr) (cp1 : Nat) (p1 : List T47) (w : World) (o : Nat → Nat) (LF : Nat) (Lp0 : Nat) (hp0 : NRd dT37 Ap0 p0 w o Lp0 LF) (hcp0 : (p0).length ≤ cp0) (Lp1 : Nat) (hp1 : NRd dT47 Ap1 p1 w o Lp1 LF) (hcp1 : (p1).length ≤ cp1) (hd0 : ([LF] : List Nat).Nodup) (hd1 : Lp0 ∉ [LF]) (hd2 : Lp1 ∉ [LF]) (r : Bool) (H : tidewracklaw07_Is K p0 p1 = some r) :
    Calls Tryd.prog 11 #[.slice Ap0 (p0).length cp0, .slice Ap1 (p1).length cp1] w (Ret fun v_ w' => ∃ o' : Nat → Nat, v_ = .bool r ∧ St [] w o w' o') := by
  refine x_enter (vs := [.slice Ap0 (p0).length cp0, .slice Ap1 (p1).length cp1]) Tryd.func11 rfl rfl rfl fun a hk => ?_
  obtain ⟨oi, hs0, h0, h1, hob, hoz, hoa⟩ := St.startM2 w o (m := 1) hd0 rfl
  have hs := hs0 []
  have f900000 := hp0.conv (fun P_ => h0 P_ _ hd1) (fun _ h_ => h1 0 1 h_ rfl rfl)
  have f900020 := hp1.conv (fun P_ => h0 P_ _ hd2) (fun _ h_ => h1 0 1 h_ rfl rfl)
  clear h0 h1 hs0
  rw [tidewracklaw07_Is] at H
  refine x_seq ?_
  refine wpIn_region_lit ?_
  refine x_run tab hk (k := 1) (lv := []) (ks := [0, 1]) (e' := [(0, .slice Ap0 (p0).length cp0), (1, .slice Ap1 (p1).length cp1)]) rfl trivial fun a hk => ?_
  refine wpListIn_nil ?_
  refine then_n ?_
  refine x_seq ?_
  refine x_seq ?_
  refine wpIn_region_lit ?_
  refine x_run tab hk (k := 5) (lv := []) (ks := [0, 1, 11]) (e' := [(0, .slice Ap0 (p0).length cp0), (1, .slice Ap1 (p1).length cp1), (11, .bool (((p0).length : Int) != ((p1).length : Int)))]) rfl trivial fun a hk => ?_
  refine wpListIn_nil ?_
  refine then_n ?_
  cases b1 : (((p0).length : Int) != ((p1).length : Int))
  · rw [b1] at hk H
    replace H := bifF H
    refine x_if hk (b := false) rfl ?_
    refine (show Code.wpIn _ _ _ _ _ _ _ from ?_)
    refine wpIn_skip ?_
    refine then_n ?_
    refine x_mid (fun a_ w_ => ∃ o318 : Nat → Nat, Kn 81 a_ [] ∧ St [] w oi w_ o318 ∧ tidewracklaw07_Is_j1 = some r) ?_ ?_
    rotate_left
    · rintro a w319 ⟨o318, hk, hs, H⟩
      rw [tidewracklaw07_Is_j1] at H
      refine x_seq ?_
      refine wpIn_region_lit ?_
      refine x_run tab hk (k := 1) (lv := []) (ks := [4]) (e' := [(4, .bool true)]) rfl trivial fun a hk => ?_
      refine wpListIn_nil ?_
      refine then_n ?_
      refine wpIn_ret ?_
      obtain rfl := Option.some.inj H
      exact x_retG hk (rs := [.tmp 4]) (vs := [.bool true]) rfl ⟨rfl, trivial⟩ ⟨cl w oi o [] (fun l_ => if l_ = 1 then LF else 0) o318, rfl, hs.closeF (Lm := []) (Sh := []) hoa rfl (fun l_ => if l_ = 1 then LF else 0)⟩
    refine x_seq ?_
    refine wpIn_region_lit ?_
    refine x_run tab hk (k := 3) (lv := []) (ks := [0, 12, 13, 14]) (e' := [(0, .slice Ap0 (p0).length cp0), (12, .slice Ap1 (p1).length cp1), (13, .int .i64 ((p1).length : Int)), (14, .int .i64 0)]) rfl trivial fun a hk => ?_
    refine wpListIn_nil ?_
    refine then_n ?_
    refine wpIn_block ?_
    refine x_loop (fun j_ a_ w_ => ∃ o416 : Nat → Nat, ∃ x417 : Int, Kn 81 a_ [(0, .slice Ap0 (p0).length cp0), (12, .slice Ap1 (p1).length cp1), (13, .int .i64 ((p1).length : Int)), (14, .int .i64 x417)] ∧ St [] w oi w_ o416 ∧ NRd dT37 Ap0 p0 w_ o416 0 1 ∧ NRd dT47 Ap1 p1 w_ o416 0 1 ∧ tidewracklaw07_Is_l2 K p0 p1 j_ x417 = some r) (k := K) ⟨oi, 0, (by exact Kn.pick (ks := [0, 12, 13, 14]) hk rfl), hs, f900000, f900020, H⟩ (by rintro _ _ ⟨_, _, _, _, _, _, H_⟩; exact absurd (show (none : Option Bool) = some r from H_) (by simp)) ?_
    rintro k512 a w511 ⟨o416, x417, hk, hs, f900000, f900020, H⟩
    rw [tidewracklaw07_Is_l2] at H
    obtain ⟨lp513, hlp514⟩ : ∃ lp_, lp_ = tidewracklaw07_Is_l2 K p0 p1 k512 := ⟨_, rfl⟩
    rw [← hlp514] at H
    refine x_seq ?_
    refine wpIn_region_lit ?_
    refine x_run tab hk (k := 1) (lv := []) (ks := [0, 12, 13, 14, 15]) (e' := [(0, .slice Ap0 (p0).length cp0), (12, .slice Ap1 (p1).length cp1), (13, .int .i64 ((p1).length : Int)), (14, .int .i64 x417), (15, .bool (decide (x417 < ((p1).length : Int))))]) rfl trivial fun a hk => ?_
    refine wpListIn_nil ?_
    refine then_n ?_
    refine x_seq ?_
    cases b515 : (decide (x417 < ((p1).length : Int)))
    · rw [b515] at hk H
      replace H := bifF H
      refine x_if hk (b := false) rfl ?_
      refine (show Code.wpIn _ _ _ _ _ _ _ from ?_)
      refine wpIn_exit ?_
      refine then_x ?_
      refine then_x ?_
      refine blk_x ?_
      refine then_n ?_
      exact ⟨o416, (by exact Kn.pick (ks := []) hk rfl), hs, H⟩
    · rw [b515] at hk H
      replace H := bifT H
      refine x_if hk (b := true) rfl ?_
      refine (show Code.wpIn _ _ _ _ _ _ _ from ?_)
      refine wpIn_skip ?_
      refine then_n ?_
      refine x_seq ?_
      refine wpIn_block ?_
      refine x_seq ?_
      refine wpIn_region_lit ?_
      obtain ⟨q516, H⟩ := ifS H
      obtain ⟨ad517, hAad517⟩ := NRd.addr f900020 q516
      have hk_C := hk
      have f900000_C := f900000
      have f900020_C := f900020
      subst hAad517
      have hk := hk_C
      clear hk_C
      have f900000 := f900000_C
      clear f900000_C
      have f900020 := f900020_C
      clear f900020_C
      obtain ⟨A518, c519, f520, f521, hc522⟩ := elT47 f900020 (i := x417) q516
      refine x_run tab hk (k := 3) (lv := [.agg #[.int .i64 ((rdD zT47 p1 x417).Kind), .int .i64 ((rdD zT47 p1 x417).Rune), .int .i64 ((rdD zT47 p1 x417).Byte), .bool ((rdD zT47 p1 x417).Private), .slice A518 ((rdD zT47 p1 x417).Nums).length c519, .string ((rdD zT47 p1 x417).Text)]]) (ks := [0, 12, 13, 14, 16, 18]) (e' := [(0, .slice Ap0 (p0).length cp0), (12, .slice (some ad517) (p1).length cp1), (13, .int .i64 ((p1).length : Int)), (14, .int .i64 x417), (16, .int .i64 x417), (18, .agg #[.int .i64 ((rdD zT47 p1 x417).Kind), .int .i64 ((rdD zT47 p1 x417).Rune), .int .i64 ((rdD zT47 p1 x417).Byte), .bool ((rdD zT47 p1 x417).Private), .slice A518 ((rdD zT47 p1 x417).Nums).length c519, .string ((rdD zT47 p1 x417).Text)])]) rfl ⟨q516, (CellsAt.all f520.now tab rfl rfl rfl), trivial⟩ fun a hk => ?_
      refine x_op hk rfl ?_
      refine op_alloc (o := o416) tab (t := 48) (cs := [.int .i64 0, .int .i64 0, .int .i64 0, .bool false, .slice none 0 0, .string (⟨#[]⟩ : ByteArray)]) rfl rfl 7 fun bx526 w523 o524 st525 f527 => ?_
      replace f521 := f521.st st525 (by decide)
      replace f900000 := f900000.st st525 (by decide)
      replace f900020 := f900020.st st525 (by decide)
      replace hs := hs.locQ st525 hob rfl
      have hk := hk.put 6 (.pointer (some ⟨bx526, 0, none⟩)) rfl
      refine x_run tab hk (k := 1) (lv := []) (ks := [0, 5, 6, 12, 13, 14, 18]) (e' := [(0, .slice Ap0 (p0).length cp0), (5, .int .i64 x417), (6, .pointer (some ⟨bx526, 0, none⟩)), (12, .slice (some ad517) (p1).length cp1), (13, .int .i64 ((p1).length : Int)), (14, .int .i64 x417), (18, .agg #[.int .i64 ((rdD zT47 p1 x417).Kind), .int .i64 ((rdD zT47 p1 x417).Rune), .int .i64 ((rdD zT47 p1 x417).Byte), .bool ((rdD zT47 p1 x417).Private), .slice A518 ((rdD zT47 p1 x417).Nums).length c519, .string ((rdD zT47 p1 x417).Text)])]) rfl trivial fun a hk => ?_
      refine x_op hk rfl ?_
      refine op_store tab hk (t := 48) (v := .agg #[.int .i64 ((rdD zT47 p1 x417).Kind), .int .i64 ((rdD zT47 p1 x417).Rune), .int .i64 ((rdD zT47 p1 x417).Byte), .bool ((rdD zT47 p1 x417).Private), .slice A518 ((rdD zT47 p1 x417).Nums).length c519, .string ((rdD zT47 p1 x417).Text)]) (b := bx526) (k := 0) (cs' := [.int .i64 ((rdD zT47 p1 x417).Kind), .int .i64 ((rdD zT47 p1 x417).Rune), .int .i64 ((rdD zT47 p1 x417).Byte), .bool ((rdD zT47 p1 x417).Private), .slice A518 ((rdD zT47 p1 x417).Nums).length c519, .string ((rdD zT47 p1 x417).Text)]) rfl rfl rfl rfl rfl rfl f527 rfl rfl fun w528 o529 st530 f527_ => ?_
      replace f521 := f521.st st530 (by decide)
      replace f900000 := f900000.st st530 (by decide)
      replace f900020 := f900020.st st530 (by decide)
      replace hs := hs.locQ st530 hob rfl
      replace f527 := f527_
      refine wpListIn_nil ?_
      refine then_n ?_
      refine x_seq ?_
      obtain ⟨q551, H⟩ := ifS H
      obtain ⟨ad552, hAad552⟩ := NRd.addr f900000 q551
      have hk_C := hk
      have f521_C := f521
      have f527_C := f527
      have f900000_C := f900000
      have f900020_C := f900020
      subst hAad552
      have hk := hk_C
      clear hk_C
      have f521 := f521_C
      clear f521_C
      have f527 := f527_C
      clear f527_C
      have f900000 := f900000_C
      clear f900000_C
      have f900020 := f900020_C
      clear f900020_C
      obtain ⟨A553, c554, f555, f556, hc557⟩ := elT37 f900000 (i := x417) q551
      cases b558 : (((rdD zT37 p0 x417).Kind) != ((rdD zT47 p1 x417).Kind))
      · rw [b558] at H
        replace H := bifF H
        cases b559 : ((IntKind.wrap .i64 ((rdD zT37 p0 x417).Rune)) != ((rdD zT47 p1 x417).Rune))
        · rw [b559] at H
          replace H := bifF H
          cases b560 : ((IntKind.wrap .i64 ((rdD zT37 p0 x417).Byte)) != ((rdD zT47 p1 x417).Byte))
          · rw [b560] at H
            replace H := bifF H
            cases b561 : (!(((rdD zT37 p0 x417).Private) == ((rdD zT47 p1 x417).Private)))
            · rw [b561] at H
              replace H := bifF H
              obtain ⟨t565, hc566, H⟩ := bindS H
              cases b570 : (!t565)
              · rw [b570] at H
                replace H := bifF H
                refine xd_begin (o := o529) (fun W_ => (Bx bx526 48 [.int .i64 ((rdD zT47 p1 x417).Kind), .int .i64 ((rdD zT47 p1 x417).Rune), .int .i64 ((rdD zT47 p1 x417).Byte), .bool ((rdD zT47 p1 x417).Private), .slice A518 ((rdD zT47 p1 x417).Nums).length c519, .string ((rdD zT47 p1 x417).Text)]) W_ ∧ (fun W => CellsAt (ad552.add (Int.toNat x417 * 6)) [.int .i64 ((rdD zT37 p0 x417).Kind), .int .i32 ((rdD zT37 p0 x417).Rune), .int .u8 ((rdD zT37 p0 x417).Byte), .bool ((rdD zT37 p0 x417).Private), .slice A553 ((rdD zT37 p0 x417).Nums).length c554, .string ((rdD zT37 p0 x417).Text)] W) W_ ∧ True) mixed rfl rfl fun w577 st578 => ?_
                replace f521 := f521.st st578 (by decide)
                replace f527 := f527.st st578 (by decide)
                replace f555 := f555.st st578 (by decide)
                replace f556 := f556.st st578 (by decide)
                replace f900000 := f900000.st st578 (by decide)
                replace f900020 := f900020.st st578 (by decide)
                replace hs := hs.locQ st578 hob rfl
                refine xd_take tab hk (k := 52) (is := [0, 1, 2, 3, 4, 5, 6, 7, 8]) (ls' := #[true, true, true, true, true, true, true, true, true, false, false, false, false, false, false, false, false, false, false, false, false, false, false, false, false, false, false, false, false, false, false, false, false, false, false, false, false, false, false, false, false, false, false, false, false, false, false, false, false, false, false, false, false, false, false, false, false, false, false, false, false]) (lv := [.int .i64 ((rdD zT37 p0 x417).Kind), .int .i64 ((rdD zT47 p1 x417).Kind)]) (ks := [0, 5, 6, 12, 13, 14, 27]) (e' := [(0, .slice (some ad552) (p0).length cp0), (5, .int .i64 x417), (6, .pointer (some ⟨bx526, 0, none⟩)), (12, .slice (some ad517) (p1).length cp1), (13, .int .i64 ((p1).length : Int)), (14, .int .i64 x417), (27, .bool (((rdD zT37 p0 x417).Kind) != ((rdD zT47 p1 x417).Kind)))]) (by kernel_rfl) rfl rfl (by kernel_rfl) (np_then (np_blk (np_then (np_then (np_blk (np_then np_body)))))) ⟨f527.now, f555.now, trivial⟩ (fun W_ hS => ⟨q551, (CellsAt.one hS.2.1 tab rfl 0 rfl), (load1 tab rfl ((Bx.cell hS.1 0).trans rfl)), trivial⟩) fun a hk => ?_
                rw [b558] at hk
                refine xd_take tab hk (k := 41) (is := [9, 10, 11, 12, 13, 14, 15, 16, 17, 18, 19]) (ls' := #[true, true, true, true, true, true, true, true, true, true, true, true, true, true, true, true, true, true, true, true, false, false, false, false, false, false, false, false, false, false, false, false, false, false, false, false, false, false, false, false, false, false, false, false, false, false, false, false, false, false, false, false, false, false, false, false, false, false, false, false, false]) (lv := [.int .i32 ((rdD zT37 p0 x417).Rune), .int .i64 ((rdD zT47 p1 x417).Rune)]) (ks := [0, 5, 6, 12, 13, 14, 38]) (e' := [(0, .slice (some ad552) (p0).length cp0), (5, .int .i64 x417), (6, .pointer (some ⟨bx526, 0, none⟩)), (12, .slice (some ad517) (p1).length cp1), (13, .int .i64 ((p1).length : Int)), (14, .int .i64 x417), (38, .bool ((IntKind.wrap .i64 ((rdD zT37 p0 x417).Rune)) != ((rdD zT47 p1 x417).Rune)))]) (by kernel_rfl) rfl rfl (by kernel_rfl) (np_then (np_blk (np_then (np_then (np_blk (np_then np_body)))))) ⟨f527.now, f555.now, trivial⟩ (fun W_ hS => ⟨q551, (CellsAt.one hS.2.1 tab rfl 1 rfl), (load1 tab rfl ((Bx.cell hS.1 1).trans rfl)), trivial⟩) fun a hk => ?_
                rw [b559] at hk
                refine xd_take tab hk (k := 30) (is := [20, 21, 22, 23, 24, 25, 26, 27, 28, 29, 30]) (ls' := #[true, true, true, true, true, true, true, true, true, true, true, true, true, true, true, true, true, true, true, true, true, true, true, true, true, true, true, true, true, true, true, false, false, false, false, false, false, false, false, false, false, false, false, false, false, false, false, false, false, false, false, false, false, false, false, false, false, false, false, false, false]) (lv := [.int .u8 ((rdD zT37 p0 x417).Byte), .int .i64 ((rdD zT47 p1 x417).Byte)]) (ks := [0, 5, 6, 12, 13, 14, 49]) (e' := [(0, .slice (some ad552) (p0).length cp0), (5, .int .i64 x417), (6, .pointer (some ⟨bx526, 0, none⟩)), (12, .slice (some ad517) (p1).length cp1), (13, .int .i64 ((p1).length : Int)), (14, .int .i64 x417), (49, .bool ((IntKind.wrap .i64 ((rdD zT37 p0 x417).Byte)) != ((rdD zT47 p1 x417).Byte)))]) (by kernel_rfl) rfl rfl (by kernel_rfl) (np_then (np_blk (np_then (np_then (np_blk (np_then np_body)))))) ⟨f527.now, f555.now, trivial⟩ (fun W_ hS => ⟨q551, (CellsAt.one hS.2.1 tab rfl 2 rfl), (load1 tab rfl ((Bx.cell hS.1 2).trans rfl)), trivial⟩) fun a hk => ?_
                rw [b560] at hk
                refine xd_take tab hk (k := 20) (is := [31, 32, 33, 34, 35, 36, 37, 38, 39, 40]) (ls' := #[true, true, true, true, true, true, true, true, true, true, true, true, true, true, true, true, true, true, true, true, true, true, true, true, true, true, true, true, true, true, true, true, true, true, true, true, true, true, true, true, true, false, false, false, false, false, false, false, false, false, false, false, false, false, false, false, false, false, false, false, false]) (lv := [.bool ((rdD zT37 p0 x417).Private), .bool ((rdD zT47 p1 x417).Private)]) (ks := [0, 5, 6, 12, 13, 14, 59]) (e' := [(0, .slice (some ad552) (p0).length cp0), (5, .int .i64 x417), (6, .pointer (some ⟨bx526, 0, none⟩)), (12, .slice (some ad517) (p1).length cp1), (13, .int .i64 ((p1).length : Int)), (14, .int .i64 x417), (59, .bool (!(((rdD zT37 p0 x417).Private) == ((rdD zT47 p1 x417).Private))))]) (by kernel_rfl) rfl rfl (by kernel_rfl) (np_then (np_blk (np_then (np_then (np_blk (np_then np_body)))))) ⟨f527.now, f555.now, trivial⟩ (fun W_ hS => ⟨q551, (CellsAt.one hS.2.1 tab rfl 3 rfl), (load1 tab rfl ((Bx.cell hS.1 3).trans rfl)), trivial⟩) fun a hk => ?_
                rw [b561] at hk
                refine xd_take tab hk (k := 13) (is := [41, 42, 43, 44, 45, 46, 47]) (ls' := #[true, true, true, true, true, true, true, true, true, true, true, true, true, true, true, true, true, true, true, true, true, true, true, true, true, true, true, true, true, true, true, true, true, true, true, true, true, true, true, true, true, true, true, true, true, true, true, true, false, false, false, false, false, false, false, false, false, false, false, false, false]) (lv := [.slice A553 ((rdD zT37 p0 x417).Nums).length c554, .slice A518 ((rdD zT47 p1 x417).Nums).length c519]) (ks := [0, 5, 6, 12, 13, 14, 59, 64, 66]) (e' := [(0, .slice (some ad552) (p0).length cp0), (5, .int .i64 x417), (6, .pointer (some ⟨bx526, 0, none⟩)), (12, .slice (some ad517) (p1).length cp1), (13, .int .i64 ((p1).length : Int)), (14, .int .i64 x417), (59, .bool false), (64, .slice A553 ((rdD zT37 p0 x417).Nums).length c554), (66, .slice A518 ((rdD zT47 p1 x417).Nums).length c519)]) (by kernel_rfl) rfl rfl (by kernel_rfl) (np_then (np_blk (np_then (np_then (np_blk (np_then np_body)))))) ⟨f527.now, f555.now, trivial⟩ (fun W_ hS => ⟨q551, (CellsAt.one hS.2.1 tab rfl 4 rfl), (load1 tab rfl ((Bx.cell hS.1 4).trans rfl)), trivial⟩) fun a hk => ?_
                refine xd_op hk (i := 48) (by kernel_rfl) rfl rfl ?_
                refine op_call hk ent_18 (vs := [.slice A553 ((rdD zT37 p0 x417).Nums).length c554, .slice A518 ((rdD zT47 p1 x417).Nums).length c519]) rfl (tidewracklaw01_Same_calls K A553 c554 ((rdD zT37 p0 x417).Nums) A518 c519 ((rdD zT47 p1 x417).Nums) _ o529 _ f556 hc557 _ f521 hc522   _ hc566) ?_
                rintro _ w582 ⟨o583, rfl, st584⟩
                replace f521 := f521.st st584 (by decide)
                replace f527 := f527.st st584 (by decide)
                replace f555 := f555.st st584 (by decide)
                replace f556 := f556.st st584 (by decide)
                replace f900000 := f900000.st st584 (by decide)
                replace f900020 := f900020.st st584 (by decide)
                replace hs := hs.locQ st584 hob rfl
                have hk := hk.put 67 (.bool t565) rfl
                refine ⟨.inr ⟨f527.now, f555.now, trivial⟩, ?_⟩
                refine xd_take tab hk (k := 9) (is := [49, 50, 51]) (ls' := #[true, true, true, true, true, true, true, true, true, true, true, true, true, true, true, true, true, true, true, true, true, true, true, true, true, true, true, true, true, true, true, true, true, true, true, true, true, true, true, true, true, true, true, true, true, true, true, true, true, true, true, true, false, false, false, false, false, false, false, false, false]) (lv := []) (ks := [0, 5, 6, 12, 13, 14, 70]) (e' := [(0, .slice (some ad552) (p0).length cp0), (5, .int .i64 x417), (6, .pointer (some ⟨bx526, 0, none⟩)), (12, .slice (some ad517) (p1).length cp1), (13, .int .i64 ((p1).length : Int)), (14, .int .i64 x417), (70, .bool (!t565))]) (by kernel_rfl) rfl rfl (by kernel_rfl) (np_then (np_blk (np_then (np_then (np_blk (np_then np_body)))))) ⟨f527.now, f555.now, trivial⟩ (fun W_ hS => trivial) fun a hk => ?_
                rw [b570] at hk
                refine xd_take tab hk (k := 0) (is := [52, 53, 54, 55, 56, 57, 58, 59, 60]) (ls' := #[true, true, true, true, true, true, true, true, true, true, true, true, true, true, true, true, true, true, true, true, true, true, true, true, true, true, true, true, true, true, true, true, true, true, true, true, true, true, true, true, true, true, true, true, true, true, true, true, true, true, true, true, true, true, true, true, true, true, true, true, true]) (lv := [.string ((rdD zT37 p0 x417).Text), .string ((rdD zT47 p1 x417).Text)]) (ks := [0, 12, 13, 14, 79]) (e' := [(0, .slice (some ad552) (p0).length cp0), (12, .slice (some ad517) (p1).length cp1), (13, .int .i64 ((p1).length : Int)), (14, .int .i64 x417), (79, .bool (!(ByteArray.toList ((rdD zT37 p0 x417).Text) == ByteArray.toList ((rdD zT47 p1 x417).Text))))]) (by kernel_rfl) rfl rfl (by kernel_rfl) (np_then (np_blk (np_then (np_then (np_blk (np_then np_body)))))) ⟨f527.now, f555.now, trivial⟩ (fun W_ hS => ⟨q551, (CellsAt.one hS.2.1 tab rfl 5 rfl), (load1 tab rfl ((Bx.cell hS.1 5).trans rfl)), trivial⟩) fun a hk => ?_
                refine xd_done (by kernel_rfl) ?_
                refine then_n ?_
                cases b585 : (!(ByteArray.toList ((rdD zT37 p0 x417).Text) == ByteArray.toList ((rdD zT47 p1 x417).Text)))
                · rw [b585] at hk H
                  replace H := bifF H
                  refine x_if hk (b := false) rfl ?_
                  refine (show Code.wpIn _ _ _ _ _ _ _ from ?_)
                  refine wpIn_skip ?_
                  refine blk_n ?_
                  refine then_n ?_
                  refine wpIn_region_lit ?_
                  refine x_run tab hk (k := 2) (lv := []) (ks := [0, 12, 13, 14]) (e' := [(0, .slice (some ad552) (p0).length cp0), (12, .slice (some ad517) (p1).length cp1), (13, .int .i64 ((p1).length : Int)), (14, .int .i64 (IntKind.wrap .i64 (x417 + 1)))]) rfl trivial fun a hk => ?_
                  refine wpListIn_nil ?_
                  refine then_n ?_
                  exact ⟨k512, Nat.le_refl _, o583, (IntKind.wrap .i64 (x417 + 1)), (by exact Kn.pick (ks := [0, 12, 13, 14]) hk rfl), hs, f900000, f900020, (hlp514 ▸ H)⟩
                · rw [b585] at hk H
                  replace H := bifT H
                  refine x_if hk (b := true) rfl ?_
                  refine (show Code.wpIn _ _ _ _ _ _ _ from ?_)
                  refine x_seq ?_
                  refine wpIn_region_lit ?_
                  refine x_run tab hk (k := 1) (lv := []) (ks := [4]) (e' := [(4, .bool false)]) rfl trivial fun a hk => ?_
                  refine wpListIn_nil ?_
                  refine then_n ?_
                  refine wpIn_ret ?_
                  refine blk_r ?_
                  refine then_r ?_
                  refine then_r ?_
                  refine blk_r ?_
                  refine then_r ?_
                  obtain rfl := Option.some.inj H
                  exact x_retG hk (rs := [.tmp 4]) (vs := [.bool false]) rfl ⟨rfl, trivial⟩ ⟨cl w oi o [] (fun l_ => if l_ = 1 then LF else 0) o583, rfl, hs.closeF (Lm := []) (Sh := []) hoa rfl (fun l_ => if l_ = 1 then LF else 0)⟩
              · rw [b570] at H
                replace H := bifT H
                refine xd_begin (o := o529) (fun W_ => (Bx bx526 48 [.int .i64 ((rdD zT47 p1 x417).Kind), .int .i64 ((rdD zT47 p1 x417).Rune), .int .i64 ((rdD zT47 p1 x417).Byte), .bool ((rdD zT47 p1 x417).Private), .slice A518 ((rdD zT47 p1 x417).Nums).length c519, .string ((rdD zT47 p1 x417).Text)]) W_ ∧ (fun W => CellsAt (ad552.add (Int.toNat x417 * 6)) [.int .i64 ((rdD zT37 p0 x417).Kind), .int .i32 ((rdD zT37 p0 x417).Rune), .int .u8 ((rdD zT37 p0 x417).Byte), .bool ((rdD zT37 p0 x417).Private), .slice A553 ((rdD zT37 p0 x417).Nums).length c554, .string ((rdD zT37 p0 x417).Text)] W) W_ ∧ True) mixed rfl rfl fun w592 st593 => ?_
                replace f521 := f521.st st593 (by decide)
                replace f527 := f527.st st593 (by decide)
                replace f555 := f555.st st593 (by decide)
                replace f556 := f556.st st593 (by decide)
                replace f900000 := f900000.st st593 (by decide)
                replace f900020 := f900020.st st593 (by decide)
                replace hs := hs.locQ st593 hob rfl
                refine xd_take tab hk (k := 52) (is := [0, 1, 2, 3, 4, 5, 6, 7, 8]) (ls' := #[true, true, true, true, true, true, true, true, true, false, false, false, false, false, false, false, false, false, false, false, false, false, false, false, false, false, false, false, false, false, false, false, false, false, false, false, false, false, false, false, false, false, false, false, false, false, false, false, false, false, false, false, false, false, false, false, false, false, false, false, false]) (lv := [.int .i64 ((rdD zT37 p0 x417).Kind), .int .i64 ((rdD zT47 p1 x417).Kind)]) (ks := [0, 5, 6, 12, 13, 14, 27]) (e' := [(0, .slice (some ad552) (p0).length cp0), (5, .int .i64 x417), (6, .pointer (some ⟨bx526, 0, none⟩)), (12, .slice (some ad517) (p1).length cp1), (13, .int .i64 ((p1).length : Int)), (14, .int .i64 x417), (27, .bool (((rdD zT37 p0 x417).Kind) != ((rdD zT47 p1 x417).Kind)))]) (by kernel_rfl) rfl rfl (by kernel_rfl) (np_then (np_blk (np_then (np_then (np_blk (np_then np_body)))))) ⟨f527.now, f555.now, trivial⟩ (fun W_ hS => ⟨q551, (CellsAt.one hS.2.1 tab rfl 0 rfl), (load1 tab rfl ((Bx.cell hS.1 0).trans rfl)), trivial⟩) fun a hk => ?_
                rw [b558] at hk
                refine xd_take tab hk (k := 41) (is := [9, 10, 11, 12, 13, 14, 15, 16, 17, 18, 19]) (ls' := #[true, true, true, true, true, true, true, true, true, true, true, true, true, true, true, true, true, true, true, true, false, false, false, false, false, false, false, false, false, false, false, false, false, false, false, false, false, false, false, false, false, false, false, false, false, false, false, false, false, false, false, false, false, false, false, false, false, false, false, false, false]) (lv := [.int .i32 ((rdD zT37 p0 x417).Rune), .int .i64 ((rdD zT47 p1 x417).Rune)]) (ks := [0, 5, 6, 12, 13, 14, 38]) (e' := [(0, .slice (some ad552) (p0).length cp0), (5, .int .i64 x417), (6, .pointer (some ⟨bx526, 0, none⟩)), (12, .slice (some ad517) (p1).length cp1), (13, .int .i64 ((p1).length : Int)), (14, .int .i64 x417), (38, .bool ((IntKind.wrap .i64 ((rdD zT37 p0 x417).Rune)) != ((rdD zT47 p1 x417).Rune)))]) (by kernel_rfl) rfl rfl (by kernel_rfl) (np_then (np_blk (np_then (np_then (np_blk (np_then np_body)))))) ⟨f527.now, f555.now, trivial⟩ (fun W_ hS => ⟨q551, (CellsAt.one hS.2.1 tab rfl 1 rfl), (load1 tab rfl ((Bx.cell hS.1 1).trans rfl)), trivial⟩) fun a hk => ?_
                rw [b559] at hk
                refine xd_take tab hk (k := 30) (is := [20, 21, 22, 23, 24, 25, 26, 27, 28, 29, 30]) (ls' := #[true, true, true, true, true, true, true, true, true, true, true, true, true, true, true, true, true, true, true, true, true, true, true, true, true, true, true, true, true, true, true, false, false, false, false, false, false, false, false, false, false, false, false, false, false, false, false, false, false, false, false, false, false, false, false, false, false, false, false, false, false]) (lv := [.int .u8 ((rdD zT37 p0 x417).Byte), .int .i64 ((rdD zT47 p1 x417).Byte)]) (ks := [0, 5, 6, 12, 13, 14, 49]) (e' := [(0, .slice (some ad552) (p0).length cp0), (5, .int .i64 x417), (6, .pointer (some ⟨bx526, 0, none⟩)), (12, .slice (some ad517) (p1).length cp1), (13, .int .i64 ((p1).length : Int)), (14, .int .i64 x417), (49, .bool ((IntKind.wrap .i64 ((rdD zT37 p0 x417).Byte)) != ((rdD zT47 p1 x417).Byte)))]) (by kernel_rfl) rfl rfl (by kernel_rfl) (np_then (np_blk (np_then (np_then (np_blk (np_then np_body)))))) ⟨f527.now, f555.now, trivial⟩ (fun W_ hS => ⟨q551, (CellsAt.one hS.2.1 tab rfl 2 rfl), (load1 tab rfl ((Bx.cell hS.1 2).trans rfl)), trivial⟩) fun a hk => ?_
                rw [b560] at hk
                refine xd_take tab hk (k := 20) (is := [31, 32, 33, 34, 35, 36, 37, 38, 39, 40]) (ls' := #[true, true, true, true, true, true, true, true, true, true, true, true, true, true, true, true, true, true, true, true, true, true, true, true, true, true, true, true, true, true, true, true, true, true, true, true, true, true, true, true, true, false, false, false, false, false, false, false, false, false, false, false, false, false, false, false, false, false, false, false, false]) (lv := [.bool ((rdD zT37 p0 x417).Private), .bool ((rdD zT47 p1 x417).Private)]) (ks := [0, 5, 6, 12, 13, 14, 59]) (e' := [(0, .slice (some ad552) (p0).length cp0), (5, .int .i64 x417), (6, .pointer (some ⟨bx526, 0, none⟩)), (12, .slice (some ad517) (p1).length cp1), (13, .int .i64 ((p1).length : Int)), (14, .int .i64 x417), (59, .bool (!(((rdD zT37 p0 x417).Private) == ((rdD zT47 p1 x417).Private))))]) (by kernel_rfl) rfl rfl (by kernel_rfl) (np_then (np_blk (np_then (np_then (np_blk (np_then np_body)))))) ⟨f527.now, f555.now, trivial⟩ (fun W_ hS => ⟨q551, (CellsAt.one hS.2.1 tab rfl 3 rfl), (load1 tab rfl ((Bx.cell hS.1 3).trans rfl)), trivial⟩) fun a hk => ?_
                rw [b561] at hk
                refine xd_take tab hk (k := 13) (is := [41, 42, 43, 44, 45, 46, 47]) (ls' := #[true, true, true, true, true, true, true, true, true, true, true, true, true, true, true, true, true, true, true, true, true, true, true, true, true, true, true, true, true, true, true, true, true, true, true, true, true, true, true, true, true, true, true, true, true, true, true, true, false, false, false, false, false, false, false, false, false, false, false, false, false]) (lv := [.slice A553 ((rdD zT37 p0 x417).Nums).length c554, .slice A518 ((rdD zT47 p1 x417).Nums).length c519]) (ks := [0, 5, 6, 12, 13, 14, 59, 64, 66]) (e' := [(0, .slice (some ad552) (p0).length cp0), (5, .int .i64 x417), (6, .pointer (some ⟨bx526, 0, none⟩)), (12, .slice (some ad517) (p1).length cp1), (13, .int .i64 ((p1).length : Int)), (14, .int .i64 x417), (59, .bool false), (64, .slice A553 ((rdD zT37 p0 x417).Nums).length c554), (66, .slice A518 ((rdD zT47 p1 x417).Nums).length c519)]) (by kernel_rfl) rfl rfl (by kernel_rfl) (np_then (np_blk (np_then (np_then (np_blk (np_then np_body)))))) ⟨f527.now, f555.now, trivial⟩ (fun W_ hS => ⟨q551, (CellsAt.one hS.2.1 tab rfl 4 rfl), (load1 tab rfl ((Bx.cell hS.1 4).trans rfl)), trivial⟩) fun a hk => ?_
                refine xd_op hk (i := 48) (by kernel_rfl) rfl rfl ?_
                refine op_call hk ent_18 (vs := [.slice A553 ((rdD zT37 p0 x417).Nums).length c554, .slice A518 ((rdD zT47 p1 x417).Nums).length c519]) rfl (tidewracklaw01_Same_calls K A553 c554 ((rdD zT37 p0 x417).Nums) A518 c519 ((rdD zT47 p1 x417).Nums) _ o529 _ f556 hc557 _ f521 hc522   _ hc566) ?_
                rintro _ w597 ⟨o598, rfl, st599⟩
                replace f521 := f521.st st599 (by decide)
                replace f527 := f527.st st599 (by decide)
                replace f555 := f555.st st599 (by decide)
                replace f556 := f556.st st599 (by decide)
                replace f900000 := f900000.st st599 (by decide)
                replace f900020 := f900020.st st599 (by decide)
                replace hs := hs.locQ st599 hob rfl
                have hk := hk.put 67 (.bool t565) rfl
                refine ⟨.inr ⟨f527.now, f555.now, trivial⟩, ?_⟩
                refine xd_take tab hk (k := 9) (is := [49, 50, 51]) (ls' := #[true, true, true, true, true, true, true, true, true, true, true, true, true, true, true, true, true, true, true, true, true, true, true, true, true, true, true, true, true, true, true, true, true, true, true, true, true, true, true, true, true, true, true, true, true, true, true, true, true, true, true, true, false, false, false, false, false, false, false, false, false]) (lv := []) (ks := [0, 5, 6, 12, 13, 14, 70]) (e' := [(0, .slice (some ad552) (p0).length cp0), (5, .int .i64 x417), (6, .pointer (some ⟨bx526, 0, none⟩)), (12, .slice (some ad517) (p1).length cp1), (13, .int .i64 ((p1).length : Int)), (14, .int .i64 x417), (70, .bool (!t565))]) (by kernel_rfl) rfl rfl (by kernel_rfl) (np_then (np_blk (np_then (np_then (np_blk (np_then np_body)))))) ⟨f527.now, f555.now, trivial⟩ (fun W_ hS => trivial) fun a hk => ?_
                rw [b570] at hk
                refine xd_take tab hk (k := 0) (is := [52, 53, 54, 55, 56, 57, 58, 59, 60]) (ls' := #[true, true, true, true, true, true, true, true, true, true, true, true, true, true, true, true, true, true, true, true, true, true, true, true, true, true, true, true, true, true, true, true, true, true, true, true, true, true, true, true, true, true, true, true, true, true, true, true, true, true, true, true, true, true, true, true, true, true, true, true, true]) (lv := []) (ks := [0, 12, 13, 14, 79]) (e' := [(0, .slice (some ad552) (p0).length cp0), (12, .slice (some ad517) (p1).length cp1), (13, .int .i64 ((p1).length : Int)), (14, .int .i64 x417), (79, .bool true)]) (by kernel_rfl) rfl rfl (by kernel_rfl) (np_then (np_blk (np_then (np_then (np_blk (np_then np_body)))))) ⟨f527.now, f555.now, trivial⟩ (fun W_ hS => trivial) fun a hk => ?_
                refine xd_done (by kernel_rfl) ?_
                refine then_n ?_
                refine x_if hk (b := true) rfl ?_
                refine (show Code.wpIn _ _ _ _ _ _ _ from ?_)
                refine x_seq ?_
                refine wpIn_region_lit ?_
                refine x_run tab hk (k := 1) (lv := []) (ks := [4]) (e' := [(4, .bool false)]) rfl trivial fun a hk => ?_
                refine wpListIn_nil ?_
                refine then_n ?_
                refine wpIn_ret ?_
                refine blk_r ?_
                refine then_r ?_
                refine then_r ?_
                refine blk_r ?_
                refine then_r ?_
                obtain rfl := Option.some.inj H
                exact x_retG hk (rs := [.tmp 4]) (vs := [.bool false]) rfl ⟨rfl, trivial⟩ ⟨cl w oi o [] (fun l_ => if l_ = 1 then LF else 0) o598, rfl, hs.closeF (Lm := []) (Sh := []) hoa rfl (fun l_ => if l_ = 1 then LF else 0)⟩
            · rw [b561] at H
              replace H := bifT H
              refine xd_begin (o := o529) (fun W_ => (Bx bx526 48 [.int .i64 ((rdD zT47 p1 x417).Kind), .int .i64 ((rdD zT47 p1 x417).Rune), .int .i64 ((rdD zT47 p1 x417).Byte), .bool ((rdD zT47 p1 x417).Private), .slice A518 ((rdD zT47 p1 x417).Nums).length c519, .string ((rdD zT47 p1 x417).Text)]) W_ ∧ (fun W => CellsAt (ad552.add (Int.toNat x417 * 6)) [.int .i64 ((rdD zT37 p0 x417).Kind), .int .i32 ((rdD zT37 p0 x417).Rune), .int .u8 ((rdD zT37 p0 x417).Byte), .bool ((rdD zT37 p0 x417).Private), .slice A553 ((rdD zT37 p0 x417).Nums).length c554, .string ((rdD zT37 p0 x417).Text)] W) W_ ∧ True) mixed rfl rfl fun w600 st601 => ?_
              replace f521 := f521.st st601 (by decide)
              replace f527 := f527.st st601 (by decide)
              replace f555 := f555.st st601 (by decide)
              replace f556 := f556.st st601 (by decide)
              replace f900000 := f900000.st st601 (by decide)
              replace f900020 := f900020.st st601 (by decide)
              replace hs := hs.locQ st601 hob rfl
              refine xd_take tab hk (k := 52) (is := [0, 1, 2, 3, 4, 5, 6, 7, 8]) (ls' := #[true, true, true, true, true, true, true, true, true, false, false, false, false, false, false, false, false, false, false, false, false, false, false, false, false, false, false, false, false, false, false, false, false, false, false, false, false, false, false, false, false, false, false, false, false, false, false, false, false, false, false, false, false, false, false, false, false, false, false, false, false]) (lv := [.int .i64 ((rdD zT37 p0 x417).Kind), .int .i64 ((rdD zT47 p1 x417).Kind)]) (ks := [0, 5, 6, 12, 13, 14, 27]) (e' := [(0, .slice (some ad552) (p0).length cp0), (5, .int .i64 x417), (6, .pointer (some ⟨bx526, 0, none⟩)), (12, .slice (some ad517) (p1).length cp1), (13, .int .i64 ((p1).length : Int)), (14, .int .i64 x417), (27, .bool (((rdD zT37 p0 x417).Kind) != ((rdD zT47 p1 x417).Kind)))]) (by kernel_rfl) rfl rfl (by kernel_rfl) (np_then (np_blk (np_then (np_then (np_blk (np_then np_body)))))) ⟨f527.now, f555.now, trivial⟩ (fun W_ hS => ⟨q551, (CellsAt.one hS.2.1 tab rfl 0 rfl), (load1 tab rfl ((Bx.cell hS.1 0).trans rfl)), trivial⟩) fun a hk => ?_
              rw [b558] at hk
              refine xd_take tab hk (k := 41) (is := [9, 10, 11, 12, 13, 14, 15, 16, 17, 18, 19]) (ls' := #[true, true, true, true, true, true, true, true, true, true, true, true, true, true, true, true, true, true, true, true, false, false, false, false, false, false, false, false, false, false, false, false, false, false, false, false, false, false, false, false, false, false, false, false, false, false, false, false, false, false, false, false, false, false, false, false, false, false, false, false, false]) (lv := [.int .i32 ((rdD zT37 p0 x417).Rune), .int .i64 ((rdD zT47 p1 x417).Rune)]) (ks := [0, 5, 6, 12, 13, 14, 38]) (e' := [(0, .slice (some ad552) (p0).length cp0), (5, .int .i64 x417), (6, .pointer (some ⟨bx526, 0, none⟩)), (12, .slice (some ad517) (p1).length cp1), (13, .int .i64 ((p1).length : Int)), (14, .int .i64 x417), (38, .bool ((IntKind.wrap .i64 ((rdD zT37 p0 x417).Rune)) != ((rdD zT47 p1 x417).Rune)))]) (by kernel_rfl) rfl rfl (by kernel_rfl) (np_then (np_blk (np_then (np_then (np_blk (np_then np_body)))))) ⟨f527.now, f555.now, trivial⟩ (fun W_ hS => ⟨q551, (CellsAt.one hS.2.1 tab rfl 1 rfl), (load1 tab rfl ((Bx.cell hS.1 1).trans rfl)), trivial⟩) fun a hk => ?_
              rw [b559] at hk
              refine xd_take tab hk (k := 30) (is := [20, 21, 22, 23, 24, 25, 26, 27, 28, 29, 30]) (ls' := #[true, true, true, true, true, true, true, true, true, true, true, true, true, true, true, true, true, true, true, true, true, true, true, true, true, true, true, true, true, true, true, false, false, false, false, false, false, false, false, false, false, false, false, false, false, false, false, false, false, false, false, false, false, false, false, false, false, false, false, false, false]) (lv := [.int .u8 ((rdD zT37 p0 x417).Byte), .int .i64 ((rdD zT47 p1 x417).Byte)]) (ks := [0, 5, 6, 12, 13, 14, 49]) (e' := [(0, .slice (some ad552) (p0).length cp0), (5, .int .i64 x417), (6, .pointer (some ⟨bx526, 0, none⟩)), (12, .slice (some ad517) (p1).length cp1), (13, .int .i64 ((p1).length : Int)), (14, .int .i64 x417), (49, .bool ((IntKind.wrap .i64 ((rdD zT37 p0 x417).Byte)) != ((rdD zT47 p1 x417).Byte)))]) (by kernel_rfl) rfl rfl (by kernel_rfl) (np_then (np_blk (np_then (np_then (np_blk (np_then np_body)))))) ⟨f527.now, f555.now, trivial⟩ (fun W_ hS => ⟨q551, (CellsAt.one hS.2.1 tab rfl 2 rfl), (load1 tab rfl ((Bx.cell hS.1 2).trans rfl)), trivial⟩) fun a hk => ?_
              rw [b560] at hk
              refine xd_take tab hk (k := 20) (is := [31, 32, 33, 34, 35, 36, 37, 38, 39, 40]) (ls' := #[true, true, true, true, true, true, true, true, true, true, true, true, true, true, true, true, true, true, true, true, true, true, true, true, true, true, true, true, true, true, true, true, true, true, true, true, true, true, true, true, true, false, false, false, false, false, false, false, false, false, false, false, false, false, false, false, false, false, false, false, false]) (lv := [.bool ((rdD zT37 p0 x417).Private), .bool ((rdD zT47 p1 x417).Private)]) (ks := [0, 5, 6, 12, 13, 14, 59]) (e' := [(0, .slice (some ad552) (p0).length cp0), (5, .int .i64 x417), (6, .pointer (some ⟨bx526, 0, none⟩)), (12, .slice (some ad517) (p1).length cp1), (13, .int .i64 ((p1).length : Int)), (14, .int .i64 x417), (59, .bool (!(((rdD zT37 p0 x417).Private) == ((rdD zT47 p1 x417).Private))))]) (by kernel_rfl) rfl rfl (by kernel_rfl) (np_then (np_blk (np_then (np_then (np_blk (np_then np_body)))))) ⟨f527.now, f555.now, trivial⟩ (fun W_ hS => ⟨q551, (CellsAt.one hS.2.1 tab rfl 3 rfl), (load1 tab rfl ((Bx.cell hS.1 3).trans rfl)), trivial⟩) fun a hk => ?_
              rw [b561] at hk
              refine xd_take tab hk (k := 0) (is := [41, 42, 43, 44, 45, 46, 47, 48, 49, 50, 51, 52, 53, 54, 55, 56, 57, 58, 59, 60]) (ls' := #[true, true, true, true, true, true, true, true, true, true, true, true, true, true, true, true, true, true, true, true, true, true, true, true, true, true, true, true, true, true, true, true, true, true, true, true, true, true, true, true, true, true, true, true, true, true, true, true, true, true, true, true, true, true, true, true, true, true, true, true, true]) (lv := []) (ks := [0, 12, 13, 14, 79]) (e' := [(0, .slice (some ad552) (p0).length cp0), (12, .slice (some ad517) (p1).length cp1), (13, .int .i64 ((p1).length : Int)), (14, .int .i64 x417), (79, .bool true)]) (by kernel_rfl) rfl rfl (by kernel_rfl) (np_then (np_blk (np_then (np_then (np_blk (np_then np_body)))))) ⟨f527.now, f555.now, trivial⟩ (fun W_ hS => trivial) fun a hk => ?_
              refine xd_done (by kernel_rfl) ?_
              refine then_n ?_
              refine x_if hk (b := true) rfl ?_
              refine (show Code.wpIn _ _ _ _ _ _ _ from ?_)
              refine x_seq ?_
              refine wpIn_region_lit ?_
              refine x_run tab hk (k := 1) (lv := []) (ks := [4]) (e' := [(4, .bool false)]) rfl trivial fun a hk => ?_
              refine wpListIn_nil ?_
              refine then_n ?_
              refine wpIn_ret ?_
              refine blk_r ?_
              refine then_r ?_
              refine then_r ?_
              refine blk_r ?_
              refine then_r ?_
              obtain rfl := Option.some.inj H
              exact x_retG hk (rs := [.tmp 4]) (vs := [.bool false]) rfl ⟨rfl, trivial⟩ ⟨cl w oi o [] (fun l_ => if l_ = 1 then LF else 0) o529, rfl, hs.closeF (Lm := []) (Sh := []) hoa rfl (fun l_ => if l_ = 1 then LF else 0)⟩
          · rw [b560] at H
            replace H := bifT H
            refine xd_begin (o := o529) (fun W_ => (Bx bx526 48 [.int .i64 ((rdD zT47 p1 x417).Kind), .int .i64 ((rdD zT47 p1 x417).Rune), .int .i64 ((rdD zT47 p1 x417).Byte), .bool ((rdD zT47 p1 x417).Private), .slice A518 ((rdD zT47 p1 x417).Nums).length c519, .string ((rdD zT47 p1 x417).Text)]) W_ ∧ (fun W => CellsAt (ad552.add (Int.toNat x417 * 6)) [.int .i64 ((rdD zT37 p0 x417).Kind), .int .i32 ((rdD zT37 p0 x417).Rune), .int .u8 ((rdD zT37 p0 x417).Byte), .bool ((rdD zT37 p0 x417).Private), .slice A553 ((rdD zT37 p0 x417).Nums).length c554, .string ((rdD zT37 p0 x417).Text)] W) W_ ∧ True) mixed rfl rfl fun w602 st603 => ?_
            replace f521 := f521.st st603 (by decide)
            replace f527 := f527.st st603 (by decide)
            replace f555 := f555.st st603 (by decide)
            replace f556 := f556.st st603 (by decide)
            replace f900000 := f900000.st st603 (by decide)
            replace f900020 := f900020.st st603 (by decide)
            replace hs := hs.locQ st603 hob rfl
            refine xd_take tab hk (k := 52) (is := [0, 1, 2, 3, 4, 5, 6, 7, 8]) (ls' := #[true, true, true, true, true, true, true, true, true, false, false, false, false, false, false, false, false, false, false, false, false, false, false, false, false, false, false, false, false, false, false, false, false, false, false, false, false, false, false, false, false, false, false, false, false, false, false, false, false, false, false, false, false, false, false, false, false, false, false, false, false]) (lv := [.int .i64 ((rdD zT37 p0 x417).Kind), .int .i64 ((rdD zT47 p1 x417).Kind)]) (ks := [0, 5, 6, 12, 13, 14, 27]) (e' := [(0, .slice (some ad552) (p0).length cp0), (5, .int .i64 x417), (6, .pointer (some ⟨bx526, 0, none⟩)), (12, .slice (some ad517) (p1).length cp1), (13, .int .i64 ((p1).length : Int)), (14, .int .i64 x417), (27, .bool (((rdD zT37 p0 x417).Kind) != ((rdD zT47 p1 x417).Kind)))]) (by kernel_rfl) rfl rfl (by kernel_rfl) (np_then (np_blk (np_then (np_then (np_blk (np_then np_body)))))) ⟨f527.now, f555.now, trivial⟩ (fun W_ hS => ⟨q551, (CellsAt.one hS.2.1 tab rfl 0 rfl), (load1 tab rfl ((Bx.cell hS.1 0).trans rfl)), trivial⟩) fun a hk => ?_
            rw [b558] at hk
            refine xd_take tab hk (k := 41) (is := [9, 10, 11, 12, 13, 14, 15, 16, 17, 18, 19]) (ls' := #[true, true, true, true, true, true, true, true, true, true, true, true, true, true, true, true, true, true, true, true, false, false, false, false, false, false, false, false, false, false, false, false, false, false, false, false, false, false, false, false, false, false, false, false, false, false, false, false, false, false, false, false, false, false, false, false, false, false, false, false, false]) (lv := [.int .i32 ((rdD zT37 p0 x417).Rune), .int .i64 ((rdD zT47 p1 x417).Rune)]) (ks := [0, 5, 6, 12, 13, 14, 38]) (e' := [(0, .slice (some ad552) (p0).length cp0), (5, .int .i64 x417), (6, .pointer (some ⟨bx526, 0, none⟩)), (12, .slice (some ad517) (p1).length cp1), (13, .int .i64 ((p1).length : Int)), (14, .int .i64 x417), (38, .bool ((IntKind.wrap .i64 ((rdD zT37 p0 x417).Rune)) != ((rdD zT47 p1 x417).Rune)))]) (by kernel_rfl) rfl rfl (by kernel_rfl) (np_then (np_blk (np_then (np_then (np_blk (np_then np_body)))))) ⟨f527.now, f555.now, trivial⟩ (fun W_ hS => ⟨q551, (CellsAt.one hS.2.1 tab rfl 1 rfl), (load1 tab rfl ((Bx.cell hS.1 1).trans rfl)), trivial⟩) fun a hk => ?_
            rw [b559] at hk
            refine xd_take tab hk (k := 30) (is := [20, 21, 22, 23, 24, 25, 26, 27, 28, 29, 30]) (ls' := #[true, true, true, true, true, true, true, true, true, true, true, true, true, true, true, true, true, true, true, true, true, true, true, true, true, true, true, true, true, true, true, false, false, false, false, false, false, false, false, false, false, false, false, false, false, false, false, false, false, false, false, false, false, false, false, false, false, false, false, false, false]) (lv := [.int .u8 ((rdD zT37 p0 x417).Byte), .int .i64 ((rdD zT47 p1 x417).Byte)]) (ks := [0, 5, 6, 12, 13, 14, 49]) (e' := [(0, .slice (some ad552) (p0).length cp0), (5, .int .i64 x417), (6, .pointer (some ⟨bx526, 0, none⟩)), (12, .slice (some ad517) (p1).length cp1), (13, .int .i64 ((p1).length : Int)), (14, .int .i64 x417), (49, .bool ((IntKind.wrap .i64 ((rdD zT37 p0 x417).Byte)) != ((rdD zT47 p1 x417).Byte)))]) (by kernel_rfl) rfl rfl (by kernel_rfl) (np_then (np_blk (np_then (np_then (np_blk (np_then np_body)))))) ⟨f527.now, f555.now, trivial⟩ (fun W_ hS => ⟨q551, (CellsAt.one hS.2.1 tab rfl 2 rfl), (load1 tab rfl ((Bx.cell hS.1 2).trans rfl)), trivial⟩) fun a hk => ?_
            rw [b560] at hk
            refine xd_take tab hk (k := 0) (is := [31, 32, 33, 34, 35, 36, 37, 38, 39, 40, 41, 42, 43, 44, 45, 46, 47, 48, 49, 50, 51, 52, 53, 54, 55, 56, 57, 58, 59, 60]) (ls' := #[true, true, true, true, true, true, true, true, true, true, true, true, true, true, true, true, true, true, true, true, true, true, true, true, true, true, true, true, true, true, true, true, true, true, true, true, true, true, true, true, true, true, true, true, true, true, true, true, true, true, true, true, true, true, true, true, true, true, true, true, true]) (lv := []) (ks := [0, 12, 13, 14, 79]) (e' := [(0, .slice (some ad552) (p0).length cp0), (12, .slice (some ad517) (p1).length cp1), (13, .int .i64 ((p1).length : Int)), (14, .int .i64 x417), (79, .bool true)]) (by kernel_rfl) rfl rfl (by kernel_rfl) (np_then (np_blk (np_then (np_then (np_blk (np_then np_body)))))) ⟨f527.now, f555.now, trivial⟩ (fun W_ hS => trivial) fun a hk => ?_
            refine xd_done (by kernel_rfl) ?_
            refine then_n ?_
            refine x_if hk (b := true) rfl ?_
            refine (show Code.wpIn _ _ _ _ _ _ _ from ?_)
            refine x_seq ?_
            refine wpIn_region_lit ?_
            refine x_run tab hk (k := 1) (lv := []) (ks := [4]) (e' := [(4, .bool false)]) rfl trivial fun a hk => ?_
            refine wpListIn_nil ?_
            refine then_n ?_
            refine wpIn_ret ?_
            refine blk_r ?_
            refine then_r ?_
            refine then_r ?_
            refine blk_r ?_
            refine then_r ?_
            obtain rfl := Option.some.inj H
            exact x_retG hk (rs := [.tmp 4]) (vs := [.bool false]) rfl ⟨rfl, trivial⟩ ⟨cl w oi o [] (fun l_ => if l_ = 1 then LF else 0) o529, rfl, hs.closeF (Lm := []) (Sh := []) hoa rfl (fun l_ => if l_ = 1 then LF else 0)⟩
        · rw [b559] at H
          replace H := bifT H
          refine xd_begin (o := o529) (fun W_ => (Bx bx526 48 [.int .i64 ((rdD zT47 p1 x417).Kind), .int .i64 ((rdD zT47 p1 x417).Rune), .int .i64 ((rdD zT47 p1 x417).Byte), .bool ((rdD zT47 p1 x417).Private), .slice A518 ((rdD zT47 p1 x417).Nums).length c519, .string ((rdD zT47 p1 x417).Text)]) W_ ∧ (fun W => CellsAt (ad552.add (Int.toNat x417 * 6)) [.int .i64 ((rdD zT37 p0 x417).Kind), .int .i32 ((rdD zT37 p0 x417).Rune), .int .u8 ((rdD zT37 p0 x417).Byte), .bool ((rdD zT37 p0 x417).Private), .slice A553 ((rdD zT37 p0 x417).Nums).length c554, .string ((rdD zT37 p0 x417).Text)] W) W_ ∧ True) mixed rfl rfl fun w604 st605 => ?_
          replace f521 := f521.st st605 (by decide)
          replace f527 := f527.st st605 (by decide)
          replace f555 := f555.st st605 (by decide)
          replace f556 := f556.st st605 (by decide)
          replace f900000 := f900000.st st605 (by decide)
          replace f900020 := f900020.st st605 (by decide)
          replace hs := hs.locQ st605 hob rfl
          refine xd_take tab hk (k := 52) (is := [0, 1, 2, 3, 4, 5, 6, 7, 8]) (ls' := #[true, true, true, true, true, true, true, true, true, false, false, false, false, false, false, false, false, false, false, false, false, false, false, false, false, false, false, false, false, false, false, false, false, false, false, false, false, false, false, false, false, false, false, false, false, false, false, false, false, false, false, false, false, false, false, false, false, false, false, false, false]) (lv := [.int .i64 ((rdD zT37 p0 x417).Kind), .int .i64 ((rdD zT47 p1 x417).Kind)]) (ks := [0, 5, 6, 12, 13, 14, 27]) (e' := [(0, .slice (some ad552) (p0).length cp0), (5, .int .i64 x417), (6, .pointer (some ⟨bx526, 0, none⟩)), (12, .slice (some ad517) (p1).length cp1), (13, .int .i64 ((p1).length : Int)), (14, .int .i64 x417), (27, .bool (((rdD zT37 p0 x417).Kind) != ((rdD zT47 p1 x417).Kind)))]) (by kernel_rfl) rfl rfl (by kernel_rfl) (np_then (np_blk (np_then (np_then (np_blk (np_then np_body)))))) ⟨f527.now, f555.now, trivial⟩ (fun W_ hS => ⟨q551, (CellsAt.one hS.2.1 tab rfl 0 rfl), (load1 tab rfl ((Bx.cell hS.1 0).trans rfl)), trivial⟩) fun a hk => ?_
          rw [b558] at hk
          refine xd_take tab hk (k := 41) (is := [9, 10, 11, 12, 13, 14, 15, 16, 17, 18, 19]) (ls' := #[true, true, true, true, true, true, true, true, true, true, true, true, true, true, true, true, true, true, true, true, false, false, false, false, false, false, false, false, false, false, false, false, false, false, false, false, false, false, false, false, false, false, false, false, false, false, false, false, false, false, false, false, false, false, false, false, false, false, false, false, false]) (lv := [.int .i32 ((rdD zT37 p0 x417).Rune), .int .i64 ((rdD zT47 p1 x417).Rune)]) (ks := [0, 5, 6, 12, 13, 14, 38]) (e' := [(0, .slice (some ad552) (p0).length cp0), (5, .int .i64 x417), (6, .pointer (some ⟨bx526, 0, none⟩)), (12, .slice (some ad517) (p1).length cp1), (13, .int .i64 ((p1).length : Int)), (14, .int .i64 x417), (38, .bool ((IntKind.wrap .i64 ((rdD zT37 p0 x417).Rune)) != ((rdD zT47 p1 x417).Rune)))]) (by kernel_rfl) rfl rfl (by kernel_rfl) (np_then (np_blk (np_then (np_then (np_blk (np_then np_body)))))) ⟨f527.now, f555.now, trivial⟩ (fun W_ hS => ⟨q551, (CellsAt.one hS.2.1 tab rfl 1 rfl), (load1 tab rfl ((Bx.cell hS.1 1).trans rfl)), trivial⟩) fun a hk => ?_
          rw [b559] at hk
          refine xd_take tab hk (k := 0) (is := [20, 21, 22, 23, 24, 25, 26, 27, 28, 29, 30, 31, 32, 33, 34, 35, 36, 37, 38, 39, 40, 41, 42, 43, 44, 45, 46, 47, 48, 49, 50, 51, 52, 53, 54, 55, 56, 57, 58, 59, 60]) (ls' := #[true, true, true, true, true, true, true, true, true, true, true, true, true, true, true, true, true, true, true, true, true, true, true, true, true, true, true, true, true, true, true, true, true, true, true, true, true, true, true, true, true, true, true, true, true, true, true, true, true, true, true, true, true, true, true, true, true, true, true, true, true]) (lv := []) (ks := [0, 12, 13, 14, 79]) (e' := [(0, .slice (some ad552) (p0).length cp0), (12, .slice (some ad517) (p1).length cp1), (13, .int .i64 ((p1).length : Int)), (14, .int .i64 x417), (79, .bool true)]) (by kernel_rfl) rfl rfl (by kernel_rfl) (np_then (np_blk (np_then (np_then (np_blk (np_then np_body)))))) ⟨f527.now, f555.now, trivial⟩ (fun W_ hS => trivial) fun a hk => ?_
          refine xd_done (by kernel_rfl) ?_
          refine then_n ?_
          refine x_if hk (b := true) rfl ?_
          refine (show Code.wpIn _ _ _ _ _ _ _ from ?_)
          refine x_seq ?_
          refine wpIn_region_lit ?_
          refine x_run tab hk (k := 1) (lv := []) (ks := [4]) (e' := [(4, .bool false)]) rfl trivial fun a hk => ?_
          refine wpListIn_nil ?_
          refine then_n ?_
          refine wpIn_ret ?_
          refine blk_r ?_
          refine then_r ?_
          refine then_r ?_
          refine blk_r ?_
          refine then_r ?_
          obtain rfl := Option.some.inj H
          exact x_retG hk (rs := [.tmp 4]) (vs := [.bool false]) rfl ⟨rfl, trivial⟩ ⟨cl w oi o [] (fun l_ => if l_ = 1 then LF else 0) o529, rfl, hs.closeF (Lm := []) (Sh := []) hoa rfl (fun l_ => if l_ = 1 then LF else 0)⟩
      · rw [b558] at H
        replace H := bifT H
        refine xd_begin (o := o529) (fun W_ => (Bx bx526 48 [.int .i64 ((rdD zT47 p1 x417).Kind), .int .i64 ((rdD zT47 p1 x417).Rune), .int .i64 ((rdD zT47 p1 x417).Byte), .bool ((rdD zT47 p1 x417).Private), .slice A518 ((rdD zT47 p1 x417).Nums).length c519, .string ((rdD zT47 p1 x417).Text)]) W_ ∧ (fun W => CellsAt (ad552.add (Int.toNat x417 * 6)) [.int .i64 ((rdD zT37 p0 x417).Kind), .int .i32 ((rdD zT37 p0 x417).Rune), .int .u8 ((rdD zT37 p0 x417).Byte), .bool ((rdD zT37 p0 x417).Private), .slice A553 ((rdD zT37 p0 x417).Nums).length c554, .string ((rdD zT37 p0 x417).Text)] W) W_ ∧ True) mixed rfl rfl fun w606 st607 => ?_
        replace f521 := f521.st st607 (by decide)
        replace f527 := f527.st st607 (by decide)
        replace f555 := f555.st st607 (by decide)
        replace f556 := f556.st st607 (by decide)
        replace f900000 := f900000.st st607 (by decide)
        replace f900020 := f900020.st st607 (by decide)
        replace hs := hs.locQ st607 hob rfl
        refine xd_take tab hk (k := 52) (is := [0, 1, 2, 3, 4, 5, 6, 7, 8]) (ls' := #[true, true, true, true, true, true, true, true, true, false, false, false, false, false, false, false, false, false, false, false, false, false, false, false, false, false, false, false, false, false, false, false, false, false, false, false, false, false, false, false, false, false, false, false, false, false, false, false, false, false, false, false, false, false, false, false, false, false, false, false, false]) (lv := [.int .i64 ((rdD zT37 p0 x417).Kind), .int .i64 ((rdD zT47 p1 x417).Kind)]) (ks := [0, 5, 6, 12, 13, 14, 27]) (e' := [(0, .slice (some ad552) (p0).length cp0), (5, .int .i64 x417), (6, .pointer (some ⟨bx526, 0, none⟩)), (12, .slice (some ad517) (p1).length cp1), (13, .int .i64 ((p1).length : Int)), (14, .int .i64 x417), (27, .bool (((rdD zT37 p0 x417).Kind) != ((rdD zT47 p1 x417).Kind)))]) (by kernel_rfl) rfl rfl (by kernel_rfl) (np_then (np_blk (np_then (np_then (np_blk (np_then np_body)))))) ⟨f527.now, f555.now, trivial⟩ (fun W_ hS => ⟨q551, (CellsAt.one hS.2.1 tab rfl 0 rfl), (load1 tab rfl ((Bx.cell hS.1 0).trans rfl)), trivial⟩) fun a hk => ?_
        rw [b558] at hk
        refine xd_take tab hk (k := 0) (is := [9, 10, 11, 12, 13, 14, 15, 16, 17, 18, 19, 20, 21, 22, 23, 24, 25, 26, 27, 28, 29, 30, 31, 32, 33, 34, 35, 36, 37, 38, 39, 40, 41, 42, 43, 44, 45, 46, 47, 48, 49, 50, 51, 52, 53, 54, 55, 56, 57, 58, 59, 60]) (ls' := #[true, true, true, true, true, true, true, true, true, true, true, true, true, true, true, true, true, true, true, true, true, true, true, true, true, true, true, true, true, true, true, true, true, true, true, true, true, true, true, true, true, true, true, true, true, true, true, true, true, true, true, true, true, true, true, true, true, true, true, true, true]) (lv := []) (ks := [0, 12, 13, 14, 79]) (e' := [(0, .slice (some ad552) (p0).length cp0), (12, .slice (some ad517) (p1).length cp1), (13, .int .i64 ((p1).length : Int)), (14, .int .i64 x417), (79, .bool true)]) (by kernel_rfl) rfl rfl (by kernel_rfl) (np_then (np_blk (np_then (np_then (np_blk (np_then np_body)))))) ⟨f527.now, f555.now, trivial⟩ (fun W_ hS => trivial) fun a hk => ?_
        refine xd_done (by kernel_rfl) ?_
        refine then_n ?_
        refine x_if hk (b := true) rfl ?_
        refine (show Code.wpIn _ _ _ _ _ _ _ from ?_)
        refine x_seq ?_
        refine wpIn_region_lit ?_
        refine x_run tab hk (k := 1) (lv := []) (ks := [4]) (e' := [(4, .bool false)]) rfl trivial fun a hk => ?_
        refine wpListIn_nil ?_
        refine then_n ?_
        refine wpIn_ret ?_
        refine blk_r ?_
        refine then_r ?_
        refine then_r ?_
        refine blk_r ?_
        refine then_r ?_
        obtain rfl := Option.some.inj H
        exact x_retG hk (rs := [.tmp 4]) (vs := [.bool false]) rfl ⟨rfl, trivial⟩ ⟨cl w oi o [] (fun l_ => if l_ = 1 then LF else 0) o529, rfl, hs.closeF (Lm := []) (Sh := []) hoa rfl (fun l_ => if l_ = 1 then LF else 0)⟩
  · rw [b1] at hk H
    replace H := bifT H
    refine x_if hk (b := true) rfl ?_
    refine (show Code.wpIn _ _ _ _ _ _ _ from ?_)
    refine x_seq ?_
    refine wpIn_region_lit ?_
    refine x_run tab hk (k := 1) (lv := []) (ks := [4]) (e' := [(4, .bool false)]) rfl trivial fun a hk => ?_
    refine wpListIn_nil ?_
    refine then_n ?_
    refine wpIn_ret ?_
    refine then_r ?_
    obtain rfl := Option.some.inj H
    exact x_retG hk (rs := [.tmp 4]) (vs := [.bool false]) rfl ⟨rfl, trivial⟩ ⟨cl w oi o [] (fun l_ => if l_ = 1 then LF else 0) oi, rfl, hs.closeF (Lm := []) (Sh := []) hoa rfl (fun l_ => if l_ = 1 then LF else 0)⟩

/-! tidewrack/tidewracklaw07.SeqReads -/
theorem tidewracklaw07_SeqReads_calls (K : Nat) (p0 : ByteArray) (w : World) (o : Nat → Nat) (Lg0 : Nat) (hg0 : Ft (RdC ET70 (some ⟨0, 0, none⟩) glob0) w o Lg0)   (r : Bool) (H : tidewracklaw07_SeqReads K p0 = some r) :
    Calls Tryd.prog 3 #[.string p0] w (Ret fun v_ w' => ∃ o' : Nat → Nat, v_ = .bool r ∧ St [] w o w' o') := by
  refine x_enter (vs := [.string p0]) Tryd.func3 rfl rfl rfl fun a hk => ?_
  obtain ⟨o0, hs, h0⟩ := St.start w o
  have fg0 := h0 _ _ hg0
  clear h0
  rw [tidewracklaw07_SeqReads] at H
  refine x_seq ?_
  refine wpIn_region_lit ?_
  refine x_run tab hk (k := 1) (lv := []) (ks := [0]) (e' := [(0, .string p0)]) rfl trivial fun a hk => ?_
  refine wpListIn_nil ?_
  refine then_n ?_
  refine x_seq ?_
  refine x_seq ?_
  refine wpIn_region_lit ?_
  refine x_op hk rfl ?_
  obtain ⟨t4, hc5, H⟩ := bindS H
  refine op_call hk ent_9 (vs := []) rfl (tidewracklaw07_awake_calls K  _ o0 0 fg0   _ hc5) ?_
  rintro _ w6 ⟨o7, rfl, st8⟩
  replace fg0 := fg0.st st8 (by decide)
  replace hs := hs.loc0 st8 (by decide)
  have hk := hk.put 4 (.bool t4) rfl
  refine x_run tab hk (k := 1) (lv := []) (ks := [0, 5]) (e' := [(0, .string p0), (5, .bool (!t4))]) rfl trivial fun a hk => ?_
  refine wpListIn_nil ?_
  refine then_n ?_
  cases b9 : (!t4)
  · rw [b9] at hk H
    replace H := bifF H
    refine x_if hk (b := false) rfl ?_
    refine (show Code.wpIn _ _ _ _ _ _ _ from ?_)
    refine wpIn_skip ?_
    refine then_n ?_
    refine x_seq ?_
    refine wpIn_region_lit ?_
    refine x_run tab hk (k := 1) (lv := []) (ks := [6]) (e' := [(6, .string p0)]) rfl trivial fun a hk => ?_
    refine x_op hk rfl ?_
    obtain ⟨t13, hc14, H⟩ := bindS H
    refine op_call hk ent_10 (vs := [.string p0, .int .i64 300]) rfl (tidewracklaw01_Cut_calls p0 300 _ o7    _ hc14) ?_
    rintro _ w15 ⟨o16, rfl, st17⟩
    replace fg0 := fg0.st st17 (by decide)
    replace hs := hs.loc0 st17 (by decide)
    have hk := hk.put 7 (.string t13) rfl
    refine x_run tab hk (k := 1) (lv := []) (ks := [0]) (e' := [(0, .string t13)]) rfl trivial fun a hk => ?_
    refine wpListIn_nil ?_
    refine then_n ?_
    refine x_seq ?_
    refine wpIn_region_lit ?_
    refine x_op hk rfl ?_
    refine op_alloc (o := o16) tab (t := 31) (cs := [.int .i64 0, .bool false, .bool false, .bool false, .bool false, .int .i64 0, .slice none 0 0, .string (⟨#[]⟩ : ByteArray), .int .u8 0, .int .i32 0, .int .i64 0, .slice none 0 0]) rfl rfl 2 fun bx21 w18 o19 st20 f22 => ?_
    replace fg0 := fg0.st st20 (by decide)
    replace hs := hs.loc0 st20 (by decide)
    have hk := hk.put 3 (.pointer (some ⟨bx21, 0, none⟩)) rfl
    refine wpListIn_nil ?_
    refine then_n ?_
    refine x_seq ?_
    refine wpIn_region_lit ?_
    refine x_run tab hk (k := 1) (lv := []) (ks := [0, 3, 8]) (e' := [(0, .string t13), (3, .pointer (some ⟨bx21, 0, none⟩)), (8, .string t13)]) rfl trivial fun a hk => ?_
    refine x_op hk rfl ?_
    obtain ⟨t26, hc27, H⟩ := bindS H
    refine op_call hk ent_12 (vs := [.pointer (some ⟨bx21, 0, none⟩), .string t13]) rfl (seq_Parser_Feed_calls K bx21 none 0 none 0 (⟨0, false, false, false, false, 0, ([] : List Int), (⟨#[]⟩ : ByteArray), 0, 0, 0, ([] : List T37)⟩ : T30) t13 _ o19 1 0 fg0 2 f22 3 (CO.nil _ _ _ _ _ _ _) (by simp) 4 (NOwn.nil _ _ _ _ 4 1) (by simp) (by decide) (by decide) 5  _ hc27) ?_
    rintro _ w28 ⟨o29, A31, c32, A36, c37, rfl, st30, f33, hc34, f35, f38, hc39, f40, hc41⟩
    replace fg0 := fg0.st st30 (by decide)
    replace hs := hs.loc0 st30 (by decide)
    have hz42 : t26.2.out = [] := NRd.nul f40.rd
    have hk := hk.put 9 (.slice A31 (t26.1).length c32) rfl
    refine x_run tab hk (k := 1) (lv := []) (ks := [9, 10]) (e' := [(9, .slice A31 (t26.1).length c32), (10, .string t13)]) rfl trivial fun a hk => ?_
    refine x_op hk rfl ?_
    obtain ⟨t46, hc47, H⟩ := bindS H
    refine op_call hk ent_13 (vs := [.string t13]) rfl (tidewrackref07_Read_calls K t13 _ o29 1 (by decide) 6  _ hc47) ?_
    rintro _ w48 ⟨o49, A51, c52, rfl, st50, f53, hc54⟩
    replace f33 := f33.st st50 (by decide)
    replace fg0 := fg0.st st50 (by decide)
    replace hs := hs.loc0 st50 (by decide)
    have hk := hk.put 11 (.slice A51 (t46).length c52) rfl
    refine x_op hk rfl ?_
    obtain ⟨t58, hc59, H⟩ := bindS H
    refine op_call hk ent_11 (vs := [.slice A31 (t26.1).length c32, .slice A51 (t46).length c52]) rfl (tidewracklaw07_Is_calls K A31 c32 t26.1 A51 c52 t46 _ o49 1 _ f33.rd hc34 _ f53.rd hc54 (by decide) (by decide) (by decide)   _ hc59) ?_
    rintro _ w60 ⟨o61, rfl, st62⟩
    replace f33 := f33.st st62 (by decide)
    replace f53 := f53.st st62 (by decide)
    replace fg0 := fg0.st st62 (by decide)
    replace hs := hs.loc0 st62 (by decide)
    have hk := hk.put 12 (.bool t58) rfl
    refine x_run tab hk (k := 1) (lv := []) (ks := [2]) (e' := [(2, .bool t58)]) rfl trivial fun a hk => ?_
    refine wpListIn_nil ?_
    refine then_n ?_
    refine wpIn_ret ?_
    obtain rfl := Option.some.inj H
    exact x_retG hk (rs := [.tmp 2]) (vs := [.bool t58]) rfl ⟨rfl, trivial⟩ ⟨fun b_ => if b_ < w.heap.size then o b_ else (fun _ => 0) (o61 b_), rfl, hs.close0 o (fun _ => 0)⟩
  · rw [b9] at hk H
    replace H := bifT H
    refine x_if hk (b := true) rfl ?_
    refine (show Code.wpIn _ _ _ _ _ _ _ from ?_)
    refine x_seq ?_
    refine wpIn_region_lit ?_
    refine x_run tab hk (k := 1) (lv := []) (ks := [2]) (e' := [(2, .bool false)]) rfl trivial fun a hk => ?_
    refine wpListIn_nil ?_
    refine then_n ?_
    refine wpIn_ret ?_
    refine then_r ?_
    obtain rfl := Option.some.inj H
    exact x_retG hk (rs := [.tmp 2]) (vs := [.bool false]) rfl ⟨rfl, trivial⟩ ⟨fun b_ => if b_ < w.heap.size then o b_ else (fun _ => 0) (o7 b_), rfl, hs.close0 o (fun _ => 0)⟩

end Go.Proofs.YthddmlhmejnhlaaDoor
