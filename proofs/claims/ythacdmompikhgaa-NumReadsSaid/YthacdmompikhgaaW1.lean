/- Walks, printed by an own program: the machine's calls compute the plain functions. -/
import Derived.Test.YthacdmompikhgaaW0
set_option linter.unusedVariables false
set_option linter.unusedSimpArgs false
namespace Go.Proofs.Ythacdmompikhgaa
open Go Go.Proofs.XC
/-! tidewrack/num.Of -/
theorem num_Of_calls (p0 : ByteArray) (w : World) (o : Nat → Nat)   (R0 : Nat) (r : T62) (H : num_Of p0 = some r) :
    Calls Try.prog 18 #[.string p0] w (Ret fun v_ w' => ∃ o' : Nat → Nat, ∃ b0 : Nat, v_ = .pointer (some ⟨b0, 0, none⟩) ∧ St [] w o w' o' ∧ Ft (Bx b0 63 [.string r.s, .int .i64 r.e]) w' o' R0) := by
  refine x_enter (vs := [.string p0]) Try.func18 rfl rfl rfl fun a hk => ?_
  obtain ⟨o0, hs, h0⟩ := St.start w o
  clear h0
  rw [num_Of] at H
  refine x_seq ?_
  refine wpIn_region_lit ?_
  refine x_run tab hk (k := 1) (lv := []) (ks := [0]) (e' := [(0, .string p0)]) rfl trivial fun a hk => ?_
  refine wpListIn_nil ?_
  refine then_n ?_
  refine x_seq ?_
  refine wpIn_region_lit ?_
  refine x_run tab hk (k := 2) (lv := []) (ks := [4]) (e' := [(4, .agg #[.string p0, .int .i64 0])]) rfl trivial fun a hk => ?_
  refine x_op hk rfl ?_
  refine op_box (o := o0) (t := 63) (v := .agg #[.string p0, .int .i64 0]) (cs := [.string p0, .int .i64 0]) hk rfl rfl 1 fun bx4 w1 o2 st3 f5 => ?_
  replace hs := hs.loc0 st3 (by decide)
  have hk := hk.put 5 (.pointer (some ⟨bx4, 0, none⟩)) rfl
  refine x_run tab hk (k := 1) (lv := []) (ks := [2]) (e' := [(2, .pointer (some ⟨bx4, 0, none⟩))]) rfl trivial fun a hk => ?_
  refine wpListIn_nil ?_
  refine then_n ?_
  refine wpIn_ret ?_
  obtain rfl := Option.some.inj H
  exact x_retG hk (rs := [.tmp 2]) (vs := [.pointer (some ⟨bx4, 0, none⟩)]) rfl ⟨rfl, trivial⟩ ⟨fun b_ => if b_ < w.heap.size then o b_ else (fun _ => R0) (o2 b_), bx4, rfl, hs.close0 o (fun _ => R0), hs.close_ft (o := o) (ρ := fun _ => R0) f5 (by decide) rfl⟩

/-! tidewrack/num.clip -/
theorem num_clip_calls (p0 : Int) (w : World) (o : Nat → Nat)   (r : Int) (H : num_clip p0 = some r) :
    Calls Try.prog 33 #[.int .i64 p0] w (Ret fun v_ w' => ∃ o' : Nat → Nat, v_ = .int .i64 r ∧ St [] w o w' o') := by
  refine x_enter (vs := [.int .i64 p0]) Try.func33 rfl rfl rfl fun a hk => ?_
  obtain ⟨o0, hs, h0⟩ := St.start w o
  clear h0
  rw [num_clip] at H
  refine x_seq ?_
  refine wpIn_region_lit ?_
  refine x_run tab hk (k := 1) (lv := []) (ks := [0]) (e' := [(0, .int .i64 p0)]) rfl trivial fun a hk => ?_
  refine wpListIn_nil ?_
  refine then_n ?_
  refine x_seq ?_
  refine wpIn_region_lit ?_
  refine x_run tab hk (k := 4) (lv := []) (ks := [2]) (e' := [(2, .int .i64 (mxI 0 (mnI p0 4611686018427387904)))]) rfl trivial fun a hk => ?_
  refine wpListIn_nil ?_
  refine then_n ?_
  refine wpIn_ret ?_
  obtain rfl := Option.some.inj H
  exact x_retG hk (rs := [.tmp 2]) (vs := [.int .i64 (mxI 0 (mnI p0 4611686018427387904))]) rfl ⟨rfl, trivial⟩ ⟨fun b_ => if b_ < w.heap.size then o b_ else (fun _ => 0) (o0 b_), rfl, hs.close0 o (fun _ => 0)⟩

/-! tidewrack/num.digits$1 -/
theorem num_digits_1_iter (K : Nat) (bp1 : Nat) (p1 : Int) (w : World) (o : Nat → Nat) (Lp1 : Nat) (hp1 : Ft (Bx bp1 3 [.int .i64 p1]) w o Lp1) (hd0 : [Lp1].Nodup) (r : List Int) (H : num_digits_1 K p1 = some r) :
    IterC Try.prog 32 [] [.pointer (some ⟨bp1, 0, none⟩)] (fun (x_ : Int) vs_ _ => vs_ = [.int .u8 x_]) none r w o [Lp1] [] := by
  refine iter_start hd0 (fun _ h_ => by cases h_) fun l_ JJ XX Res w1 oi h1 h2 h3 hJ hX hRl hY hE0 hE1 hs => ?_
  refine x_enter (vs := [.func (.yield l_) #[] #[], .pointer (some ⟨bp1, 0, none⟩)]) Try.func32 rfl rfl rfl fun a hk => ?_
  have f939 := h1 0 1 hp1 rfl rfl
  clear h1 h2 h3
  rw [num_digits_1] at H
  refine x_mid (fun a_ w_ => ∃ o61 : Nat → Nat, ∃ r62 : List Int, ∃ x63 : Int, Kn 20 a_ [(0, .func (.yield l_) #[] #[]), (1, .pointer (some ⟨bp1, 0, none⟩))] ∧ JJ r62 w_ o61 ∧ Ft (Bx bp1 3 [.int .i64 x63]) w_ o61 1 ∧ num_digits_1_j1 x63 = some r62) ?_ ?_
  rotate_left
  · rintro a w64 ⟨o61, r62, x63, hk, hs, f939, H⟩
    rw [num_digits_1_j1] at H
    refine wpIn_region_lit ?_
    refine x_run tab hk (k := 3) (lv := [.int .i64 x63]) (ks := [16, 18]) (e' := [(16, .func (.yield l_) #[] #[]), (18, .int .u8 (IntKind.wrap .u8 x63))]) rfl ⟨(load1 tab rfl ((Bx.cell f939.now 0).trans rfl)), trivial⟩ fun a hk => ?_
    refine x_op hk rfl ?_
    obtain ⟨r65, hr66, H⟩ := consS H
    rw [hr66] at hs
    refine op_yield hk rfl (vs := [.int .u8 (IntKind.wrap .u8 x63)]) rfl (hY hs (fun _ => rfl)) ?_
    rintro b67 w68 ⟨o69, st70, ht_, hf_⟩
    replace f939 := f939.st st70 (by decide)
    cases b67
    · have hs := hf_ rfl
      have hk := hk.put 19 (.bool false) rfl
      refine wpListIn_nil ?_
      exact x_endG hk (rs := []) (vs := []) rfl trivial (hE1 hs)
    · have hs := ht_ rfl
      have hk := hk.put 19 (.bool true) rfl
      refine wpListIn_nil ?_
      obtain rfl := Option.some.inj H
      exact x_endG hk (rs := []) (vs := []) rfl trivial (hE0 hs)
  refine x_seq ?_
  refine wpIn_region_lit ?_
  refine x_run tab hk (k := 1) (lv := [.int .i64 p1]) (ks := [0, 1, 3]) (e' := [(0, .func (.yield l_) #[] #[]), (1, .pointer (some ⟨bp1, 0, none⟩)), (3, .int .i64 p1)]) rfl ⟨(load1 tab rfl ((Bx.cell f939.now 0).trans rfl)), trivial⟩ fun a hk => ?_
  refine x_op hk rfl ?_
  obtain ⟨t74, hc75, H⟩ := bindS H
  refine op_call hk ent_33 (vs := [.int .i64 p1]) rfl (num_clip_calls p1 _ oi    _ hc75) ?_
  rintro _ w76 ⟨o77, rfl, st78⟩
  replace f939 := f939.st st78 (by decide)
  replace hs := hJ hs st78 rfl
  have hk := hk.put 4 (.int .i64 t74) rfl
  refine x_op hk rfl ?_
  refine op_store tab hk (t := 3) (v := .int .i64 t74) (b := bp1) (k := 0) (cs' := [.int .i64 t74]) rfl rfl rfl rfl rfl rfl f939 rfl rfl fun w79 o80 st81 f939_ => ?_
  replace hs := hJ hs st81 rfl
  replace f939 := f939_
  refine wpListIn_nil ?_
  refine then_n ?_
  refine wpIn_block ?_
  refine x_loop (fun j_ a_ w_ => ∃ o96 : Nat → Nat, ∃ r97 : List Int, ∃ x98 : Int, Kn 20 a_ [(0, .func (.yield l_) #[] #[]), (1, .pointer (some ⟨bp1, 0, none⟩))] ∧ JJ r97 w_ o96 ∧ Ft (Bx bp1 3 [.int .i64 x98]) w_ o96 1 ∧ num_digits_1_l2 j_ x98 = some r97) (k := K) ⟨o80, r, t74, (by exact Kn.pick (ks := [0, 1]) hk rfl), hs, f939, H⟩ (by rintro _ _ ⟨_, _, _, _, _, _, H_⟩; exact absurd (show (none : Option (List Int)) = some _ from H_) (by simp)) ?_
  rintro k110 a w109 ⟨o96, r97, x98, hk, hs, f939, H⟩
  rw [num_digits_1_l2] at H
  obtain ⟨lp111, hlp112⟩ : ∃ lp_, lp_ = num_digits_1_l2 k110 := ⟨_, rfl⟩
  rw [← hlp112] at H
  refine x_seq ?_
  refine x_seq ?_
  refine wpIn_region_lit ?_
  refine x_run tab hk (k := 2) (lv := [.int .i64 x98]) (ks := [0, 1, 6]) (e' := [(0, .func (.yield l_) #[] #[]), (1, .pointer (some ⟨bp1, 0, none⟩)), (6, .bool (decide (x98 ≥ (128 : Int))))]) rfl ⟨(load1 tab rfl ((Bx.cell f939.now 0).trans rfl)), trivial⟩ fun a hk => ?_
  refine wpListIn_nil ?_
  refine then_n ?_
  cases b113 : (decide (x98 ≥ (128 : Int)))
  · rw [b113] at hk H
    replace H := bifF H
    refine x_if hk (b := false) rfl ?_
    refine (show Code.wpIn _ _ _ _ _ _ _ from ?_)
    refine wpIn_exit ?_
    refine then_x ?_
    refine then_x ?_
    refine blk_x ?_
    refine then_n ?_
    exact ⟨o96, r97, x98, (by exact Kn.pick (ks := [0, 1]) hk rfl), hs, f939, H⟩
  · rw [b113] at hk H
    replace H := bifT H
    refine x_if hk (b := true) rfl ?_
    refine (show Code.wpIn _ _ _ _ _ _ _ from ?_)
    refine wpIn_skip ?_
    refine then_n ?_
    refine x_seq ?_
    refine wpIn_block ?_
    refine x_seq ?_
    refine wpIn_region_lit ?_
    refine x_run tab hk (k := 5) (lv := [.int .i64 x98]) (ks := [0, 1, 9, 13]) (e' := [(0, .func (.yield l_) #[] #[]), (1, .pointer (some ⟨bp1, 0, none⟩)), (9, .func (.yield l_) #[] #[]), (13, .int .u8 (bits .or .u8 (bits .and .u8 (IntKind.wrap .u8 x98) 127) 128))]) rfl ⟨(load1 tab rfl ((Bx.cell f939.now 0).trans rfl)), trivial⟩ fun a hk => ?_
    refine x_op hk rfl ?_
    obtain ⟨r114, hr115, H⟩ := consS H
    rw [hr115] at hs
    refine op_yield hk rfl (vs := [.int .u8 (bits .or .u8 (bits .and .u8 (IntKind.wrap .u8 x98) 127) 128)]) rfl (hY hs (fun _ => rfl)) ?_
    rintro b116 w117 ⟨o118, st119, ht_, hf_⟩
    replace f939 := f939.st st119 (by decide)
    cases b116
    · have hs := hf_ rfl
      have hk := hk.put 14 (.bool false) rfl
      refine x_run tab hk (k := 1) (lv := []) (ks := [0, 1, 15]) (e' := [(0, .func (.yield l_) #[] #[]), (1, .pointer (some ⟨bp1, 0, none⟩)), (15, .bool true)]) rfl trivial fun a hk => ?_
      refine wpListIn_nil ?_
      refine then_n ?_
      refine x_if hk (b := true) rfl ?_
      refine (show Code.wpIn _ _ _ _ _ _ _ from ?_)
      refine wpIn_ret ?_
      refine blk_r ?_
      refine then_r ?_
      refine then_r ?_
      refine blk_r ?_
      refine then_r ?_
      exact x_retG hk (rs := []) (vs := []) rfl trivial (hE1 hs)
    · have hs := ht_ rfl
      have hk := hk.put 14 (.bool true) rfl
      refine x_run tab hk (k := 1) (lv := []) (ks := [0, 1, 15]) (e' := [(0, .func (.yield l_) #[] #[]), (1, .pointer (some ⟨bp1, 0, none⟩)), (15, .bool false)]) rfl trivial fun a hk => ?_
      refine wpListIn_nil ?_
      refine then_n ?_
      refine x_if hk (b := false) rfl ?_
      refine (show Code.wpIn _ _ _ _ _ _ _ from ?_)
      refine wpIn_skip ?_
      refine blk_n ?_
      refine then_n ?_
      refine wpIn_region_lit ?_
      refine x_run tab hk (k := 2) (lv := [.int .i64 x98]) (ks := [0, 1, 8]) (e' := [(0, .func (.yield l_) #[] #[]), (1, .pointer (some ⟨bp1, 0, none⟩)), (8, .int .i64 (Int.fdiv x98 (2 ^ min (Int.toNat 7) 64)))]) rfl ⟨(load1 tab rfl ((Bx.cell f939.now 0).trans rfl)), (show 0 ≤ (7 : Int) from by decide), trivial⟩ fun a hk => ?_
      refine x_op hk rfl ?_
      refine op_store tab hk (t := 3) (v := .int .i64 (Int.fdiv x98 (2 ^ min (Int.toNat 7) 64))) (b := bp1) (k := 0) (cs' := [.int .i64 (Int.fdiv x98 (2 ^ min (Int.toNat 7) 64))]) rfl rfl rfl rfl rfl rfl f939 rfl rfl fun w120 o121 st122 f939_ => ?_
      replace hs := hJ hs st122 rfl
      replace f939 := f939_
      refine wpListIn_nil ?_
      refine then_n ?_
      exact ⟨k110, Nat.le_refl _, o121, r114, (Int.fdiv x98 (2 ^ min (Int.toNat 7) 64)), (by exact Kn.pick (ks := [0, 1]) hk rfl), hs, f939, (hlp112 ▸ H)⟩

/-! tidewrack/num.digits -/
theorem num_digits_calls (p0 : Int) (w : World) (o : Nat → Nat)   (R0 : Nat) (r : Int) (H : num_digits p0 = some r) :
    Calls Try.prog 31 #[.int .i64 p0] w (Ret fun v_ w' => ∃ o' : Nat → Nat, ∃ b0 : Nat, v_ = .func (.func 32) #[] #[.pointer (some ⟨b0, 0, none⟩)] ∧ St [] w o w' o' ∧ Ft (Bx b0 3 [.int .i64 r]) w' o' R0) := by
  refine x_enter (vs := [.int .i64 p0]) Try.func31 rfl rfl rfl fun a hk => ?_
  obtain ⟨o0, hs, h0⟩ := St.start w o
  clear h0
  rw [num_digits] at H
  refine x_seq ?_
  refine wpIn_region_lit ?_
  refine x_op hk rfl ?_
  refine op_box (o := o0) (t := 3) (v := .int .i64 p0) (cs := [.int .i64 p0]) hk rfl rfl 1 fun bx4 w1 o2 st3 f5 => ?_
  replace hs := hs.loc0 st3 (by decide)
  have hk := hk.put 1 (.pointer (some ⟨bx4, 0, none⟩)) rfl
  refine x_run tab hk (k := 1) (lv := []) (ks := [1]) (e' := [(1, .pointer (some ⟨bx4, 0, none⟩))]) rfl trivial fun a hk => ?_
  refine wpListIn_nil ?_
  refine then_n ?_
  refine x_seq ?_
  refine wpIn_region_lit ?_
  refine x_run tab hk (k := 2) (lv := []) (ks := [2]) (e' := [(2, .func (.func 32) #[] #[.pointer (some ⟨bx4, 0, none⟩)])]) rfl trivial fun a hk => ?_
  refine wpListIn_nil ?_
  refine then_n ?_
  refine wpIn_ret ?_
  obtain rfl := Option.some.inj H
  exact x_retG hk (rs := [.tmp 2]) (vs := [.func (.func 32) #[] #[.pointer (some ⟨bx4, 0, none⟩)]]) rfl ⟨rfl, trivial⟩ ⟨fun b_ => if b_ < w.heap.size then o b_ else (fun _ => R0) (o2 b_), bx4, rfl, hs.close0 o (fun _ => R0), hs.close_ft (o := o) (ρ := fun _ => R0) f5 (by decide) rfl⟩

/-! (*tidewrack/num.Out).Num -/
theorem num_Out_Num_calls (K : Nat) (bp0 : Nat) (Ap0_0 : Option Addr) (cp0_0 : Nat) (p0 : T25) (Ap1 : Option Addr) (cp1 : Nat) (p1 : List Int) (w : World) (o : Nat → Nat) (Lp0 : Nat) (hp0 : Ft (Bx bp0 26 [.slice Ap0_0 (p0.b).length cp0_0]) w o Lp0) (Lp0_0 : Nat) (hp0_0 : Ft (Own (encInt .u8) 5 (.slice Ap0_0 (p0.b).length cp0_0) p0.b) w o Lp0_0) (hcp0_0 : (p0.b).length ≤ cp0_0) (Lp1 : Nat) (hp1 : Ft (RdC (encInt .i64) Ap1 p1) w o Lp1) (hcp1 : (p1).length ≤ cp1) (hd0 : [Lp0, Lp0_0].Nodup) (hd1 : Lp1 ∉ [Lp0, Lp0_0]) (r : T25) (H : num_Out_Num K p0 p1 = some r) :
    Calls Try.prog 11 #[.pointer (some ⟨bp0, 0, none⟩), .slice Ap1 (p1).length cp1] w (Ret fun v_ w' => ∃ o' : Nat → Nat, ∃ A0 : Option Addr, ∃ c0 : Nat, v_ = .pointer (some ⟨bp0, 0, none⟩) ∧ St [Lp0, Lp0_0] w o w' o' ∧ Ft (Bx bp0 26 [.slice A0 (r.b).length c0]) w' o' Lp0 ∧ Ft (Own (encInt .u8) 5 (.slice A0 (r.b).length c0) (r.b)) w' o' Lp0_0 ∧ (r.b).length ≤ c0) := by
  refine x_enterQ (vs := [.pointer (some ⟨bp0, 0, none⟩), .slice Ap1 (p1).length cp1]) Try.func11 rfl rfl rfl fun a hk => ?_
  obtain ⟨oi, hs0, h0, h1, hob, hoz, hoa⟩ := St.startM2 w o (m := 2) hd0 rfl
  have hs := hs0 [1, 2]
  have hom := lab_in hob (MM := [1, 2]) (by decide)
  have f900 := h1 1 2 hp0_0 rfl rfl
  have f919 := h1 0 1 hp0 rfl rfl
  have f920 := h0 _ _ hd1 hp1
  have fxm : Ft (MK []) w oi 3 := Ft.of_all (fun _ => MK.nil _) _ _ _
  clear h0 h1 hs0
  rw [num_Out_Num] at H
  refine x_seq ?_
  refine wpIn_region_lit ?_
  refine x_op hk rfl ?_
  refine op_box (o := oi) (t := 30) (v := .pointer (some ⟨bp0, 0, none⟩)) (cs := [.pointer (some ⟨bp0, 0, none⟩)]) hk rfl rfl 4 fun bx4 w1 o2 st3 f5 => ?_
  replace f900 := f900.st st3 (by decide)
  replace f919 := f919.st st3 (by decide)
  replace f920 := f920.st st3 (by decide)
  replace fxm := fxm.st st3 (by decide)
  replace hs := hs.locM st3 (by decide) hom
  have hk := hk.put 2 (.pointer (some ⟨bx4, 0, none⟩)) rfl
  refine x_run tab hk (k := 1) (lv := []) (ks := [1, 2]) (e' := [(1, .slice Ap1 (p1).length cp1), (2, .pointer (some ⟨bx4, 0, none⟩))]) rfl trivial fun a hk => ?_
  refine wpListIn_nil ?_
  refine then_n ?_
  refine x_mid (fun a_ w_ => ∃ o5357 : Nat → Nat, ∃ ds5358 : List Deferred, ∃ A5359 : Option Addr, ∃ c5360 : Nat, ∃ l5361 : List Int, KnD 29 ds5358 a_ [(2, .pointer (some ⟨bx4, 0, none⟩))] ∧ St [1, 2] w oi w_ o5357 ∧ Ft (Bx bx4 30 [.pointer (some ⟨bp0, 0, none⟩)]) w_ o5357 298 ∧ Ft (Own (encInt .u8) 5 (.slice A5359 (l5361).length c5360) l5361) w_ o5357 2 ∧ Ft (Bx bp0 26 [.slice A5359 (l5361).length c5360]) w_ o5357 1 ∧ Ft (MK ds5358) w_ o5357 3 ∧ (l5361).length ≤ c5360 ∧ num_Out_Num_j1 l5361 = some r) ?_ ?_
  rotate_left
  · rintro a w5364 ⟨o5357, ds5358, A5359, c5360, l5361, hk, hs, f5, f5362, f919, fxm, hc5363, H⟩
    rw [num_Out_Num_j1] at H
    refine x_seq ?_
    refine wpIn_region_lit ?_
    refine x_run tab hk (k := 2) (lv := [.pointer (some ⟨bp0, 0, none⟩)]) (ks := [4]) (e' := [(4, .pointer (some ⟨bp0, 0, none⟩))]) rfl ⟨(load1 tab rfl ((Bx.cell f5.now 0).trans rfl)), trivial⟩ fun a hk => ?_
    refine wpListIn_nil ?_
    refine then_n ?_
    refine wpIn_ret ?_
    refine x_retQ hk fxm fun w5365 a st5366 hk => ?_
    replace f5362 := f5362.st st5366 (by decide)
    replace f919 := f919.st st5366 (by decide)
    replace hs := hs.locM st5366 (by decide) hom
    obtain rfl := Option.some.inj H
    exact x_retG hk (rs := [.tmp 4]) (vs := [.pointer (some ⟨bp0, 0, none⟩)]) rfl ⟨rfl, trivial⟩ ⟨fun b_ => if b_ < w.heap.size then o b_ else (fun l_ => if l_ = 1 then Lp0 else if l_ = 2 then Lp0_0 else 0) (o5357 b_), A5359, c5360, rfl, hs.closeM hoz (by decide) (fun l_ => if l_ = 1 then Lp0 else if l_ = 2 then Lp0_0 else 0), hs.closeM_ft (o := o) (ρ := fun l_ => if l_ = 1 then Lp0 else if l_ = 2 then Lp0_0 else 0) f919 (lab_at hoa (i := 0) rfl) rfl, hs.closeM_ft (o := o) (ρ := fun l_ => if l_ = 1 then Lp0 else if l_ = 2 then Lp0_0 else 0) f5362 (lab_at hoa (i := 1) rfl) rfl, hc5363⟩
  refine x_seq ?_
  refine wpIn_region_lit ?_
  refine x_run tab hk (k := 3) (lv := []) (ks := [2, 8, 9, 10]) (e' := [(2, .pointer (some ⟨bx4, 0, none⟩)), (8, .slice Ap1 (p1).length cp1), (9, .int .i64 ((p1).length : Int)), (10, .int .i64 0)]) rfl trivial fun a hk => ?_
  refine wpListIn_nil ?_
  refine then_n ?_
  refine wpIn_block ?_
  refine x_loop (fun j_ a_ w_ => ∃ o7144 : Nat → Nat, ∃ ds7145 : List Deferred, ∃ A7146 : Option Addr, ∃ c7147 : Nat, ∃ l7148 : List Int, ∃ A7151 : Option Addr, ∃ c7152 : Nat, ∃ x7155 : Int, KnD 29 ds7145 a_ [(2, .pointer (some ⟨bx4, 0, none⟩)), (8, .slice A7151 (p1).length c7152), (9, .int .i64 ((p1).length : Int)), (10, .int .i64 x7155)] ∧ St [1, 2] w oi w_ o7144 ∧ Ft (Bx bx4 30 [.pointer (some ⟨bp0, 0, none⟩)]) w_ o7144 397 ∧ Ft (Own (encInt .u8) 5 (.slice A7146 (l7148).length c7147) l7148) w_ o7144 2 ∧ Ft (RdC (encInt .i64) A7151 p1) w_ o7144 0 ∧ Ft (Bx bp0 26 [.slice A7146 (l7148).length c7147]) w_ o7144 1 ∧ Ft (MK ds7145) w_ o7144 3 ∧ (l7148).length ≤ c7147 ∧ (p1).length ≤ c7152 ∧ num_Out_Num_l2 K p1 j_ l7148 x7155 = some r) (k := K) ⟨(fun b_ => (fun l_ => if l_ = 4 then 397 else l_) (o2 b_)), [], Ap0_0, cp0_0, p0.b, Ap1, cp1, 0, (by exact Kn.pick (ks := [2, 8, 9, 10]) hk rfl), (hs.relabM hob (fun l_ => if l_ = 4 then 397 else l_) (by decide)), (f5.relab (fun l_ => if l_ = 4 then 397 else l_) rfl), (f900.relab (fun l_ => if l_ = 4 then 397 else l_) rfl), (f920.relab (fun l_ => if l_ = 4 then 397 else l_) rfl), (f919.relab (fun l_ => if l_ = 4 then 397 else l_) rfl), (fxm.relab (fun l_ => if l_ = 4 then 397 else l_) rfl), hcp0_0, hcp1, H⟩ (by rintro _ _ ⟨_, _, _, _, _, _, _, _, _, _, _, _, _, _, _, _, _, H_⟩; exact absurd (show (none : Option T25) = some r from H_) (by simp)) ?_
  rintro k8930 a w8929 ⟨o7144, ds7145, A7146, c7147, l7148, A7151, c7152, x7155, hk, hs, f5, f7149, f7153, f919, fxm, hc7150, hc7154, H⟩
  rw [num_Out_Num_l2] at H
  obtain ⟨lp8931, hlp8932⟩ : ∃ lp_, lp_ = num_Out_Num_l2 K p1 k8930 := ⟨_, rfl⟩
  rw [← hlp8932] at H
  refine x_seq ?_
  refine wpIn_region_lit ?_
  refine x_run tab hk (k := 1) (lv := []) (ks := [2, 8, 9, 10, 11]) (e' := [(2, .pointer (some ⟨bx4, 0, none⟩)), (8, .slice A7151 (p1).length c7152), (9, .int .i64 ((p1).length : Int)), (10, .int .i64 x7155), (11, .bool (decide (x7155 < ((p1).length : Int))))]) rfl trivial fun a hk => ?_
  refine wpListIn_nil ?_
  refine then_n ?_
  refine x_seq ?_
  cases b8933 : (decide (x7155 < ((p1).length : Int)))
  · rw [b8933] at hk H
    replace H := bifF H
    refine x_if hk (b := false) rfl ?_
    refine (show Code.wpIn _ _ _ _ _ _ _ from ?_)
    refine wpIn_exit ?_
    refine then_x ?_
    refine then_x ?_
    refine blk_x ?_
    refine then_n ?_
    exact ⟨(fun b_ => (fun l_ => if l_ = 397 then 298 else l_) (o7144 b_)), ds7145, A7146, c7147, l7148, (by exact Kn.pick (ks := [2]) hk rfl), (hs.relabM hob (fun l_ => if l_ = 397 then 298 else l_) (by decide)), (f5.relab (fun l_ => if l_ = 397 then 298 else l_) rfl), (f7149.relab (fun l_ => if l_ = 397 then 298 else l_) rfl), (f919.relab (fun l_ => if l_ = 397 then 298 else l_) rfl), (fxm.relab (fun l_ => if l_ = 397 then 298 else l_) rfl), hc7150, H⟩
  · rw [b8933] at hk H
    replace H := bifT H
    refine x_if hk (b := true) rfl ?_
    refine (show Code.wpIn _ _ _ _ _ _ _ from ?_)
    refine wpIn_skip ?_
    refine then_n ?_
    refine x_mid (fun a_ w_ => ∃ o9822 : Nat → Nat, ∃ ds9823 : List Deferred, ∃ A9824 : Option Addr, ∃ c9825 : Nat, ∃ l9826 : List Int, ∃ A9829 : Option Addr, ∃ c9830 : Nat, KnD 29 ds9823 a_ [(2, .pointer (some ⟨bx4, 0, none⟩)), (8, .slice A9829 (p1).length c9830), (9, .int .i64 ((p1).length : Int)), (10, .int .i64 x7155)] ∧ St [1, 2] w oi w_ o9822 ∧ Ft (Bx bx4 30 [.pointer (some ⟨bp0, 0, none⟩)]) w_ o9822 543 ∧ Ft (Bx bp0 26 [.slice A9824 (l9826).length c9825]) w_ o9822 1 ∧ Ft (Own (encInt .u8) 5 (.slice A9824 (l9826).length c9825) l9826) w_ o9822 2 ∧ Ft (RdC (encInt .i64) A9829 p1) w_ o9822 0 ∧ Ft (MK ds9823) w_ o9822 3 ∧ (l9826).length ≤ c9825 ∧ (p1).length ≤ c9830 ∧ num_Out_Num_j3 x7155 lp8931 l9826 = some r) ?_ ?_
    rotate_left
    · rintro a w9833 ⟨o9822, ds9823, A9824, c9825, l9826, A9829, c9830, hk, hs, f5, f919, f9827, f9831, fxm, hc9828, hc9832, H⟩
      rw [num_Out_Num_j3] at H
      refine wpIn_region_lit ?_
      refine x_run tab hk (k := 2) (lv := []) (ks := [2, 8, 9, 10]) (e' := [(2, .pointer (some ⟨bx4, 0, none⟩)), (8, .slice A9829 (p1).length c9830), (9, .int .i64 ((p1).length : Int)), (10, .int .i64 (IntKind.wrap .i64 (x7155 + 1)))]) rfl trivial fun a hk => ?_
      refine wpListIn_nil ?_
      refine then_n ?_
      exact ⟨k8930, Nat.le_refl _, (fun b_ => (fun l_ => if l_ = 543 then 397 else l_) (o9822 b_)), ds9823, A9824, c9825, l9826, A9829, c9830, (IntKind.wrap .i64 (x7155 + 1)), (by exact Kn.pick (ks := [2, 8, 9, 10]) hk rfl), (hs.relabM hob (fun l_ => if l_ = 543 then 397 else l_) (by decide)), (f5.relab (fun l_ => if l_ = 543 then 397 else l_) rfl), (f9827.relab (fun l_ => if l_ = 543 then 397 else l_) rfl), (f9831.relab (fun l_ => if l_ = 543 then 397 else l_) rfl), (f919.relab (fun l_ => if l_ = 543 then 397 else l_) rfl), (fxm.relab (fun l_ => if l_ = 543 then 397 else l_) rfl), hc9828, hc9832, (hlp8932 ▸ H)⟩
    refine wpIn_block ?_
    refine x_seq ?_
    refine wpIn_region_lit ?_
    obtain ⟨q9834, H⟩ := ifS H
    obtain ⟨ad9835, hAad9835⟩ := RdC.addr f7153.now q9834
    subst hAad9835
    refine x_run tab hk (k := 3) (lv := [.int .i64 (rdD 0 p1 x7155)]) (ks := [2, 6, 8, 9, 10]) (e' := [(2, .pointer (some ⟨bx4, 0, none⟩)), (6, .int .i64 (rdD 0 p1 x7155)), (8, .slice (some ad9835) (p1).length c7152), (9, .int .i64 ((p1).length : Int)), (10, .int .i64 x7155)]) rfl ⟨q9834, (load1 tab rfl (RdC.at0 (E := (encInt .i64)) (d := 0) (i := x7155) f7153.now q9834 rfl)), trivial⟩ fun a hk => ?_
    refine wpListIn_nil ?_
    refine then_n ?_
    refine x_seq ?_
    refine wpIn_region_lit ?_
    refine x_run tab hk (k := 1) (lv := []) (ks := [2, 8, 9, 10, 14]) (e' := [(2, .pointer (some ⟨bx4, 0, none⟩)), (8, .slice (some ad9835) (p1).length c7152), (9, .int .i64 ((p1).length : Int)), (10, .int .i64 x7155), (14, .int .i64 (rdD 0 p1 x7155))]) rfl trivial fun a hk => ?_
    refine x_op hk rfl ?_
    obtain ⟨t9839, hc9840, H⟩ := bindS H
    refine op_call hk ent_31 (vs := [.int .i64 (rdD 0 p1 x7155)]) rfl (num_digits_calls (rdD 0 p1 x7155) _ o7144  544  _ hc9840) ?_
    rintro _ w9841 ⟨o9842, bx9844, rfl, st9843, f9845⟩
    replace f5 := f5.st st9843 (by decide)
    replace f7149 := f7149.st st9843 (by decide)
    replace f7153 := f7153.st st9843 (by decide)
    replace f919 := f919.st st9843 (by decide)
    replace fxm := fxm.st st9843 (by decide)
    replace hs := hs.locM st9843 (by decide) hom
    have hk := hk.put 15 (.func (.func 32) #[] #[.pointer (some ⟨bx9844, 0, none⟩)]) rfl
    refine wpListIn_nil ?_
    refine then_n ?_
    refine wpIn_block ?_
    obtain ⟨ys9846, hy9847, H⟩ := bindS H
    refine x_range 3 545 546 [1, 2] hk rfl ent_32 (num_digits_1_iter K bx9844 t9839 _ _ 544 f9845 (by decide) _ hy9847) fxm (fun _ _ _ h_ => by subst h_; rfl) rfl rfl (fun rr_ w_ o10140 => ∃ A10141 : Option Addr, ∃ c10142 : Nat, ∃ l10143 : List Int, St [1, 2] w oi w_ o10140 ∧ Ft (Own (encInt .u8) 5 (.slice A10141 (l10143).length c10142) l10143) w_ o10140 2 ∧ Ft (Bx bx4 30 [.pointer (some ⟨bp0, 0, none⟩)]) w_ o10140 397 ∧ Ft (RdC (encInt .i64) (some ad9835) p1) w_ o10140 0 ∧ Ft (Bx bp0 26 [.slice A10141 (l10143).length c10142]) w_ o10140 1 ∧ (l10143).length ≤ c10142 ∧ num_Out_Num_r4 x7155 lp8931 rr_ l10143 = some r) (fun c_ w_ o10424 => False) ?_ ?_ ⟨A7146, c7147, l7148, hs, f7149, f5, f7153, f919, hc7150, H⟩ ?_ ?_ ?_
    · rintro rr_ w_ _ _ _ ⟨A10141, c10142, l10143, hs, f10144, f5, f7153, f919, hc10145, H⟩ st_
      exact ⟨A10141, c10142, l10143, hs.locM st_ (by decide) hom, f10144.st st_ (by decide), f5.st st_ (by decide), f7153.st st_ (by decide), f919.st st_ (by decide), hc10145, H⟩
    · exact fun _ _ _ _ _ h_ _ => h_.elim
    · rintro R0_ R1_ lr_ x9848 vs_ rest9849 w9850 o9851 ⟨A10141, c10142, l10143, hsO, f10144, f5, f7153, f919, hc10145, H⟩ hE fxr a hk
      obtain rfl : vs_ = [.int .u8 x9848] := hE w9850
      obtain ⟨o9852, hs0, hfl, hbB, hoi⟩ := St.startB w9850 o9851 561
      have hs := hs0 [545, 1, 2]
      replace f10144 := hfl f10144 rfl
      replace f5 := hfl f5 rfl
      replace f7153 := hfl f7153 rfl
      replace f919 := hfl f919 rfl
      replace fxr := hfl fxr rfl
      replace hk : Kn 29 a [(2, .pointer (some ⟨bx4, 0, none⟩)), (8, .slice (some ad9835) (p1).length c7152), (9, .int .i64 ((p1).length : Int)), (10, .int .i64 x7155), (16, .int .u8 x9848)] := Kn.pick (ks := [2, 8, 9, 10, 16]) hk rfl
      rw [num_Out_Num_r4] at H
      obtain ⟨lp9853, hlp9854⟩ : ∃ lp_, lp_ = num_Out_Num_r4 x7155 lp8931 rest9849 := ⟨_, rfl⟩
      rw [← hlp9854] at H
      refine wpIn_region_lit ?_
      refine x_run tab hk (k := 1) (lv := []) (ks := [2, 7, 8, 9, 10]) (e' := [(2, .pointer (some ⟨bx4, 0, none⟩)), (7, .int .u8 x9848), (8, .slice (some ad9835) (p1).length c7152), (9, .int .i64 ((p1).length : Int)), (10, .int .i64 x7155)]) rfl trivial fun a hk => ?_
      refine wpListIn_nil ?_
      refine then_n ?_
      refine ⟨_, fxr, fun w10427 st10428 fxr => ?_⟩
      replace f10144 := f10144.st st10428 (by decide)
      replace f5 := f5.st st10428 (by decide)
      replace f7153 := f7153.st st10428 (by decide)
      replace f919 := f919.st st10428 (by decide)
      replace hs := hs.locB st10428 rfl hbB
      refine wpIn_block ?_
      refine x_cut (fun a_ w_ => ∃ o10577 : Nat → Nat, ∃ A10578 : Option Addr, ∃ c10579 : Nat, Kn 29 a_ [(2, .pointer (some ⟨bx4, 0, none⟩)), (8, .slice (some ad9835) (p1).length c7152), (9, .int .i64 ((p1).length : Int)), (10, .int .i64 x7155)] ∧ St [545, 1, 2] w9850 o9852 w_ o10577 ∧ Ft (Own (encInt .u8) 5 (.slice A10578 ((l10143 ++ ([x9848] : List Int))).length c10579) (l10143 ++ ([x9848] : List Int))) w_ o10577 2 ∧ Ft (Bx bx4 30 [.pointer (some ⟨bp0, 0, none⟩)]) w_ o10577 397 ∧ Ft (RdC (encInt .i64) (some ad9835) p1) w_ o10577 0 ∧ Ft (Bx bp0 26 [.slice A10578 ((l10143 ++ ([x9848] : List Int))).length c10579]) w_ o10577 1 ∧ Ft (R1_) w_ o10577 545 ∧ ((l10143 ++ ([x9848] : List Int))).length ≤ c10579 ∧ num_Out_Num_j5 x9848 l10143 lp9853 = some r) ?_ ?_
      rotate_left
      · rintro a w10582 ⟨o10577, A10578, c10579, hk, hs, f10580, f5, f7153, f919, fxr, hc10581, H⟩
        rw [num_Out_Num_j5] at H
        refine blk_n ?_
        have hq10583 := hs.closeB hoi hbB rfl (fun l_ => if l_ = 1 then 1 else if l_ = 2 then 2 else if l_ = 397 then 397 else 0)
        exact ⟨_, hq10583, fxr.now, ⟨A10578, c10579, (l10143 ++ ([x9848] : List Int)), (hsO.locM hq10583 (by decide) hom), (hs.closeM_ft (o := o9851) (ρ := (fun l_ => if l_ = 1 then 1 else if l_ = 2 then 2 else if l_ = 397 then 397 else 0)) f10580 (lab_atB hoi rfl) rfl), (hs.closeM_ft (o := o9851) (ρ := (fun l_ => if l_ = 1 then 1 else if l_ = 2 then 2 else if l_ = 397 then 397 else 0)) f5 (lab_atB hoi rfl) rfl), (hs.closeM_ft (o := o9851) (ρ := (fun l_ => if l_ = 1 then 1 else if l_ = 2 then 2 else if l_ = 397 then 397 else 0)) f7153 (lab_atB hoi rfl) rfl), (hs.closeM_ft (o := o9851) (ρ := (fun l_ => if l_ = 1 then 1 else if l_ = 2 then 2 else if l_ = 397 then 397 else 0)) f919 (lab_atB hoi rfl) rfl), hc10581, (hlp9854 ▸ H)⟩⟩
      obtain ⟨q10610, H⟩ := ifS H
      refine xd_begin (o := o9852) (fun W_ => (Bx bx4 30 [.pointer (some ⟨bp0, 0, none⟩)]) W_ ∧ True) mixed rfl rfl fun w10650 st10651 => ?_
      replace f10144 := f10144.st st10651 (by decide)
      replace f5 := f5.st st10651 (by decide)
      replace f7153 := f7153.st st10651 (by decide)
      replace f919 := f919.st st10651 (by decide)
      replace fxr := fxr.st st10651 (by decide)
      replace hs := hs.locB st10651 rfl hbB
      refine xd_abs fun G hG => ?_
      have N10657 : ∀ (a_ : Act) (w_ : World), (∃ o10655 : Nat → Nat, Kn 29 a_ [(2, .pointer (some ⟨bx4, 0, none⟩)), (8, .slice (some ad9835) (p1).length c7152), (9, .int .i64 ((p1).length : Int)), (10, .int .i64 x7155), (17, .pointer (some ⟨bp0, 0, none⟩)), (21, .slice A10141 (l10143).length c10142), (22, .int .u8 x9848)] ∧ St [545, 1, 2] w9850 o9852 w_ o10655 ∧ Ft (Own (encInt .u8) 5 (.slice A10141 (l10143).length c10142) l10143) w_ o10655 2 ∧ Ft (Bx bx4 30 [.pointer (some ⟨bp0, 0, none⟩)]) w_ o10655 397 ∧ Ft (RdC (encInt .i64) (some ad9835) p1) w_ o10655 0 ∧ Ft (Bx bp0 26 [.slice A10141 (l10143).length c10142]) w_ o10655 1 ∧ Ft (R1_) w_ o10655 545) → G 5 #[true, true, true, true, true, true, false, false, false, false, false] a_ w_ := by
        rintro a w10656 ⟨o10655, hk, hs, f10144, f5, f7153, f919, fxr⟩
        refine xd_of hG ?_
        refine xd_op hk (i := 6) (by kernel_rfl) rfl rfl ?_
        refine op_slice (o := o10655) tab hk (vs := [.int .u8 x9848]) (cs := [.int .u8 x9848]) rfl rfl rfl rfl rfl rfl rfl rfl rfl 589 fun bx10661 w10658 o10659 st10660 f10662 => ?_
        replace f10144 := f10144.st st10660 (by decide)
        replace f5 := f5.st st10660 (by decide)
        replace f7153 := f7153.st st10660 (by decide)
        replace f919 := f919.st st10660 (by decide)
        replace fxr := fxr.st st10660 (by decide)
        replace hs := hs.locB st10660 rfl hbB
        have f10663 : Ft (Own (encInt .u8) 5 (.slice (some ⟨bx10661, 0, none⟩) (([x9848] : List Int)).length 1) ([x9848] : List Int)) w10658 o10659 589 := f10662.imp fun _ h_ => Own.of_box h_ rfl (by simp)
        have hk := hk.put 23 (.slice (some ⟨bx10661, 0, none⟩) (([x9848] : List Int)).length 1) rfl
        refine ⟨.inr ⟨f5.now, trivial⟩, ?_⟩
        refine xd_op hk (i := 7) (by kernel_rfl) rfl rfl ?_
        refine op_append (o := o10659) (E := (encInt .u8)) (xs := l10143) (ys := ([x9848] : List Int)) tab hk rfl rfl rfl rfl rfl rfl rfl f10144 (Own.rd f10663.now) q10610 fun A10667 c10668 w10664 o10665 st10666 f10669 hc10670 => ?_
        replace f10663 := f10663.st st10666 (by decide)
        replace f5 := f5.st st10666 (by decide)
        replace f7153 := f7153.st st10666 (by decide)
        replace f919 := f919.st st10666 (by decide)
        replace fxr := fxr.st st10666 (by decide)
        replace hs := hs.locB st10666 rfl hbB
        have hk := hk.put 24 (.slice A10667 ((l10143 ++ ([x9848] : List Int))).length c10668) rfl
        refine ⟨.inr ⟨f5.now, trivial⟩, ?_⟩
        refine xd_take tab hk (k := 1) (is := [8, 9]) (ls' := #[true, true, true, true, true, true, true, true, true, true, false]) (lv := []) (ks := [2, 8, 9, 10, 24, 26]) (e' := [(2, .pointer (some ⟨bx4, 0, none⟩)), (8, .slice (some ad9835) (p1).length c7152), (9, .int .i64 ((p1).length : Int)), (10, .int .i64 x7155), (24, .slice A10667 ((l10143 ++ ([x9848] : List Int))).length c10668), (26, .pointer (some ⟨bp0, 0, none⟩))]) (by kernel_rfl) rfl rfl (by kernel_rfl) (np_then (np_blk np_RQ)) ⟨f5.now, trivial⟩ (fun W_ hS => trivial) fun a hk => ?_
        refine xd_op hk (i := 10) (by kernel_rfl) rfl rfl ?_
        refine op_store tab hk (t := 24) (v := .slice A10667 ((l10143 ++ ([x9848] : List Int))).length c10668) (b := bp0) (k := 0) (cs' := [.slice A10667 ((l10143 ++ ([x9848] : List Int))).length c10668]) rfl rfl rfl rfl rfl rfl f919 rfl rfl fun w10671 o10672 st10673 f919_ => ?_
        replace f10663 := f10663.st st10673 (by decide)
        replace f10669 := f10669.st st10673 (by decide)
        replace f5 := f5.st st10673 (by decide)
        replace f7153 := f7153.st st10673 (by decide)
        replace fxr := fxr.st st10673 (by decide)
        replace hs := hs.locB st10673 rfl hbB
        replace f919 := f919_
        refine ⟨.inr ⟨f5.now, trivial⟩, ?_⟩
        refine xd_done (by kernel_rfl) ?_
        refine then_n ?_
        exact ⟨o10672, A10667, c10668, (by exact Kn.pick (ks := [2, 8, 9, 10]) hk rfl), hs, f10669, f5, f7153, f919, fxr, hc10670, H⟩
      have N10695 : ∀ (a_ : Act) (w_ : World), (∃ o10689 : Nat → Nat, ∃ A10690 : Option Addr, ∃ c10691 : Nat, Kn 29 a_ [(2, .pointer (some ⟨bx4, 0, none⟩)), (8, .slice (some ad9835) (p1).length c7152), (9, .int .i64 ((p1).length : Int)), (10, .int .i64 x7155), (17, .pointer (some ⟨bp0, 0, none⟩)), (20, .pointer (some ⟨bp0, 0, none⟩)), (23, .slice A10690 (([x9848] : List Int)).length c10691)] ∧ St [545, 1, 2] w9850 o9852 w_ o10689 ∧ Ft (Own (encInt .u8) 5 (.slice A10141 (l10143).length c10142) l10143) w_ o10689 2 ∧ Ft (Own (encInt .u8) 5 (.slice A10690 (([x9848] : List Int)).length c10691) ([x9848] : List Int)) w_ o10689 591 ∧ Ft (Bx bx4 30 [.pointer (some ⟨bp0, 0, none⟩)]) w_ o10689 397 ∧ Ft (RdC (encInt .i64) (some ad9835) p1) w_ o10689 0 ∧ Ft (Bx bp0 26 [.slice A10141 (l10143).length c10142]) w_ o10689 1 ∧ Ft (R1_) w_ o10689 545 ∧ (([x9848] : List Int)).length ≤ c10691) → G 5 #[true, true, true, true, false, true, true, false, false, false, false] a_ w_ := by
        rintro a w10694 ⟨o10689, A10690, c10691, hk, hs, f10144, f10692, f5, f7153, f919, fxr, hc10693⟩
        refine xd_of hG ?_
        refine xd_op hk (i := 4) (by kernel_rfl) rfl rfl ?_
        refine op_quiet tab hk (lv := [.slice A10141 (l10143).length c10142]) (v := .slice A10141 (l10143).length c10142) rfl ⟨(load1 tab rfl ((Bx.cell f919.now 0).trans rfl)), trivial⟩ ?_
        have hk := hk.put 21 (.slice A10141 (l10143).length c10142) rfl
        refine ⟨.inr ⟨f5.now, trivial⟩, ?_⟩
        refine xd_op hk (i := 7) (by kernel_rfl) rfl rfl ?_
        refine op_append (o := o10689) (E := (encInt .u8)) (xs := l10143) (ys := ([x9848] : List Int)) tab hk rfl rfl rfl rfl rfl rfl rfl f10144 (Own.rd f10692.now) q10610 fun A10699 c10700 w10696 o10697 st10698 f10701 hc10702 => ?_
        replace f10692 := f10692.st st10698 (by decide)
        replace f5 := f5.st st10698 (by decide)
        replace f7153 := f7153.st st10698 (by decide)
        replace f919 := f919.st st10698 (by decide)
        replace fxr := fxr.st st10698 (by decide)
        replace hs := hs.locB st10698 rfl hbB
        have hk := hk.put 24 (.slice A10699 ((l10143 ++ ([x9848] : List Int))).length c10700) rfl
        refine ⟨.inr ⟨f5.now, trivial⟩, ?_⟩
        refine xd_take tab hk (k := 1) (is := [8, 9]) (ls' := #[true, true, true, true, true, true, true, true, true, true, false]) (lv := []) (ks := [2, 8, 9, 10, 24, 26]) (e' := [(2, .pointer (some ⟨bx4, 0, none⟩)), (8, .slice (some ad9835) (p1).length c7152), (9, .int .i64 ((p1).length : Int)), (10, .int .i64 x7155), (24, .slice A10699 ((l10143 ++ ([x9848] : List Int))).length c10700), (26, .pointer (some ⟨bp0, 0, none⟩))]) (by kernel_rfl) rfl rfl (by kernel_rfl) (np_then (np_blk np_RQ)) ⟨f5.now, trivial⟩ (fun W_ hS => trivial) fun a hk => ?_
        refine xd_op hk (i := 10) (by kernel_rfl) rfl rfl ?_
        refine op_store tab hk (t := 24) (v := .slice A10699 ((l10143 ++ ([x9848] : List Int))).length c10700) (b := bp0) (k := 0) (cs' := [.slice A10699 ((l10143 ++ ([x9848] : List Int))).length c10700]) rfl rfl rfl rfl rfl rfl f919 rfl rfl fun w10703 o10704 st10705 f919_ => ?_
        replace f10692 := f10692.st st10705 (by decide)
        replace f10701 := f10701.st st10705 (by decide)
        replace f5 := f5.st st10705 (by decide)
        replace f7153 := f7153.st st10705 (by decide)
        replace fxr := fxr.st st10705 (by decide)
        replace hs := hs.locB st10705 rfl hbB
        replace f919 := f919_
        refine ⟨.inr ⟨f5.now, trivial⟩, ?_⟩
        refine xd_done (by kernel_rfl) ?_
        refine then_n ?_
        exact ⟨o10704, A10699, c10700, (by exact Kn.pick (ks := [2, 8, 9, 10]) hk rfl), hs, f10701, f5, f7153, f919, fxr, hc10702, H⟩
      refine xd_of hG ?_
      refine xd_take tab hk (k := 6) (is := [0, 1, 2, 3, 5]) (ls' := #[true, true, true, true, false, true, false, false, false, false, false]) (lv := [.pointer (some ⟨bp0, 0, none⟩), .pointer (some ⟨bp0, 0, none⟩)]) (ks := [2, 8, 9, 10, 17, 20, 22]) (e' := [(2, .pointer (some ⟨bx4, 0, none⟩)), (8, .slice (some ad9835) (p1).length c7152), (9, .int .i64 ((p1).length : Int)), (10, .int .i64 x7155), (17, .pointer (some ⟨bp0, 0, none⟩)), (20, .pointer (some ⟨bp0, 0, none⟩)), (22, .int .u8 x9848)]) (by kernel_rfl) rfl rfl (by kernel_rfl) (np_then (np_blk np_RQ)) ⟨f5.now, trivial⟩ (fun W_ hS => ⟨(load1 tab rfl ((Bx.cell hS.1 0).trans rfl)), (load1 tab rfl ((Bx.cell hS.1 0).trans rfl)), trivial⟩) fun a hk => ?_
      refine xd_each [4, 6] (by kernel_rfl) rfl ⟨?_, ?_, trivial⟩
      · refine xd_one hk rfl rfl ?_
        refine op_quiet tab hk (lv := [.slice A10141 (l10143).length c10142]) (v := .slice A10141 (l10143).length c10142) rfl ⟨(load1 tab rfl ((Bx.cell f919.now 0).trans rfl)), trivial⟩ ?_
        have hk := hk.put 21 (.slice A10141 (l10143).length c10142) rfl
        refine ⟨.inr ⟨f5.now, trivial⟩, ?_⟩
        exact xd_to hG rfl (N10657 _ _ ⟨o9852, (by exact Kn.pick (ks := [2, 8, 9, 10, 17, 21, 22]) hk rfl), hs, f10144, f5, f7153, f919, fxr⟩)
      · refine xd_one hk rfl rfl ?_
        refine op_slice (o := o9852) tab hk (vs := [.int .u8 x9848]) (cs := [.int .u8 x9848]) rfl rfl rfl rfl rfl rfl rfl rfl rfl 590 fun bx10677 w10674 o10675 st10676 f10678 => ?_
        replace f10144 := f10144.st st10676 (by decide)
        replace f5 := f5.st st10676 (by decide)
        replace f7153 := f7153.st st10676 (by decide)
        replace f919 := f919.st st10676 (by decide)
        replace fxr := fxr.st st10676 (by decide)
        replace hs := hs.locB st10676 rfl hbB
        have f10679 : Ft (Own (encInt .u8) 5 (.slice (some ⟨bx10677, 0, none⟩) (([x9848] : List Int)).length 1) ([x9848] : List Int)) w10674 o10675 590 := f10678.imp fun _ h_ => Own.of_box h_ rfl (by simp)
        have hk := hk.put 23 (.slice (some ⟨bx10677, 0, none⟩) (([x9848] : List Int)).length 1) rfl
        refine ⟨.inr ⟨f5.now, trivial⟩, ?_⟩
        exact xd_to hG rfl (N10695 _ _ ⟨(fun b_ => (fun l_ => if l_ = 590 then 591 else l_) (o10675 b_)), (some ⟨bx10677, 0, none⟩), 1, (by exact Kn.pick (ks := [2, 8, 9, 10, 17, 20, 23]) hk rfl), (hs.relabM hbB (fun l_ => if l_ = 590 then 591 else l_) (by intro l_ hl_; (try dsimp only); (repeat' split) <;> omega)), (f10144.relab (fun l_ => if l_ = 590 then 591 else l_) rfl), (f10679.relab (fun l_ => if l_ = 590 then 591 else l_) rfl), (f5.relab (fun l_ => if l_ = 590 then 591 else l_) rfl), (f7153.relab (fun l_ => if l_ = 590 then 591 else l_) rfl), (f919.relab (fun l_ => if l_ = 590 then 591 else l_) rfl), (fxr.relab (fun l_ => if l_ = 590 then 591 else l_) rfl), (Nat.le_refl _)⟩)
    · rintro ds10426 w10425 o10140 a hk fxm ⟨A10141, c10142, l10143, hs, f10144, f5, f7153, f919, hc10145, H⟩
      rw [num_Out_Num_r4] at H
      refine blk_n ?_
      refine blk_n ?_
      refine then_n ?_
      exact ⟨(fun b_ => (fun l_ => if l_ = 397 then 543 else l_) (o10140 b_)), ds10426, A10141, c10142, l10143, (some ad9835), c7152, (by exact Kn.pick (ks := [2, 8, 9, 10]) hk rfl), (hs.relabM hob (fun l_ => if l_ = 397 then 543 else l_) (by decide)), (f5.relab (fun l_ => if l_ = 397 then 543 else l_) rfl), (f919.relab (fun l_ => if l_ = 397 then 543 else l_) rfl), (f10144.relab (fun l_ => if l_ = 397 then 543 else l_) rfl), (f7153.relab (fun l_ => if l_ = 397 then 543 else l_) rfl), (fxm.relab (fun l_ => if l_ = 397 then 543 else l_) rfl), hc10145, hc7154, H⟩
    · exact fun _ _ _ _ _ _ _ h_ => h_.elim

/-! (*tidewrack/num.Out).Raw -/
theorem num_Out_Raw_calls (K : Nat) (bp0 : Nat) (Ap0_0 : Option Addr) (cp0_0 : Nat) (p0 : T25) (Ap1 : Option Addr) (cp1 : Nat) (p1 : List ByteArray) (w : World) (o : Nat → Nat) (Lp0 : Nat) (hp0 : Ft (Bx bp0 26 [.slice Ap0_0 (p0.b).length cp0_0]) w o Lp0) (Lp0_0 : Nat) (hp0_0 : Ft (Own (encInt .u8) 5 (.slice Ap0_0 (p0.b).length cp0_0) p0.b) w o Lp0_0) (hcp0_0 : (p0.b).length ≤ cp0_0) (Lp1 : Nat) (hp1 : Ft (RdC encStr Ap1 p1) w o Lp1) (hcp1 : (p1).length ≤ cp1) (hd0 : [Lp0, Lp0_0].Nodup) (hd1 : Lp1 ∉ [Lp0, Lp0_0]) (r : T25) (H : num_Out_Raw K p0 p1 = some r) :
    Calls Try.prog 16 #[.pointer (some ⟨bp0, 0, none⟩), .slice Ap1 (p1).length cp1] w (Ret fun v_ w' => ∃ o' : Nat → Nat, ∃ A0 : Option Addr, ∃ c0 : Nat, v_ = .pointer (some ⟨bp0, 0, none⟩) ∧ St [Lp0, Lp0_0] w o w' o' ∧ Ft (Bx bp0 26 [.slice A0 (r.b).length c0]) w' o' Lp0 ∧ Ft (Own (encInt .u8) 5 (.slice A0 (r.b).length c0) (r.b)) w' o' Lp0_0 ∧ (r.b).length ≤ c0) := by
  refine x_enter (vs := [.pointer (some ⟨bp0, 0, none⟩), .slice Ap1 (p1).length cp1]) Try.func16 rfl rfl rfl fun a hk => ?_
  obtain ⟨oi, hs0, h0, h1, hob, hoz, hoa⟩ := St.startM2 w o (m := 2) hd0 rfl
  have hs := hs0 [1, 2]
  have hom := lab_in hob (MM := [1, 2]) (by decide)
  have f900 := h1 1 2 hp0_0 rfl rfl
  have f919 := h1 0 1 hp0 rfl rfl
  have f920 := h0 _ _ hd1 hp1
  clear h0 h1 hs0
  rw [num_Out_Raw] at H
  refine x_seq ?_
  refine wpIn_region_lit ?_
  refine x_run tab hk (k := 1) (lv := []) (ks := [0, 1]) (e' := [(0, .pointer (some ⟨bp0, 0, none⟩)), (1, .slice Ap1 (p1).length cp1)]) rfl trivial fun a hk => ?_
  refine wpListIn_nil ?_
  refine then_n ?_
  refine x_mid (fun a_ w_ => ∃ o67 : Nat → Nat, ∃ A68 : Option Addr, ∃ c69 : Nat, ∃ l70 : List Int, Kn 24 a_ [(0, .pointer (some ⟨bp0, 0, none⟩))] ∧ St [1, 2] w oi w_ o67 ∧ Ft (Own (encInt .u8) 5 (.slice A68 (l70).length c69) l70) w_ o67 2 ∧ Ft (Bx bp0 26 [.slice A68 (l70).length c69]) w_ o67 1 ∧ (l70).length ≤ c69 ∧ num_Out_Raw_j1 l70 = some r) ?_ ?_
  rotate_left
  · rintro a w73 ⟨o67, A68, c69, l70, hk, hs, f71, f919, hc72, H⟩
    rw [num_Out_Raw_j1] at H
    refine x_seq ?_
    refine wpIn_region_lit ?_
    refine x_run tab hk (k := 2) (lv := []) (ks := [4]) (e' := [(4, .pointer (some ⟨bp0, 0, none⟩))]) rfl trivial fun a hk => ?_
    refine wpListIn_nil ?_
    refine then_n ?_
    refine wpIn_ret ?_
    obtain rfl := Option.some.inj H
    exact x_retG hk (rs := [.tmp 4]) (vs := [.pointer (some ⟨bp0, 0, none⟩)]) rfl ⟨rfl, trivial⟩ ⟨fun b_ => if b_ < w.heap.size then o b_ else (fun l_ => if l_ = 1 then Lp0 else if l_ = 2 then Lp0_0 else 0) (o67 b_), A68, c69, rfl, hs.closeM hoz (by decide) (fun l_ => if l_ = 1 then Lp0 else if l_ = 2 then Lp0_0 else 0), hs.closeM_ft (o := o) (ρ := fun l_ => if l_ = 1 then Lp0 else if l_ = 2 then Lp0_0 else 0) f919 (lab_at hoa (i := 0) rfl) rfl, hs.closeM_ft (o := o) (ρ := fun l_ => if l_ = 1 then Lp0 else if l_ = 2 then Lp0_0 else 0) f71 (lab_at hoa (i := 1) rfl) rfl, hc72⟩
  refine x_seq ?_
  refine wpIn_region_lit ?_
  refine x_run tab hk (k := 3) (lv := []) (ks := [0, 7, 8, 9]) (e' := [(0, .pointer (some ⟨bp0, 0, none⟩)), (7, .slice Ap1 (p1).length cp1), (8, .int .i64 ((p1).length : Int)), (9, .int .i64 0)]) rfl trivial fun a hk => ?_
  refine wpListIn_nil ?_
  refine then_n ?_
  refine wpIn_block ?_
  refine x_loop (fun j_ a_ w_ => ∃ o91 : Nat → Nat, ∃ A92 : Option Addr, ∃ c93 : Nat, ∃ l94 : List Int, ∃ x97 : Int, Kn 24 a_ [(0, .pointer (some ⟨bp0, 0, none⟩)), (7, .slice Ap1 (p1).length cp1), (8, .int .i64 ((p1).length : Int)), (9, .int .i64 x97)] ∧ St [1, 2] w oi w_ o91 ∧ Ft (Bx bp0 26 [.slice A92 (l94).length c93]) w_ o91 1 ∧ Ft (RdC encStr Ap1 p1) w_ o91 0 ∧ Ft (Own (encInt .u8) 5 (.slice A92 (l94).length c93) l94) w_ o91 2 ∧ (l94).length ≤ c93 ∧ num_Out_Raw_l2 p1 j_ l94 x97 = some r) (k := K) ⟨oi, Ap0_0, cp0_0, p0.b, 0, (by exact Kn.pick (ks := [0, 7, 8, 9]) hk rfl), hs, f919, f920, f900, hcp0_0, H⟩ (by rintro _ _ ⟨_, _, _, _, _, _, _, _, _, _, _, H_⟩; exact absurd (show (none : Option T25) = some r from H_) (by simp)) ?_
  rintro k113 a w112 ⟨o91, A92, c93, l94, x97, hk, hs, f919, f920, f95, hc96, H⟩
  rw [num_Out_Raw_l2] at H
  obtain ⟨lp114, hlp115⟩ : ∃ lp_, lp_ = num_Out_Raw_l2 p1 k113 := ⟨_, rfl⟩
  rw [← hlp115] at H
  refine x_seq ?_
  refine wpIn_region_lit ?_
  refine x_run tab hk (k := 1) (lv := []) (ks := [0, 7, 8, 9, 10]) (e' := [(0, .pointer (some ⟨bp0, 0, none⟩)), (7, .slice Ap1 (p1).length cp1), (8, .int .i64 ((p1).length : Int)), (9, .int .i64 x97), (10, .bool (decide (x97 < ((p1).length : Int))))]) rfl trivial fun a hk => ?_
  refine wpListIn_nil ?_
  refine then_n ?_
  refine x_seq ?_
  cases b116 : (decide (x97 < ((p1).length : Int)))
  · rw [b116] at hk H
    replace H := bifF H
    refine x_if hk (b := false) rfl ?_
    refine (show Code.wpIn _ _ _ _ _ _ _ from ?_)
    refine wpIn_exit ?_
    refine then_x ?_
    refine then_x ?_
    refine blk_x ?_
    refine then_n ?_
    exact ⟨o91, A92, c93, l94, (by exact Kn.pick (ks := [0]) hk rfl), hs, f95, f919, hc96, H⟩
  · rw [b116] at hk H
    replace H := bifT H
    refine x_if hk (b := true) rfl ?_
    refine (show Code.wpIn _ _ _ _ _ _ _ from ?_)
    refine wpIn_skip ?_
    refine then_n ?_
    refine x_seq ?_
    refine wpIn_block ?_
    refine x_seq ?_
    refine wpIn_region_lit ?_
    obtain ⟨q117, H⟩ := ifS H
    obtain ⟨ad118, hAad118⟩ := RdC.addr f920.now q117
    subst hAad118
    refine x_run tab hk (k := 3) (lv := [.string (rdD (⟨#[]⟩ : ByteArray) p1 x97)]) (ks := [0, 6, 7, 8, 9]) (e' := [(0, .pointer (some ⟨bp0, 0, none⟩)), (6, .string (rdD (⟨#[]⟩ : ByteArray) p1 x97)), (7, .slice (some ad118) (p1).length cp1), (8, .int .i64 ((p1).length : Int)), (9, .int .i64 x97)]) rfl ⟨q117, (load1 tab rfl (RdC.at0 (E := encStr) (d := (⟨#[]⟩ : ByteArray)) (i := x97) f920.now q117 rfl)), trivial⟩ fun a hk => ?_
    refine wpListIn_nil ?_
    refine then_n ?_
    refine wpIn_region_lit ?_
    refine x_run tab hk (k := 6) (lv := [.slice A92 (l94).length c93]) (ks := [0, 7, 8, 9, 13, 17, 18]) (e' := [(0, .pointer (some ⟨bp0, 0, none⟩)), (7, .slice (some ad118) (p1).length cp1), (8, .int .i64 ((p1).length : Int)), (9, .int .i64 x97), (13, .pointer (some ⟨bp0, 0, none⟩)), (17, .slice A92 (l94).length c93), (18, .string (rdD (⟨#[]⟩ : ByteArray) p1 x97))]) rfl ⟨(load1 tab rfl ((Bx.cell f919.now 0).trans rfl)), trivial⟩ fun a hk => ?_
    refine x_op hk rfl ?_
    obtain ⟨q122, H⟩ := ifS H
    refine op_appendS (o := o91) (xs := l94) (y := (rdD (⟨#[]⟩ : ByteArray) p1 x97)) tab hk rfl rfl rfl rfl rfl f95 q122 fun A123 c124 w119 o120 st121 f125 hc126 => ?_
    replace f919 := f919.st st121 (by decide)
    replace f920 := f920.st st121 (by decide)
    replace hs := hs.locM st121 (by decide) hom
    have hk := hk.put 19 (.slice A123 ((l94 ++ numsOf (rdD (⟨#[]⟩ : ByteArray) p1 x97))).length c124) rfl
    refine x_run tab hk (k := 2) (lv := []) (ks := [0, 7, 8, 9, 19, 21]) (e' := [(0, .pointer (some ⟨bp0, 0, none⟩)), (7, .slice (some ad118) (p1).length cp1), (8, .int .i64 ((p1).length : Int)), (9, .int .i64 x97), (19, .slice A123 ((l94 ++ numsOf (rdD (⟨#[]⟩ : ByteArray) p1 x97))).length c124), (21, .pointer (some ⟨bp0, 0, none⟩))]) rfl trivial fun a hk => ?_
    refine x_op hk rfl ?_
    refine op_store tab hk (t := 24) (v := .slice A123 ((l94 ++ numsOf (rdD (⟨#[]⟩ : ByteArray) p1 x97))).length c124) (b := bp0) (k := 0) (cs' := [.slice A123 ((l94 ++ numsOf (rdD (⟨#[]⟩ : ByteArray) p1 x97))).length c124]) rfl rfl rfl rfl rfl rfl f919 rfl rfl fun w127 o128 st129 f919_ => ?_
    replace f125 := f125.st st129 (by decide)
    replace f920 := f920.st st129 (by decide)
    replace hs := hs.locM st129 (by decide) hom
    replace f919 := f919_
    refine wpListIn_nil ?_
    refine blk_n ?_
    refine then_n ?_
    refine wpIn_region_lit ?_
    refine x_run tab hk (k := 2) (lv := []) (ks := [0, 7, 8, 9]) (e' := [(0, .pointer (some ⟨bp0, 0, none⟩)), (7, .slice (some ad118) (p1).length cp1), (8, .int .i64 ((p1).length : Int)), (9, .int .i64 (IntKind.wrap .i64 (x97 + 1)))]) rfl trivial fun a hk => ?_
    refine wpListIn_nil ?_
    refine then_n ?_
    exact ⟨k113, Nat.le_refl _, o128, A123, c124, (l94 ++ numsOf (rdD (⟨#[]⟩ : ByteArray) p1 x97)), (IntKind.wrap .i64 (x97 + 1)), (by exact Kn.pick (ks := [0, 7, 8, 9]) hk rfl), hs, f919, f920, f125, hc126, (hlp115 ▸ H)⟩

/-! (*tidewrack/num.Out).Text -/
theorem num_Out_Text_calls (K : Nat) (bp0 : Nat) (Ap0_0 : Option Addr) (cp0_0 : Nat) (p0 : T25) (Ap1 : Option Addr) (cp1 : Nat) (p1 : List ByteArray) (w : World) (o : Nat → Nat) (Lp0 : Nat) (hp0 : Ft (Bx bp0 26 [.slice Ap0_0 (p0.b).length cp0_0]) w o Lp0) (Lp0_0 : Nat) (hp0_0 : Ft (Own (encInt .u8) 5 (.slice Ap0_0 (p0.b).length cp0_0) p0.b) w o Lp0_0) (hcp0_0 : (p0.b).length ≤ cp0_0) (Lp1 : Nat) (hp1 : Ft (RdC encStr Ap1 p1) w o Lp1) (hcp1 : (p1).length ≤ cp1) (hd0 : [Lp0, Lp0_0].Nodup) (hd1 : Lp1 ∉ [Lp0, Lp0_0]) (r : T25) (H : num_Out_Text K p0 p1 = some r) :
    Calls Try.prog 14 #[.pointer (some ⟨bp0, 0, none⟩), .slice Ap1 (p1).length cp1] w (Ret fun v_ w' => ∃ o' : Nat → Nat, ∃ A0 : Option Addr, ∃ c0 : Nat, v_ = .pointer (some ⟨bp0, 0, none⟩) ∧ St [Lp0, Lp0_0] w o w' o' ∧ Ft (Bx bp0 26 [.slice A0 (r.b).length c0]) w' o' Lp0 ∧ Ft (Own (encInt .u8) 5 (.slice A0 (r.b).length c0) (r.b)) w' o' Lp0_0 ∧ (r.b).length ≤ c0) := by
  refine x_enter (vs := [.pointer (some ⟨bp0, 0, none⟩), .slice Ap1 (p1).length cp1]) Try.func14 rfl rfl rfl fun a hk => ?_
  obtain ⟨oi, hs0, h0, h1, hob, hoz, hoa⟩ := St.startM2 w o (m := 2) hd0 rfl
  have hs := hs0 [1, 2]
  have hom := lab_in hob (MM := [1, 2]) (by decide)
  have f900 := h1 1 2 hp0_0 rfl rfl
  have f919 := h1 0 1 hp0 rfl rfl
  have f920 := h0 _ _ hd1 hp1
  clear h0 h1 hs0
  rw [num_Out_Text] at H
  refine x_seq ?_
  refine wpIn_region_lit ?_
  refine x_run tab hk (k := 1) (lv := []) (ks := [0, 1]) (e' := [(0, .pointer (some ⟨bp0, 0, none⟩)), (1, .slice Ap1 (p1).length cp1)]) rfl trivial fun a hk => ?_
  refine wpListIn_nil ?_
  refine then_n ?_
  refine x_mid (fun a_ w_ => ∃ o148 : Nat → Nat, ∃ A149 : Option Addr, ∃ c150 : Nat, ∃ l151 : List Int, Kn 23 a_ [(0, .pointer (some ⟨bp0, 0, none⟩))] ∧ St [1, 2] w oi w_ o148 ∧ Ft (Own (encInt .u8) 5 (.slice A149 (l151).length c150) l151) w_ o148 2 ∧ Ft (Bx bp0 26 [.slice A149 (l151).length c150]) w_ o148 1 ∧ (l151).length ≤ c150 ∧ num_Out_Text_j1 l151 = some r) ?_ ?_
  rotate_left
  · rintro a w154 ⟨o148, A149, c150, l151, hk, hs, f152, f919, hc153, H⟩
    rw [num_Out_Text_j1] at H
    refine x_seq ?_
    refine wpIn_region_lit ?_
    refine x_run tab hk (k := 2) (lv := []) (ks := [4]) (e' := [(4, .pointer (some ⟨bp0, 0, none⟩))]) rfl trivial fun a hk => ?_
    refine wpListIn_nil ?_
    refine then_n ?_
    refine wpIn_ret ?_
    obtain rfl := Option.some.inj H
    exact x_retG hk (rs := [.tmp 4]) (vs := [.pointer (some ⟨bp0, 0, none⟩)]) rfl ⟨rfl, trivial⟩ ⟨fun b_ => if b_ < w.heap.size then o b_ else (fun l_ => if l_ = 1 then Lp0 else if l_ = 2 then Lp0_0 else 0) (o148 b_), A149, c150, rfl, hs.closeM hoz (by decide) (fun l_ => if l_ = 1 then Lp0 else if l_ = 2 then Lp0_0 else 0), hs.closeM_ft (o := o) (ρ := fun l_ => if l_ = 1 then Lp0 else if l_ = 2 then Lp0_0 else 0) f919 (lab_at hoa (i := 0) rfl) rfl, hs.closeM_ft (o := o) (ρ := fun l_ => if l_ = 1 then Lp0 else if l_ = 2 then Lp0_0 else 0) f152 (lab_at hoa (i := 1) rfl) rfl, hc153⟩
  refine x_seq ?_
  refine wpIn_region_lit ?_
  refine x_run tab hk (k := 3) (lv := []) (ks := [0, 7, 8, 9]) (e' := [(0, .pointer (some ⟨bp0, 0, none⟩)), (7, .slice Ap1 (p1).length cp1), (8, .int .i64 ((p1).length : Int)), (9, .int .i64 0)]) rfl trivial fun a hk => ?_
  refine wpListIn_nil ?_
  refine then_n ?_
  refine wpIn_block ?_
  refine x_loop (fun j_ a_ w_ => ∃ o199 : Nat → Nat, ∃ A200 : Option Addr, ∃ c201 : Nat, ∃ l202 : List Int, ∃ x205 : Int, Kn 23 a_ [(0, .pointer (some ⟨bp0, 0, none⟩)), (7, .slice Ap1 (p1).length cp1), (8, .int .i64 ((p1).length : Int)), (9, .int .i64 x205)] ∧ St [1, 2] w oi w_ o199 ∧ Ft (Own (encInt .u8) 5 (.slice A200 (l202).length c201) l202) w_ o199 2 ∧ Ft (Bx bp0 26 [.slice A200 (l202).length c201]) w_ o199 1 ∧ Ft (RdC encStr Ap1 p1) w_ o199 0 ∧ (l202).length ≤ c201 ∧ num_Out_Text_l2 K p1 j_ l202 x205 = some r) (k := K) ⟨oi, Ap0_0, cp0_0, p0.b, 0, (by exact Kn.pick (ks := [0, 7, 8, 9]) hk rfl), hs, f900, f919, f920, hcp0_0, H⟩ (by rintro _ _ ⟨_, _, _, _, _, _, _, _, _, _, _, H_⟩; exact absurd (show (none : Option T25) = some r from H_) (by simp)) ?_
  rintro k248 a w247 ⟨o199, A200, c201, l202, x205, hk, hs, f203, f919, f920, hc204, H⟩
  rw [num_Out_Text_l2] at H
  obtain ⟨lp249, hlp250⟩ : ∃ lp_, lp_ = num_Out_Text_l2 K p1 k248 := ⟨_, rfl⟩
  rw [← hlp250] at H
  refine x_seq ?_
  refine wpIn_region_lit ?_
  refine x_run tab hk (k := 1) (lv := []) (ks := [0, 7, 8, 9, 10]) (e' := [(0, .pointer (some ⟨bp0, 0, none⟩)), (7, .slice Ap1 (p1).length cp1), (8, .int .i64 ((p1).length : Int)), (9, .int .i64 x205), (10, .bool (decide (x205 < ((p1).length : Int))))]) rfl trivial fun a hk => ?_
  refine wpListIn_nil ?_
  refine then_n ?_
  refine x_seq ?_
  cases b251 : (decide (x205 < ((p1).length : Int)))
  · rw [b251] at hk H
    replace H := bifF H
    refine x_if hk (b := false) rfl ?_
    refine (show Code.wpIn _ _ _ _ _ _ _ from ?_)
    refine wpIn_exit ?_
    refine then_x ?_
    refine then_x ?_
    refine blk_x ?_
    refine then_n ?_
    exact ⟨o199, A200, c201, l202, (by exact Kn.pick (ks := [0]) hk rfl), hs, f203, f919, hc204, H⟩
  · rw [b251] at hk H
    replace H := bifT H
    refine x_if hk (b := true) rfl ?_
    refine (show Code.wpIn _ _ _ _ _ _ _ from ?_)
    refine wpIn_skip ?_
    refine then_n ?_
    refine x_seq ?_
    refine wpIn_block ?_
    refine x_seq ?_
    refine wpIn_region_lit ?_
    obtain ⟨q252, H⟩ := ifS H
    obtain ⟨ad253, hAad253⟩ := RdC.addr f920.now q252
    subst hAad253
    refine x_run tab hk (k := 3) (lv := [.string (rdD (⟨#[]⟩ : ByteArray) p1 x205)]) (ks := [0, 6, 7, 8, 9]) (e' := [(0, .pointer (some ⟨bp0, 0, none⟩)), (6, .string (rdD (⟨#[]⟩ : ByteArray) p1 x205)), (7, .slice (some ad253) (p1).length cp1), (8, .int .i64 ((p1).length : Int)), (9, .int .i64 x205)]) rfl ⟨q252, (load1 tab rfl (RdC.at0 (E := encStr) (d := (⟨#[]⟩ : ByteArray)) (i := x205) f920.now q252 rfl)), trivial⟩ fun a hk => ?_
    refine wpListIn_nil ?_
    refine then_n ?_
    refine wpIn_region_lit ?_
    refine x_run tab hk (k := 3) (lv := []) (ks := [0, 6, 7, 8, 9, 13, 15]) (e' := [(0, .pointer (some ⟨bp0, 0, none⟩)), (6, .string (rdD (⟨#[]⟩ : ByteArray) p1 x205)), (7, .slice (some ad253) (p1).length cp1), (8, .int .i64 ((p1).length : Int)), (9, .int .i64 x205), (13, .pointer (some ⟨bp0, 0, none⟩)), (15, .int .i64 (((rdD (⟨#[]⟩ : ByteArray) p1 x205)).size : Int))]) rfl trivial fun a hk => ?_
    refine x_op hk rfl ?_
    refine op_slice (o := o199) tab hk (vs := [.int .i64 (((rdD (⟨#[]⟩ : ByteArray) p1 x205)).size : Int)]) (cs := [.int .i64 (((rdD (⟨#[]⟩ : ByteArray) p1 x205)).size : Int)]) rfl rfl rfl rfl rfl rfl rfl rfl rfl 13 fun bx257 w254 o255 st256 f258 => ?_
    replace f203 := f203.st st256 (by decide)
    replace f919 := f919.st st256 (by decide)
    replace f920 := f920.st st256 (by decide)
    replace hs := hs.locM st256 (by decide) hom
    have f259 : Ft (Own (encInt .i64) 3 (.slice (some ⟨bx257, 0, none⟩) (([(((rdD (⟨#[]⟩ : ByteArray) p1 x205)).size : Int)] : List Int)).length 1) ([(((rdD (⟨#[]⟩ : ByteArray) p1 x205)).size : Int)] : List Int)) w254 o255 13 := f258.imp fun _ h_ => Own.of_box h_ rfl (by simp)
    have hk := hk.put 16 (.slice (some ⟨bx257, 0, none⟩) (([(((rdD (⟨#[]⟩ : ByteArray) p1 x205)).size : Int)] : List Int)).length 1) rfl
    refine x_op hk rfl ?_
    obtain ⟨t263, hc264, H⟩ := bindS H
    refine op_call hk ent_11 (vs := [.pointer (some ⟨bp0, 0, none⟩), .slice (some ⟨bx257, 0, none⟩) (([(((rdD (⟨#[]⟩ : ByteArray) p1 x205)).size : Int)] : List Int)).length 1]) rfl (num_Out_Num_calls K bp0 A200 c201 (⟨l202⟩ : T25) (some ⟨bx257, 0, none⟩) 1 ([(((rdD (⟨#[]⟩ : ByteArray) p1 x205)).size : Int)] : List Int) _ o255 1 f919 2 f203 hc204 _ (f259.imp fun _ h_ => Own.rd h_) (Nat.le_refl _) (by decide) (by decide)   _ hc264) ?_
    rintro _ w265 ⟨o266, A269, c270, rfl, st267, f268, f271, hc272⟩
    replace f259 := f259.st st267 (by decide)
    replace f920 := f920.st st267 (by decide)
    replace hs := hs.locM st267 (by decide) hom
    have hk := hk.put 17 (.pointer (some ⟨bp0, 0, none⟩)) rfl
    refine x_run tab hk (k := 1) (lv := []) (ks := [0, 7, 8, 9, 17, 18]) (e' := [(0, .pointer (some ⟨bp0, 0, none⟩)), (7, .slice (some ad253) (p1).length cp1), (8, .int .i64 ((p1).length : Int)), (9, .int .i64 x205), (17, .pointer (some ⟨bp0, 0, none⟩)), (18, .string (rdD (⟨#[]⟩ : ByteArray) p1 x205))]) rfl trivial fun a hk => ?_
    refine x_op hk rfl ?_
    refine op_slice (o := o266) tab hk (vs := [.string (rdD (⟨#[]⟩ : ByteArray) p1 x205)]) (cs := [.string (rdD (⟨#[]⟩ : ByteArray) p1 x205)]) rfl rfl rfl rfl rfl rfl rfl rfl rfl 14 fun bx276 w273 o274 st275 f277 => ?_
    replace f268 := f268.st st275 (by decide)
    replace f271 := f271.st st275 (by decide)
    replace f920 := f920.st st275 (by decide)
    replace hs := hs.locM st275 (by decide) hom
    have f278 : Ft (Own encStr 9 (.slice (some ⟨bx276, 0, none⟩) (([(rdD (⟨#[]⟩ : ByteArray) p1 x205)] : List ByteArray)).length 1) ([(rdD (⟨#[]⟩ : ByteArray) p1 x205)] : List ByteArray)) w273 o274 14 := f277.imp fun _ h_ => Own.of_box h_ rfl (by simp)
    have hk := hk.put 19 (.slice (some ⟨bx276, 0, none⟩) (([(rdD (⟨#[]⟩ : ByteArray) p1 x205)] : List ByteArray)).length 1) rfl
    refine x_op hk rfl ?_
    obtain ⟨t282, hc283, H⟩ := bindS H
    refine op_call hk ent_16 (vs := [.pointer (some ⟨bp0, 0, none⟩), .slice (some ⟨bx276, 0, none⟩) (([(rdD (⟨#[]⟩ : ByteArray) p1 x205)] : List ByteArray)).length 1]) rfl (num_Out_Raw_calls K bp0 A269 c270 t263 (some ⟨bx276, 0, none⟩) 1 ([(rdD (⟨#[]⟩ : ByteArray) p1 x205)] : List ByteArray) _ o274 1 f268 2 f271 hc272 _ (f278.imp fun _ h_ => Own.rd h_) (Nat.le_refl _) (by decide) (by decide)   _ hc283) ?_
    rintro _ w284 ⟨o285, A288, c289, rfl, st286, f287, f290, hc291⟩
    replace f278 := f278.st st286 (by decide)
    replace f920 := f920.st st286 (by decide)
    replace hs := hs.locM st286 (by decide) hom
    have hk := hk.put 20 (.pointer (some ⟨bp0, 0, none⟩)) rfl
    refine wpListIn_nil ?_
    refine blk_n ?_
    refine then_n ?_
    refine wpIn_region_lit ?_
    refine x_run tab hk (k := 2) (lv := []) (ks := [0, 7, 8, 9]) (e' := [(0, .pointer (some ⟨bp0, 0, none⟩)), (7, .slice (some ad253) (p1).length cp1), (8, .int .i64 ((p1).length : Int)), (9, .int .i64 (IntKind.wrap .i64 (x205 + 1)))]) rfl trivial fun a hk => ?_
    refine wpListIn_nil ?_
    refine then_n ?_
    exact ⟨k248, Nat.le_refl _, o285, A288, c289, t282.b, (IntKind.wrap .i64 (x205 + 1)), (by exact Kn.pick (ks := [0, 7, 8, 9]) hk rfl), hs, f290, f287, f920, hc291, (hlp250 ▸ H)⟩

/-! (*tidewrack/num.Out).Bytes -/
theorem num_Out_Bytes_calls (bp0 : Nat) (Ap0_0 : Option Addr) (cp0_0 : Nat) (p0 : T25) (w : World) (o : Nat → Nat) (Lp0 : Nat) (hp0 : Ft (Bx bp0 26 [.slice Ap0_0 (p0.b).length cp0_0]) w o Lp0) (Lp0_0 : Nat) (hp0_0 : Ft (Own (encInt .u8) 5 (.slice Ap0_0 (p0.b).length cp0_0) p0.b) w o Lp0_0) (hcp0_0 : (p0.b).length ≤ cp0_0) (hd0 : [Lp0, Lp0_0].Nodup) (r : ByteArray × T25) (H : num_Out_Bytes p0 = some r) :
    Calls Try.prog 17 #[.pointer (some ⟨bp0, 0, none⟩)] w (Ret fun v_ w' => ∃ o' : Nat → Nat, ∃ A0 : Option Addr, ∃ c0 : Nat, v_ = .string r.1 ∧ St [Lp0, Lp0_0] w o w' o' ∧ Ft (Bx bp0 26 [.slice A0 (r.2.b).length c0]) w' o' Lp0 ∧ Ft (Own (encInt .u8) 5 (.slice A0 (r.2.b).length c0) (r.2.b)) w' o' Lp0_0 ∧ (r.2.b).length ≤ c0) := by
  refine x_enter (vs := [.pointer (some ⟨bp0, 0, none⟩)]) Try.func17 rfl rfl rfl fun a hk => ?_
  obtain ⟨oi, hs0, h0, h1, hob, hoz, hoa⟩ := St.startM2 w o (m := 2) hd0 rfl
  have hs := hs0 [1, 2]
  have hom := lab_in hob (MM := [1, 2]) (by decide)
  have f900 := h1 1 2 hp0_0 rfl rfl
  have f919 := h1 0 1 hp0 rfl rfl
  clear h0 h1 hs0
  rw [num_Out_Bytes] at H
  refine x_seq ?_
  refine wpIn_region_lit ?_
  refine x_run tab hk (k := 1) (lv := []) (ks := [0]) (e' := [(0, .pointer (some ⟨bp0, 0, none⟩))]) rfl trivial fun a hk => ?_
  refine wpListIn_nil ?_
  refine then_n ?_
  refine x_seq ?_
  refine wpIn_region_lit ?_
  refine x_run tab hk (k := 6) (lv := [.slice Ap0_0 (p0.b).length cp0_0, .string (strOfNums p0.b)]) (ks := [2]) (e' := [(2, .string (strOfNums p0.b))]) rfl ⟨(load1 tab rfl ((Bx.cell f919.now 0).trans rfl)), (ask_str tab rfl rfl rfl rfl (Own.rd f900.now) (Own.plain f900.now _ _ _ rfl)), trivial⟩ fun a hk => ?_
  refine wpListIn_nil ?_
  refine then_n ?_
  refine wpIn_ret ?_
  obtain rfl := Option.some.inj H
  exact x_retG hk (rs := [.tmp 2]) (vs := [.string (strOfNums p0.b)]) rfl ⟨rfl, trivial⟩ ⟨fun b_ => if b_ < w.heap.size then o b_ else (fun l_ => if l_ = 1 then Lp0 else if l_ = 2 then Lp0_0 else 0) (oi b_), Ap0_0, cp0_0, rfl, hs.closeM hoz (by decide) (fun l_ => if l_ = 1 then Lp0 else if l_ = 2 then Lp0_0 else 0), hs.closeM_ft (o := o) (ρ := fun l_ => if l_ = 1 then Lp0 else if l_ = 2 then Lp0_0 else 0) f919 (lab_at hoa (i := 0) rfl) rfl, hs.closeM_ft (o := o) (ρ := fun l_ => if l_ = 1 then Lp0 else if l_ = 2 then Lp0_0 else 0) f900 (lab_at hoa (i := 1) rfl) rfl, hcp0_0⟩

/-! (*tidewrack/num.In).Fail -/
theorem num_In_Fail_calls (bp0 : Nat) (p0 : T62) (p1 : Int) (w : World) (o : Nat → Nat) (Lp0 : Nat) (hp0 : Ft (Bx bp0 63 [.string p0.s, .int .i64 p0.e]) w o Lp0) (hd0 : [Lp0].Nodup) (r : T62) (H : num_In_Fail p0 p1 = some r) :
    Calls Try.prog 29 #[.pointer (some ⟨bp0, 0, none⟩), .int .i64 p1] w (Ret fun v_ w' => ∃ o' : Nat → Nat, v_ = .tuple #[] ∧ St [Lp0] w o w' o' ∧ Ft (Bx bp0 63 [.string r.s, .int .i64 r.e]) w' o' Lp0) := by
  refine x_enter (vs := [.pointer (some ⟨bp0, 0, none⟩), .int .i64 p1]) Try.func29 rfl rfl rfl fun a hk => ?_
  obtain ⟨oi, hs0, h0, h1, hob, hoz, hoa⟩ := St.startM2 w o (m := 1) hd0 rfl
  have hs := hs0 [1]
  have hom := lab_in hob (MM := [1]) (by decide)
  have f919 := h1 0 1 hp0 rfl rfl
  clear h0 h1 hs0
  rw [num_In_Fail] at H
  refine x_mid (fun a_ w_ => ∃ o8 : Nat → Nat, ∃ x9 : Bool, Kn 20 a_ [(0, .pointer (some ⟨bp0, 0, none⟩)), (1, .int .i64 p1), (12, .bool x9)] ∧ St [1] w oi w_ o8 ∧ Ft (Bx bp0 63 [.string p0.s, .int .i64 p0.e]) w_ o8 1 ∧ num_In_Fail_j1 p0 p1 x9 = some r) ?_ ?_
  rotate_left
  · rintro a w10 ⟨o8, x9, hk, hs, f919, H⟩
    rw [num_In_Fail_j1] at H
    cases b11 : x9
    · rw [b11] at hk H
      replace H := bifF H
      refine x_if hk (b := false) rfl ?_
      refine (show Code.wpIn _ _ _ _ _ _ _ from ?_)
      refine wpIn_skip ?_
      obtain rfl := Option.some.inj H
      exact x_endG hk (rs := []) (vs := []) rfl trivial ⟨fun b_ => if b_ < w.heap.size then o b_ else (fun l_ => if l_ = 1 then Lp0 else 0) (o8 b_), rfl, hs.closeM hoz (by decide) (fun l_ => if l_ = 1 then Lp0 else 0), hs.closeM_ft (o := o) (ρ := fun l_ => if l_ = 1 then Lp0 else 0) f919 (lab_at hoa (i := 0) rfl) rfl⟩
    · rw [b11] at hk H
      replace H := bifT H
      refine x_if hk (b := true) rfl ?_
      refine (show Code.wpIn _ _ _ _ _ _ _ from ?_)
      refine wpIn_region_lit ?_
      refine x_run tab hk (k := 5) (lv := []) (ks := [14, 15, 17]) (e' := [(14, .pointer (some ⟨bp0, 0, none⟩)), (15, .int .i64 p1), (17, .pointer (some ⟨bp0, 0, none⟩))]) rfl trivial fun a hk => ?_
      refine x_op hk rfl ?_
      refine op_store tab hk (t := 9) (v := .string (⟨#[]⟩ : ByteArray)) (b := bp0) (k := 0) (cs' := [.string (⟨#[]⟩ : ByteArray), .int .i64 p0.e]) rfl rfl rfl rfl rfl rfl f919 rfl rfl fun w12 o13 st14 f919_ => ?_
      replace hs := hs.locM st14 (by decide) hom
      replace f919 := f919_
      refine x_run tab hk (k := 2) (lv := []) (ks := [15, 19]) (e' := [(15, .int .i64 p1), (19, .pointer (some ((⟨bp0, 0, none⟩ : Addr).add 1)))]) rfl trivial fun a hk => ?_
      refine x_op hk rfl ?_
      refine op_store tab hk (t := 42) (v := .int .i64 p1) (b := bp0) (k := 1) (cs' := [.string (⟨#[]⟩ : ByteArray), .int .i64 p1]) rfl rfl rfl rfl rfl rfl f919 rfl rfl fun w15 o16 st17 f919_ => ?_
      replace hs := hs.locM st17 (by decide) hom
      replace f919 := f919_
      refine wpListIn_nil ?_
      obtain rfl := Option.some.inj H
      exact x_endG hk (rs := []) (vs := []) rfl trivial ⟨fun b_ => if b_ < w.heap.size then o b_ else (fun l_ => if l_ = 1 then Lp0 else 0) (o16 b_), rfl, hs.closeM hoz (by decide) (fun l_ => if l_ = 1 then Lp0 else 0), hs.closeM_ft (o := o) (ρ := fun l_ => if l_ = 1 then Lp0 else 0) f919 (lab_at hoa (i := 0) rfl) rfl⟩
  refine wpIn_region_lit ?_
  refine x_run tab hk (k := 6) (lv := [.int .i64 p0.e]) (ks := [0, 1, 9]) (e' := [(0, .pointer (some ⟨bp0, 0, none⟩)), (1, .int .i64 p1), (9, .bool (p0.e == (0 : Int)))]) rfl ⟨(load1 tab rfl ((Bx.cell f919.now 1).trans rfl)), trivial⟩ fun a hk => ?_
  cases b18 : (p0.e == (0 : Int))
  · rw [b18] at hk H
    replace H := bifF H
    refine x_run tab hk (k := 3) (lv := []) (ks := [0, 1, 12]) (e' := [(0, .pointer (some ⟨bp0, 0, none⟩)), (1, .int .i64 p1), (12, .bool false)]) rfl trivial fun a hk => ?_
    refine wpListIn_nil ?_
    refine then_n ?_
    exact ⟨oi, false, (by exact Kn.pick (ks := [0, 1, 12]) hk rfl), hs, f919, H⟩
  · rw [b18] at hk H
    replace H := bifT H
    refine x_run tab hk (k := 3) (lv := []) (ks := [0, 1, 12]) (e' := [(0, .pointer (some ⟨bp0, 0, none⟩)), (1, .int .i64 p1), (12, .bool (p1 != (0 : Int)))]) rfl trivial fun a hk => ?_
    refine wpListIn_nil ?_
    refine then_n ?_
    exact ⟨oi, (p1 != (0 : Int)), (by exact Kn.pick (ks := [0, 1, 12]) hk rfl), hs, f919, H⟩

/-! (*tidewrack/num.In).Num -/
theorem num_In_Num_calls (K : Nat) (bp0 : Nat) (p0 : T62) (w : World) (o : Nat → Nat) (Lp0 : Nat) (hp0 : Ft (Bx bp0 63 [.string p0.s, .int .i64 p0.e]) w o Lp0) (hd0 : [Lp0].Nodup) (r : Int × T62) (H : num_In_Num K p0 = some r) :
    Calls Try.prog 19 #[.pointer (some ⟨bp0, 0, none⟩)] w (Ret fun v_ w' => ∃ o' : Nat → Nat, v_ = .int .i64 r.1 ∧ St [Lp0] w o w' o' ∧ Ft (Bx bp0 63 [.string r.2.s, .int .i64 r.2.e]) w' o' Lp0) := by
  refine x_enter (vs := [.pointer (some ⟨bp0, 0, none⟩)]) Try.func19 rfl rfl rfl fun a hk => ?_
  obtain ⟨oi, hs0, h0, h1, hob, hoz, hoa⟩ := St.startM2 w o (m := 1) hd0 rfl
  have hs := hs0 [1]
  have hom := lab_in hob (MM := [1]) (by decide)
  have f919 := h1 0 1 hp0 rfl rfl
  clear h0 h1 hs0
  rw [num_In_Num] at H
  refine x_seq ?_
  refine wpIn_region_lit ?_
  refine x_run tab hk (k := 1) (lv := []) (ks := [0]) (e' := [(0, .pointer (some ⟨bp0, 0, none⟩))]) rfl trivial fun a hk => ?_
  refine wpListIn_nil ?_
  refine then_n ?_
  refine x_seq ?_
  refine wpIn_region_lit ?_
  refine x_run tab hk (k := 1) (lv := []) (ks := [0, 3]) (e' := [(0, .pointer (some ⟨bp0, 0, none⟩)), (3, .int .i64 0)]) rfl trivial fun a hk => ?_
  refine wpListIn_nil ?_
  refine then_n ?_
  refine x_mid (fun a_ w_ => ∃ o194 : Nat → Nat, Kn 65 a_ [(0, .pointer (some ⟨bp0, 0, none⟩))] ∧ St [1] w oi w_ o194 ∧ Ft (Bx bp0 63 [.string p0.s, .int .i64 p0.e]) w_ o194 1 ∧ num_In_Num_j1 p0 = some r) ?_ ?_
  rotate_left
  · rintro a w195 ⟨o194, hk, hs, f919, H⟩
    rw [num_In_Num_j1] at H
    refine x_seq ?_
    refine x_seq ?_
    refine wpIn_region_lit ?_
    refine x_run tab hk (k := 6) (lv := [.string p0.s]) (ks := [0, 60]) (e' := [(0, .pointer (some ⟨bp0, 0, none⟩)), (60, .bool (decide (((p0.s).size : Int) ≥ (9 : Int))))]) rfl ⟨(load1 tab rfl ((Bx.cell f919.now 0).trans rfl)), trivial⟩ fun a hk => ?_
    refine wpListIn_nil ?_
    refine then_n ?_
    cases b196 : (decide (((p0.s).size : Int) ≥ (9 : Int)))
    · rw [b196] at hk H
      replace H := bifF H
      refine x_if hk (b := false) rfl ?_
      refine (show Code.wpIn _ _ _ _ _ _ _ from ?_)
      refine wpIn_skip ?_
      refine then_n ?_
      refine x_seq ?_
      refine wpIn_region_lit ?_
      refine x_run tab hk (k := 1) (lv := []) (ks := [63]) (e' := [(63, .pointer (some ⟨bp0, 0, none⟩))]) rfl trivial fun a hk => ?_
      refine x_op hk rfl ?_
      obtain ⟨t200, hc201, H⟩ := bindS H
      refine op_call hk ent_29 (vs := [.pointer (some ⟨bp0, 0, none⟩), .int .i64 2]) rfl (num_In_Fail_calls bp0 p0 2 _ o194 1 f919 (by decide)   _ hc201) ?_
      rintro _ w202 ⟨o203, rfl, st204, f205⟩
      replace hs := hs.locM st204 (by decide) hom
      have hk := hk.put 64 (.tuple #[]) rfl
      refine wpListIn_nil ?_
      refine then_n ?_
      refine x_seq ?_
      refine wpIn_region_lit ?_
      refine x_run tab hk (k := 1) (lv := []) (ks := [2]) (e' := [(2, .int .i64 0)]) rfl trivial fun a hk => ?_
      refine wpListIn_nil ?_
      refine then_n ?_
      refine wpIn_ret ?_
      obtain rfl := Option.some.inj H
      exact x_retG hk (rs := [.tmp 2]) (vs := [.int .i64 0]) rfl ⟨rfl, trivial⟩ ⟨fun b_ => if b_ < w.heap.size then o b_ else (fun l_ => if l_ = 1 then Lp0 else 0) (o203 b_), rfl, hs.closeM hoz (by decide) (fun l_ => if l_ = 1 then Lp0 else 0), hs.closeM_ft (o := o) (ρ := fun l_ => if l_ = 1 then Lp0 else 0) f205 (lab_at hoa (i := 0) rfl) rfl⟩
    · rw [b196] at hk H
      replace H := bifT H
      refine x_if hk (b := true) rfl ?_
      refine (show Code.wpIn _ _ _ _ _ _ _ from ?_)
      refine wpIn_region_lit ?_
      refine x_run tab hk (k := 1) (lv := []) (ks := [0, 61]) (e' := [(0, .pointer (some ⟨bp0, 0, none⟩)), (61, .pointer (some ⟨bp0, 0, none⟩))]) rfl trivial fun a hk => ?_
      refine x_op hk rfl ?_
      obtain ⟨t209, hc210, H⟩ := bindS H
      refine op_call hk ent_29 (vs := [.pointer (some ⟨bp0, 0, none⟩), .int .i64 1]) rfl (num_In_Fail_calls bp0 p0 1 _ o194 1 f919 (by decide)   _ hc210) ?_
      rintro _ w211 ⟨o212, rfl, st213, f214⟩
      replace hs := hs.locM st213 (by decide) hom
      have hk := hk.put 62 (.tuple #[]) rfl
      refine wpListIn_nil ?_
      refine then_n ?_
      refine x_seq ?_
      refine wpIn_region_lit ?_
      refine x_run tab hk (k := 1) (lv := []) (ks := [63]) (e' := [(63, .pointer (some ⟨bp0, 0, none⟩))]) rfl trivial fun a hk => ?_
      refine x_op hk rfl ?_
      obtain ⟨t218, hc219, H⟩ := bindS H
      refine op_call hk ent_29 (vs := [.pointer (some ⟨bp0, 0, none⟩), .int .i64 2]) rfl (num_In_Fail_calls bp0 t209 2 _ o212 1 f214 (by decide)   _ hc219) ?_
      rintro _ w220 ⟨o221, rfl, st222, f223⟩
      replace hs := hs.locM st222 (by decide) hom
      have hk := hk.put 64 (.tuple #[]) rfl
      refine wpListIn_nil ?_
      refine then_n ?_
      refine x_seq ?_
      refine wpIn_region_lit ?_
      refine x_run tab hk (k := 1) (lv := []) (ks := [2]) (e' := [(2, .int .i64 0)]) rfl trivial fun a hk => ?_
      refine wpListIn_nil ?_
      refine then_n ?_
      refine wpIn_ret ?_
      obtain rfl := Option.some.inj H
      exact x_retG hk (rs := [.tmp 2]) (vs := [.int .i64 0]) rfl ⟨rfl, trivial⟩ ⟨fun b_ => if b_ < w.heap.size then o b_ else (fun l_ => if l_ = 1 then Lp0 else 0) (o221 b_), rfl, hs.closeM hoz (by decide) (fun l_ => if l_ = 1 then Lp0 else 0), hs.closeM_ft (o := o) (ρ := fun l_ => if l_ = 1 then Lp0 else 0) f223 (lab_at hoa (i := 0) rfl) rfl⟩
  refine x_seq ?_
  refine wpIn_region_lit ?_
  refine x_run tab hk (k := 7) (lv := [.string p0.s]) (ks := [0, 3, 11, 12]) (e' := [(0, .pointer (some ⟨bp0, 0, none⟩)), (3, .int .i64 0), (11, .int .i64 (mnI ((p0.s).size : Int) 9)), (12, .int .i64 0)]) rfl ⟨(load1 tab rfl ((Bx.cell f919.now 0).trans rfl)), trivial⟩ fun a hk => ?_
  refine wpListIn_nil ?_
  refine then_n ?_
  refine wpIn_block ?_
  refine x_loop (fun j_ a_ w_ => ∃ o287 : Nat → Nat, ∃ x288 : Int, ∃ x289 : Int, Kn 65 a_ [(0, .pointer (some ⟨bp0, 0, none⟩)), (3, .int .i64 x288), (11, .int .i64 (mnI ((p0.s).size : Int) 9)), (12, .int .i64 x289)] ∧ St [1] w oi w_ o287 ∧ Ft (Bx bp0 63 [.string p0.s, .int .i64 p0.e]) w_ o287 1 ∧ num_In_Num_l2 p0 j_ x288 x289 = some r) (k := K) ⟨oi, 0, 0, (by exact Kn.pick (ks := [0, 3, 11, 12]) hk rfl), hs, f919, H⟩ (by rintro _ _ ⟨_, _, _, _, _, _, H_⟩; exact absurd (show (none : Option (Int × T62)) = some r from H_) (by simp)) ?_
  rintro k351 a w350 ⟨o287, x288, x289, hk, hs, f919, H⟩
  rw [num_In_Num_l2] at H
  obtain ⟨lp352, hlp353⟩ : ∃ lp_, lp_ = num_In_Num_l2 p0 k351 := ⟨_, rfl⟩
  rw [← hlp353] at H
  refine x_seq ?_
  refine wpIn_region_lit ?_
  refine x_run tab hk (k := 1) (lv := []) (ks := [0, 3, 11, 12, 13]) (e' := [(0, .pointer (some ⟨bp0, 0, none⟩)), (3, .int .i64 x288), (11, .int .i64 (mnI ((p0.s).size : Int) 9)), (12, .int .i64 x289), (13, .bool (decide (x289 < (mnI ((p0.s).size : Int) 9))))]) rfl trivial fun a hk => ?_
  refine wpListIn_nil ?_
  refine then_n ?_
  refine x_seq ?_
  cases b354 : (decide (x289 < (mnI ((p0.s).size : Int) 9)))
  · rw [b354] at hk H
    replace H := bifF H
    refine x_if hk (b := false) rfl ?_
    refine (show Code.wpIn _ _ _ _ _ _ _ from ?_)
    refine wpIn_exit ?_
    refine then_x ?_
    refine then_x ?_
    refine blk_x ?_
    refine then_n ?_
    exact ⟨o287, (by exact Kn.pick (ks := [0]) hk rfl), hs, f919, H⟩
  · rw [b354] at hk H
    replace H := bifT H
    refine x_if hk (b := true) rfl ?_
    refine (show Code.wpIn _ _ _ _ _ _ _ from ?_)
    refine wpIn_skip ?_
    refine then_n ?_
    refine x_seq ?_
    refine wpIn_block ?_
    refine x_seq ?_
    refine wpIn_region_lit ?_
    refine x_run tab hk (k := 2) (lv := []) (ks := [0, 3, 4, 11, 12]) (e' := [(0, .pointer (some ⟨bp0, 0, none⟩)), (3, .int .i64 x288), (4, .int .i64 x289), (11, .int .i64 (mnI ((p0.s).size : Int) 9)), (12, .int .i64 x289)]) rfl trivial fun a hk => ?_
    refine wpListIn_nil ?_
    refine then_n ?_
    refine x_seq ?_
    refine wpIn_region_lit ?_
    obtain ⟨q355, H⟩ := ifS H
    refine x_run tab hk (k := 7) (lv := [.string p0.s]) (ks := [0, 3, 4, 5, 11, 12]) (e' := [(0, .pointer (some ⟨bp0, 0, none⟩)), (3, .int .i64 x288), (4, .int .i64 x289), (5, .int .u8 (bt p0.s x289)), (11, .int .i64 (mnI ((p0.s).size : Int) 9)), (12, .int .i64 x289)]) rfl ⟨(load1 tab rfl ((Bx.cell f919.now 0).trans rfl)), q355, trivial⟩ fun a hk => ?_
    refine wpListIn_nil ?_
    refine then_n ?_
    refine x_seq ?_
    refine wpIn_region_lit ?_
    obtain ⟨q356, H⟩ := ifS H
    refine x_run tab hk (k := 9) (lv := []) (ks := [0, 3, 4, 5, 11, 12]) (e' := [(0, .pointer (some ⟨bp0, 0, none⟩)), (3, .int .i64 (bits .or .i64 x288 (IntKind.wrap .i64 ((IntKind.wrap .i64 (bits .and .u8 (bt p0.s x289) 127)) * 2 ^ min (Int.toNat (IntKind.wrap .i64 (7 * x289))) 64)))), (4, .int .i64 x289), (5, .int .u8 (bt p0.s x289)), (11, .int .i64 (mnI ((p0.s).size : Int) 9)), (12, .int .i64 x289)]) rfl ⟨q356, trivial⟩ fun a hk => ?_
    refine wpListIn_nil ?_
    refine then_n ?_
    refine x_seq ?_
    refine x_seq ?_
    refine wpIn_region_lit ?_
    refine x_run tab hk (k := 2) (lv := []) (ks := [0, 3, 4, 5, 11, 12, 30]) (e' := [(0, .pointer (some ⟨bp0, 0, none⟩)), (3, .int .i64 (bits .or .i64 x288 (IntKind.wrap .i64 ((IntKind.wrap .i64 (bits .and .u8 (bt p0.s x289) 127)) * 2 ^ min (Int.toNat (IntKind.wrap .i64 (7 * x289))) 64)))), (4, .int .i64 x289), (5, .int .u8 (bt p0.s x289)), (11, .int .i64 (mnI ((p0.s).size : Int) 9)), (12, .int .i64 x289), (30, .bool (decide ((bt p0.s x289) ≥ (128 : Int))))]) rfl trivial fun a hk => ?_
    refine wpListIn_nil ?_
    refine then_n ?_
    cases b357 : (decide ((bt p0.s x289) ≥ (128 : Int)))
    · rw [b357] at hk H
      replace H := bifF H
      refine x_if hk (b := false) rfl ?_
      refine (show Code.wpIn _ _ _ _ _ _ _ from ?_)
      refine wpIn_skip ?_
      refine then_n ?_
      refine x_mid (fun a_ w_ => ∃ o384 : Nat → Nat, Kn 65 a_ [(0, .pointer (some ⟨bp0, 0, none⟩)), (3, .int .i64 (bits .or .i64 x288 (IntKind.wrap .i64 ((IntKind.wrap .i64 (bits .and .u8 (bt p0.s x289) 127)) * 2 ^ min (Int.toNat (IntKind.wrap .i64 (7 * x289))) 64)))), (4, .int .i64 x289)] ∧ St [1] w oi w_ o384 ∧ Ft (Bx bp0 63 [.string p0.s, .int .i64 p0.e]) w_ o384 1 ∧ num_In_Num_j3 p0 x288 x289 = some r) ?_ ?_
      rotate_left
      · rintro a w385 ⟨o384, hk, hs, f919, H⟩
        rw [num_In_Num_j3] at H
        refine x_seq ?_
        refine wpIn_region_lit ?_
        obtain ⟨q386, H⟩ := ifS H
        obtain ⟨q387, H⟩ := ifS H
        refine x_run tab hk (k := 10) (lv := [.string p0.s]) (ks := [3, 50, 52]) (e' := [(3, .int .i64 (bits .or .i64 x288 (IntKind.wrap .i64 ((IntKind.wrap .i64 (bits .and .u8 (bt p0.s x289) 127)) * 2 ^ min (Int.toNat (IntKind.wrap .i64 (7 * x289))) 64)))), (50, .string (ByteArray.extract p0.s (Int.toNat (IntKind.wrap .i64 (x289 + 1))) (p0.s).size)), (52, .pointer (some ⟨bp0, 0, none⟩))]) rfl ⟨(load1 tab rfl ((Bx.cell f919.now 0).trans rfl)), q386, q387, trivial⟩ fun a hk => ?_
        refine x_op hk rfl ?_
        refine op_store tab hk (t := 9) (v := .string (ByteArray.extract p0.s (Int.toNat (IntKind.wrap .i64 (x289 + 1))) (p0.s).size)) (b := bp0) (k := 0) (cs' := [.string (ByteArray.extract p0.s (Int.toNat (IntKind.wrap .i64 (x289 + 1))) (p0.s).size), .int .i64 p0.e]) rfl rfl rfl rfl rfl rfl f919 rfl rfl fun w388 o389 st390 f919_ => ?_
        replace hs := hs.locM st390 (by decide) hom
        replace f919 := f919_
        refine wpListIn_nil ?_
        refine then_n ?_
        refine x_seq ?_
        refine wpIn_region_lit ?_
        refine x_run tab hk (k := 2) (lv := []) (ks := [2]) (e' := [(2, .int .i64 (bits .or .i64 x288 (IntKind.wrap .i64 ((IntKind.wrap .i64 (bits .and .u8 (bt p0.s x289) 127)) * 2 ^ min (Int.toNat (IntKind.wrap .i64 (7 * x289))) 64))))]) rfl trivial fun a hk => ?_
        refine wpListIn_nil ?_
        refine then_n ?_
        refine wpIn_ret ?_
        refine blk_r ?_
        refine then_r ?_
        refine then_r ?_
        refine blk_r ?_
        refine then_r ?_
        obtain rfl := Option.some.inj H
        exact x_retG hk (rs := [.tmp 2]) (vs := [.int .i64 (bits .or .i64 x288 (IntKind.wrap .i64 ((IntKind.wrap .i64 (bits .and .u8 (bt p0.s x289) 127)) * 2 ^ min (Int.toNat (IntKind.wrap .i64 (7 * x289))) 64)))]) rfl ⟨rfl, trivial⟩ ⟨fun b_ => if b_ < w.heap.size then o b_ else (fun l_ => if l_ = 1 then Lp0 else 0) (o389 b_), rfl, hs.closeM hoz (by decide) (fun l_ => if l_ = 1 then Lp0 else 0), hs.closeM_ft (o := o) (ρ := fun l_ => if l_ = 1 then Lp0 else 0) f919 (lab_at hoa (i := 0) rfl) rfl⟩
      refine x_mid (fun a_ w_ => ∃ o399 : Nat → Nat, ∃ x400 : Bool, Kn 65 a_ [(0, .pointer (some ⟨bp0, 0, none⟩)), (3, .int .i64 (bits .or .i64 x288 (IntKind.wrap .i64 ((IntKind.wrap .i64 (bits .and .u8 (bt p0.s x289) 127)) * 2 ^ min (Int.toNat (IntKind.wrap .i64 (7 * x289))) 64)))), (4, .int .i64 x289), (40, .bool x400)] ∧ St [1] w oi w_ o399 ∧ Ft (Bx bp0 63 [.string p0.s, .int .i64 p0.e]) w_ o399 1 ∧ num_In_Num_j4 p0 x288 x289 x400 = some r) ?_ ?_
      rotate_left
      · rintro a w401 ⟨o399, x400, hk, hs, f919, H⟩
        rw [num_In_Num_j4] at H
        cases b402 : x400
        · rw [b402] at hk H
          replace H := bifF H
          refine x_if hk (b := false) rfl ?_
          refine (show Code.wpIn _ _ _ _ _ _ _ from ?_)
          refine wpIn_skip ?_
          refine then_n ?_
          exact ⟨o399, (by exact Kn.pick (ks := [0, 3, 4]) hk rfl), hs, f919, H⟩
        · rw [b402] at hk H
          replace H := bifT H
          refine x_if hk (b := true) rfl ?_
          refine (show Code.wpIn _ _ _ _ _ _ _ from ?_)
          refine x_seq ?_
          refine wpIn_region_lit ?_
          refine x_run tab hk (k := 1) (lv := []) (ks := [41]) (e' := [(41, .pointer (some ⟨bp0, 0, none⟩))]) rfl trivial fun a hk => ?_
          refine x_op hk rfl ?_
          obtain ⟨t406, hc407, H⟩ := bindS H
          refine op_call hk ent_29 (vs := [.pointer (some ⟨bp0, 0, none⟩), .int .i64 1]) rfl (num_In_Fail_calls bp0 p0 1 _ o399 1 f919 (by decide)   _ hc407) ?_
          rintro _ w408 ⟨o409, rfl, st410, f411⟩
          replace hs := hs.locM st410 (by decide) hom
          have hk := hk.put 42 (.tuple #[]) rfl
          refine wpListIn_nil ?_
          refine then_n ?_
          refine x_seq ?_
          refine wpIn_region_lit ?_
          refine x_run tab hk (k := 1) (lv := []) (ks := [2]) (e' := [(2, .int .i64 0)]) rfl trivial fun a hk => ?_
          refine wpListIn_nil ?_
          refine then_n ?_
          refine wpIn_ret ?_
          refine then_r ?_
          refine blk_r ?_
          refine then_r ?_
          refine then_r ?_
          refine blk_r ?_
          refine then_r ?_
          obtain rfl := Option.some.inj H
          exact x_retG hk (rs := [.tmp 2]) (vs := [.int .i64 0]) rfl ⟨rfl, trivial⟩ ⟨fun b_ => if b_ < w.heap.size then o b_ else (fun l_ => if l_ = 1 then Lp0 else 0) (o409 b_), rfl, hs.closeM hoz (by decide) (fun l_ => if l_ = 1 then Lp0 else 0), hs.closeM_ft (o := o) (ρ := fun l_ => if l_ = 1 then Lp0 else 0) f411 (lab_at hoa (i := 0) rfl) rfl⟩
      refine wpIn_region_lit ?_
      refine x_run tab hk (k := 3) (lv := []) (ks := [0, 3, 4, 5, 33]) (e' := [(0, .pointer (some ⟨bp0, 0, none⟩)), (3, .int .i64 (bits .or .i64 x288 (IntKind.wrap .i64 ((IntKind.wrap .i64 (bits .and .u8 (bt p0.s x289) 127)) * 2 ^ min (Int.toNat (IntKind.wrap .i64 (7 * x289))) 64)))), (4, .int .i64 x289), (5, .int .u8 (bt p0.s x289)), (33, .bool (decide (x289 > (0 : Int))))]) rfl trivial fun a hk => ?_
      cases b412 : (decide (x289 > (0 : Int)))
      · rw [b412] at hk H
        replace H := bifF H
        refine x_run tab hk (k := 7) (lv := []) (ks := [0, 3, 4, 40]) (e' := [(0, .pointer (some ⟨bp0, 0, none⟩)), (3, .int .i64 (bits .or .i64 x288 (IntKind.wrap .i64 ((IntKind.wrap .i64 (bits .and .u8 (bt p0.s x289) 127)) * 2 ^ min (Int.toNat (IntKind.wrap .i64 (7 * x289))) 64)))), (4, .int .i64 x289), (40, .bool (decide ((bits .or .i64 x288 (IntKind.wrap .i64 ((IntKind.wrap .i64 (bits .and .u8 (bt p0.s x289) 127)) * 2 ^ min (Int.toNat (IntKind.wrap .i64 (7 * x289))) 64))) > (4611686018427387904 : Int))))]) rfl trivial fun a hk => ?_
        refine wpListIn_nil ?_
        refine then_n ?_
        exact ⟨o287, (decide ((bits .or .i64 x288 (IntKind.wrap .i64 ((IntKind.wrap .i64 (bits .and .u8 (bt p0.s x289) 127)) * 2 ^ min (Int.toNat (IntKind.wrap .i64 (7 * x289))) 64))) > (4611686018427387904 : Int))), (by exact Kn.pick (ks := [0, 3, 4, 40]) hk rfl), hs, f919, H⟩
      · rw [b412] at hk H
        replace H := bifT H
        refine x_run tab hk (k := 4) (lv := []) (ks := [0, 3, 4, 37]) (e' := [(0, .pointer (some ⟨bp0, 0, none⟩)), (3, .int .i64 (bits .or .i64 x288 (IntKind.wrap .i64 ((IntKind.wrap .i64 (bits .and .u8 (bt p0.s x289) 127)) * 2 ^ min (Int.toNat (IntKind.wrap .i64 (7 * x289))) 64)))), (4, .int .i64 x289), (37, .bool ((bt p0.s x289) == (0 : Int)))]) rfl trivial fun a hk => ?_
        cases b413 : ((bt p0.s x289) == (0 : Int))
        · rw [b413] at hk H
          replace H := bifF H
          refine x_run tab hk (k := 3) (lv := []) (ks := [0, 3, 4, 40]) (e' := [(0, .pointer (some ⟨bp0, 0, none⟩)), (3, .int .i64 (bits .or .i64 x288 (IntKind.wrap .i64 ((IntKind.wrap .i64 (bits .and .u8 (bt p0.s x289) 127)) * 2 ^ min (Int.toNat (IntKind.wrap .i64 (7 * x289))) 64)))), (4, .int .i64 x289), (40, .bool (decide ((bits .or .i64 x288 (IntKind.wrap .i64 ((IntKind.wrap .i64 (bits .and .u8 (bt p0.s x289) 127)) * 2 ^ min (Int.toNat (IntKind.wrap .i64 (7 * x289))) 64))) > (4611686018427387904 : Int))))]) rfl trivial fun a hk => ?_
          refine wpListIn_nil ?_
          refine then_n ?_
          exact ⟨o287, (decide ((bits .or .i64 x288 (IntKind.wrap .i64 ((IntKind.wrap .i64 (bits .and .u8 (bt p0.s x289) 127)) * 2 ^ min (Int.toNat (IntKind.wrap .i64 (7 * x289))) 64))) > (4611686018427387904 : Int))), (by exact Kn.pick (ks := [0, 3, 4, 40]) hk rfl), hs, f919, H⟩
        · rw [b413] at hk H
          replace H := bifT H
          refine x_run tab hk (k := 3) (lv := []) (ks := [0, 3, 4, 40]) (e' := [(0, .pointer (some ⟨bp0, 0, none⟩)), (3, .int .i64 (bits .or .i64 x288 (IntKind.wrap .i64 ((IntKind.wrap .i64 (bits .and .u8 (bt p0.s x289) 127)) * 2 ^ min (Int.toNat (IntKind.wrap .i64 (7 * x289))) 64)))), (4, .int .i64 x289), (40, .bool true)]) rfl trivial fun a hk => ?_
          refine wpListIn_nil ?_
          refine then_n ?_
          exact ⟨o287, true, (by exact Kn.pick (ks := [0, 3, 4, 40]) hk rfl), hs, f919, H⟩
    · rw [b357] at hk H
      replace H := bifT H
      refine x_if hk (b := true) rfl ?_
      refine (show Code.wpIn _ _ _ _ _ _ _ from ?_)
      refine wpIn_exit ?_
      refine then_x ?_
      refine blk_x ?_
      refine then_n ?_
      refine wpIn_region_lit ?_
      refine x_run tab hk (k := 2) (lv := []) (ks := [0, 3, 11, 12]) (e' := [(0, .pointer (some ⟨bp0, 0, none⟩)), (3, .int .i64 (bits .or .i64 x288 (IntKind.wrap .i64 ((IntKind.wrap .i64 (bits .and .u8 (bt p0.s x289) 127)) * 2 ^ min (Int.toNat (IntKind.wrap .i64 (7 * x289))) 64)))), (11, .int .i64 (mnI ((p0.s).size : Int) 9)), (12, .int .i64 (IntKind.wrap .i64 (x289 + 1)))]) rfl trivial fun a hk => ?_
      refine wpListIn_nil ?_
      refine then_n ?_
      exact ⟨k351, Nat.le_refl _, o287, (bits .or .i64 x288 (IntKind.wrap .i64 ((IntKind.wrap .i64 (bits .and .u8 (bt p0.s x289) 127)) * 2 ^ min (Int.toNat (IntKind.wrap .i64 (7 * x289))) 64))), (IntKind.wrap .i64 (x289 + 1)), (by exact Kn.pick (ks := [0, 3, 11, 12]) hk rfl), hs, f919, (hlp353 ▸ H)⟩

/-! (*tidewrack/num.In).End -/
theorem num_In_End_calls (bp0 : Nat) (p0 : T62) (w : World) (o : Nat → Nat) (Lp0 : Nat) (hp0 : Ft (Bx bp0 63 [.string p0.s, .int .i64 p0.e]) w o Lp0)  (r : Int) (H : num_In_End p0 = some r) :
    Calls Try.prog 23 #[.pointer (some ⟨bp0, 0, none⟩)] w (Ret fun v_ w' => ∃ o' : Nat → Nat, v_ = .int .i64 r ∧ St [] w o w' o') := by
  refine x_enter (vs := [.pointer (some ⟨bp0, 0, none⟩)]) Try.func23 rfl rfl rfl fun a hk => ?_
  obtain ⟨o0, hs, h0⟩ := St.start w o
  have f919 := h0 _ _ hp0
  clear h0
  rw [num_In_End] at H
  refine x_seq ?_
  refine wpIn_region_lit ?_
  refine x_run tab hk (k := 1) (lv := []) (ks := [0]) (e' := [(0, .pointer (some ⟨bp0, 0, none⟩))]) rfl trivial fun a hk => ?_
  refine wpListIn_nil ?_
  refine then_n ?_
  refine x_seq ?_
  refine x_seq ?_
  refine wpIn_region_lit ?_
  refine x_run tab hk (k := 5) (lv := [.string p0.s]) (ks := [0, 7]) (e' := [(0, .pointer (some ⟨bp0, 0, none⟩)), (7, .bool (!(ByteArray.toList p0.s == ByteArray.toList (⟨#[]⟩ : ByteArray))))]) rfl ⟨(load1 tab rfl ((Bx.cell f919.now 0).trans rfl)), trivial⟩ fun a hk => ?_
  refine wpListIn_nil ?_
  refine then_n ?_
  cases b1 : (!(ByteArray.toList p0.s == ByteArray.toList (⟨#[]⟩ : ByteArray)))
  · rw [b1] at hk H
    replace H := bifF H
    refine x_if hk (b := false) rfl ?_
    refine (show Code.wpIn _ _ _ _ _ _ _ from ?_)
    refine wpIn_skip ?_
    refine then_n ?_
    refine x_seq ?_
    refine wpIn_region_lit ?_
    refine x_run tab hk (k := 5) (lv := [.int .i64 p0.e]) (ks := [2]) (e' := [(2, .int .i64 p0.e)]) rfl ⟨(load1 tab rfl ((Bx.cell f919.now 1).trans rfl)), trivial⟩ fun a hk => ?_
    refine wpListIn_nil ?_
    refine then_n ?_
    refine wpIn_ret ?_
    obtain rfl := Option.some.inj H
    exact x_retG hk (rs := [.tmp 2]) (vs := [.int .i64 p0.e]) rfl ⟨rfl, trivial⟩ ⟨fun b_ => if b_ < w.heap.size then o b_ else (fun _ => 0) (o0 b_), rfl, hs.close0 o (fun _ => 0)⟩
  · rw [b1] at hk H
    replace H := bifT H
    refine x_if hk (b := true) rfl ?_
    refine (show Code.wpIn _ _ _ _ _ _ _ from ?_)
    refine x_seq ?_
    refine wpIn_region_lit ?_
    refine x_run tab hk (k := 1) (lv := []) (ks := [2]) (e' := [(2, .int .i64 1)]) rfl trivial fun a hk => ?_
    refine wpListIn_nil ?_
    refine then_n ?_
    refine wpIn_ret ?_
    refine then_r ?_
    obtain rfl := Option.some.inj H
    exact x_retG hk (rs := [.tmp 2]) (vs := [.int .i64 1]) rfl ⟨rfl, trivial⟩ ⟨fun b_ => if b_ < w.heap.size then o b_ else (fun _ => 0) (o0 b_), rfl, hs.close0 o (fun _ => 0)⟩

/-! tidewrack/num.Size -/
theorem num_Size_calls (K : Nat) (p0 : Int) (w : World) (o : Nat → Nat)   (r : Int) (H : num_Size K p0 = some r) :
    Calls Try.prog 13 #[.int .i64 p0] w (Ret fun v_ w' => ∃ o' : Nat → Nat, v_ = .int .i64 r ∧ St [] w o w' o') := by
  refine x_enterQ (vs := [.int .i64 p0]) Try.func13 rfl rfl rfl fun a hk => ?_
  obtain ⟨o0, hs, h0⟩ := St.start w o
  have fxm : Ft (MK []) w o0 1 := Ft.of_all (fun _ => MK.nil _) _ _ _
  clear h0
  rw [num_Size] at H
  refine x_seq ?_
  refine wpIn_region_lit ?_
  refine x_run tab hk (k := 1) (lv := []) (ks := [0]) (e' := [(0, .int .i64 p0)]) rfl trivial fun a hk => ?_
  refine wpListIn_nil ?_
  refine then_n ?_
  refine x_seq ?_
  refine wpIn_region_lit ?_
  refine x_op hk rfl ?_
  refine op_alloc (o := o0) tab (t := 3) (cs := [.int .i64 0]) rfl rfl 2 fun bx4 w1 o2 st3 f5 => ?_
  replace fxm := fxm.st st3 (by decide)
  replace hs := hs.loc0 st3 (by decide)
  have hk := hk.put 3 (.pointer (some ⟨bx4, 0, none⟩)) rfl
  refine x_op hk rfl ?_
  refine op_store tab hk (t := 3) (v := .int .i64 0) (b := bx4) (k := 0) (cs' := [.int .i64 0]) rfl rfl rfl rfl rfl rfl f5 rfl rfl fun w6 o7 st8 f5_ => ?_
  replace fxm := fxm.st st8 (by decide)
  replace hs := hs.loc0 st8 (by decide)
  replace f5 := f5_
  refine wpListIn_nil ?_
  refine then_n ?_
  refine x_mid (fun a_ w_ => ∃ o64 : Nat → Nat, ∃ ds65 : List Deferred, ∃ x66 : Int, KnD 10 ds65 a_ [(3, .pointer (some ⟨bx4, 0, none⟩))] ∧ St [] w (fun _ => 0) w_ o64 ∧ Ft (Bx bx4 3 [.int .i64 x66]) w_ o64 6 ∧ Ft (MK ds65) w_ o64 1 ∧ num_Size_j1 x66 = some r) ?_ ?_
  rotate_left
  · rintro a w67 ⟨o64, ds65, x66, hk, hs, f5, fxm, H⟩
    rw [num_Size_j1] at H
    refine x_seq ?_
    refine wpIn_region_lit ?_
    refine x_run tab hk (k := 2) (lv := [.int .i64 x66]) (ks := [2]) (e' := [(2, .int .i64 x66)]) rfl ⟨(load1 tab rfl ((Bx.cell f5.now 0).trans rfl)), trivial⟩ fun a hk => ?_
    refine wpListIn_nil ?_
    refine then_n ?_
    refine wpIn_ret ?_
    refine x_retQ hk fxm fun w68 a st69 hk => ?_
    replace hs := hs.loc0 st69 (by decide)
    obtain rfl := Option.some.inj H
    exact x_retG hk (rs := [.tmp 2]) (vs := [.int .i64 x66]) rfl ⟨rfl, trivial⟩ ⟨fun b_ => if b_ < w.heap.size then o b_ else (fun _ => 0) (o64 b_), rfl, hs.close0 o (fun _ => 0)⟩
  refine x_seq ?_
  refine wpIn_region_lit ?_
  refine x_run tab hk (k := 1) (lv := []) (ks := [3, 4]) (e' := [(3, .pointer (some ⟨bx4, 0, none⟩)), (4, .int .i64 p0)]) rfl trivial fun a hk => ?_
  refine x_op hk rfl ?_
  obtain ⟨t73, hc74, H⟩ := bindS H
  refine op_call hk ent_31 (vs := [.int .i64 p0]) rfl (num_digits_calls p0 _ o7  7  _ hc74) ?_
  rintro _ w75 ⟨o76, bx78, rfl, st77, f79⟩
  replace f5 := f5.st st77 (by decide)
  replace fxm := fxm.st st77 (by decide)
  replace hs := hs.loc0 st77 (by decide)
  have hk := hk.put 5 (.func (.func 32) #[] #[.pointer (some ⟨bx78, 0, none⟩)]) rfl
  refine wpListIn_nil ?_
  refine then_n ?_
  refine wpIn_block ?_
  obtain ⟨ys80, hy81, H⟩ := bindS H
  refine x_range 1 8 9 [2] hk rfl ent_32 (num_digits_1_iter K bx78 t73 _ _ 7 f79 (by decide) _ hy81) fxm (fun _ _ _ h_ => by subst h_; rfl) rfl rfl (fun rr_ w_ o101 => ∃ x102 : Int, St [] w (fun _ => 0) w_ o101 ∧ Ft (Bx bx4 3 [.int .i64 x102]) w_ o101 2 ∧ num_Size_r2 rr_ x102 = some r) (fun c_ w_ o108 => False) ?_ ?_ ⟨0, hs, f5, H⟩ ?_ ?_ ?_
  · rintro rr_ w_ _ _ _ ⟨x102, hs, f5, H⟩ st_
    exact ⟨x102, hs.loc0 st_ (by decide), f5.st st_ (by decide), H⟩
  · exact fun _ _ _ _ _ h_ _ => h_.elim
  · rintro R0_ R1_ lr_ x82 vs_ rest83 w84 o85 ⟨x102, hsO, f5, H⟩ hE fxr a hk
    obtain rfl : vs_ = [.int .u8 x82] := hE w84
    obtain ⟨o86, hs0, hfl, hbB, hoi⟩ := St.startB w84 o85 9
    have hs := hs0 [8, 2]
    replace f5 := hfl f5 rfl
    replace fxr := hfl fxr rfl
    replace hk : Kn 10 a [(3, .pointer (some ⟨bx4, 0, none⟩)), (6, .int .u8 x82)] := Kn.pick (ks := [3, 6]) hk rfl
    rw [num_Size_r2] at H
    obtain ⟨lp87, hlp88⟩ : ∃ lp_, lp_ = num_Size_r2 rest83 := ⟨_, rfl⟩
    rw [← hlp88] at H
    refine wpIn_skip ?_
    refine then_n ?_
    refine ⟨_, fxr, fun w111 st112 fxr => ?_⟩
    replace f5 := f5.st st112 (by decide)
    replace hs := hs.locB st112 rfl hbB
    refine wpIn_block ?_
    refine wpIn_region_lit ?_
    refine x_run tab hk (k := 2) (lv := [.int .i64 x102]) (ks := [3, 8]) (e' := [(3, .pointer (some ⟨bx4, 0, none⟩)), (8, .int .i64 (IntKind.wrap .i64 (x102 + 1)))]) rfl ⟨(load1 tab rfl ((Bx.cell f5.now 0).trans rfl)), trivial⟩ fun a hk => ?_
    refine x_op hk rfl ?_
    refine op_store tab hk (t := 3) (v := .int .i64 (IntKind.wrap .i64 (x102 + 1))) (b := bx4) (k := 0) (cs' := [.int .i64 (IntKind.wrap .i64 (x102 + 1))]) rfl rfl rfl rfl rfl rfl f5 rfl rfl fun w113 o114 st115 f5_ => ?_
    replace fxr := fxr.st st115 (by decide)
    replace hs := hs.locB st115 rfl hbB
    replace f5 := f5_
    refine wpListIn_nil ?_
    refine blk_n ?_
    have hq116 := hs.closeB hoi hbB rfl (fun l_ => if l_ = 2 then 2 else 0)
    exact ⟨_, hq116, fxr.now, ⟨(IntKind.wrap .i64 (x102 + 1)), (hsO.loc0 hq116 (by decide)), (hs.closeM_ft (o := o85) (ρ := (fun l_ => if l_ = 2 then 2 else 0)) f5 (lab_atB hoi rfl) rfl), (hlp88 ▸ H)⟩⟩
  · rintro ds110 w109 o101 a hk fxm ⟨x102, hs, f5, H⟩
    rw [num_Size_r2] at H
    refine blk_n ?_
    refine then_n ?_
    exact ⟨(fun b_ => (fun l_ => if l_ = 2 then 6 else l_) (o101 b_)), ds110, x102, (by exact Kn.pick (ks := [3]) hk rfl), (hs.relab0 (fun l_ => if l_ = 2 then 6 else l_) rfl), (f5.relab (fun l_ => if l_ = 2 then 6 else l_) rfl), (fxm.relab (fun l_ => if l_ = 2 then 6 else l_) rfl), H⟩
  · exact fun _ _ _ _ _ _ _ h_ => h_.elim

/-! tidewrack/tidewracklaw01.awake -/
theorem tidewracklaw01_awake_calls (K : Nat)  (w : World) (o : Nat → Nat)   (r : Bool) (H : tidewracklaw01_awake K = some r) :
    Calls Try.prog 9 #[] w (Ret fun v_ w' => ∃ o' : Nat → Nat, v_ = .bool r ∧ St [] w o w' o') := by
  refine x_enter (vs := []) Try.func9 rfl rfl rfl fun a hk => ?_
  obtain ⟨o0, hs, h0⟩ := St.start w o
  clear h0
  rw [tidewracklaw01_awake] at H
  refine x_seq ?_
  refine wpIn_region_lit ?_
  refine x_run tab hk (k := 1) (lv := []) (ks := []) (e' := []) rfl trivial fun a hk => ?_
  refine wpListIn_nil ?_
  refine then_n ?_
  refine x_seq ?_
  refine wpIn_region_lit ?_
  refine x_op hk rfl ?_
  refine op_alloc (o := o0) tab (t := 26) (cs := [.slice none 0 0]) rfl rfl 1 fun bx4 w1 o2 st3 f5 => ?_
  replace hs := hs.loc0 st3 (by decide)
  have hk := hk.put 1 (.pointer (some ⟨bx4, 0, none⟩)) rfl
  refine wpListIn_nil ?_
  refine then_n ?_
  refine x_seq ?_
  refine wpIn_region_lit ?_
  refine x_op hk rfl ?_
  obtain ⟨t9, hc10, H⟩ := bindS H
  refine op_call hk ent_18 (vs := [.string (⟨#[172, 2]⟩ : ByteArray)]) rfl (num_Of_calls (⟨#[172, 2]⟩ : ByteArray) _ o2  2  _ hc10) ?_
  rintro _ w11 ⟨o12, bx14, rfl, st13, f15⟩
  replace f5 := f5.st st13 (by decide)
  replace hs := hs.loc0 st13 (by decide)
  have hk := hk.put 3 (.pointer (some ⟨bx14, 0, none⟩)) rfl
  refine x_run tab hk (k := 1) (lv := []) (ks := [1, 2]) (e' := [(1, .pointer (some ⟨bx4, 0, none⟩)), (2, .pointer (some ⟨bx14, 0, none⟩))]) rfl trivial fun a hk => ?_
  refine wpListIn_nil ?_
  refine then_n ?_
  refine x_seq ?_
  refine wpIn_region_lit ?_
  refine x_op hk rfl ?_
  refine op_slice (o := o12) tab hk (vs := [.int .i64 300]) (cs := [.int .i64 300]) rfl rfl rfl rfl rfl rfl rfl rfl rfl 3 fun bx19 w16 o17 st18 f20 => ?_
  replace f15 := f15.st st18 (by decide)
  replace f5 := f5.st st18 (by decide)
  replace hs := hs.loc0 st18 (by decide)
  have f21 : Ft (Own (encInt .i64) 3 (.slice (some ⟨bx19, 0, none⟩) (([300] : List Int)).length 1) ([300] : List Int)) w16 o17 3 := f20.imp fun _ h_ => Own.of_box h_ rfl (by simp)
  have hk := hk.put 4 (.slice (some ⟨bx19, 0, none⟩) (([300] : List Int)).length 1) rfl
  refine x_op hk rfl ?_
  obtain ⟨t25, hc26, H⟩ := bindS H
  refine op_call hk ent_11 (vs := [.pointer (some ⟨bx4, 0, none⟩), .slice (some ⟨bx19, 0, none⟩) (([300] : List Int)).length 1]) rfl (num_Out_Num_calls K bx4 none 0 (⟨([] : List Int)⟩ : T25) (some ⟨bx19, 0, none⟩) 1 ([300] : List Int) _ o17 1 f5 4 (Ft.of_all (fun _ => Own.nil _ _ _) _ _ 4) (by simp) _ (f21.imp fun _ h_ => Own.rd h_) (Nat.le_refl _) (by decide) (by decide)   _ hc26) ?_
  rintro _ w27 ⟨o28, A31, c32, rfl, st29, f30, f33, hc34⟩
  replace f15 := f15.st st29 (by decide)
  replace f21 := f21.st st29 (by decide)
  replace hs := hs.loc0 st29 (by decide)
  have hk := hk.put 5 (.pointer (some ⟨bx4, 0, none⟩)) rfl
  refine x_op hk rfl ?_
  refine op_slice (o := o28) tab hk (vs := [.string (⟨#[97, 98]⟩ : ByteArray)]) (cs := [.string (⟨#[97, 98]⟩ : ByteArray)]) rfl rfl rfl rfl rfl rfl rfl rfl rfl 5 fun bx38 w35 o36 st37 f39 => ?_
  replace f15 := f15.st st37 (by decide)
  replace f21 := f21.st st37 (by decide)
  replace f30 := f30.st st37 (by decide)
  replace f33 := f33.st st37 (by decide)
  replace hs := hs.loc0 st37 (by decide)
  have f40 : Ft (Own encStr 9 (.slice (some ⟨bx38, 0, none⟩) (([(⟨#[97, 98]⟩ : ByteArray)] : List ByteArray)).length 1) ([(⟨#[97, 98]⟩ : ByteArray)] : List ByteArray)) w35 o36 5 := f39.imp fun _ h_ => Own.of_box h_ rfl (by simp)
  have hk := hk.put 6 (.slice (some ⟨bx38, 0, none⟩) (([(⟨#[97, 98]⟩ : ByteArray)] : List ByteArray)).length 1) rfl
  refine x_op hk rfl ?_
  obtain ⟨t44, hc45, H⟩ := bindS H
  refine op_call hk ent_14 (vs := [.pointer (some ⟨bx4, 0, none⟩), .slice (some ⟨bx38, 0, none⟩) (([(⟨#[97, 98]⟩ : ByteArray)] : List ByteArray)).length 1]) rfl (num_Out_Text_calls K bx4 A31 c32 t25 (some ⟨bx38, 0, none⟩) 1 ([(⟨#[97, 98]⟩ : ByteArray)] : List ByteArray) _ o36 1 f30 4 f33 hc34 _ (f40.imp fun _ h_ => Own.rd h_) (Nat.le_refl _) (by decide) (by decide)   _ hc45) ?_
  rintro _ w46 ⟨o47, A50, c51, rfl, st48, f49, f52, hc53⟩
  replace f15 := f15.st st48 (by decide)
  replace f21 := f21.st st48 (by decide)
  replace f40 := f40.st st48 (by decide)
  replace hs := hs.loc0 st48 (by decide)
  have hk := hk.put 7 (.pointer (some ⟨bx4, 0, none⟩)) rfl
  refine x_op hk rfl ?_
  obtain ⟨t57, hc58, H⟩ := bindS H
  refine op_call hk ent_17 (vs := [.pointer (some ⟨bx4, 0, none⟩)]) rfl (num_Out_Bytes_calls bx4 A50 c51 t44 _ o47 1 f49 4 f52 hc53 (by decide)   _ hc58) ?_
  rintro _ w59 ⟨o60, A63, c64, rfl, st61, f62, f65, hc66⟩
  replace f15 := f15.st st61 (by decide)
  replace f21 := f21.st st61 (by decide)
  replace f40 := f40.st st61 (by decide)
  replace hs := hs.loc0 st61 (by decide)
  have hk := hk.put 8 (.string t57.1) rfl
  refine x_run tab hk (k := 2) (lv := []) (ks := [2, 10]) (e' := [(2, .pointer (some ⟨bx14, 0, none⟩)), (10, .bool (ByteArray.toList t57.1 == ByteArray.toList (⟨#[172, 2, 2, 97, 98]⟩ : ByteArray)))]) rfl trivial fun a hk => ?_
  cases b67 : (ByteArray.toList t57.1 == ByteArray.toList (⟨#[172, 2, 2, 97, 98]⟩ : ByteArray))
  · rw [b67] at hk H
    replace H := bifF H
    refine x_run tab hk (k := 12) (lv := []) (ks := [19, 22]) (e' := [(19, .bool false), (22, undef)]) rfl trivial fun a hk => ?_
    refine x_run tab hk (k := 6) (lv := []) (ks := [0]) (e' := [(0, .bool false)]) rfl trivial fun a hk => ?_
    refine wpListIn_nil ?_
    refine then_n ?_
    refine wpIn_ret ?_
    obtain rfl := Option.some.inj H
    exact x_retG hk (rs := [.tmp 0]) (vs := [.bool false]) rfl ⟨rfl, trivial⟩ ⟨fun b_ => if b_ < w.heap.size then o b_ else (fun _ => 0) (o60 b_), rfl, hs.close0 o (fun _ => 0)⟩
  · rw [b67] at hk H
    replace H := bifT H
    refine x_run tab hk (k := 5) (lv := []) (ks := [2, 14, 15]) (e' := [(2, .pointer (some ⟨bx14, 0, none⟩)), (14, .bool true), (15, .pointer (some ⟨bx14, 0, none⟩))]) rfl trivial fun a hk => ?_
    refine x_op hk rfl ?_
    obtain ⟨t71, hc72, H⟩ := bindS H
    refine op_call hk ent_19 (vs := [.pointer (some ⟨bx14, 0, none⟩)]) rfl (num_In_Num_calls K bx14 t9 _ o60 2 f15 (by decide)   _ hc72) ?_
    rintro _ w73 ⟨o74, rfl, st75, f76⟩
    replace hs := hs.loc0 st75 (by decide)
    have hk := hk.put 16 (.int .i64 t71.1) rfl
    refine x_run tab hk (k := 3) (lv := []) (ks := [2, 19]) (e' := [(2, .pointer (some ⟨bx14, 0, none⟩)), (19, .bool (t71.1 == (300 : Int)))]) rfl trivial fun a hk => ?_
    cases b77 : (t71.1 == (300 : Int))
    · rw [b77] at hk H
      replace H := bifF H
      refine x_run tab hk (k := 9) (lv := []) (ks := [0]) (e' := [(0, .bool false)]) rfl trivial fun a hk => ?_
      refine wpListIn_nil ?_
      refine then_n ?_
      refine wpIn_ret ?_
      obtain rfl := Option.some.inj H
      exact x_retG hk (rs := [.tmp 0]) (vs := [.bool false]) rfl ⟨rfl, trivial⟩ ⟨fun b_ => if b_ < w.heap.size then o b_ else (fun _ => 0) (o74 b_), rfl, hs.close0 o (fun _ => 0)⟩
    · rw [b77] at hk H
      replace H := bifT H
      refine x_run tab hk (k := 1) (lv := []) (ks := [19, 20]) (e' := [(19, .bool true), (20, .pointer (some ⟨bx14, 0, none⟩))]) rfl trivial fun a hk => ?_
      refine x_op hk rfl ?_
      obtain ⟨t81, hc82, H⟩ := bindS H
      refine op_call hk ent_23 (vs := [.pointer (some ⟨bx14, 0, none⟩)]) rfl (num_In_End_calls bx14 t71.2 _ o74 2 f76   _ hc82) ?_
      rintro _ w83 ⟨o84, rfl, st85⟩
      replace f76 := f76.st st85 (by decide)
      replace hs := hs.loc0 st85 (by decide)
      have hk := hk.put 21 (.int .i64 t81) rfl
      refine x_run tab hk (k := 3) (lv := []) (ks := [24]) (e' := [(24, .bool (t81 == (0 : Int)))]) rfl trivial fun a hk => ?_
      cases b86 : (t81 == (0 : Int))
      · rw [b86] at hk H
        replace H := bifF H
        refine x_run tab hk (k := 4) (lv := []) (ks := [0]) (e' := [(0, .bool false)]) rfl trivial fun a hk => ?_
        refine wpListIn_nil ?_
        refine then_n ?_
        refine wpIn_ret ?_
        obtain rfl := Option.some.inj H
        exact x_retG hk (rs := [.tmp 0]) (vs := [.bool false]) rfl ⟨rfl, trivial⟩ ⟨fun b_ => if b_ < w.heap.size then o b_ else (fun _ => 0) (o84 b_), rfl, hs.close0 o (fun _ => 0)⟩
      · rw [b86] at hk H
        replace H := bifT H
        refine x_op hk rfl ?_
        obtain ⟨t90, hc91, H⟩ := bindS H
        refine op_call hk ent_13 (vs := [.int .i64 300]) rfl (num_Size_calls K 300 _ o84    _ hc91) ?_
        rintro _ w92 ⟨o93, rfl, st94⟩
        replace hs := hs.loc0 st94 (by decide)
        have hk := hk.put 25 (.int .i64 t90) rfl
        refine x_run tab hk (k := 3) (lv := []) (ks := [0]) (e' := [(0, .bool (t90 == (2 : Int)))]) rfl trivial fun a hk => ?_
        refine wpListIn_nil ?_
        refine then_n ?_
        refine wpIn_ret ?_
        obtain rfl := Option.some.inj H
        exact x_retG hk (rs := [.tmp 0]) (vs := [.bool (t90 == (2 : Int))]) rfl ⟨rfl, trivial⟩ ⟨fun b_ => if b_ < w.heap.size then o b_ else (fun _ => 0) (o93 b_), rfl, hs.close0 o (fun _ => 0)⟩

/-! tidewrack/tidewracklaw01.Cut -/
theorem tidewracklaw01_Cut_calls (p0 : ByteArray) (p1 : Int) (w : World) (o : Nat → Nat)   (r : ByteArray) (H : tidewracklaw01_Cut p0 p1 = some r) :
    Calls Try.prog 10 #[.string p0, .int .i64 p1] w (Ret fun v_ w' => ∃ o' : Nat → Nat, v_ = .string r ∧ St [] w o w' o') := by
  refine x_enter (vs := [.string p0, .int .i64 p1]) Try.func10 rfl rfl rfl fun a hk => ?_
  obtain ⟨o0, hs, h0⟩ := St.start w o
  clear h0
  rw [tidewracklaw01_Cut] at H
  refine x_seq ?_
  refine wpIn_region_lit ?_
  refine x_run tab hk (k := 1) (lv := []) (ks := [0, 1]) (e' := [(0, .string p0), (1, .int .i64 p1)]) rfl trivial fun a hk => ?_
  refine wpListIn_nil ?_
  refine then_n ?_
  refine x_seq ?_
  refine x_seq ?_
  refine wpIn_region_lit ?_
  refine x_run tab hk (k := 4) (lv := []) (ks := [0, 1, 8]) (e' := [(0, .string p0), (1, .int .i64 p1), (8, .bool (decide (((p0).size : Int) > p1)))]) rfl trivial fun a hk => ?_
  refine wpListIn_nil ?_
  refine then_n ?_
  cases b1 : (decide (((p0).size : Int) > p1))
  · rw [b1] at hk H
    replace H := bifF H
    refine x_if hk (b := false) rfl ?_
    refine (show Code.wpIn _ _ _ _ _ _ _ from ?_)
    refine wpIn_skip ?_
    refine then_n ?_
    refine x_seq ?_
    refine wpIn_region_lit ?_
    refine x_run tab hk (k := 2) (lv := []) (ks := [4]) (e' := [(4, .string p0)]) rfl trivial fun a hk => ?_
    refine wpListIn_nil ?_
    refine then_n ?_
    refine wpIn_ret ?_
    obtain rfl := Option.some.inj H
    exact x_retG hk (rs := [.tmp 4]) (vs := [.string p0]) rfl ⟨rfl, trivial⟩ ⟨fun b_ => if b_ < w.heap.size then o b_ else (fun _ => 0) (o0 b_), rfl, hs.close0 o (fun _ => 0)⟩
  · rw [b1] at hk H
    replace H := bifT H
    refine x_if hk (b := true) rfl ?_
    refine (show Code.wpIn _ _ _ _ _ _ _ from ?_)
    refine x_seq ?_
    refine wpIn_region_lit ?_
    obtain ⟨q2, H⟩ := ifS H
    obtain ⟨q3, H⟩ := ifS H
    refine x_run tab hk (k := 4) (lv := []) (ks := [4]) (e' := [(4, .string (ByteArray.extract p0 0 (Int.toNat p1)))]) rfl ⟨q2, q3, trivial⟩ fun a hk => ?_
    refine wpListIn_nil ?_
    refine then_n ?_
    refine wpIn_ret ?_
    refine then_r ?_
    obtain rfl := Option.some.inj H
    exact x_retG hk (rs := [.tmp 4]) (vs := [.string (ByteArray.extract p0 0 (Int.toNat p1))]) rfl ⟨rfl, trivial⟩ ⟨fun b_ => if b_ < w.heap.size then o b_ else (fun _ => 0) (o0 b_), rfl, hs.close0 o (fun _ => 0)⟩

/-! tidewrack/tidewrackref01.Num -/
theorem tidewrackref01_Num_calls (K : Nat) (p0 : Int) (w : World) (o : Nat → Nat)   (r : ByteArray) (H : tidewrackref01_Num K p0 = some r) :
    Calls Try.prog 12 #[.int .i64 p0] w (Ret fun v_ w' => ∃ o' : Nat → Nat, v_ = .string r ∧ St [] w o w' o') := by
  refine x_enter (vs := [.int .i64 p0]) Try.func12 rfl rfl rfl fun a hk => ?_
  obtain ⟨o0, hs, h0⟩ := St.start w o
  clear h0
  rw [tidewrackref01_Num] at H
  refine x_seq ?_
  refine wpIn_region_lit ?_
  refine x_run tab hk (k := 1) (lv := []) (ks := [0]) (e' := [(0, .int .i64 p0)]) rfl trivial fun a hk => ?_
  refine wpListIn_nil ?_
  refine then_n ?_
  refine x_seq ?_
  refine wpIn_region_lit ?_
  refine x_run tab hk (k := 4) (lv := []) (ks := [0]) (e' := [(0, .int .i64 (mxI 0 (mnI p0 4611686018427387904)))]) rfl trivial fun a hk => ?_
  refine wpListIn_nil ?_
  refine then_n ?_
  refine x_seq ?_
  refine wpIn_region_lit ?_
  refine x_op hk rfl ?_
  refine op_slice (o := o0) tab hk (vs := []) (cs := []) rfl rfl rfl rfl rfl rfl rfl rfl rfl 1 fun bx4 w1 o2 st3 f5 => ?_
  replace hs := hs.loc0 st3 (by decide)
  have f6 : Ft (Own (encInt .u8) 5 (.slice (some ⟨bx4, 0, none⟩) (([] : List Int)).length 0) ([] : List Int)) w1 o2 1 := f5.imp fun _ h_ => Own.of_box h_ rfl (by simp)
  have hk := hk.put 7 (.slice (some ⟨bx4, 0, none⟩) (([] : List Int)).length 0) rfl
  refine x_run tab hk (k := 1) (lv := []) (ks := [0, 3]) (e' := [(0, .int .i64 (mxI 0 (mnI p0 4611686018427387904))), (3, .slice (some ⟨bx4, 0, none⟩) (([] : List Int)).length 0)]) rfl trivial fun a hk => ?_
  refine wpListIn_nil ?_
  refine then_n ?_
  refine x_mid (fun a_ w_ => ∃ o77 : Nat → Nat, ∃ x78 : Int, ∃ A79 : Option Addr, ∃ c80 : Nat, ∃ l81 : List Int, Kn 25 a_ [(0, .int .i64 x78), (3, .slice A79 (l81).length c80)] ∧ St [] w (fun _ => 0) w_ o77 ∧ Ft (Own (encInt .u8) 5 (.slice A79 (l81).length c80) l81) w_ o77 7 ∧ (l81).length ≤ c80 ∧ tidewrackref01_Num_j1 x78 l81 = some r) ?_ ?_
  rotate_left
  · rintro a w84 ⟨o77, x78, A79, c80, l81, hk, hs, f82, hc83, H⟩
    rw [tidewrackref01_Num_j1] at H
    refine x_seq ?_
    refine wpIn_region_lit ?_
    refine x_run tab hk (k := 3) (lv := []) (ks := [19, 21]) (e' := [(19, .slice A79 (l81).length c80), (21, .int .u8 (IntKind.wrap .u8 x78))]) rfl trivial fun a hk => ?_
    refine x_op hk rfl ?_
    refine op_slice (o := o77) tab hk (vs := [.int .u8 (IntKind.wrap .u8 x78)]) (cs := [.int .u8 (IntKind.wrap .u8 x78)]) rfl rfl rfl rfl rfl rfl rfl rfl rfl 8 fun bx88 w85 o86 st87 f89 => ?_
    replace f82 := f82.st st87 (by decide)
    replace hs := hs.loc0 st87 (by decide)
    have f90 : Ft (Own (encInt .u8) 5 (.slice (some ⟨bx88, 0, none⟩) (([(IntKind.wrap .u8 x78)] : List Int)).length 1) ([(IntKind.wrap .u8 x78)] : List Int)) w85 o86 8 := f89.imp fun _ h_ => Own.of_box h_ rfl (by simp)
    have hk := hk.put 22 (.slice (some ⟨bx88, 0, none⟩) (([(IntKind.wrap .u8 x78)] : List Int)).length 1) rfl
    refine x_op hk rfl ?_
    obtain ⟨q94, H⟩ := ifS H
    refine op_append (o := o86) (E := (encInt .u8)) (xs := l81) (ys := ([(IntKind.wrap .u8 x78)] : List Int)) tab hk rfl rfl rfl rfl rfl rfl rfl f82 (Own.rd f90.now) q94 fun A95 c96 w91 o92 st93 f97 hc98 => ?_
    replace f90 := f90.st st93 (by decide)
    replace hs := hs.loc0 st93 (by decide)
    have hk := hk.put 23 (.slice A95 ((l81 ++ ([(IntKind.wrap .u8 x78)] : List Int))).length c96) rfl
    refine x_run tab hk (k := 2) (lv := [.string (strOfNums (l81 ++ ([(IntKind.wrap .u8 x78)] : List Int)))]) (ks := [2]) (e' := [(2, .string (strOfNums (l81 ++ ([(IntKind.wrap .u8 x78)] : List Int))))]) rfl ⟨(ask_str tab rfl rfl rfl rfl (Own.rd f97.now) (Own.plain f97.now _ _ _ rfl)), trivial⟩ fun a hk => ?_
    refine wpListIn_nil ?_
    refine then_n ?_
    refine wpIn_ret ?_
    obtain rfl := Option.some.inj H
    exact x_retG hk (rs := [.tmp 2]) (vs := [.string (strOfNums (l81 ++ ([(IntKind.wrap .u8 x78)] : List Int)))]) rfl ⟨rfl, trivial⟩ ⟨fun b_ => if b_ < w.heap.size then o b_ else (fun _ => 0) (o92 b_), rfl, hs.close0 o (fun _ => 0)⟩
  refine wpIn_block ?_
  refine x_loop (fun j_ a_ w_ => ∃ o117 : Nat → Nat, ∃ x118 : Int, ∃ A119 : Option Addr, ∃ c120 : Nat, ∃ l121 : List Int, Kn 25 a_ [(0, .int .i64 x118), (3, .slice A119 (l121).length c120)] ∧ St [] w (fun _ => 0) w_ o117 ∧ Ft (Own (encInt .u8) 5 (.slice A119 (l121).length c120) l121) w_ o117 11 ∧ (l121).length ≤ c120 ∧ tidewrackref01_Num_l2 j_ x118 l121 = some r) (k := K) ⟨(fun b_ => (fun l_ => if l_ = 1 then 11 else l_) (o2 b_)), (mxI 0 (mnI p0 4611686018427387904)), (some ⟨bx4, 0, none⟩), 0, ([] : List Int), (by exact Kn.pick (ks := [0, 3]) hk rfl), (hs.relab0 (fun l_ => if l_ = 1 then 11 else l_) rfl), (f6.relab (fun l_ => if l_ = 1 then 11 else l_) rfl), (Nat.le_refl _), H⟩ (by rintro _ _ ⟨_, _, _, _, _, _, _, _, _, H_⟩; exact absurd (show (none : Option ByteArray) = some r from H_) (by simp)) ?_
  rintro k140 a w139 ⟨o117, x118, A119, c120, l121, hk, hs, f122, hc123, H⟩
  rw [tidewrackref01_Num_l2] at H
  obtain ⟨lp141, hlp142⟩ : ∃ lp_, lp_ = tidewrackref01_Num_l2 k140 := ⟨_, rfl⟩
  rw [← hlp142] at H
  refine x_seq ?_
  refine x_seq ?_
  refine wpIn_region_lit ?_
  refine x_run tab hk (k := 2) (lv := []) (ks := [0, 3, 9]) (e' := [(0, .int .i64 x118), (3, .slice A119 (l121).length c120), (9, .bool (decide (x118 ≥ (128 : Int))))]) rfl trivial fun a hk => ?_
  refine wpListIn_nil ?_
  refine then_n ?_
  cases b143 : (decide (x118 ≥ (128 : Int)))
  · rw [b143] at hk H
    replace H := bifF H
    refine x_if hk (b := false) rfl ?_
    refine (show Code.wpIn _ _ _ _ _ _ _ from ?_)
    refine wpIn_exit ?_
    refine then_x ?_
    refine then_x ?_
    refine blk_x ?_
    refine then_n ?_
    exact ⟨(fun b_ => (fun l_ => if l_ = 11 then 7 else l_) (o117 b_)), x118, A119, c120, l121, (by exact Kn.pick (ks := [0, 3]) hk rfl), (hs.relab0 (fun l_ => if l_ = 11 then 7 else l_) rfl), (f122.relab (fun l_ => if l_ = 11 then 7 else l_) rfl), hc123, H⟩
  · rw [b143] at hk H
    replace H := bifT H
    refine x_if hk (b := true) rfl ?_
    refine (show Code.wpIn _ _ _ _ _ _ _ from ?_)
    refine wpIn_skip ?_
    refine then_n ?_
    refine wpIn_block ?_
    refine x_seq ?_
    refine wpIn_region_lit ?_
    refine x_run tab hk (k := 5) (lv := []) (ks := [0, 10, 14]) (e' := [(0, .int .i64 x118), (10, .slice A119 (l121).length c120), (14, .int .u8 (IntKind.wrap .u8 (IntKind.wrap .i64 (128 + (Int.tmod x118 128)))))]) rfl ⟨(show (128 : Int) ≠ 0 from by decide), trivial⟩ fun a hk => ?_
    refine x_op hk rfl ?_
    refine op_slice (o := o117) tab hk (vs := [.int .u8 (IntKind.wrap .u8 (IntKind.wrap .i64 (128 + (Int.tmod x118 128))))]) (cs := [.int .u8 (IntKind.wrap .u8 (IntKind.wrap .i64 (128 + (Int.tmod x118 128))))]) rfl rfl rfl rfl rfl rfl rfl rfl rfl 13 fun bx147 w144 o145 st146 f148 => ?_
    replace f122 := f122.st st146 (by decide)
    replace hs := hs.loc0 st146 (by decide)
    have f149 : Ft (Own (encInt .u8) 5 (.slice (some ⟨bx147, 0, none⟩) (([(IntKind.wrap .u8 (IntKind.wrap .i64 (128 + (Int.tmod x118 128))))] : List Int)).length 1) ([(IntKind.wrap .u8 (IntKind.wrap .i64 (128 + (Int.tmod x118 128))))] : List Int)) w144 o145 13 := f148.imp fun _ h_ => Own.of_box h_ rfl (by simp)
    have hk := hk.put 15 (.slice (some ⟨bx147, 0, none⟩) (([(IntKind.wrap .u8 (IntKind.wrap .i64 (128 + (Int.tmod x118 128))))] : List Int)).length 1) rfl
    refine x_op hk rfl ?_
    obtain ⟨q153, H⟩ := ifS H
    refine op_append (o := o145) (E := (encInt .u8)) (xs := l121) (ys := ([(IntKind.wrap .u8 (IntKind.wrap .i64 (128 + (Int.tmod x118 128))))] : List Int)) tab hk rfl rfl rfl rfl rfl rfl rfl f122 (Own.rd f149.now) q153 fun A154 c155 w150 o151 st152 f156 hc157 => ?_
    replace f149 := f149.st st152 (by decide)
    replace hs := hs.loc0 st152 (by decide)
    have hk := hk.put 16 (.slice A154 ((l121 ++ ([(IntKind.wrap .u8 (IntKind.wrap .i64 (128 + (Int.tmod x118 128))))] : List Int))).length c155) rfl
    refine x_run tab hk (k := 1) (lv := []) (ks := [0, 3]) (e' := [(0, .int .i64 x118), (3, .slice A154 ((l121 ++ ([(IntKind.wrap .u8 (IntKind.wrap .i64 (128 + (Int.tmod x118 128))))] : List Int))).length c155)]) rfl trivial fun a hk => ?_
    refine wpListIn_nil ?_
    refine then_n ?_
    refine wpIn_region_lit ?_
    refine x_run tab hk (k := 3) (lv := []) (ks := [0, 3]) (e' := [(0, .int .i64 (IntKind.wrap .i64 (Int.tdiv x118 128))), (3, .slice A154 ((l121 ++ ([(IntKind.wrap .u8 (IntKind.wrap .i64 (128 + (Int.tmod x118 128))))] : List Int))).length c155)]) rfl ⟨(show (128 : Int) ≠ 0 from by decide), trivial⟩ fun a hk => ?_
    refine wpListIn_nil ?_
    refine blk_n ?_
    refine then_n ?_
    exact ⟨k140, Nat.le_refl _, o151, (IntKind.wrap .i64 (Int.tdiv x118 128)), A154, c155, (l121 ++ ([(IntKind.wrap .u8 (IntKind.wrap .i64 (128 + (Int.tmod x118 128))))] : List Int)), (by exact Kn.pick (ks := [0, 3]) hk rfl), hs, f156, hc157, (hlp142 ▸ H)⟩

/-! tidewrack/tidewrackref01.Text -/
theorem tidewrackref01_Text_calls (K : Nat) (p0 : ByteArray) (w : World) (o : Nat → Nat)   (r : ByteArray) (H : tidewrackref01_Text K p0 = some r) :
    Calls Try.prog 15 #[.string p0] w (Ret fun v_ w' => ∃ o' : Nat → Nat, v_ = .string r ∧ St [] w o w' o') := by
  refine x_enter (vs := [.string p0]) Try.func15 rfl rfl rfl fun a hk => ?_
  obtain ⟨o0, hs, h0⟩ := St.start w o
  clear h0
  rw [tidewrackref01_Text] at H
  refine x_seq ?_
  refine wpIn_region_lit ?_
  refine x_run tab hk (k := 1) (lv := []) (ks := [0]) (e' := [(0, .string p0)]) rfl trivial fun a hk => ?_
  refine wpListIn_nil ?_
  refine then_n ?_
  refine x_seq ?_
  refine wpIn_region_lit ?_
  refine x_run tab hk (k := 2) (lv := []) (ks := [0, 4]) (e' := [(0, .string p0), (4, .int .i64 ((p0).size : Int))]) rfl trivial fun a hk => ?_
  refine x_op hk rfl ?_
  obtain ⟨t4, hc5, H⟩ := bindS H
  refine op_call hk ent_12 (vs := [.int .i64 ((p0).size : Int)]) rfl (tidewrackref01_Num_calls K ((p0).size : Int) _ o0    _ hc5) ?_
  rintro _ w6 ⟨o7, rfl, st8⟩
  replace hs := hs.loc0 st8 (by decide)
  have hk := hk.put 5 (.string t4) rfl
  obtain ⟨q9, H⟩ := ifS H
  refine x_run tab hk (k := 3) (lv := []) (ks := [2]) (e' := [(2, .string (t4 ++ p0))]) rfl ⟨q9, trivial⟩ fun a hk => ?_
  refine wpListIn_nil ?_
  refine then_n ?_
  refine wpIn_ret ?_
  obtain rfl := Option.some.inj H
  exact x_retG hk (rs := [.tmp 2]) (vs := [.string (t4 ++ p0)]) rfl ⟨rfl, trivial⟩ ⟨fun b_ => if b_ < w.heap.size then o b_ else (fun _ => 0) (o7 b_), rfl, hs.close0 o (fun _ => 0)⟩

/-! tidewrack/tidewracklaw01.NumWrites -/
theorem tidewracklaw01_NumWrites_calls (K : Nat) (Ap0 : Option Addr) (cp0 : Nat) (p0 : List T27) (w : World) (o : Nat → Nat) (Lp0 : Nat) (hp0 : Ft (RdC ET27 Ap0 p0) w o Lp0) (hcp0 : (p0).length ≤ cp0)  (r : Bool) (H : tidewracklaw01_NumWrites K p0 = some r) :
    Calls Try.prog 3 #[.slice Ap0 (p0).length cp0] w (Ret fun v_ w' => ∃ o' : Nat → Nat, v_ = .bool r ∧ St [] w o w' o') := by
  refine x_enter (vs := [.slice Ap0 (p0).length cp0]) Try.func3 rfl rfl rfl fun a hk => ?_
  obtain ⟨o0, hs, h0⟩ := St.start w o
  have f900 := h0 _ _ hp0
  clear h0
  rw [tidewracklaw01_NumWrites] at H
  refine x_seq ?_
  refine wpIn_region_lit ?_
  refine x_run tab hk (k := 1) (lv := []) (ks := [0]) (e' := [(0, .slice Ap0 (p0).length cp0)]) rfl trivial fun a hk => ?_
  refine wpListIn_nil ?_
  refine then_n ?_
  refine x_seq ?_
  refine x_seq ?_
  refine wpIn_region_lit ?_
  refine x_op hk rfl ?_
  obtain ⟨t4, hc5, H⟩ := bindS H
  refine op_call hk ent_9 (vs := []) rfl (tidewracklaw01_awake_calls K  _ o0    _ hc5) ?_
  rintro _ w6 ⟨o7, rfl, st8⟩
  replace f900 := f900.st st8 (by decide)
  replace hs := hs.loc0 st8 (by decide)
  have hk := hk.put 9 (.bool t4) rfl
  refine x_run tab hk (k := 1) (lv := []) (ks := [0, 10]) (e' := [(0, .slice Ap0 (p0).length cp0), (10, .bool (!t4))]) rfl trivial fun a hk => ?_
  refine wpListIn_nil ?_
  refine then_n ?_
  cases b9 : (!t4)
  · rw [b9] at hk H
    replace H := bifF H
    refine x_if hk (b := false) rfl ?_
    refine (show Code.wpIn _ _ _ _ _ _ _ from ?_)
    refine wpIn_skip ?_
    refine then_n ?_
    refine x_seq ?_
    refine wpIn_region_lit ?_
    refine x_op hk rfl ?_
    refine op_alloc (o := o7) tab (t := 26) (cs := [.slice none 0 0]) rfl rfl 1 fun bx13 w10 o11 st12 f14 => ?_
    replace f900 := f900.st st12 (by decide)
    replace hs := hs.loc0 st12 (by decide)
    have hk := hk.put 3 (.pointer (some ⟨bx13, 0, none⟩)) rfl
    refine wpListIn_nil ?_
    refine then_n ?_
    refine x_seq ?_
    refine wpIn_region_lit ?_
    refine x_run tab hk (k := 1) (lv := []) (ks := [0, 3, 4]) (e' := [(0, .slice Ap0 (p0).length cp0), (3, .pointer (some ⟨bx13, 0, none⟩)), (4, .string (⟨#[]⟩ : ByteArray))]) rfl trivial fun a hk => ?_
    refine wpListIn_nil ?_
    refine then_n ?_
    refine x_mid (fun a_ w_ => ∃ o1005 : Nat → Nat, Kn 76 a_ [] ∧ St [] w (fun _ => 0) w_ o1005 ∧ tidewracklaw01_NumWrites_j1 = some r) ?_ ?_
    rotate_left
    · rintro a w1006 ⟨o1005, hk, hs, H⟩
      rw [tidewracklaw01_NumWrites_j1] at H
      refine x_seq ?_
      refine wpIn_region_lit ?_
      refine x_run tab hk (k := 1) (lv := []) (ks := [2]) (e' := [(2, .bool true)]) rfl trivial fun a hk => ?_
      refine wpListIn_nil ?_
      refine then_n ?_
      refine wpIn_ret ?_
      obtain rfl := Option.some.inj H
      exact x_retG hk (rs := [.tmp 2]) (vs := [.bool true]) rfl ⟨rfl, trivial⟩ ⟨fun b_ => if b_ < w.heap.size then o b_ else (fun _ => 0) (o1005 b_), rfl, hs.close0 o (fun _ => 0)⟩
    refine x_seq ?_
    refine wpIn_region_lit ?_
    refine x_run tab hk (k := 1) (lv := []) (ks := [0, 3, 4, 5]) (e' := [(0, .slice Ap0 (p0).length cp0), (3, .pointer (some ⟨bx13, 0, none⟩)), (4, .string (⟨#[]⟩ : ByteArray)), (5, .int .i64 0)]) rfl trivial fun a hk => ?_
    refine wpListIn_nil ?_
    refine then_n ?_
    refine wpIn_block ?_
    refine x_loop (fun j_ a_ w_ => ∃ o1334 : Nat → Nat, ∃ A1335 : Option Addr, ∃ c1336 : Nat, ∃ l1337 : List Int, ∃ x1340 : ByteArray, ∃ x1341 : Int, Kn 76 a_ [(0, .slice Ap0 (p0).length cp0), (3, .pointer (some ⟨bx13, 0, none⟩)), (4, .string x1340), (5, .int .i64 x1341)] ∧ St [] w (fun _ => 0) w_ o1334 ∧ Ft (Own (encInt .u8) 5 (.slice A1335 (l1337).length c1336) l1337) w_ o1334 60 ∧ Ft (Bx bx13 26 [.slice A1335 (l1337).length c1336]) w_ o1334 61 ∧ Ft (RdC ET27 Ap0 p0) w_ o1334 0 ∧ (l1337).length ≤ c1336 ∧ tidewracklaw01_NumWrites_l2 K p0 j_ l1337 x1340 x1341 = some r) (k := K) ⟨(fun b_ => (fun l_ => if l_ = 1 then 61 else l_) (o11 b_)), none, 0, ([] : List Int), (⟨#[]⟩ : ByteArray), 0, (by exact Kn.pick (ks := [0, 3, 4, 5]) hk rfl), (hs.relab0 (fun l_ => if l_ = 1 then 61 else l_) rfl), (Ft.of_all (fun _ => Own.nil _ _ _) _ _ _), (f14.relab (fun l_ => if l_ = 1 then 61 else l_) rfl), (f900.relab (fun l_ => if l_ = 1 then 61 else l_) rfl), (by simp), H⟩ (by rintro _ _ ⟨_, _, _, _, _, _, _, _, _, _, _, _, H_⟩; exact absurd (show (none : Option Bool) = some r from H_) (by simp)) ?_
    rintro k1667 a w1666 ⟨o1334, A1335, c1336, l1337, x1340, x1341, hk, hs, f1338, f14, f900, hc1339, H⟩
    rw [tidewracklaw01_NumWrites_l2] at H
    obtain ⟨lp1668, hlp1669⟩ : ∃ lp_, lp_ = tidewracklaw01_NumWrites_l2 K p0 k1667 := ⟨_, rfl⟩
    rw [← hlp1669] at H
    refine x_mid (fun a_ w_ => ∃ o1675 : Nat → Nat, Kn 76 a_ [(0, .slice Ap0 (p0).length cp0), (3, .pointer (some ⟨bx13, 0, none⟩)), (4, .string x1340), (5, .int .i64 x1341)] ∧ St [] w (fun _ => 0) w_ o1675 ∧ Ft (Own (encInt .u8) 5 (.slice A1335 (l1337).length c1336) l1337) w_ o1675 73 ∧ Ft (Bx bx13 26 [.slice A1335 (l1337).length c1336]) w_ o1675 74 ∧ Ft (RdC ET27 Ap0 p0) w_ o1675 0 ∧ tidewracklaw01_NumWrites_j3 K p0 l1337 x1340 x1341 lp1668 = some r) ?_ ?_
    rotate_left
    · rintro a w1676 ⟨o1675, hk, hs, f1338, f14, f900, H⟩
      rw [tidewracklaw01_NumWrites_j3] at H
      refine x_seq ?_
      refine wpIn_block ?_
      refine x_seq ?_
      refine wpIn_region_lit ?_
      obtain ⟨q1677, H⟩ := ifS H
      obtain ⟨ad1678, hAad1678⟩ := RdC.addr f900.now q1677
      subst hAad1678
      refine x_run tab hk (k := 4) (lv := [.agg #[.int .i64 ((rdD zT27 p0 x1341).Kind), .int .i64 ((rdD zT27 p0 x1341).N), .string ((rdD zT27 p0 x1341).Text)]]) (ks := [0, 3, 4, 5, 24]) (e' := [(0, .slice (some ad1678) (p0).length cp0), (3, .pointer (some ⟨bx13, 0, none⟩)), (4, .string x1340), (5, .int .i64 x1341), (24, .agg #[.int .i64 ((rdD zT27 p0 x1341).Kind), .int .i64 ((rdD zT27 p0 x1341).N), .string ((rdD zT27 p0 x1341).Text)])]) rfl ⟨q1677, (load_elem (E := ET27) (i := x1341) (dx := zT27) tab rfl rfl f900.now q1677), trivial⟩ fun a hk => ?_
      refine x_op hk rfl ?_
      refine op_alloc (o := o1675) tab (t := 28) (cs := [.int .i64 0, .int .i64 0, .string (⟨#[]⟩ : ByteArray)]) rfl rfl 75 fun bx1682 w1679 o1680 st1681 f1683 => ?_
      replace f1338 := f1338.st st1681 (by decide)
      replace f14 := f14.st st1681 (by decide)
      replace f900 := f900.st st1681 (by decide)
      replace hs := hs.loc0 st1681 (by decide)
      have hk := hk.put 6 (.pointer (some ⟨bx1682, 0, none⟩)) rfl
      refine x_op hk rfl ?_
      refine op_store tab hk (t := 28) (v := .agg #[.int .i64 ((rdD zT27 p0 x1341).Kind), .int .i64 ((rdD zT27 p0 x1341).N), .string ((rdD zT27 p0 x1341).Text)]) (b := bx1682) (k := 0) (cs' := [.int .i64 ((rdD zT27 p0 x1341).Kind), .int .i64 ((rdD zT27 p0 x1341).N), .string ((rdD zT27 p0 x1341).Text)]) rfl rfl rfl rfl rfl rfl f1683 rfl rfl fun w1684 o1685 st1686 f1683_ => ?_
      replace f1338 := f1338.st st1686 (by decide)
      replace f14 := f14.st st1686 (by decide)
      replace f900 := f900.st st1686 (by decide)
      replace hs := hs.loc0 st1686 (by decide)
      replace f1683 := f1683_
      refine wpListIn_nil ?_
      refine then_n ?_
      refine x_seq ?_
      refine wpIn_region_lit ?_
      refine x_run tab hk (k := 2) (lv := [.string ((rdD zT27 p0 x1341).Text)]) (ks := [0, 3, 4, 5, 6, 26]) (e' := [(0, .slice (some ad1678) (p0).length cp0), (3, .pointer (some ⟨bx13, 0, none⟩)), (4, .string x1340), (5, .int .i64 x1341), (6, .pointer (some ⟨bx1682, 0, none⟩)), (26, .string ((rdD zT27 p0 x1341).Text))]) rfl ⟨(load1 tab rfl ((Bx.cell f1683.now 2).trans rfl)), trivial⟩ fun a hk => ?_
      refine x_op hk rfl ?_
      obtain ⟨t1690, hc1691, H⟩ := bindS H
      refine op_call hk ent_10 (vs := [.string ((rdD zT27 p0 x1341).Text), .int .i64 200]) rfl (tidewracklaw01_Cut_calls ((rdD zT27 p0 x1341).Text) 200 _ o1685    _ hc1691) ?_
      rintro _ w1692 ⟨o1693, rfl, st1694⟩
      replace f1338 := f1338.st st1694 (by decide)
      replace f14 := f14.st st1694 (by decide)
      replace f1683 := f1683.st st1694 (by decide)
      replace f900 := f900.st st1694 (by decide)
      replace hs := hs.loc0 st1694 (by decide)
      have hk := hk.put 27 (.string t1690) rfl
      refine x_run tab hk (k := 1) (lv := []) (ks := [0, 3, 4, 5, 6, 7]) (e' := [(0, .slice (some ad1678) (p0).length cp0), (3, .pointer (some ⟨bx13, 0, none⟩)), (4, .string x1340), (5, .int .i64 x1341), (6, .pointer (some ⟨bx1682, 0, none⟩)), (7, .string t1690)]) rfl trivial fun a hk => ?_
      refine wpListIn_nil ?_
      refine then_n ?_
      refine x_seq ?_
      refine wpIn_region_lit ?_
      refine x_run tab hk (k := 1) (lv := []) (ks := [0, 3, 4, 5, 6, 7]) (e' := [(0, .slice (some ad1678) (p0).length cp0), (3, .pointer (some ⟨bx13, 0, none⟩)), (4, .string x1340), (5, .int .i64 x1341), (6, .pointer (some ⟨bx1682, 0, none⟩)), (7, .string t1690)]) rfl trivial fun a hk => ?_
      refine wpListIn_nil ?_
      refine then_n ?_
      refine x_mid (fun a_ w_ => ∃ o1838 : Nat → Nat, ∃ A1839 : Option Addr, ∃ c1840 : Nat, ∃ l1841 : List Int, ∃ x1844 : ByteArray, Kn 76 a_ [(0, .slice (some ad1678) (p0).length cp0), (3, .pointer (some ⟨bx13, 0, none⟩)), (4, .string x1844), (5, .int .i64 x1341), (8, .pointer (some ⟨bx13, 0, none⟩))] ∧ St [] w (fun _ => 0) w_ o1838 ∧ Ft (Bx bx13 26 [.slice A1839 (l1841).length c1840]) w_ o1838 80 ∧ Ft (Own (encInt .u8) 5 (.slice A1839 (l1841).length c1840) l1841) w_ o1838 79 ∧ Ft (RdC ET27 (some ad1678) p0) w_ o1838 0 ∧ (l1841).length ≤ c1840 ∧ tidewracklaw01_NumWrites_j4 x1341 lp1668 l1841 x1844 = some r) ?_ ?_
      rotate_left
      · rintro a w1845 ⟨o1838, A1839, c1840, l1841, x1844, hk, hs, f1711, f1842, f900, hc1843, H⟩
        rw [tidewracklaw01_NumWrites_j4] at H
        refine x_seq ?_
        refine wpIn_region_lit ?_
        refine x_run tab hk (k := 3) (lv := [.bool false]) (ks := [0, 3, 4, 5, 71]) (e' := [(0, .slice (some ad1678) (p0).length cp0), (3, .pointer (some ⟨bx13, 0, none⟩)), (4, .string x1844), (5, .int .i64 x1341), (71, .bool false)]) rfl ⟨(ask_pne tab rfl rfl rfl rfl rfl), trivial⟩ fun a hk => ?_
        refine x_op hk rfl ?_
        obtain ⟨t1849, hc1850, H⟩ := bindS H
        refine op_call hk ent_17 (vs := [.pointer (some ⟨bx13, 0, none⟩)]) rfl (num_Out_Bytes_calls bx13 A1839 c1840 (⟨l1841⟩ : T25) _ o1838 80 f1711 79 f1842 hc1843 (by decide)   _ hc1850) ?_
        rintro _ w1851 ⟨o1852, A1855, c1856, rfl, st1853, f1854, f1857, hc1858⟩
        replace f900 := f900.st st1853 (by decide)
        replace hs := hs.loc0 st1853 (by decide)
        have hk := hk.put 72 (.string t1849.1) rfl
        refine x_run tab hk (k := 3) (lv := []) (ks := [0, 3, 4, 5, 75]) (e' := [(0, .slice (some ad1678) (p0).length cp0), (3, .pointer (some ⟨bx13, 0, none⟩)), (4, .string x1844), (5, .int .i64 x1341), (75, .bool (!(ByteArray.toList t1849.1 == ByteArray.toList x1844)))]) rfl trivial fun a hk => ?_
        refine wpListIn_nil ?_
        refine then_n ?_
        cases b1859 : (!(ByteArray.toList t1849.1 == ByteArray.toList x1844))
        · rw [b1859] at hk H
          replace H := bifF H
          refine x_if hk (b := false) rfl ?_
          refine (show Code.wpIn _ _ _ _ _ _ _ from ?_)
          refine wpIn_skip ?_
          refine blk_n ?_
          refine then_n ?_
          refine wpIn_region_lit ?_
          refine x_run tab hk (k := 3) (lv := []) (ks := [0, 3, 4, 5]) (e' := [(0, .slice (some ad1678) (p0).length cp0), (3, .pointer (some ⟨bx13, 0, none⟩)), (4, .string x1844), (5, .int .i64 (IntKind.wrap .i64 (x1341 + 1)))]) rfl trivial fun a hk => ?_
          refine wpListIn_nil ?_
          refine then_n ?_
          exact ⟨k1667, Nat.le_refl _, (fun b_ => (fun l_ => if l_ = 79 then 60 else if l_ = 80 then 61 else l_) (o1852 b_)), A1855, c1856, t1849.2.b, x1844, (IntKind.wrap .i64 (x1341 + 1)), (by exact Kn.pick (ks := [0, 3, 4, 5]) hk rfl), (hs.relab0 (fun l_ => if l_ = 79 then 60 else if l_ = 80 then 61 else l_) rfl), (f1857.relab (fun l_ => if l_ = 79 then 60 else if l_ = 80 then 61 else l_) rfl), (f1854.relab (fun l_ => if l_ = 79 then 60 else if l_ = 80 then 61 else l_) rfl), (f900.relab (fun l_ => if l_ = 79 then 60 else if l_ = 80 then 61 else l_) rfl), hc1858, (hlp1669 ▸ H)⟩
        · rw [b1859] at hk H
          replace H := bifT H
          refine x_if hk (b := true) rfl ?_
          refine (show Code.wpIn _ _ _ _ _ _ _ from ?_)
          refine x_seq ?_
          refine wpIn_region_lit ?_
          refine x_run tab hk (k := 1) (lv := []) (ks := [2]) (e' := [(2, .bool false)]) rfl trivial fun a hk => ?_
          refine wpListIn_nil ?_
          refine then_n ?_
          refine wpIn_ret ?_
          refine blk_r ?_
          refine then_r ?_
          refine then_r ?_
          refine blk_r ?_
          refine then_r ?_
          obtain rfl := Option.some.inj H
          exact x_retG hk (rs := [.tmp 2]) (vs := [.bool false]) rfl ⟨rfl, trivial⟩ ⟨fun b_ => if b_ < w.heap.size then o b_ else (fun _ => 0) (o1852 b_), rfl, hs.close0 o (fun _ => 0)⟩
      refine x_seq ?_
      refine wpIn_region_lit ?_
      refine x_run tab hk (k := 2) (lv := [.int .i64 ((rdD zT27 p0 x1341).Kind)]) (ks := [0, 3, 4, 5, 6, 7, 29]) (e' := [(0, .slice (some ad1678) (p0).length cp0), (3, .pointer (some ⟨bx13, 0, none⟩)), (4, .string x1340), (5, .int .i64 x1341), (6, .pointer (some ⟨bx1682, 0, none⟩)), (7, .string t1690), (29, .int .i64 ((rdD zT27 p0 x1341).Kind))]) rfl ⟨(load1 tab rfl ((Bx.cell f1683.now 0).trans rfl)), trivial⟩ fun a hk => ?_
      refine wpListIn_nil ?_
      refine then_n ?_
      refine wpIn_block ?_
      refine x_seq ?_
      refine wpIn_region_lit ?_
      refine x_run tab hk (k := 2) (lv := []) (ks := [0, 3, 4, 5, 6, 7, 29, 39]) (e' := [(0, .slice (some ad1678) (p0).length cp0), (3, .pointer (some ⟨bx13, 0, none⟩)), (4, .string x1340), (5, .int .i64 x1341), (6, .pointer (some ⟨bx1682, 0, none⟩)), (7, .string t1690), (29, .int .i64 ((rdD zT27 p0 x1341).Kind)), (39, .bool (((rdD zT27 p0 x1341).Kind) == (0 : Int)))]) rfl trivial fun a hk => ?_
      refine wpListIn_nil ?_
      refine then_n ?_
      cases b1860 : (((rdD zT27 p0 x1341).Kind) == (0 : Int))
      · rw [b1860] at hk H
        replace H := bifF H
        refine x_if hk (b := false) rfl ?_
        refine (show Code.wpIn _ _ _ _ _ _ _ from ?_)
        refine x_seq ?_
        refine wpIn_region_lit ?_
        refine x_run tab hk (k := 2) (lv := []) (ks := [0, 3, 4, 5, 7, 59]) (e' := [(0, .slice (some ad1678) (p0).length cp0), (3, .pointer (some ⟨bx13, 0, none⟩)), (4, .string x1340), (5, .int .i64 x1341), (7, .string t1690), (59, .bool (((rdD zT27 p0 x1341).Kind) == (1 : Int)))]) rfl trivial fun a hk => ?_
        refine wpListIn_nil ?_
        refine then_n ?_
        cases b1861 : (((rdD zT27 p0 x1341).Kind) == (1 : Int))
        · rw [b1861] at hk H
          replace H := bifF H
          refine x_if hk (b := false) rfl ?_
          refine (show Code.wpIn _ _ _ _ _ _ _ from ?_)
          refine x_seq ?_
          refine wpIn_region_lit ?_
          refine x_run tab hk (k := 2) (lv := []) (ks := [0, 3, 4, 5, 7, 30, 31]) (e' := [(0, .slice (some ad1678) (p0).length cp0), (3, .pointer (some ⟨bx13, 0, none⟩)), (4, .string x1340), (5, .int .i64 x1341), (7, .string t1690), (30, .string t1690), (31, .string t1690)]) rfl trivial fun a hk => ?_
          refine x_op hk rfl ?_
          refine op_slice (o := o1693) tab hk (vs := [.string t1690, .string t1690]) (cs := [.string t1690, .string t1690]) rfl rfl rfl rfl rfl rfl rfl rfl rfl 81 fun bx1865 w1862 o1863 st1864 f1866 => ?_
          replace f1338 := f1338.st st1864 (by decide)
          replace f14 := f14.st st1864 (by decide)
          replace f900 := f900.st st1864 (by decide)
          replace hs := hs.loc0 st1864 (by decide)
          have f1867 : Ft (Own encStr 9 (.slice (some ⟨bx1865, 0, none⟩) (([t1690, t1690] : List ByteArray)).length 2) ([t1690, t1690] : List ByteArray)) w1862 o1863 81 := f1866.imp fun _ h_ => Own.of_box h_ rfl (by simp)
          have hk := hk.put 32 (.slice (some ⟨bx1865, 0, none⟩) (([t1690, t1690] : List ByteArray)).length 2) rfl
          refine x_op hk rfl ?_
          obtain ⟨t1871, hc1872, H⟩ := bindS H
          refine op_call hk ent_16 (vs := [.pointer (some ⟨bx13, 0, none⟩), .slice (some ⟨bx1865, 0, none⟩) (([t1690, t1690] : List ByteArray)).length 2]) rfl (num_Out_Raw_calls K bx13 A1335 c1336 (⟨l1337⟩ : T25) (some ⟨bx1865, 0, none⟩) 2 ([t1690, t1690] : List ByteArray) _ o1863 74 f14 73 f1338 hc1339 _ (f1867.imp fun _ h_ => Own.rd h_) (Nat.le_refl _) (by decide) (by decide)   _ hc1872) ?_
          rintro _ w1873 ⟨o1874, A1877, c1878, rfl, st1875, f1876, f1879, hc1880⟩
          replace f1867 := f1867.st st1875 (by decide)
          replace f900 := f900.st st1875 (by decide)
          replace hs := hs.loc0 st1875 (by decide)
          have hk := hk.put 33 (.pointer (some ⟨bx13, 0, none⟩)) rfl
          refine x_run tab hk (k := 1) (lv := []) (ks := [0, 3, 4, 5, 7, 8]) (e' := [(0, .slice (some ad1678) (p0).length cp0), (3, .pointer (some ⟨bx13, 0, none⟩)), (4, .string x1340), (5, .int .i64 x1341), (7, .string t1690), (8, .pointer (some ⟨bx13, 0, none⟩))]) rfl trivial fun a hk => ?_
          refine wpListIn_nil ?_
          refine then_n ?_
          refine wpIn_region_lit ?_
          obtain ⟨q1881, H⟩ := ifS H
          obtain ⟨q1882, H⟩ := ifS H
          refine x_run tab hk (k := 6) (lv := []) (ks := [0, 3, 4, 5, 8]) (e' := [(0, .slice (some ad1678) (p0).length cp0), (3, .pointer (some ⟨bx13, 0, none⟩)), (4, .string (x1340 ++ (t1690 ++ t1690))), (5, .int .i64 x1341), (8, .pointer (some ⟨bx13, 0, none⟩))]) rfl ⟨q1881, q1882, trivial⟩ fun a hk => ?_
          refine wpListIn_nil ?_
          refine blk_n ?_
          refine then_n ?_
          exact ⟨(fun b_ => (fun l_ => if l_ = 73 then 79 else if l_ = 74 then 80 else l_) (o1874 b_)), A1877, c1878, t1871.b, (x1340 ++ (t1690 ++ t1690)), (by exact Kn.pick (ks := [0, 3, 4, 5, 8]) hk rfl), (hs.relab0 (fun l_ => if l_ = 73 then 79 else if l_ = 74 then 80 else l_) rfl), (f1876.relab (fun l_ => if l_ = 73 then 79 else if l_ = 74 then 80 else l_) rfl), (f1879.relab (fun l_ => if l_ = 73 then 79 else if l_ = 74 then 80 else l_) rfl), (f900.relab (fun l_ => if l_ = 73 then 79 else if l_ = 74 then 80 else l_) rfl), hc1880, H⟩
        · rw [b1861] at hk H
          replace H := bifT H
          refine x_if hk (b := true) rfl ?_
          refine (show Code.wpIn _ _ _ _ _ _ _ from ?_)
          refine x_seq ?_
          refine wpIn_region_lit ?_
          refine x_run tab hk (k := 1) (lv := []) (ks := [0, 3, 4, 5, 7, 61]) (e' := [(0, .slice (some ad1678) (p0).length cp0), (3, .pointer (some ⟨bx13, 0, none⟩)), (4, .string x1340), (5, .int .i64 x1341), (7, .string t1690), (61, .string t1690)]) rfl trivial fun a hk => ?_
          refine x_op hk rfl ?_
          refine op_slice (o := o1693) tab hk (vs := [.string t1690, .string (⟨#[]⟩ : ByteArray)]) (cs := [.string t1690, .string (⟨#[]⟩ : ByteArray)]) rfl rfl rfl rfl rfl rfl rfl rfl rfl 82 fun bx1886 w1883 o1884 st1885 f1887 => ?_
          replace f1338 := f1338.st st1885 (by decide)
          replace f14 := f14.st st1885 (by decide)
          replace f900 := f900.st st1885 (by decide)
          replace hs := hs.loc0 st1885 (by decide)
          have f1888 : Ft (Own encStr 9 (.slice (some ⟨bx1886, 0, none⟩) (([t1690, (⟨#[]⟩ : ByteArray)] : List ByteArray)).length 2) ([t1690, (⟨#[]⟩ : ByteArray)] : List ByteArray)) w1883 o1884 82 := f1887.imp fun _ h_ => Own.of_box h_ rfl (by simp)
          have hk := hk.put 62 (.slice (some ⟨bx1886, 0, none⟩) (([t1690, (⟨#[]⟩ : ByteArray)] : List ByteArray)).length 2) rfl
          refine x_op hk rfl ?_
          obtain ⟨t1892, hc1893, H⟩ := bindS H
          refine op_call hk ent_14 (vs := [.pointer (some ⟨bx13, 0, none⟩), .slice (some ⟨bx1886, 0, none⟩) (([t1690, (⟨#[]⟩ : ByteArray)] : List ByteArray)).length 2]) rfl (num_Out_Text_calls K bx13 A1335 c1336 (⟨l1337⟩ : T25) (some ⟨bx1886, 0, none⟩) 2 ([t1690, (⟨#[]⟩ : ByteArray)] : List ByteArray) _ o1884 74 f14 73 f1338 hc1339 _ (f1888.imp fun _ h_ => Own.rd h_) (Nat.le_refl _) (by decide) (by decide)   _ hc1893) ?_
          rintro _ w1894 ⟨o1895, A1898, c1899, rfl, st1896, f1897, f1900, hc1901⟩
          replace f1888 := f1888.st st1896 (by decide)
          replace f900 := f900.st st1896 (by decide)
          replace hs := hs.loc0 st1896 (by decide)
          have hk := hk.put 63 (.pointer (some ⟨bx13, 0, none⟩)) rfl
          refine x_run tab hk (k := 1) (lv := []) (ks := [0, 3, 4, 5, 7, 8]) (e' := [(0, .slice (some ad1678) (p0).length cp0), (3, .pointer (some ⟨bx13, 0, none⟩)), (4, .string x1340), (5, .int .i64 x1341), (7, .string t1690), (8, .pointer (some ⟨bx13, 0, none⟩))]) rfl trivial fun a hk => ?_
          refine wpListIn_nil ?_
          refine then_n ?_
          refine wpIn_region_lit ?_
          refine x_run tab hk (k := 2) (lv := []) (ks := [0, 3, 5, 8, 64, 65]) (e' := [(0, .slice (some ad1678) (p0).length cp0), (3, .pointer (some ⟨bx13, 0, none⟩)), (5, .int .i64 x1341), (8, .pointer (some ⟨bx13, 0, none⟩)), (64, .string x1340), (65, .string t1690)]) rfl trivial fun a hk => ?_
          refine x_op hk rfl ?_
          obtain ⟨t1905, hc1906, H⟩ := bindS H
          refine op_call hk ent_15 (vs := [.string t1690]) rfl (tidewrackref01_Text_calls K t1690 _ o1895    _ hc1906) ?_
          rintro _ w1907 ⟨o1908, rfl, st1909⟩
          replace f1897 := f1897.st st1909 (by decide)
          replace f1900 := f1900.st st1909 (by decide)
          replace f900 := f900.st st1909 (by decide)
          replace hs := hs.loc0 st1909 (by decide)
          have hk := hk.put 66 (.string t1905) rfl
          obtain ⟨q1910, H⟩ := ifS H
          obtain ⟨q1911, H⟩ := ifS H
          refine x_run tab hk (k := 3) (lv := []) (ks := [0, 3, 4, 5, 8]) (e' := [(0, .slice (some ad1678) (p0).length cp0), (3, .pointer (some ⟨bx13, 0, none⟩)), (4, .string (x1340 ++ (t1905 ++ (⟨#[0]⟩ : ByteArray)))), (5, .int .i64 x1341), (8, .pointer (some ⟨bx13, 0, none⟩))]) rfl ⟨q1910, q1911, trivial⟩ fun a hk => ?_
          refine wpListIn_nil ?_
          refine blk_n ?_
          refine then_n ?_
          exact ⟨(fun b_ => (fun l_ => if l_ = 73 then 79 else if l_ = 74 then 80 else l_) (o1908 b_)), A1898, c1899, t1892.b, (x1340 ++ (t1905 ++ (⟨#[0]⟩ : ByteArray))), (by exact Kn.pick (ks := [0, 3, 4, 5, 8]) hk rfl), (hs.relab0 (fun l_ => if l_ = 73 then 79 else if l_ = 74 then 80 else l_) rfl), (f1897.relab (fun l_ => if l_ = 73 then 79 else if l_ = 74 then 80 else l_) rfl), (f1900.relab (fun l_ => if l_ = 73 then 79 else if l_ = 74 then 80 else l_) rfl), (f900.relab (fun l_ => if l_ = 73 then 79 else if l_ = 74 then 80 else l_) rfl), hc1901, H⟩
      · rw [b1860] at hk H
        replace H := bifT H
        refine x_if hk (b := true) rfl ?_
        refine (show Code.wpIn _ _ _ _ _ _ _ from ?_)
        refine x_seq ?_
        refine wpIn_region_lit ?_
        refine x_run tab hk (k := 2) (lv := [.int .i64 ((rdD zT27 p0 x1341).N)]) (ks := [0, 3, 4, 5, 6, 42]) (e' := [(0, .slice (some ad1678) (p0).length cp0), (3, .pointer (some ⟨bx13, 0, none⟩)), (4, .string x1340), (5, .int .i64 x1341), (6, .pointer (some ⟨bx1682, 0, none⟩)), (42, .int .i64 ((rdD zT27 p0 x1341).N))]) rfl ⟨(load1 tab rfl ((Bx.cell f1683.now 1).trans rfl)), trivial⟩ fun a hk => ?_
        refine x_op hk rfl ?_
        refine op_slice (o := o1693) tab hk (vs := [.int .i64 ((rdD zT27 p0 x1341).N), .int .i64 7]) (cs := [.int .i64 ((rdD zT27 p0 x1341).N), .int .i64 7]) rfl rfl rfl rfl rfl rfl rfl rfl rfl 83 fun bx1915 w1912 o1913 st1914 f1916 => ?_
        replace f1338 := f1338.st st1914 (by decide)
        replace f14 := f14.st st1914 (by decide)
        replace f1683 := f1683.st st1914 (by decide)
        replace f900 := f900.st st1914 (by decide)
        replace hs := hs.loc0 st1914 (by decide)
        have f1917 : Ft (Own (encInt .i64) 3 (.slice (some ⟨bx1915, 0, none⟩) (([(rdD zT27 p0 x1341).N, 7] : List Int)).length 2) ([(rdD zT27 p0 x1341).N, 7] : List Int)) w1912 o1913 83 := f1916.imp fun _ h_ => Own.of_box h_ rfl (by simp)
        have hk := hk.put 43 (.slice (some ⟨bx1915, 0, none⟩) (([(rdD zT27 p0 x1341).N, 7] : List Int)).length 2) rfl
        refine x_op hk rfl ?_
        obtain ⟨t1921, hc1922, H⟩ := bindS H
        refine op_call hk ent_11 (vs := [.pointer (some ⟨bx13, 0, none⟩), .slice (some ⟨bx1915, 0, none⟩) (([(rdD zT27 p0 x1341).N, 7] : List Int)).length 2]) rfl (num_Out_Num_calls K bx13 A1335 c1336 (⟨l1337⟩ : T25) (some ⟨bx1915, 0, none⟩) 2 ([(rdD zT27 p0 x1341).N, 7] : List Int) _ o1913 74 f14 73 f1338 hc1339 _ (f1917.imp fun _ h_ => Own.rd h_) (Nat.le_refl _) (by decide) (by decide)   _ hc1922) ?_
        rintro _ w1923 ⟨o1924, A1927, c1928, rfl, st1925, f1926, f1929, hc1930⟩
        replace f1683 := f1683.st st1925 (by decide)
        replace f1917 := f1917.st st1925 (by decide)
        replace f900 := f900.st st1925 (by decide)
        replace hs := hs.loc0 st1925 (by decide)
        have hk := hk.put 44 (.pointer (some ⟨bx13, 0, none⟩)) rfl
        refine x_run tab hk (k := 1) (lv := []) (ks := [0, 3, 4, 5, 6, 8]) (e' := [(0, .slice (some ad1678) (p0).length cp0), (3, .pointer (some ⟨bx13, 0, none⟩)), (4, .string x1340), (5, .int .i64 x1341), (6, .pointer (some ⟨bx1682, 0, none⟩)), (8, .pointer (some ⟨bx13, 0, none⟩))]) rfl trivial fun a hk => ?_
        refine wpListIn_nil ?_
        refine then_n ?_
        refine x_seq ?_
        refine wpIn_region_lit ?_
        refine x_run tab hk (k := 3) (lv := [.int .i64 ((rdD zT27 p0 x1341).N)]) (ks := [0, 3, 5, 6, 8, 45, 47]) (e' := [(0, .slice (some ad1678) (p0).length cp0), (3, .pointer (some ⟨bx13, 0, none⟩)), (5, .int .i64 x1341), (6, .pointer (some ⟨bx1682, 0, none⟩)), (8, .pointer (some ⟨bx13, 0, none⟩)), (45, .string x1340), (47, .int .i64 ((rdD zT27 p0 x1341).N))]) rfl ⟨(load1 tab rfl ((Bx.cell f1683.now 1).trans rfl)), trivial⟩ fun a hk => ?_
        refine x_op hk rfl ?_
        obtain ⟨t1934, hc1935, H⟩ := bindS H
        refine op_call hk ent_12 (vs := [.int .i64 ((rdD zT27 p0 x1341).N)]) rfl (tidewrackref01_Num_calls K ((rdD zT27 p0 x1341).N) _ o1924    _ hc1935) ?_
        rintro _ w1936 ⟨o1937, rfl, st1938⟩
        replace f1683 := f1683.st st1938 (by decide)
        replace f1926 := f1926.st st1938 (by decide)
        replace f1929 := f1929.st st1938 (by decide)
        replace f900 := f900.st st1938 (by decide)
        replace hs := hs.loc0 st1938 (by decide)
        have hk := hk.put 48 (.string t1934) rfl
        obtain ⟨q1939, H⟩ := ifS H
        obtain ⟨q1940, H⟩ := ifS H
        refine x_run tab hk (k := 3) (lv := []) (ks := [0, 3, 4, 5, 6, 8]) (e' := [(0, .slice (some ad1678) (p0).length cp0), (3, .pointer (some ⟨bx13, 0, none⟩)), (4, .string (x1340 ++ (t1934 ++ (⟨#[7]⟩ : ByteArray)))), (5, .int .i64 x1341), (6, .pointer (some ⟨bx1682, 0, none⟩)), (8, .pointer (some ⟨bx13, 0, none⟩))]) rfl ⟨q1939, q1940, trivial⟩ fun a hk => ?_
        refine wpListIn_nil ?_
        refine then_n ?_
        refine x_seq ?_
        refine xd_begin (o := o1937) (fun W_ => (Bx bx1682 28 [.int .i64 ((rdD zT27 p0 x1341).Kind), .int .i64 ((rdD zT27 p0 x1341).N), .string ((rdD zT27 p0 x1341).Text)]) W_ ∧ True) mixed rfl rfl fun w1973 st1974 => ?_
        replace f1683 := f1683.st st1974 (by decide)
        replace f1926 := f1926.st st1974 (by decide)
        replace f1929 := f1929.st st1974 (by decide)
        replace f900 := f900.st st1974 (by decide)
        replace hs := hs.loc0 st1974 (by decide)
        refine xd_take tab hk (k := 4) (is := [0, 1, 3, 4]) (ls' := #[true, true, false, true, true, false, false, false]) (lv := [.int .i64 ((rdD zT27 p0 x1341).N), .int .i64 ((rdD zT27 p0 x1341).N)]) (ks := [0, 3, 4, 5, 8, 52, 55]) (e' := [(0, .slice (some ad1678) (p0).length cp0), (3, .pointer (some ⟨bx13, 0, none⟩)), (4, .string (x1340 ++ (t1934 ++ (⟨#[7]⟩ : ByteArray)))), (5, .int .i64 x1341), (8, .pointer (some ⟨bx13, 0, none⟩)), (52, .int .i64 ((rdD zT27 p0 x1341).N)), (55, .int .i64 ((rdD zT27 p0 x1341).N))]) (by kernel_rfl) rfl rfl (by kernel_rfl) (np_then (np_blk (np_then (np_blk (np_then (np_then (np_blk (np_then np_body)))))))) ⟨f1683.now, trivial⟩ (fun W_ hS => ⟨(load1 tab rfl ((Bx.cell hS.1 1).trans rfl)), (load1 tab rfl ((Bx.cell hS.1 1).trans rfl)), trivial⟩) fun a hk => ?_
        refine xd_op hk (i := 2) (by kernel_rfl) rfl rfl ?_
        obtain ⟨t1978, hc1979, H⟩ := bindS H
        refine op_call hk ent_13 (vs := [.int .i64 ((rdD zT27 p0 x1341).N)]) rfl (num_Size_calls K ((rdD zT27 p0 x1341).N) _ o1937    _ hc1979) ?_
        rintro _ w1980 ⟨o1981, rfl, st1982⟩
        replace f1683 := f1683.st st1982 (by decide)
        replace f1926 := f1926.st st1982 (by decide)
        replace f1929 := f1929.st st1982 (by decide)
        replace f900 := f900.st st1982 (by decide)
        replace hs := hs.loc0 st1982 (by decide)
        have hk := hk.put 53 (.int .i64 t1978) rfl
        refine ⟨.inr ⟨f1683.now, trivial⟩, ?_⟩
        refine xd_op hk (i := 5) (by kernel_rfl) rfl rfl ?_
        obtain ⟨t1986, hc1987, H⟩ := bindS H
        refine op_call hk ent_12 (vs := [.int .i64 ((rdD zT27 p0 x1341).N)]) rfl (tidewrackref01_Num_calls K ((rdD zT27 p0 x1341).N) _ o1981    _ hc1987) ?_
        rintro _ w1988 ⟨o1989, rfl, st1990⟩
        replace f1683 := f1683.st st1990 (by decide)
        replace f1926 := f1926.st st1990 (by decide)
        replace f1929 := f1929.st st1990 (by decide)
        replace f900 := f900.st st1990 (by decide)
        replace hs := hs.loc0 st1990 (by decide)
        have hk := hk.put 56 (.string t1986) rfl
        refine ⟨.inr ⟨f1683.now, trivial⟩, ?_⟩
        refine xd_take tab hk (k := 0) (is := [6, 7]) (ls' := #[true, true, true, true, true, true, true, true]) (lv := []) (ks := [0, 3, 4, 5, 8, 58]) (e' := [(0, .slice (some ad1678) (p0).length cp0), (3, .pointer (some ⟨bx13, 0, none⟩)), (4, .string (x1340 ++ (t1934 ++ (⟨#[7]⟩ : ByteArray)))), (5, .int .i64 x1341), (8, .pointer (some ⟨bx13, 0, none⟩)), (58, .bool (t1978 != ((t1986).size : Int)))]) (by kernel_rfl) rfl rfl (by kernel_rfl) (np_then (np_blk (np_then (np_blk (np_then (np_then (np_blk (np_then np_body)))))))) ⟨f1683.now, trivial⟩ (fun W_ hS => trivial) fun a hk => ?_
        refine xd_done (by kernel_rfl) ?_
        refine then_n ?_
        cases b1991 : (t1978 != ((t1986).size : Int))
        · rw [b1991] at hk H
          replace H := bifF H
          refine x_if hk (b := false) rfl ?_
          refine (show Code.wpIn _ _ _ _ _ _ _ from ?_)
          refine wpIn_skip ?_
          refine blk_n ?_
          refine then_n ?_
          exact ⟨(fun b_ => (fun l_ => if l_ = 73 then 79 else if l_ = 74 then 80 else l_) (o1989 b_)), A1927, c1928, t1921.b, (x1340 ++ (t1934 ++ (⟨#[7]⟩ : ByteArray))), (by exact Kn.pick (ks := [0, 3, 4, 5, 8]) hk rfl), (hs.relab0 (fun l_ => if l_ = 73 then 79 else if l_ = 74 then 80 else l_) rfl), (f1926.relab (fun l_ => if l_ = 73 then 79 else if l_ = 74 then 80 else l_) rfl), (f1929.relab (fun l_ => if l_ = 73 then 79 else if l_ = 74 then 80 else l_) rfl), (f900.relab (fun l_ => if l_ = 73 then 79 else if l_ = 74 then 80 else l_) rfl), hc1930, H⟩
        · rw [b1991] at hk H
          replace H := bifT H
          refine x_if hk (b := true) rfl ?_
          refine (show Code.wpIn _ _ _ _ _ _ _ from ?_)
          refine x_seq ?_
          refine wpIn_region_lit ?_
          refine x_run tab hk (k := 1) (lv := []) (ks := [2]) (e' := [(2, .bool false)]) rfl trivial fun a hk => ?_
          refine wpListIn_nil ?_
          refine then_n ?_
          refine wpIn_ret ?_
          refine blk_r ?_
          refine then_r ?_
          refine blk_r ?_
          refine then_r ?_
          refine then_r ?_
          refine blk_r ?_
          refine then_r ?_
          obtain rfl := Option.some.inj H
          exact x_retG hk (rs := [.tmp 2]) (vs := [.bool false]) rfl ⟨rfl, trivial⟩ ⟨fun b_ => if b_ < w.heap.size then o b_ else (fun _ => 0) (o1989 b_), rfl, hs.close0 o (fun _ => 0)⟩
    refine x_seq ?_
    refine wpIn_region_lit ?_
    refine x_run tab hk (k := 5) (lv := []) (ks := [0, 3, 4, 5, 15]) (e' := [(0, .slice Ap0 (p0).length cp0), (3, .pointer (some ⟨bx13, 0, none⟩)), (4, .string x1340), (5, .int .i64 x1341), (15, .bool (decide (x1341 < ((p0).length : Int))))]) rfl trivial fun a hk => ?_
    cases b1992 : (decide (x1341 < ((p0).length : Int)))
    · rw [b1992] at hk H
      replace H := bifF H
      refine x_run tab hk (k := 3) (lv := []) (ks := [0, 3, 4, 5, 18]) (e' := [(0, .slice Ap0 (p0).length cp0), (3, .pointer (some ⟨bx13, 0, none⟩)), (4, .string x1340), (5, .int .i64 x1341), (18, .bool false)]) rfl trivial fun a hk => ?_
      refine wpListIn_nil ?_
      refine then_n ?_
      refine x_if hk (b := false) rfl ?_
      refine (show Code.wpIn _ _ _ _ _ _ _ from ?_)
      refine wpIn_exit ?_
      refine then_x ?_
      refine then_x ?_
      refine blk_x ?_
      refine then_n ?_
      exact ⟨o1334, (by exact Kn.pick (ks := []) hk rfl), hs, H⟩
    · rw [b1992] at hk H
      replace H := bifT H
      refine x_run tab hk (k := 3) (lv := []) (ks := [0, 3, 4, 5, 18]) (e' := [(0, .slice Ap0 (p0).length cp0), (3, .pointer (some ⟨bx13, 0, none⟩)), (4, .string x1340), (5, .int .i64 x1341), (18, .bool (decide (x1341 < (20 : Int))))]) rfl trivial fun a hk => ?_
      refine wpListIn_nil ?_
      refine then_n ?_
      cases b1993 : (decide (x1341 < (20 : Int)))
      · rw [b1993] at hk H
        replace H := bifF H
        refine x_if hk (b := false) rfl ?_
        refine (show Code.wpIn _ _ _ _ _ _ _ from ?_)
        refine wpIn_exit ?_
        refine then_x ?_
        refine then_x ?_
        refine blk_x ?_
        refine then_n ?_
        exact ⟨o1334, (by exact Kn.pick (ks := []) hk rfl), hs, H⟩
      · rw [b1993] at hk H
        replace H := bifT H
        refine x_if hk (b := true) rfl ?_
        refine (show Code.wpIn _ _ _ _ _ _ _ from ?_)
        refine wpIn_skip ?_
        refine then_n ?_
        exact ⟨(fun b_ => (fun l_ => if l_ = 60 then 73 else if l_ = 61 then 74 else l_) (o1334 b_)), (by exact Kn.pick (ks := [0, 3, 4, 5]) hk rfl), (hs.relab0 (fun l_ => if l_ = 60 then 73 else if l_ = 61 then 74 else l_) rfl), (f1338.relab (fun l_ => if l_ = 60 then 73 else if l_ = 61 then 74 else l_) rfl), (f14.relab (fun l_ => if l_ = 60 then 73 else if l_ = 61 then 74 else l_) rfl), (f900.relab (fun l_ => if l_ = 60 then 73 else if l_ = 61 then 74 else l_) rfl), H⟩
  · rw [b9] at hk H
    replace H := bifT H
    refine x_if hk (b := true) rfl ?_
    refine (show Code.wpIn _ _ _ _ _ _ _ from ?_)
    refine x_seq ?_
    refine wpIn_region_lit ?_
    refine x_run tab hk (k := 1) (lv := []) (ks := [2]) (e' := [(2, .bool false)]) rfl trivial fun a hk => ?_
    refine wpListIn_nil ?_
    refine then_n ?_
    refine wpIn_ret ?_
    refine then_r ?_
    obtain rfl := Option.some.inj H
    exact x_retG hk (rs := [.tmp 2]) (vs := [.bool false]) rfl ⟨rfl, trivial⟩ ⟨fun b_ => if b_ < w.heap.size then o b_ else (fun _ => 0) (o7 b_), rfl, hs.close0 o (fun _ => 0)⟩

/-! tidewrack/tidewracklaw01.NumSizes -/
theorem tidewracklaw01_NumSizes_calls (K : Nat) (p0 : Int) (p1 : Int) (w : World) (o : Nat → Nat)   (r : Bool) (H : tidewracklaw01_NumSizes K p0 p1 = some r) :
    Calls Try.prog 4 #[.int .i64 p0, .int .i64 p1] w (Ret fun v_ w' => ∃ o' : Nat → Nat, v_ = .bool r ∧ St [] w o w' o') := by
  refine x_enter (vs := [.int .i64 p0, .int .i64 p1]) Try.func4 rfl rfl rfl fun a hk => ?_
  obtain ⟨o0, hs, h0⟩ := St.start w o
  clear h0
  rw [tidewracklaw01_NumSizes] at H
  refine x_seq ?_
  refine wpIn_region_lit ?_
  refine x_run tab hk (k := 1) (lv := []) (ks := [0, 1]) (e' := [(0, .int .i64 p0), (1, .int .i64 p1)]) rfl trivial fun a hk => ?_
  refine wpListIn_nil ?_
  refine then_n ?_
  refine x_seq ?_
  refine x_seq ?_
  refine wpIn_region_lit ?_
  refine x_op hk rfl ?_
  obtain ⟨t4, hc5, H⟩ := bindS H
  refine op_call hk ent_9 (vs := []) rfl (tidewracklaw01_awake_calls K  _ o0    _ hc5) ?_
  rintro _ w6 ⟨o7, rfl, st8⟩
  replace hs := hs.loc0 st8 (by decide)
  have hk := hk.put 7 (.bool t4) rfl
  refine x_run tab hk (k := 1) (lv := []) (ks := [0, 1, 8]) (e' := [(0, .int .i64 p0), (1, .int .i64 p1), (8, .bool (!t4))]) rfl trivial fun a hk => ?_
  refine wpListIn_nil ?_
  refine then_n ?_
  cases b9 : (!t4)
  · rw [b9] at hk H
    replace H := bifF H
    refine x_if hk (b := false) rfl ?_
    refine (show Code.wpIn _ _ _ _ _ _ _ from ?_)
    refine wpIn_skip ?_
    refine then_n ?_
    refine x_seq ?_
    refine wpIn_region_lit ?_
    refine x_run tab hk (k := 3) (lv := []) (ks := [0, 1, 11]) (e' := [(0, .int .i64 p0), (1, .int .i64 p1), (11, .int .i64 (mnI p0 p1))]) rfl trivial fun a hk => ?_
    refine x_op hk rfl ?_
    obtain ⟨t13, hc14, H⟩ := bindS H
    refine op_call hk ent_13 (vs := [.int .i64 (mnI p0 p1)]) rfl (num_Size_calls K (mnI p0 p1) _ o7    _ hc14) ?_
    rintro _ w15 ⟨o16, rfl, st17⟩
    replace hs := hs.loc0 st17 (by decide)
    have hk := hk.put 12 (.int .i64 t13) rfl
    refine x_run tab hk (k := 3) (lv := []) (ks := [12, 15]) (e' := [(12, .int .i64 t13), (15, .int .i64 (mxI p0 p1))]) rfl trivial fun a hk => ?_
    refine x_op hk rfl ?_
    obtain ⟨t21, hc22, H⟩ := bindS H
    refine op_call hk ent_13 (vs := [.int .i64 (mxI p0 p1)]) rfl (num_Size_calls K (mxI p0 p1) _ o16    _ hc22) ?_
    rintro _ w23 ⟨o24, rfl, st25⟩
    replace hs := hs.loc0 st25 (by decide)
    have hk := hk.put 16 (.int .i64 t21) rfl
    refine x_run tab hk (k := 2) (lv := []) (ks := [5, 6]) (e' := [(5, .int .i64 t13), (6, .int .i64 t21)]) rfl trivial fun a hk => ?_
    refine wpListIn_nil ?_
    refine then_n ?_
    refine x_seq ?_
    refine wpIn_region_lit ?_
    refine x_run tab hk (k := 3) (lv := []) (ks := [5, 6, 19]) (e' := [(5, .int .i64 t13), (6, .int .i64 t21), (19, .bool (decide (t13 ≥ (1 : Int))))]) rfl trivial fun a hk => ?_
    cases b26 : (decide (t13 ≥ (1 : Int)))
    · rw [b26] at hk H
      replace H := bifF H
      refine x_run tab hk (k := 9) (lv := []) (ks := [4]) (e' := [(4, .bool false)]) rfl trivial fun a hk => ?_
      refine wpListIn_nil ?_
      refine then_n ?_
      refine wpIn_ret ?_
      obtain rfl := Option.some.inj H
      exact x_retG hk (rs := [.tmp 4]) (vs := [.bool false]) rfl ⟨rfl, trivial⟩ ⟨fun b_ => if b_ < w.heap.size then o b_ else (fun _ => 0) (o24 b_), rfl, hs.close0 o (fun _ => 0)⟩
    · rw [b26] at hk H
      replace H := bifT H
      refine x_run tab hk (k := 5) (lv := []) (ks := [6, 24]) (e' := [(6, .int .i64 t21), (24, .bool (decide (t13 ≤ t21)))]) rfl trivial fun a hk => ?_
      cases b27 : (decide (t13 ≤ t21))
      · rw [b27] at hk H
        replace H := bifF H
        refine x_run tab hk (k := 4) (lv := []) (ks := [4]) (e' := [(4, .bool false)]) rfl trivial fun a hk => ?_
        refine wpListIn_nil ?_
        refine then_n ?_
        refine wpIn_ret ?_
        obtain rfl := Option.some.inj H
        exact x_retG hk (rs := [.tmp 4]) (vs := [.bool false]) rfl ⟨rfl, trivial⟩ ⟨fun b_ => if b_ < w.heap.size then o b_ else (fun _ => 0) (o24 b_), rfl, hs.close0 o (fun _ => 0)⟩
      · rw [b27] at hk H
        replace H := bifT H
        refine x_run tab hk (k := 4) (lv := []) (ks := [4]) (e' := [(4, .bool (decide (t21 ≤ (9 : Int))))]) rfl trivial fun a hk => ?_
        refine wpListIn_nil ?_
        refine then_n ?_
        refine wpIn_ret ?_
        obtain rfl := Option.some.inj H
        exact x_retG hk (rs := [.tmp 4]) (vs := [.bool (decide (t21 ≤ (9 : Int)))]) rfl ⟨rfl, trivial⟩ ⟨fun b_ => if b_ < w.heap.size then o b_ else (fun _ => 0) (o24 b_), rfl, hs.close0 o (fun _ => 0)⟩
  · rw [b9] at hk H
    replace H := bifT H
    refine x_if hk (b := true) rfl ?_
    refine (show Code.wpIn _ _ _ _ _ _ _ from ?_)
    refine x_seq ?_
    refine wpIn_region_lit ?_
    refine x_run tab hk (k := 1) (lv := []) (ks := [4]) (e' := [(4, .bool false)]) rfl trivial fun a hk => ?_
    refine wpListIn_nil ?_
    refine then_n ?_
    refine wpIn_ret ?_
    refine then_r ?_
    obtain rfl := Option.some.inj H
    exact x_retG hk (rs := [.tmp 4]) (vs := [.bool false]) rfl ⟨rfl, trivial⟩ ⟨fun b_ => if b_ < w.heap.size then o b_ else (fun _ => 0) (o7 b_), rfl, hs.close0 o (fun _ => 0)⟩

/-! (*tidewrack/num.In).Err -/
theorem num_In_Err_calls (bp0 : Nat) (p0 : T62) (w : World) (o : Nat → Nat) (Lp0 : Nat) (hp0 : Ft (Bx bp0 63 [.string p0.s, .int .i64 p0.e]) w o Lp0)  (r : Int) (H : num_In_Err p0 = some r) :
    Calls Try.prog 20 #[.pointer (some ⟨bp0, 0, none⟩)] w (Ret fun v_ w' => ∃ o' : Nat → Nat, v_ = .int .i64 r ∧ St [] w o w' o') := by
  refine x_enter (vs := [.pointer (some ⟨bp0, 0, none⟩)]) Try.func20 rfl rfl rfl fun a hk => ?_
  obtain ⟨o0, hs, h0⟩ := St.start w o
  have f919 := h0 _ _ hp0
  clear h0
  rw [num_In_Err] at H
  refine x_seq ?_
  refine wpIn_region_lit ?_
  refine x_run tab hk (k := 1) (lv := []) (ks := [0]) (e' := [(0, .pointer (some ⟨bp0, 0, none⟩))]) rfl trivial fun a hk => ?_
  refine wpListIn_nil ?_
  refine then_n ?_
  refine x_seq ?_
  refine wpIn_region_lit ?_
  refine x_run tab hk (k := 5) (lv := [.int .i64 p0.e]) (ks := [2]) (e' := [(2, .int .i64 p0.e)]) rfl ⟨(load1 tab rfl ((Bx.cell f919.now 1).trans rfl)), trivial⟩ fun a hk => ?_
  refine wpListIn_nil ?_
  refine then_n ?_
  refine wpIn_ret ?_
  obtain rfl := Option.some.inj H
  exact x_retG hk (rs := [.tmp 2]) (vs := [.int .i64 p0.e]) rfl ⟨rfl, trivial⟩ ⟨fun b_ => if b_ < w.heap.size then o b_ else (fun _ => 0) (o0 b_), rfl, hs.close0 o (fun _ => 0)⟩

/-! (*tidewrack/num.In).Left -/
theorem num_In_Left_calls (bp0 : Nat) (p0 : T62) (w : World) (o : Nat → Nat) (Lp0 : Nat) (hp0 : Ft (Bx bp0 63 [.string p0.s, .int .i64 p0.e]) w o Lp0)  (r : Int) (H : num_In_Left p0 = some r) :
    Calls Try.prog 21 #[.pointer (some ⟨bp0, 0, none⟩)] w (Ret fun v_ w' => ∃ o' : Nat → Nat, v_ = .int .i64 r ∧ St [] w o w' o') := by
  refine x_enter (vs := [.pointer (some ⟨bp0, 0, none⟩)]) Try.func21 rfl rfl rfl fun a hk => ?_
  obtain ⟨o0, hs, h0⟩ := St.start w o
  have f919 := h0 _ _ hp0
  clear h0
  rw [num_In_Left] at H
  refine x_seq ?_
  refine wpIn_region_lit ?_
  refine x_run tab hk (k := 1) (lv := []) (ks := [0]) (e' := [(0, .pointer (some ⟨bp0, 0, none⟩))]) rfl trivial fun a hk => ?_
  refine wpListIn_nil ?_
  refine then_n ?_
  refine x_seq ?_
  refine wpIn_region_lit ?_
  refine x_run tab hk (k := 6) (lv := [.string p0.s]) (ks := [2]) (e' := [(2, .int .i64 ((p0.s).size : Int))]) rfl ⟨(load1 tab rfl ((Bx.cell f919.now 0).trans rfl)), trivial⟩ fun a hk => ?_
  refine wpListIn_nil ?_
  refine then_n ?_
  refine wpIn_ret ?_
  obtain rfl := Option.some.inj H
  exact x_retG hk (rs := [.tmp 2]) (vs := [.int .i64 ((p0.s).size : Int)]) rfl ⟨rfl, trivial⟩ ⟨fun b_ => if b_ < w.heap.size then o b_ else (fun _ => 0) (o0 b_), rfl, hs.close0 o (fun _ => 0)⟩

/-! tidewrack/tidewracklaw01.NumOnly -/
theorem tidewracklaw01_NumOnly_calls (K : Nat) (p0 : ByteArray) (w : World) (o : Nat → Nat)   (r : Bool) (H : tidewracklaw01_NumOnly K p0 = some r) :
    Calls Try.prog 5 #[.string p0] w (Ret fun v_ w' => ∃ o' : Nat → Nat, v_ = .bool r ∧ St [] w o w' o') := by
  refine x_enter (vs := [.string p0]) Try.func5 rfl rfl rfl fun a hk => ?_
  obtain ⟨o0, hs, h0⟩ := St.start w o
  clear h0
  rw [tidewracklaw01_NumOnly] at H
  refine x_seq ?_
  refine wpIn_region_lit ?_
  refine x_run tab hk (k := 1) (lv := []) (ks := [0]) (e' := [(0, .string p0)]) rfl trivial fun a hk => ?_
  refine wpListIn_nil ?_
  refine then_n ?_
  refine x_seq ?_
  refine x_seq ?_
  refine wpIn_region_lit ?_
  refine x_op hk rfl ?_
  obtain ⟨t4, hc5, H⟩ := bindS H
  refine op_call hk ent_9 (vs := []) rfl (tidewracklaw01_awake_calls K  _ o0    _ hc5) ?_
  rintro _ w6 ⟨o7, rfl, st8⟩
  replace hs := hs.loc0 st8 (by decide)
  have hk := hk.put 6 (.bool t4) rfl
  refine x_run tab hk (k := 1) (lv := []) (ks := [0, 7]) (e' := [(0, .string p0), (7, .bool (!t4))]) rfl trivial fun a hk => ?_
  refine wpListIn_nil ?_
  refine then_n ?_
  cases b9 : (!t4)
  · rw [b9] at hk H
    replace H := bifF H
    refine x_if hk (b := false) rfl ?_
    refine (show Code.wpIn _ _ _ _ _ _ _ from ?_)
    refine wpIn_skip ?_
    refine then_n ?_
    refine x_seq ?_
    refine wpIn_region_lit ?_
    refine x_run tab hk (k := 1) (lv := []) (ks := [8]) (e' := [(8, .string p0)]) rfl trivial fun a hk => ?_
    refine x_op hk rfl ?_
    obtain ⟨t13, hc14, H⟩ := bindS H
    refine op_call hk ent_10 (vs := [.string p0, .int .i64 20]) rfl (tidewracklaw01_Cut_calls p0 20 _ o7    _ hc14) ?_
    rintro _ w15 ⟨o16, rfl, st17⟩
    replace hs := hs.loc0 st17 (by decide)
    have hk := hk.put 9 (.string t13) rfl
    refine x_run tab hk (k := 1) (lv := []) (ks := [0]) (e' := [(0, .string t13)]) rfl trivial fun a hk => ?_
    refine wpListIn_nil ?_
    refine then_n ?_
    refine x_seq ?_
    refine wpIn_region_lit ?_
    refine x_run tab hk (k := 1) (lv := []) (ks := [0, 10]) (e' := [(0, .string t13), (10, .string t13)]) rfl trivial fun a hk => ?_
    refine x_op hk rfl ?_
    obtain ⟨t21, hc22, H⟩ := bindS H
    refine op_call hk ent_18 (vs := [.string t13]) rfl (num_Of_calls t13 _ o16  1  _ hc22) ?_
    rintro _ w23 ⟨o24, bx26, rfl, st25, f27⟩
    replace hs := hs.loc0 st25 (by decide)
    have hk := hk.put 11 (.pointer (some ⟨bx26, 0, none⟩)) rfl
    refine x_run tab hk (k := 1) (lv := []) (ks := [0, 3]) (e' := [(0, .string t13), (3, .pointer (some ⟨bx26, 0, none⟩))]) rfl trivial fun a hk => ?_
    refine wpListIn_nil ?_
    refine then_n ?_
    refine x_seq ?_
    refine x_seq ?_
    refine wpIn_region_lit ?_
    refine x_run tab hk (k := 2) (lv := []) (ks := [0, 3, 13]) (e' := [(0, .string t13), (3, .pointer (some ⟨bx26, 0, none⟩)), (13, .bool false)]) rfl trivial fun a hk => ?_
    refine wpListIn_nil ?_
    refine then_n ?_
    refine x_if hk (b := false) rfl ?_
    refine (show Code.wpIn _ _ _ _ _ _ _ from ?_)
    refine wpIn_skip ?_
    refine then_n ?_
    refine x_seq ?_
    refine wpIn_region_lit ?_
    refine x_run tab hk (k := 1) (lv := []) (ks := [0, 3, 14]) (e' := [(0, .string t13), (3, .pointer (some ⟨bx26, 0, none⟩)), (14, .pointer (some ⟨bx26, 0, none⟩))]) rfl trivial fun a hk => ?_
    refine x_op hk rfl ?_
    obtain ⟨t31, hc32, H⟩ := bindS H
    refine op_call hk ent_19 (vs := [.pointer (some ⟨bx26, 0, none⟩)]) rfl (num_In_Num_calls K bx26 t21 _ o24 1 f27 (by decide)   _ hc32) ?_
    rintro _ w33 ⟨o34, rfl, st35, f36⟩
    replace hs := hs.loc0 st35 (by decide)
    have hk := hk.put 15 (.int .i64 t31.1) rfl
    refine x_run tab hk (k := 1) (lv := []) (ks := [0, 3, 4]) (e' := [(0, .string t13), (3, .pointer (some ⟨bx26, 0, none⟩)), (4, .int .i64 t31.1)]) rfl trivial fun a hk => ?_
    refine wpListIn_nil ?_
    refine then_n ?_
    refine x_seq ?_
    refine x_seq ?_
    refine wpIn_region_lit ?_
    refine x_run tab hk (k := 1) (lv := []) (ks := [0, 3, 4, 16]) (e' := [(0, .string t13), (3, .pointer (some ⟨bx26, 0, none⟩)), (4, .int .i64 t31.1), (16, .pointer (some ⟨bx26, 0, none⟩))]) rfl trivial fun a hk => ?_
    refine x_op hk rfl ?_
    obtain ⟨t40, hc41, H⟩ := bindS H
    refine op_call hk ent_20 (vs := [.pointer (some ⟨bx26, 0, none⟩)]) rfl (num_In_Err_calls bx26 t31.2 _ o34 1 f36   _ hc41) ?_
    rintro _ w42 ⟨o43, rfl, st44⟩
    replace f36 := f36.st st44 (by decide)
    replace hs := hs.loc0 st44 (by decide)
    have hk := hk.put 17 (.int .i64 t40) rfl
    refine x_run tab hk (k := 1) (lv := []) (ks := [0, 3, 4, 18]) (e' := [(0, .string t13), (3, .pointer (some ⟨bx26, 0, none⟩)), (4, .int .i64 t31.1), (18, .bool (t40 != (0 : Int)))]) rfl trivial fun a hk => ?_
    refine wpListIn_nil ?_
    refine then_n ?_
    cases b45 : (t40 != (0 : Int))
    · rw [b45] at hk H
      replace H := bifF H
      refine x_if hk (b := false) rfl ?_
      refine (show Code.wpIn _ _ _ _ _ _ _ from ?_)
      refine wpIn_skip ?_
      refine then_n ?_
      refine x_seq ?_
      refine wpIn_region_lit ?_
      refine x_op hk rfl ?_
      refine op_alloc (o := o43) tab (t := 26) (cs := [.slice none 0 0]) rfl rfl 2 fun bx49 w46 o47 st48 f50 => ?_
      replace f36 := f36.st st48 (by decide)
      replace hs := hs.loc0 st48 (by decide)
      have hk := hk.put 5 (.pointer (some ⟨bx49, 0, none⟩)) rfl
      refine wpListIn_nil ?_
      refine then_n ?_
      refine x_seq ?_
      refine wpIn_region_lit ?_
      refine x_run tab hk (k := 1) (lv := []) (ks := [0, 3, 4, 5, 26]) (e' := [(0, .string t13), (3, .pointer (some ⟨bx26, 0, none⟩)), (4, .int .i64 t31.1), (5, .pointer (some ⟨bx49, 0, none⟩)), (26, .int .i64 t31.1)]) rfl trivial fun a hk => ?_
      refine x_op hk rfl ?_
      refine op_slice (o := o47) tab hk (vs := [.int .i64 t31.1]) (cs := [.int .i64 t31.1]) rfl rfl rfl rfl rfl rfl rfl rfl rfl 3 fun bx54 w51 o52 st53 f55 => ?_
      replace f36 := f36.st st53 (by decide)
      replace f50 := f50.st st53 (by decide)
      replace hs := hs.loc0 st53 (by decide)
      have f56 : Ft (Own (encInt .i64) 3 (.slice (some ⟨bx54, 0, none⟩) (([t31.1] : List Int)).length 1) ([t31.1] : List Int)) w51 o52 3 := f55.imp fun _ h_ => Own.of_box h_ rfl (by simp)
      have hk := hk.put 27 (.slice (some ⟨bx54, 0, none⟩) (([t31.1] : List Int)).length 1) rfl
      refine x_op hk rfl ?_
      obtain ⟨t60, hc61, H⟩ := bindS H
      refine op_call hk ent_11 (vs := [.pointer (some ⟨bx49, 0, none⟩), .slice (some ⟨bx54, 0, none⟩) (([t31.1] : List Int)).length 1]) rfl (num_Out_Num_calls K bx49 none 0 (⟨([] : List Int)⟩ : T25) (some ⟨bx54, 0, none⟩) 1 ([t31.1] : List Int) _ o52 2 f50 4 (Ft.of_all (fun _ => Own.nil _ _ _) _ _ 4) (by simp) _ (f56.imp fun _ h_ => Own.rd h_) (Nat.le_refl _) (by decide) (by decide)   _ hc61) ?_
      rintro _ w62 ⟨o63, A66, c67, rfl, st64, f65, f68, hc69⟩
      replace f36 := f36.st st64 (by decide)
      replace f56 := f56.st st64 (by decide)
      replace hs := hs.loc0 st64 (by decide)
      have hk := hk.put 28 (.pointer (some ⟨bx49, 0, none⟩)) rfl
      refine x_op hk rfl ?_
      obtain ⟨t73, hc74, H⟩ := bindS H
      refine op_call hk ent_17 (vs := [.pointer (some ⟨bx49, 0, none⟩)]) rfl (num_Out_Bytes_calls bx49 A66 c67 t60 _ o63 2 f65 4 f68 hc69 (by decide)   _ hc74) ?_
      rintro _ w75 ⟨o76, A79, c80, rfl, st77, f78, f81, hc82⟩
      replace f36 := f36.st st77 (by decide)
      replace f56 := f56.st st77 (by decide)
      replace hs := hs.loc0 st77 (by decide)
      have hk := hk.put 29 (.string t73.1) rfl
      refine x_run tab hk (k := 4) (lv := []) (ks := [0, 3, 4, 29, 30, 32, 33]) (e' := [(0, .string t13), (3, .pointer (some ⟨bx26, 0, none⟩)), (4, .int .i64 t31.1), (29, .string t73.1), (30, .string t13), (32, .int .i64 ((t13).size : Int)), (33, .pointer (some ⟨bx26, 0, none⟩))]) rfl trivial fun a hk => ?_
      refine x_op hk rfl ?_
      obtain ⟨t86, hc87, H⟩ := bindS H
      refine op_call hk ent_21 (vs := [.pointer (some ⟨bx26, 0, none⟩)]) rfl (num_In_Left_calls bx26 t31.2 _ o76 1 f36   _ hc87) ?_
      rintro _ w88 ⟨o89, rfl, st90⟩
      replace f36 := f36.st st90 (by decide)
      replace hs := hs.loc0 st90 (by decide)
      have hk := hk.put 34 (.int .i64 t86) rfl
      obtain ⟨q91, H⟩ := ifS H
      obtain ⟨q92, H⟩ := ifS H
      refine x_run tab hk (k := 4) (lv := []) (ks := [0, 3, 4, 38]) (e' := [(0, .string t13), (3, .pointer (some ⟨bx26, 0, none⟩)), (4, .int .i64 t31.1), (38, .bool (ByteArray.toList t73.1 == ByteArray.toList (ByteArray.extract t13 0 (Int.toNat (IntKind.wrap .i64 (((t13).size : Int) - t86))))))]) rfl ⟨q91, q92, trivial⟩ fun a hk => ?_
      cases b93 : (ByteArray.toList t73.1 == ByteArray.toList (ByteArray.extract t13 0 (Int.toNat (IntKind.wrap .i64 (((t13).size : Int) - t86)))))
      · rw [b93] at hk H
        replace H := bifF H
        refine x_run tab hk (k := 10) (lv := []) (ks := [2]) (e' := [(2, .bool false)]) rfl trivial fun a hk => ?_
        refine wpListIn_nil ?_
        refine then_n ?_
        refine wpIn_ret ?_
        obtain rfl := Option.some.inj H
        exact x_retG hk (rs := [.tmp 2]) (vs := [.bool false]) rfl ⟨rfl, trivial⟩ ⟨fun b_ => if b_ < w.heap.size then o b_ else (fun _ => 0) (o89 b_), rfl, hs.close0 o (fun _ => 0)⟩
      · rw [b93] at hk H
        replace H := bifT H
        refine x_run tab hk (k := 1) (lv := []) (ks := [0, 3, 38, 39]) (e' := [(0, .string t13), (3, .pointer (some ⟨bx26, 0, none⟩)), (38, .bool true), (39, .int .i64 t31.1)]) rfl trivial fun a hk => ?_
        refine x_op hk rfl ?_
        obtain ⟨t97, hc98, H⟩ := bindS H
        refine op_call hk ent_13 (vs := [.int .i64 t31.1]) rfl (num_Size_calls K t31.1 _ o89    _ hc98) ?_
        rintro _ w99 ⟨o100, rfl, st101⟩
        replace f36 := f36.st st101 (by decide)
        replace hs := hs.loc0 st101 (by decide)
        have hk := hk.put 40 (.int .i64 t97) rfl
        refine x_run tab hk (k := 3) (lv := []) (ks := [38, 40, 42, 43]) (e' := [(38, .bool true), (40, .int .i64 t97), (42, .int .i64 ((t13).size : Int)), (43, .pointer (some ⟨bx26, 0, none⟩))]) rfl trivial fun a hk => ?_
        refine x_op hk rfl ?_
        obtain ⟨t105, hc106, H⟩ := bindS H
        refine op_call hk ent_21 (vs := [.pointer (some ⟨bx26, 0, none⟩)]) rfl (num_In_Left_calls bx26 t31.2 _ o100 1 f36   _ hc106) ?_
        rintro _ w107 ⟨o108, rfl, st109⟩
        replace f36 := f36.st st109 (by decide)
        replace hs := hs.loc0 st109 (by decide)
        have hk := hk.put 44 (.int .i64 t105) rfl
        refine x_run tab hk (k := 4) (lv := []) (ks := [2]) (e' := [(2, .bool (t97 == (IntKind.wrap .i64 (((t13).size : Int) - t105))))]) rfl trivial fun a hk => ?_
        refine wpListIn_nil ?_
        refine then_n ?_
        refine wpIn_ret ?_
        obtain rfl := Option.some.inj H
        exact x_retG hk (rs := [.tmp 2]) (vs := [.bool (t97 == (IntKind.wrap .i64 (((t13).size : Int) - t105)))]) rfl ⟨rfl, trivial⟩ ⟨fun b_ => if b_ < w.heap.size then o b_ else (fun _ => 0) (o108 b_), rfl, hs.close0 o (fun _ => 0)⟩
    · rw [b45] at hk H
      replace H := bifT H
      refine x_if hk (b := true) rfl ?_
      refine (show Code.wpIn _ _ _ _ _ _ _ from ?_)
      refine x_seq ?_
      refine wpIn_region_lit ?_
      refine x_run tab hk (k := 3) (lv := []) (ks := [3, 21]) (e' := [(3, .pointer (some ⟨bx26, 0, none⟩)), (21, .bool (t31.1 == (0 : Int)))]) rfl trivial fun a hk => ?_
      cases b110 : (t31.1 == (0 : Int))
      · rw [b110] at hk H
        replace H := bifF H
        refine x_run tab hk (k := 5) (lv := []) (ks := [2]) (e' := [(2, .bool false)]) rfl trivial fun a hk => ?_
        refine wpListIn_nil ?_
        refine then_n ?_
        refine wpIn_ret ?_
        refine then_r ?_
        obtain rfl := Option.some.inj H
        exact x_retG hk (rs := [.tmp 2]) (vs := [.bool false]) rfl ⟨rfl, trivial⟩ ⟨fun b_ => if b_ < w.heap.size then o b_ else (fun _ => 0) (o43 b_), rfl, hs.close0 o (fun _ => 0)⟩
      · rw [b110] at hk H
        replace H := bifT H
        refine x_run tab hk (k := 1) (lv := []) (ks := [21, 22]) (e' := [(21, .bool true), (22, .pointer (some ⟨bx26, 0, none⟩))]) rfl trivial fun a hk => ?_
        refine x_op hk rfl ?_
        obtain ⟨t114, hc115, H⟩ := bindS H
        refine op_call hk ent_21 (vs := [.pointer (some ⟨bx26, 0, none⟩)]) rfl (num_In_Left_calls bx26 t31.2 _ o43 1 f36   _ hc115) ?_
        rintro _ w116 ⟨o117, rfl, st118⟩
        replace f36 := f36.st st118 (by decide)
        replace hs := hs.loc0 st118 (by decide)
        have hk := hk.put 23 (.int .i64 t114) rfl
        refine x_run tab hk (k := 3) (lv := []) (ks := [2]) (e' := [(2, .bool (t114 == (0 : Int)))]) rfl trivial fun a hk => ?_
        refine wpListIn_nil ?_
        refine then_n ?_
        refine wpIn_ret ?_
        refine then_r ?_
        obtain rfl := Option.some.inj H
        exact x_retG hk (rs := [.tmp 2]) (vs := [.bool (t114 == (0 : Int))]) rfl ⟨rfl, trivial⟩ ⟨fun b_ => if b_ < w.heap.size then o b_ else (fun _ => 0) (o117 b_), rfl, hs.close0 o (fun _ => 0)⟩
  · rw [b9] at hk H
    replace H := bifT H
    refine x_if hk (b := true) rfl ?_
    refine (show Code.wpIn _ _ _ _ _ _ _ from ?_)
    refine x_seq ?_
    refine wpIn_region_lit ?_
    refine x_run tab hk (k := 1) (lv := []) (ks := [2]) (e' := [(2, .bool false)]) rfl trivial fun a hk => ?_
    refine wpListIn_nil ?_
    refine then_n ?_
    refine wpIn_ret ?_
    refine then_r ?_
    obtain rfl := Option.some.inj H
    exact x_retG hk (rs := [.tmp 2]) (vs := [.bool false]) rfl ⟨rfl, trivial⟩ ⟨fun b_ => if b_ < w.heap.size then o b_ else (fun _ => 0) (o7 b_), rfl, hs.close0 o (fun _ => 0)⟩

/-! (*tidewrack/num.In).Raw -/
theorem num_In_Raw_calls (bp0 : Nat) (p0 : T62) (p1 : Int) (w : World) (o : Nat → Nat) (Lp0 : Nat) (hp0 : Ft (Bx bp0 63 [.string p0.s, .int .i64 p0.e]) w o Lp0) (hd0 : [Lp0].Nodup) (r : ByteArray × T62) (H : num_In_Raw p0 p1 = some r) :
    Calls Try.prog 27 #[.pointer (some ⟨bp0, 0, none⟩), .int .i64 p1] w (Ret fun v_ w' => ∃ o' : Nat → Nat, v_ = .string r.1 ∧ St [Lp0] w o w' o' ∧ Ft (Bx bp0 63 [.string r.2.s, .int .i64 r.2.e]) w' o' Lp0) := by
  refine x_enter (vs := [.pointer (some ⟨bp0, 0, none⟩), .int .i64 p1]) Try.func27 rfl rfl rfl fun a hk => ?_
  obtain ⟨oi, hs0, h0, h1, hob, hoz, hoa⟩ := St.startM2 w o (m := 1) hd0 rfl
  have hs := hs0 [1]
  have hom := lab_in hob (MM := [1]) (by decide)
  have f919 := h1 0 1 hp0 rfl rfl
  clear h0 h1 hs0
  rw [num_In_Raw] at H
  refine x_seq ?_
  refine wpIn_region_lit ?_
  refine x_run tab hk (k := 1) (lv := []) (ks := [0, 1]) (e' := [(0, .pointer (some ⟨bp0, 0, none⟩)), (1, .int .i64 p1)]) rfl trivial fun a hk => ?_
  refine wpListIn_nil ?_
  refine then_n ?_
  refine x_seq ?_
  refine wpIn_region_lit ?_
  refine x_run tab hk (k := 3) (lv := []) (ks := [0, 1]) (e' := [(0, .pointer (some ⟨bp0, 0, none⟩)), (1, .int .i64 (mxI 0 p1))]) rfl trivial fun a hk => ?_
  refine wpListIn_nil ?_
  refine then_n ?_
  refine x_seq ?_
  refine x_seq ?_
  refine wpIn_region_lit ?_
  refine x_run tab hk (k := 7) (lv := [.string p0.s]) (ks := [0, 1, 14]) (e' := [(0, .pointer (some ⟨bp0, 0, none⟩)), (1, .int .i64 (mxI 0 p1)), (14, .bool (decide ((mxI 0 p1) > ((p0.s).size : Int))))]) rfl ⟨(load1 tab rfl ((Bx.cell f919.now 0).trans rfl)), trivial⟩ fun a hk => ?_
  refine wpListIn_nil ?_
  refine then_n ?_
  cases b1 : (decide ((mxI 0 p1) > ((p0.s).size : Int)))
  · rw [b1] at hk H
    replace H := bifF H
    refine x_if hk (b := false) rfl ?_
    refine (show Code.wpIn _ _ _ _ _ _ _ from ?_)
    refine wpIn_skip ?_
    refine then_n ?_
    refine x_seq ?_
    refine wpIn_region_lit ?_
    obtain ⟨q2, H⟩ := ifS H
    obtain ⟨q3, H⟩ := ifS H
    refine x_run tab hk (k := 7) (lv := [.string p0.s]) (ks := [0, 1, 5]) (e' := [(0, .pointer (some ⟨bp0, 0, none⟩)), (1, .int .i64 (mxI 0 p1)), (5, .string (ByteArray.extract p0.s 0 (Int.toNat (mxI 0 p1))))]) rfl ⟨(load1 tab rfl ((Bx.cell f919.now 0).trans rfl)), q2, q3, trivial⟩ fun a hk => ?_
    refine wpListIn_nil ?_
    refine then_n ?_
    refine x_seq ?_
    refine wpIn_region_lit ?_
    refine x_run tab hk (k := 9) (lv := [.string p0.s]) (ks := [5, 29, 31]) (e' := [(5, .string (ByteArray.extract p0.s 0 (Int.toNat (mxI 0 p1)))), (29, .string (ByteArray.extract p0.s (Int.toNat (mxI 0 p1)) (p0.s).size)), (31, .pointer (some ⟨bp0, 0, none⟩))]) rfl ⟨(load1 tab rfl ((Bx.cell f919.now 0).trans rfl)), q2, q3, trivial⟩ fun a hk => ?_
    refine x_op hk rfl ?_
    refine op_store tab hk (t := 9) (v := .string (ByteArray.extract p0.s (Int.toNat (mxI 0 p1)) (p0.s).size)) (b := bp0) (k := 0) (cs' := [.string (ByteArray.extract p0.s (Int.toNat (mxI 0 p1)) (p0.s).size), .int .i64 p0.e]) rfl rfl rfl rfl rfl rfl f919 rfl rfl fun w4 o5 st6 f919_ => ?_
    replace hs := hs.locM st6 (by decide) hom
    replace f919 := f919_
    refine wpListIn_nil ?_
    refine then_n ?_
    refine x_seq ?_
    refine wpIn_region_lit ?_
    refine x_run tab hk (k := 2) (lv := []) (ks := [4]) (e' := [(4, .string (ByteArray.extract p0.s 0 (Int.toNat (mxI 0 p1))))]) rfl trivial fun a hk => ?_
    refine wpListIn_nil ?_
    refine then_n ?_
    refine wpIn_ret ?_
    obtain rfl := Option.some.inj H
    exact x_retG hk (rs := [.tmp 4]) (vs := [.string (ByteArray.extract p0.s 0 (Int.toNat (mxI 0 p1)))]) rfl ⟨rfl, trivial⟩ ⟨fun b_ => if b_ < w.heap.size then o b_ else (fun l_ => if l_ = 1 then Lp0 else 0) (o5 b_), rfl, hs.closeM hoz (by decide) (fun l_ => if l_ = 1 then Lp0 else 0), hs.closeM_ft (o := o) (ρ := fun l_ => if l_ = 1 then Lp0 else 0) f919 (lab_at hoa (i := 0) rfl) rfl⟩
  · rw [b1] at hk H
    replace H := bifT H
    refine x_if hk (b := true) rfl ?_
    refine (show Code.wpIn _ _ _ _ _ _ _ from ?_)
    refine x_seq ?_
    refine wpIn_region_lit ?_
    refine x_run tab hk (k := 1) (lv := []) (ks := [15]) (e' := [(15, .pointer (some ⟨bp0, 0, none⟩))]) rfl trivial fun a hk => ?_
    refine x_op hk rfl ?_
    obtain ⟨t10, hc11, H⟩ := bindS H
    refine op_call hk ent_29 (vs := [.pointer (some ⟨bp0, 0, none⟩), .int .i64 2]) rfl (num_In_Fail_calls bp0 p0 2 _ oi 1 f919 (by decide)   _ hc11) ?_
    rintro _ w12 ⟨o13, rfl, st14, f15⟩
    replace hs := hs.locM st14 (by decide) hom
    have hk := hk.put 16 (.tuple #[]) rfl
    refine wpListIn_nil ?_
    refine then_n ?_
    refine x_seq ?_
    refine wpIn_region_lit ?_
    refine x_run tab hk (k := 1) (lv := []) (ks := [4]) (e' := [(4, .string (⟨#[]⟩ : ByteArray))]) rfl trivial fun a hk => ?_
    refine wpListIn_nil ?_
    refine then_n ?_
    refine wpIn_ret ?_
    refine then_r ?_
    obtain rfl := Option.some.inj H
    exact x_retG hk (rs := [.tmp 4]) (vs := [.string (⟨#[]⟩ : ByteArray)]) rfl ⟨rfl, trivial⟩ ⟨fun b_ => if b_ < w.heap.size then o b_ else (fun l_ => if l_ = 1 then Lp0 else 0) (o13 b_), rfl, hs.closeM hoz (by decide) (fun l_ => if l_ = 1 then Lp0 else 0), hs.closeM_ft (o := o) (ρ := fun l_ => if l_ = 1 then Lp0 else 0) f15 (lab_at hoa (i := 0) rfl) rfl⟩

/-! (*tidewrack/num.In).Text -/
theorem num_In_Text_calls (K : Nat) (bp0 : Nat) (p0 : T62) (w : World) (o : Nat → Nat) (Lp0 : Nat) (hp0 : Ft (Bx bp0 63 [.string p0.s, .int .i64 p0.e]) w o Lp0) (hd0 : [Lp0].Nodup) (r : ByteArray × T62) (H : num_In_Text K p0 = some r) :
    Calls Try.prog 22 #[.pointer (some ⟨bp0, 0, none⟩)] w (Ret fun v_ w' => ∃ o' : Nat → Nat, v_ = .string r.1 ∧ St [Lp0] w o w' o' ∧ Ft (Bx bp0 63 [.string r.2.s, .int .i64 r.2.e]) w' o' Lp0) := by
  refine x_enter (vs := [.pointer (some ⟨bp0, 0, none⟩)]) Try.func22 rfl rfl rfl fun a hk => ?_
  obtain ⟨oi, hs0, h0, h1, hob, hoz, hoa⟩ := St.startM2 w o (m := 1) hd0 rfl
  have hs := hs0 [1]
  have hom := lab_in hob (MM := [1]) (by decide)
  have f919 := h1 0 1 hp0 rfl rfl
  clear h0 h1 hs0
  rw [num_In_Text] at H
  refine x_seq ?_
  refine wpIn_region_lit ?_
  refine x_run tab hk (k := 1) (lv := []) (ks := [0]) (e' := [(0, .pointer (some ⟨bp0, 0, none⟩))]) rfl trivial fun a hk => ?_
  refine wpListIn_nil ?_
  refine then_n ?_
  refine x_seq ?_
  refine wpIn_region_lit ?_
  refine x_run tab hk (k := 2) (lv := []) (ks := [3, 4]) (e' := [(3, .pointer (some ⟨bp0, 0, none⟩)), (4, .pointer (some ⟨bp0, 0, none⟩))]) rfl trivial fun a hk => ?_
  refine x_op hk rfl ?_
  obtain ⟨t4, hc5, H⟩ := bindS H
  refine op_call hk ent_19 (vs := [.pointer (some ⟨bp0, 0, none⟩)]) rfl (num_In_Num_calls K bp0 p0 _ oi 1 f919 (by decide)   _ hc5) ?_
  rintro _ w6 ⟨o7, rfl, st8, f9⟩
  replace hs := hs.locM st8 (by decide) hom
  have hk := hk.put 5 (.int .i64 t4.1) rfl
  refine x_op hk rfl ?_
  obtain ⟨t13, hc14, H⟩ := bindS H
  refine op_call hk ent_27 (vs := [.pointer (some ⟨bp0, 0, none⟩), .int .i64 t4.1]) rfl (num_In_Raw_calls bp0 t4.2 t4.1 _ o7 1 f9 (by decide)   _ hc14) ?_
  rintro _ w15 ⟨o16, rfl, st17, f18⟩
  replace hs := hs.locM st17 (by decide) hom
  have hk := hk.put 6 (.string t13.1) rfl
  refine x_run tab hk (k := 1) (lv := []) (ks := [2]) (e' := [(2, .string t13.1)]) rfl trivial fun a hk => ?_
  refine wpListIn_nil ?_
  refine then_n ?_
  refine wpIn_ret ?_
  obtain rfl := Option.some.inj H
  exact x_retG hk (rs := [.tmp 2]) (vs := [.string t13.1]) rfl ⟨rfl, trivial⟩ ⟨fun b_ => if b_ < w.heap.size then o b_ else (fun l_ => if l_ = 1 then Lp0 else 0) (o16 b_), rfl, hs.closeM hoz (by decide) (fun l_ => if l_ = 1 then Lp0 else 0), hs.closeM_ft (o := o) (ρ := fun l_ => if l_ = 1 then Lp0 else 0) f18 (lab_at hoa (i := 0) rfl) rfl⟩

/-! tidewrack/tidewracklaw01.NumBack -/
theorem tidewracklaw01_NumBack_calls (K : Nat) (Ap0 : Option Addr) (cp0 : Nat) (p0 : List Int) (p1 : ByteArray) (w : World) (o : Nat → Nat) (Lp0 : Nat) (hp0 : Ft (RdC (encInt .i64) Ap0 p0) w o Lp0) (hcp0 : (p0).length ≤ cp0)  (r : Bool) (H : tidewracklaw01_NumBack K p0 p1 = some r) :
    Calls Try.prog 6 #[.slice Ap0 (p0).length cp0, .string p1] w (Ret fun v_ w' => ∃ o' : Nat → Nat, v_ = .bool r ∧ St [] w o w' o') := by
  refine x_enter (vs := [.slice Ap0 (p0).length cp0, .string p1]) Try.func6 rfl rfl rfl fun a hk => ?_
  obtain ⟨o0, hs, h0⟩ := St.start w o
  have f900 := h0 _ _ hp0
  clear h0
  rw [tidewracklaw01_NumBack] at H
  refine x_seq ?_
  refine wpIn_region_lit ?_
  refine x_run tab hk (k := 1) (lv := []) (ks := [0, 1]) (e' := [(0, .slice Ap0 (p0).length cp0), (1, .string p1)]) rfl trivial fun a hk => ?_
  refine wpListIn_nil ?_
  refine then_n ?_
  refine x_seq ?_
  refine x_seq ?_
  refine wpIn_region_lit ?_
  refine x_op hk rfl ?_
  obtain ⟨t4, hc5, H⟩ := bindS H
  refine op_call hk ent_9 (vs := []) rfl (tidewracklaw01_awake_calls K  _ o0    _ hc5) ?_
  rintro _ w6 ⟨o7, rfl, st8⟩
  replace f900 := f900.st st8 (by decide)
  replace hs := hs.loc0 st8 (by decide)
  have hk := hk.put 9 (.bool t4) rfl
  refine x_run tab hk (k := 1) (lv := []) (ks := [0, 1, 10]) (e' := [(0, .slice Ap0 (p0).length cp0), (1, .string p1), (10, .bool (!t4))]) rfl trivial fun a hk => ?_
  refine wpListIn_nil ?_
  refine then_n ?_
  cases b9 : (!t4)
  · rw [b9] at hk H
    replace H := bifF H
    refine x_if hk (b := false) rfl ?_
    refine (show Code.wpIn _ _ _ _ _ _ _ from ?_)
    refine wpIn_skip ?_
    refine then_n ?_
    refine x_seq ?_
    refine wpIn_region_lit ?_
    refine x_op hk rfl ?_
    refine op_alloc (o := o7) tab (t := 26) (cs := [.slice none 0 0]) rfl rfl 1 fun bx13 w10 o11 st12 f14 => ?_
    replace f900 := f900.st st12 (by decide)
    replace hs := hs.loc0 st12 (by decide)
    have hk := hk.put 5 (.pointer (some ⟨bx13, 0, none⟩)) rfl
    refine wpListIn_nil ?_
    refine then_n ?_
    refine x_seq ?_
    refine wpIn_region_lit ?_
    obtain ⟨q15, H⟩ := ifS H
    obtain ⟨q16, H⟩ := ifS H
    obtain ⟨A17, c18, ak20, f19, hc21⟩ := ask_cut (P := Try.prog) tab (t := 45) rfl rfl f900 hcp0 none (some (.int .i64 (mnI ((p0).length : Int) 30))) rfl ⟨q15, (by have := q16; have := hcp0; omega), trivial⟩ (by have := q15; have := q16; omega) (by have := q15; have := q16; omega)
    refine x_run tab hk (k := 6) (lv := [.slice A17 ((List.drop 0 (List.take (Int.toNat (mnI ((p0).length : Int) 30)) p0))).length c18]) (ks := [0, 1, 5]) (e' := [(0, .slice A17 ((List.drop 0 (List.take (Int.toNat (mnI ((p0).length : Int) 30)) p0))).length c18), (1, .string p1), (5, .pointer (some ⟨bx13, 0, none⟩))]) rfl ⟨(ak20 rfl rfl rfl _), trivial⟩ fun a hk => ?_
    refine wpListIn_nil ?_
    refine then_n ?_
    refine x_seq ?_
    refine wpIn_region_lit ?_
    refine x_run tab hk (k := 1) (lv := []) (ks := [0, 5, 16]) (e' := [(0, .slice A17 ((List.drop 0 (List.take (Int.toNat (mnI ((p0).length : Int) 30)) p0))).length c18), (5, .pointer (some ⟨bx13, 0, none⟩)), (16, .string p1)]) rfl trivial fun a hk => ?_
    refine x_op hk rfl ?_
    obtain ⟨t25, hc26, H⟩ := bindS H
    refine op_call hk ent_10 (vs := [.string p1, .int .i64 100]) rfl (tidewracklaw01_Cut_calls p1 100 _ o11    _ hc26) ?_
    rintro _ w27 ⟨o28, rfl, st29⟩
    replace f14 := f14.st st29 (by decide)
    replace f19 := f19.st st29 (by decide)
    replace hs := hs.loc0 st29 (by decide)
    have hk := hk.put 17 (.string t25) rfl
    refine x_run tab hk (k := 1) (lv := []) (ks := [0, 1, 5]) (e' := [(0, .slice A17 ((List.drop 0 (List.take (Int.toNat (mnI ((p0).length : Int) 30)) p0))).length c18), (1, .string t25), (5, .pointer (some ⟨bx13, 0, none⟩))]) rfl trivial fun a hk => ?_
    refine wpListIn_nil ?_
    refine then_n ?_
    refine x_seq ?_
    refine wpIn_region_lit ?_
    refine x_run tab hk (k := 1) (lv := []) (ks := [0, 1, 5, 18]) (e' := [(0, .slice A17 ((List.drop 0 (List.take (Int.toNat (mnI ((p0).length : Int) 30)) p0))).length c18), (1, .string t25), (5, .pointer (some ⟨bx13, 0, none⟩)), (18, .slice A17 ((List.drop 0 (List.take (Int.toNat (mnI ((p0).length : Int) 30)) p0))).length c18)]) rfl trivial fun a hk => ?_
    refine x_op hk rfl ?_
    obtain ⟨t33, hc34, H⟩ := bindS H
    refine op_call hk ent_11 (vs := [.pointer (some ⟨bx13, 0, none⟩), .slice A17 ((List.drop 0 (List.take (Int.toNat (mnI ((p0).length : Int) 30)) p0))).length c18]) rfl (num_Out_Num_calls K bx13 none 0 (⟨([] : List Int)⟩ : T25) A17 c18 (List.drop 0 (List.take (Int.toNat (mnI ((p0).length : Int) 30)) p0)) _ o28 1 f14 2 (Ft.of_all (fun _ => Own.nil _ _ _) _ _ 2) (by simp) _ f19 hc21 (by decide) (by decide)   _ hc34) ?_
    rintro _ w35 ⟨o36, A39, c40, rfl, st37, f38, f41, hc42⟩
    replace f19 := f19.st st37 (by decide)
    replace hs := hs.loc0 st37 (by decide)
    have hk := hk.put 19 (.pointer (some ⟨bx13, 0, none⟩)) rfl
    refine x_run tab hk (k := 1) (lv := []) (ks := [0, 1, 5, 19, 20]) (e' := [(0, .slice A17 ((List.drop 0 (List.take (Int.toNat (mnI ((p0).length : Int) 30)) p0))).length c18), (1, .string t25), (5, .pointer (some ⟨bx13, 0, none⟩)), (19, .pointer (some ⟨bx13, 0, none⟩)), (20, .string t25)]) rfl trivial fun a hk => ?_
    refine x_op hk rfl ?_
    refine op_slice (o := o36) tab hk (vs := [.string t25]) (cs := [.string t25]) rfl rfl rfl rfl rfl rfl rfl rfl rfl 3 fun bx46 w43 o44 st45 f47 => ?_
    replace f19 := f19.st st45 (by decide)
    replace f38 := f38.st st45 (by decide)
    replace f41 := f41.st st45 (by decide)
    replace hs := hs.loc0 st45 (by decide)
    have f48 : Ft (Own encStr 9 (.slice (some ⟨bx46, 0, none⟩) (([t25] : List ByteArray)).length 1) ([t25] : List ByteArray)) w43 o44 3 := f47.imp fun _ h_ => Own.of_box h_ rfl (by simp)
    have hk := hk.put 21 (.slice (some ⟨bx46, 0, none⟩) (([t25] : List ByteArray)).length 1) rfl
    refine x_op hk rfl ?_
    obtain ⟨t52, hc53, H⟩ := bindS H
    refine op_call hk ent_14 (vs := [.pointer (some ⟨bx13, 0, none⟩), .slice (some ⟨bx46, 0, none⟩) (([t25] : List ByteArray)).length 1]) rfl (num_Out_Text_calls K bx13 A39 c40 t33 (some ⟨bx46, 0, none⟩) 1 ([t25] : List ByteArray) _ o44 1 f38 2 f41 hc42 _ (f48.imp fun _ h_ => Own.rd h_) (Nat.le_refl _) (by decide) (by decide)   _ hc53) ?_
    rintro _ w54 ⟨o55, A58, c59, rfl, st56, f57, f60, hc61⟩
    replace f19 := f19.st st56 (by decide)
    replace f48 := f48.st st56 (by decide)
    replace hs := hs.loc0 st56 (by decide)
    have hk := hk.put 22 (.pointer (some ⟨bx13, 0, none⟩)) rfl
    refine wpListIn_nil ?_
    refine then_n ?_
    refine x_seq ?_
    refine wpIn_region_lit ?_
    refine x_op hk rfl ?_
    obtain ⟨t65, hc66, H⟩ := bindS H
    refine op_call hk ent_17 (vs := [.pointer (some ⟨bx13, 0, none⟩)]) rfl (num_Out_Bytes_calls bx13 A58 c59 t52 _ o55 1 f57 2 f60 hc61 (by decide)   _ hc66) ?_
    rintro _ w67 ⟨o68, A71, c72, rfl, st69, f70, f73, hc74⟩
    replace f19 := f19.st st69 (by decide)
    replace f48 := f48.st st69 (by decide)
    replace hs := hs.loc0 st69 (by decide)
    have hk := hk.put 23 (.string t65.1) rfl
    refine x_op hk rfl ?_
    obtain ⟨t78, hc79, H⟩ := bindS H
    refine op_call hk ent_18 (vs := [.string t65.1]) rfl (num_Of_calls t65.1 _ o68  4  _ hc79) ?_
    rintro _ w80 ⟨o81, bx83, rfl, st82, f84⟩
    replace f19 := f19.st st82 (by decide)
    replace f48 := f48.st st82 (by decide)
    replace f70 := f70.st st82 (by decide)
    replace f73 := f73.st st82 (by decide)
    replace hs := hs.loc0 st82 (by decide)
    have hk := hk.put 24 (.pointer (some ⟨bx83, 0, none⟩)) rfl
    refine x_run tab hk (k := 1) (lv := []) (ks := [0, 1, 6]) (e' := [(0, .slice A17 ((List.drop 0 (List.take (Int.toNat (mnI ((p0).length : Int) 30)) p0))).length c18), (1, .string t25), (6, .pointer (some ⟨bx83, 0, none⟩))]) rfl trivial fun a hk => ?_
    refine wpListIn_nil ?_
    refine then_n ?_
    refine x_seq ?_
    refine x_seq ?_
    refine wpIn_region_lit ?_
    refine x_run tab hk (k := 2) (lv := []) (ks := [0, 1, 6, 26]) (e' := [(0, .slice A17 ((List.drop 0 (List.take (Int.toNat (mnI ((p0).length : Int) 30)) p0))).length c18), (1, .string t25), (6, .pointer (some ⟨bx83, 0, none⟩)), (26, .bool false)]) rfl trivial fun a hk => ?_
    refine wpListIn_nil ?_
    refine then_n ?_
    refine x_if hk (b := false) rfl ?_
    refine (show Code.wpIn _ _ _ _ _ _ _ from ?_)
    refine wpIn_skip ?_
    refine then_n ?_
    refine x_mid (fun a_ w_ => ∃ o140 : Nat → Nat, ∃ x141 : T62, Kn 49 a_ [(1, .string t25), (6, .pointer (some ⟨bx83, 0, none⟩))] ∧ St [] w (fun _ => 0) w_ o140 ∧ Ft (Bx bx83 63 [.string x141.s, .int .i64 x141.e]) w_ o140 7 ∧ tidewracklaw01_NumBack_j1 K t25 x141 = some r) ?_ ?_
    rotate_left
    · rintro a w142 ⟨o140, x141, hk, hs, f84, H⟩
      rw [tidewracklaw01_NumBack_j1] at H
      refine x_seq ?_
      refine wpIn_region_lit ?_
      refine x_run tab hk (k := 1) (lv := []) (ks := [1, 6, 40]) (e' := [(1, .string t25), (6, .pointer (some ⟨bx83, 0, none⟩)), (40, .pointer (some ⟨bx83, 0, none⟩))]) rfl trivial fun a hk => ?_
      refine x_op hk rfl ?_
      obtain ⟨t146, hc147, H⟩ := bindS H
      refine op_call hk ent_22 (vs := [.pointer (some ⟨bx83, 0, none⟩)]) rfl (num_In_Text_calls K bx83 x141 _ o140 7 f84 (by decide)   _ hc147) ?_
      rintro _ w148 ⟨o149, rfl, st150, f151⟩
      replace hs := hs.loc0 st150 (by decide)
      have hk := hk.put 41 (.string t146.1) rfl
      refine x_run tab hk (k := 3) (lv := []) (ks := [6, 44]) (e' := [(6, .pointer (some ⟨bx83, 0, none⟩)), (44, .bool (ByteArray.toList t146.1 == ByteArray.toList t25))]) rfl trivial fun a hk => ?_
      cases b152 : (ByteArray.toList t146.1 == ByteArray.toList t25)
      · rw [b152] at hk H
        replace H := bifF H
        refine x_run tab hk (k := 5) (lv := []) (ks := [4]) (e' := [(4, .bool false)]) rfl trivial fun a hk => ?_
        refine wpListIn_nil ?_
        refine then_n ?_
        refine wpIn_ret ?_
        obtain rfl := Option.some.inj H
        exact x_retG hk (rs := [.tmp 4]) (vs := [.bool false]) rfl ⟨rfl, trivial⟩ ⟨fun b_ => if b_ < w.heap.size then o b_ else (fun _ => 0) (o149 b_), rfl, hs.close0 o (fun _ => 0)⟩
      · rw [b152] at hk H
        replace H := bifT H
        refine x_run tab hk (k := 1) (lv := []) (ks := [44, 45]) (e' := [(44, .bool true), (45, .pointer (some ⟨bx83, 0, none⟩))]) rfl trivial fun a hk => ?_
        refine x_op hk rfl ?_
        obtain ⟨t156, hc157, H⟩ := bindS H
        refine op_call hk ent_23 (vs := [.pointer (some ⟨bx83, 0, none⟩)]) rfl (num_In_End_calls bx83 t146.2 _ o149 7 f151   _ hc157) ?_
        rintro _ w158 ⟨o159, rfl, st160⟩
        replace f151 := f151.st st160 (by decide)
        replace hs := hs.loc0 st160 (by decide)
        have hk := hk.put 46 (.int .i64 t156) rfl
        refine x_run tab hk (k := 3) (lv := []) (ks := [4]) (e' := [(4, .bool (t156 == (0 : Int)))]) rfl trivial fun a hk => ?_
        refine wpListIn_nil ?_
        refine then_n ?_
        refine wpIn_ret ?_
        obtain rfl := Option.some.inj H
        exact x_retG hk (rs := [.tmp 4]) (vs := [.bool (t156 == (0 : Int))]) rfl ⟨rfl, trivial⟩ ⟨fun b_ => if b_ < w.heap.size then o b_ else (fun _ => 0) (o159 b_), rfl, hs.close0 o (fun _ => 0)⟩
    refine x_seq ?_
    refine wpIn_region_lit ?_
    refine x_run tab hk (k := 3) (lv := []) (ks := [1, 6, 27, 28, 29]) (e' := [(1, .string t25), (6, .pointer (some ⟨bx83, 0, none⟩)), (27, .slice A17 ((List.drop 0 (List.take (Int.toNat (mnI ((p0).length : Int) 30)) p0))).length c18), (28, .int .i64 (((List.drop 0 (List.take (Int.toNat (mnI ((p0).length : Int) 30)) p0))).length : Int)), (29, .int .i64 0)]) rfl trivial fun a hk => ?_
    refine wpListIn_nil ?_
    refine then_n ?_
    refine wpIn_block ?_
    refine x_loop (fun j_ a_ w_ => ∃ o177 : Nat → Nat, ∃ x178 : T62, ∃ x179 : Int, Kn 49 a_ [(1, .string t25), (6, .pointer (some ⟨bx83, 0, none⟩)), (27, .slice A17 ((List.drop 0 (List.take (Int.toNat (mnI ((p0).length : Int) 30)) p0))).length c18), (28, .int .i64 (((List.drop 0 (List.take (Int.toNat (mnI ((p0).length : Int) 30)) p0))).length : Int)), (29, .int .i64 x179)] ∧ St [] w (fun _ => 0) w_ o177 ∧ Ft (RdC (encInt .i64) A17 (List.drop 0 (List.take (Int.toNat (mnI ((p0).length : Int) 30)) p0))) w_ o177 0 ∧ Ft (Bx bx83 63 [.string x178.s, .int .i64 x178.e]) w_ o177 9 ∧ tidewracklaw01_NumBack_l2 K p0 t25 j_ x178 x179 = some r) (k := K) ⟨(fun b_ => (fun l_ => if l_ = 4 then 9 else l_) (o81 b_)), t78, 0, (by exact Kn.pick (ks := [1, 6, 27, 28, 29]) hk rfl), (hs.relab0 (fun l_ => if l_ = 4 then 9 else l_) rfl), (f19.relab (fun l_ => if l_ = 4 then 9 else l_) rfl), (f84.relab (fun l_ => if l_ = 4 then 9 else l_) rfl), H⟩ (by rintro _ _ ⟨_, _, _, _, _, _, _, H_⟩; exact absurd (show (none : Option Bool) = some r from H_) (by simp)) ?_
    rintro k194 a w193 ⟨o177, x178, x179, hk, hs, f19, f84, H⟩
    rw [tidewracklaw01_NumBack_l2] at H
    obtain ⟨lp195, hlp196⟩ : ∃ lp_, lp_ = tidewracklaw01_NumBack_l2 K p0 t25 k194 := ⟨_, rfl⟩
    rw [← hlp196] at H
    refine x_seq ?_
    refine wpIn_region_lit ?_
    refine x_run tab hk (k := 1) (lv := []) (ks := [1, 6, 27, 28, 29, 30]) (e' := [(1, .string t25), (6, .pointer (some ⟨bx83, 0, none⟩)), (27, .slice A17 ((List.drop 0 (List.take (Int.toNat (mnI ((p0).length : Int) 30)) p0))).length c18), (28, .int .i64 (((List.drop 0 (List.take (Int.toNat (mnI ((p0).length : Int) 30)) p0))).length : Int)), (29, .int .i64 x179), (30, .bool (decide (x179 < (((List.drop 0 (List.take (Int.toNat (mnI ((p0).length : Int) 30)) p0))).length : Int))))]) rfl trivial fun a hk => ?_
    refine wpListIn_nil ?_
    refine then_n ?_
    refine x_seq ?_
    cases b197 : (decide (x179 < (((List.drop 0 (List.take (Int.toNat (mnI ((p0).length : Int) 30)) p0))).length : Int)))
    · rw [b197] at hk H
      replace H := bifF H
      refine x_if hk (b := false) rfl ?_
      refine (show Code.wpIn _ _ _ _ _ _ _ from ?_)
      refine wpIn_exit ?_
      refine then_x ?_
      refine then_x ?_
      refine blk_x ?_
      refine then_n ?_
      exact ⟨(fun b_ => (fun l_ => if l_ = 9 then 7 else l_) (o177 b_)), x178, (by exact Kn.pick (ks := [1, 6]) hk rfl), (hs.relab0 (fun l_ => if l_ = 9 then 7 else l_) rfl), (f84.relab (fun l_ => if l_ = 9 then 7 else l_) rfl), H⟩
    · rw [b197] at hk H
      replace H := bifT H
      refine x_if hk (b := true) rfl ?_
      refine (show Code.wpIn _ _ _ _ _ _ _ from ?_)
      refine wpIn_skip ?_
      refine then_n ?_
      refine x_seq ?_
      refine wpIn_block ?_
      refine x_seq ?_
      refine wpIn_region_lit ?_
      obtain ⟨q198, H⟩ := ifS H
      obtain ⟨ad199, hAad199⟩ := RdC.addr f19.now q198
      subst hAad199
      refine x_run tab hk (k := 3) (lv := [.int .i64 (rdD 0 (List.drop 0 (List.take (Int.toNat (mnI ((p0).length : Int) 30)) p0)) x179)]) (ks := [1, 6, 8, 27, 28, 29]) (e' := [(1, .string t25), (6, .pointer (some ⟨bx83, 0, none⟩)), (8, .int .i64 (rdD 0 (List.drop 0 (List.take (Int.toNat (mnI ((p0).length : Int) 30)) p0)) x179)), (27, .slice (some ad199) ((List.drop 0 (List.take (Int.toNat (mnI ((p0).length : Int) 30)) p0))).length c18), (28, .int .i64 (((List.drop 0 (List.take (Int.toNat (mnI ((p0).length : Int) 30)) p0))).length : Int)), (29, .int .i64 x179)]) rfl ⟨q198, (load1 tab rfl (RdC.at0 (E := (encInt .i64)) (d := 0) (i := x179) f19.now q198 rfl)), trivial⟩ fun a hk => ?_
      refine wpListIn_nil ?_
      refine then_n ?_
      refine x_seq ?_
      refine wpIn_region_lit ?_
      refine x_run tab hk (k := 1) (lv := []) (ks := [1, 6, 8, 27, 28, 29, 33]) (e' := [(1, .string t25), (6, .pointer (some ⟨bx83, 0, none⟩)), (8, .int .i64 (rdD 0 (List.drop 0 (List.take (Int.toNat (mnI ((p0).length : Int) 30)) p0)) x179)), (27, .slice (some ad199) ((List.drop 0 (List.take (Int.toNat (mnI ((p0).length : Int) 30)) p0))).length c18), (28, .int .i64 (((List.drop 0 (List.take (Int.toNat (mnI ((p0).length : Int) 30)) p0))).length : Int)), (29, .int .i64 x179), (33, .pointer (some ⟨bx83, 0, none⟩))]) rfl trivial fun a hk => ?_
      refine x_op hk rfl ?_
      obtain ⟨t203, hc204, H⟩ := bindS H
      refine op_call hk ent_19 (vs := [.pointer (some ⟨bx83, 0, none⟩)]) rfl (num_In_Num_calls K bx83 x178 _ o177 9 f84 (by decide)   _ hc204) ?_
      rintro _ w205 ⟨o206, rfl, st207, f208⟩
      replace f19 := f19.st st207 (by decide)
      replace hs := hs.loc0 st207 (by decide)
      have hk := hk.put 34 (.int .i64 t203.1) rfl
      refine x_run tab hk (k := 4) (lv := []) (ks := [1, 6, 27, 28, 29, 38]) (e' := [(1, .string t25), (6, .pointer (some ⟨bx83, 0, none⟩)), (27, .slice (some ad199) ((List.drop 0 (List.take (Int.toNat (mnI ((p0).length : Int) 30)) p0))).length c18), (28, .int .i64 (((List.drop 0 (List.take (Int.toNat (mnI ((p0).length : Int) 30)) p0))).length : Int)), (29, .int .i64 x179), (38, .bool (t203.1 != (mxI 0 (mnI (rdD 0 (List.drop 0 (List.take (Int.toNat (mnI ((p0).length : Int) 30)) p0)) x179) 4611686018427387904))))]) rfl trivial fun a hk => ?_
      refine wpListIn_nil ?_
      refine then_n ?_
      cases b209 : (t203.1 != (mxI 0 (mnI (rdD 0 (List.drop 0 (List.take (Int.toNat (mnI ((p0).length : Int) 30)) p0)) x179) 4611686018427387904)))
      · rw [b209] at hk H
        replace H := bifF H
        refine x_if hk (b := false) rfl ?_
        refine (show Code.wpIn _ _ _ _ _ _ _ from ?_)
        refine wpIn_skip ?_
        refine blk_n ?_
        refine then_n ?_
        refine wpIn_region_lit ?_
        refine x_run tab hk (k := 2) (lv := []) (ks := [1, 6, 27, 28, 29]) (e' := [(1, .string t25), (6, .pointer (some ⟨bx83, 0, none⟩)), (27, .slice (some ad199) ((List.drop 0 (List.take (Int.toNat (mnI ((p0).length : Int) 30)) p0))).length c18), (28, .int .i64 (((List.drop 0 (List.take (Int.toNat (mnI ((p0).length : Int) 30)) p0))).length : Int)), (29, .int .i64 (IntKind.wrap .i64 (x179 + 1)))]) rfl trivial fun a hk => ?_
        refine wpListIn_nil ?_
        refine then_n ?_
        exact ⟨k194, Nat.le_refl _, o206, t203.2, (IntKind.wrap .i64 (x179 + 1)), (by exact Kn.pick (ks := [1, 6, 27, 28, 29]) hk rfl), hs, f19, f208, (hlp196 ▸ H)⟩
      · rw [b209] at hk H
        replace H := bifT H
        refine x_if hk (b := true) rfl ?_
        refine (show Code.wpIn _ _ _ _ _ _ _ from ?_)
        refine x_seq ?_
        refine wpIn_region_lit ?_
        refine x_run tab hk (k := 1) (lv := []) (ks := [4]) (e' := [(4, .bool false)]) rfl trivial fun a hk => ?_
        refine wpListIn_nil ?_
        refine then_n ?_
        refine wpIn_ret ?_
        refine blk_r ?_
        refine then_r ?_
        refine then_r ?_
        refine blk_r ?_
        refine then_r ?_
        obtain rfl := Option.some.inj H
        exact x_retG hk (rs := [.tmp 4]) (vs := [.bool false]) rfl ⟨rfl, trivial⟩ ⟨fun b_ => if b_ < w.heap.size then o b_ else (fun _ => 0) (o206 b_), rfl, hs.close0 o (fun _ => 0)⟩
  · rw [b9] at hk H
    replace H := bifT H
    refine x_if hk (b := true) rfl ?_
    refine (show Code.wpIn _ _ _ _ _ _ _ from ?_)
    refine x_seq ?_
    refine wpIn_region_lit ?_
    refine x_run tab hk (k := 1) (lv := []) (ks := [4]) (e' := [(4, .bool false)]) rfl trivial fun a hk => ?_
    refine wpListIn_nil ?_
    refine then_n ?_
    refine wpIn_ret ?_
    refine then_r ?_
    obtain rfl := Option.some.inj H
    exact x_retG hk (rs := [.tmp 4]) (vs := [.bool false]) rfl ⟨rfl, trivial⟩ ⟨fun b_ => if b_ < w.heap.size then o b_ else (fun _ => 0) (o7 b_), rfl, hs.close0 o (fun _ => 0)⟩

/-! tidewrack/tidewracklaw01.Few -/
theorem tidewracklaw01_Few_calls (K : Nat) (Ap0 : Option Addr) (cp0 : Nat) (p0 : List ByteArray) (p1 : Int) (p2 : Int) (w : World) (o : Nat → Nat) (Lp0 : Nat) (hp0 : Ft (RdC encStr Ap0 p0) w o Lp0) (hcp0 : (p0).length ≤ cp0)  (R0 : Nat) (r : List ByteArray) (H : tidewracklaw01_Few K p0 p1 p2 = some r) :
    Calls Try.prog 24 #[.slice Ap0 (p0).length cp0, .int .i64 p1, .int .i64 p2] w (Ret fun v_ w' => ∃ o' : Nat → Nat, ∃ A0 : Option Addr, ∃ c0 : Nat, v_ = .slice A0 (r).length c0 ∧ St [] w o w' o' ∧ Ft (Own encStr 9 (.slice A0 (r).length c0) (r)) w' o' R0 ∧ (r).length ≤ c0) := by
  refine x_enter (vs := [.slice Ap0 (p0).length cp0, .int .i64 p1, .int .i64 p2]) Try.func24 rfl rfl rfl fun a hk => ?_
  obtain ⟨o0, hs, h0⟩ := St.start w o
  have f900 := h0 _ _ hp0
  clear h0
  rw [tidewracklaw01_Few] at H
  refine x_seq ?_
  refine wpIn_region_lit ?_
  refine x_run tab hk (k := 1) (lv := []) (ks := [0, 1, 2]) (e' := [(0, .slice Ap0 (p0).length cp0), (1, .int .i64 p1), (2, .int .i64 p2)]) rfl trivial fun a hk => ?_
  refine wpListIn_nil ?_
  refine then_n ?_
  refine x_seq ?_
  refine wpIn_region_lit ?_
  refine x_run tab hk (k := 1) (lv := []) (ks := [0, 1, 2, 7]) (e' := [(0, .slice Ap0 (p0).length cp0), (1, .int .i64 p1), (2, .int .i64 p2), (7, .slice none 0 0)]) rfl trivial fun a hk => ?_
  refine wpListIn_nil ?_
  refine then_n ?_
  refine x_mid (fun a_ w_ => ∃ o124 : Nat → Nat, ∃ A125 : Option Addr, ∃ c126 : Nat, ∃ l127 : List ByteArray, Kn 30 a_ [(7, .slice A125 (l127).length c126)] ∧ St [] w (fun _ => 0) w_ o124 ∧ Ft (Own encStr 9 (.slice A125 (l127).length c126) l127) w_ o124 9 ∧ (l127).length ≤ c126 ∧ tidewracklaw01_Few_j1 l127 = some r) ?_ ?_
  rotate_left
  · rintro a w130 ⟨o124, A125, c126, l127, hk, hs, f128, hc129, H⟩
    rw [tidewracklaw01_Few_j1] at H
    refine x_seq ?_
    refine wpIn_region_lit ?_
    refine x_run tab hk (k := 2) (lv := []) (ks := [6]) (e' := [(6, .slice A125 (l127).length c126)]) rfl trivial fun a hk => ?_
    refine wpListIn_nil ?_
    refine then_n ?_
    refine wpIn_ret ?_
    obtain rfl := Option.some.inj H
    exact x_retG hk (rs := [.tmp 6]) (vs := [.slice A125 (l127).length c126]) rfl ⟨rfl, trivial⟩ ⟨fun b_ => if b_ < w.heap.size then o b_ else (fun _ => R0) (o124 b_), A125, c126, rfl, hs.close0 o (fun _ => R0), hs.close_ft (o := o) (ρ := fun _ => R0) f128 (by decide) rfl, hc129⟩
  refine x_seq ?_
  refine wpIn_region_lit ?_
  refine x_run tab hk (k := 1) (lv := []) (ks := [0, 1, 2, 7, 8]) (e' := [(0, .slice Ap0 (p0).length cp0), (1, .int .i64 p1), (2, .int .i64 p2), (7, .slice none 0 0), (8, .int .i64 0)]) rfl trivial fun a hk => ?_
  refine wpListIn_nil ?_
  refine then_n ?_
  refine wpIn_block ?_
  refine x_loop (fun j_ a_ w_ => ∃ o167 : Nat → Nat, ∃ A168 : Option Addr, ∃ c169 : Nat, ∃ l170 : List ByteArray, ∃ x173 : Int, Kn 30 a_ [(0, .slice Ap0 (p0).length cp0), (1, .int .i64 p1), (2, .int .i64 p2), (7, .slice A168 (l170).length c169), (8, .int .i64 x173)] ∧ St [] w (fun _ => 0) w_ o167 ∧ Ft (Own encStr 9 (.slice A168 (l170).length c169) l170) w_ o167 12 ∧ Ft (RdC encStr Ap0 p0) w_ o167 0 ∧ (l170).length ≤ c169 ∧ tidewracklaw01_Few_l2 p0 p1 p2 j_ l170 x173 = some r) (k := K) ⟨o0, none, 0, ([] : List ByteArray), 0, (by exact Kn.pick (ks := [0, 1, 2, 7, 8]) hk rfl), hs, (Ft.of_all (fun _ => Own.nil _ _ _) _ _ _), f900, (by simp), H⟩ (by rintro _ _ ⟨_, _, _, _, _, _, _, _, _, _, H_⟩; exact absurd (show (none : Option (List ByteArray)) = some r from H_) (by simp)) ?_
  rintro k208 a w207 ⟨o167, A168, c169, l170, x173, hk, hs, f171, f900, hc172, H⟩
  rw [tidewracklaw01_Few_l2] at H
  obtain ⟨lp209, hlp210⟩ : ∃ lp_, lp_ = tidewracklaw01_Few_l2 p0 p1 p2 k208 := ⟨_, rfl⟩
  rw [← hlp210] at H
  refine x_mid (fun a_ w_ => ∃ o216 : Nat → Nat, Kn 30 a_ [(0, .slice Ap0 (p0).length cp0), (1, .int .i64 p1), (2, .int .i64 p2), (7, .slice A168 (l170).length c169), (8, .int .i64 x173)] ∧ St [] w (fun _ => 0) w_ o216 ∧ Ft (Own encStr 9 (.slice A168 (l170).length c169) l170) w_ o216 15 ∧ Ft (RdC encStr Ap0 p0) w_ o216 0 ∧ tidewracklaw01_Few_j3 p0 p2 l170 x173 lp209 = some r) ?_ ?_
  rotate_left
  · rintro a w217 ⟨o216, hk, hs, f171, f900, H⟩
    rw [tidewracklaw01_Few_j3] at H
    refine x_seq ?_
    refine wpIn_block ?_
    refine wpIn_region_lit ?_
    obtain ⟨q218, H⟩ := ifS H
    obtain ⟨ad219, hAad219⟩ := RdC.addr f900.now q218
    subst hAad219
    refine x_run tab hk (k := 6) (lv := [.string (rdD (⟨#[]⟩ : ByteArray) p0 x173)]) (ks := [0, 1, 2, 8, 20, 24, 25]) (e' := [(0, .slice (some ad219) (p0).length cp0), (1, .int .i64 p1), (2, .int .i64 p2), (8, .int .i64 x173), (20, .slice A168 (l170).length c169), (24, .string (rdD (⟨#[]⟩ : ByteArray) p0 x173)), (25, .int .i64 p2)]) rfl ⟨q218, (load1 tab rfl (RdC.at0 (E := encStr) (d := (⟨#[]⟩ : ByteArray)) (i := x173) f900.now q218 rfl)), trivial⟩ fun a hk => ?_
    refine x_op hk rfl ?_
    obtain ⟨t223, hc224, H⟩ := bindS H
    refine op_call hk ent_10 (vs := [.string (rdD (⟨#[]⟩ : ByteArray) p0 x173), .int .i64 p2]) rfl (tidewracklaw01_Cut_calls (rdD (⟨#[]⟩ : ByteArray) p0 x173) p2 _ o216    _ hc224) ?_
    rintro _ w225 ⟨o226, rfl, st227⟩
    replace f171 := f171.st st227 (by decide)
    replace f900 := f900.st st227 (by decide)
    replace hs := hs.loc0 st227 (by decide)
    have hk := hk.put 26 (.string t223) rfl
    refine x_op hk rfl ?_
    refine op_slice (o := o226) tab hk (vs := [.string t223]) (cs := [.string t223]) rfl rfl rfl rfl rfl rfl rfl rfl rfl 16 fun bx231 w228 o229 st230 f232 => ?_
    replace f171 := f171.st st230 (by decide)
    replace f900 := f900.st st230 (by decide)
    replace hs := hs.loc0 st230 (by decide)
    have f233 : Ft (Own encStr 9 (.slice (some ⟨bx231, 0, none⟩) (([t223] : List ByteArray)).length 1) ([t223] : List ByteArray)) w228 o229 16 := f232.imp fun _ h_ => Own.of_box h_ rfl (by simp)
    have hk := hk.put 27 (.slice (some ⟨bx231, 0, none⟩) (([t223] : List ByteArray)).length 1) rfl
    refine x_op hk rfl ?_
    obtain ⟨q237, H⟩ := ifS H
    refine op_append (o := o229) (E := encStr) (xs := l170) (ys := ([t223] : List ByteArray)) tab hk rfl rfl rfl rfl rfl rfl rfl f171 (Own.rd f233.now) q237 fun A238 c239 w234 o235 st236 f240 hc241 => ?_
    replace f233 := f233.st st236 (by decide)
    replace f900 := f900.st st236 (by decide)
    replace hs := hs.loc0 st236 (by decide)
    have hk := hk.put 28 (.slice A238 ((l170 ++ ([t223] : List ByteArray))).length c239) rfl
    refine x_run tab hk (k := 1) (lv := []) (ks := [0, 1, 2, 7, 8]) (e' := [(0, .slice (some ad219) (p0).length cp0), (1, .int .i64 p1), (2, .int .i64 p2), (7, .slice A238 ((l170 ++ ([t223] : List ByteArray))).length c239), (8, .int .i64 x173)]) rfl trivial fun a hk => ?_
    refine wpListIn_nil ?_
    refine blk_n ?_
    refine then_n ?_
    refine wpIn_region_lit ?_
    refine x_run tab hk (k := 3) (lv := []) (ks := [0, 1, 2, 7, 8]) (e' := [(0, .slice (some ad219) (p0).length cp0), (1, .int .i64 p1), (2, .int .i64 p2), (7, .slice A238 ((l170 ++ ([t223] : List ByteArray))).length c239), (8, .int .i64 (IntKind.wrap .i64 (x173 + 1)))]) rfl trivial fun a hk => ?_
    refine wpListIn_nil ?_
    refine then_n ?_
    exact ⟨k208, Nat.le_refl _, (fun b_ => (fun l_ => if l_ = 15 then 12 else l_) (o235 b_)), A238, c239, (l170 ++ ([t223] : List ByteArray)), (IntKind.wrap .i64 (x173 + 1)), (by exact Kn.pick (ks := [0, 1, 2, 7, 8]) hk rfl), (hs.relab0 (fun l_ => if l_ = 15 then 12 else l_) rfl), (f240.relab (fun l_ => if l_ = 15 then 12 else l_) rfl), (f900.relab (fun l_ => if l_ = 15 then 12 else l_) rfl), hc241, (hlp210 ▸ H)⟩
  refine x_seq ?_
  refine wpIn_region_lit ?_
  refine x_run tab hk (k := 5) (lv := []) (ks := [0, 1, 2, 7, 8, 13]) (e' := [(0, .slice Ap0 (p0).length cp0), (1, .int .i64 p1), (2, .int .i64 p2), (7, .slice A168 (l170).length c169), (8, .int .i64 x173), (13, .bool (decide (x173 < ((p0).length : Int))))]) rfl trivial fun a hk => ?_
  cases b242 : (decide (x173 < ((p0).length : Int)))
  · rw [b242] at hk H
    replace H := bifF H
    refine x_run tab hk (k := 4) (lv := []) (ks := [0, 1, 2, 7, 8, 17]) (e' := [(0, .slice Ap0 (p0).length cp0), (1, .int .i64 p1), (2, .int .i64 p2), (7, .slice A168 (l170).length c169), (8, .int .i64 x173), (17, .bool false)]) rfl trivial fun a hk => ?_
    refine wpListIn_nil ?_
    refine then_n ?_
    refine x_if hk (b := false) rfl ?_
    refine (show Code.wpIn _ _ _ _ _ _ _ from ?_)
    refine wpIn_exit ?_
    refine then_x ?_
    refine then_x ?_
    refine blk_x ?_
    refine then_n ?_
    exact ⟨(fun b_ => (fun l_ => if l_ = 12 then 9 else l_) (o167 b_)), A168, c169, l170, (by exact Kn.pick (ks := [7]) hk rfl), (hs.relab0 (fun l_ => if l_ = 12 then 9 else l_) rfl), (f171.relab (fun l_ => if l_ = 12 then 9 else l_) rfl), hc172, H⟩
  · rw [b242] at hk H
    replace H := bifT H
    refine x_run tab hk (k := 4) (lv := []) (ks := [0, 1, 2, 7, 8, 17]) (e' := [(0, .slice Ap0 (p0).length cp0), (1, .int .i64 p1), (2, .int .i64 p2), (7, .slice A168 (l170).length c169), (8, .int .i64 x173), (17, .bool (decide (x173 < p1)))]) rfl trivial fun a hk => ?_
    refine wpListIn_nil ?_
    refine then_n ?_
    cases b243 : (decide (x173 < p1))
    · rw [b243] at hk H
      replace H := bifF H
      refine x_if hk (b := false) rfl ?_
      refine (show Code.wpIn _ _ _ _ _ _ _ from ?_)
      refine wpIn_exit ?_
      refine then_x ?_
      refine then_x ?_
      refine blk_x ?_
      refine then_n ?_
      exact ⟨(fun b_ => (fun l_ => if l_ = 12 then 9 else l_) (o167 b_)), A168, c169, l170, (by exact Kn.pick (ks := [7]) hk rfl), (hs.relab0 (fun l_ => if l_ = 12 then 9 else l_) rfl), (f171.relab (fun l_ => if l_ = 12 then 9 else l_) rfl), hc172, H⟩
    · rw [b243] at hk H
      replace H := bifT H
      refine x_if hk (b := true) rfl ?_
      refine (show Code.wpIn _ _ _ _ _ _ _ from ?_)
      refine wpIn_skip ?_
      refine then_n ?_
      exact ⟨(fun b_ => (fun l_ => if l_ = 12 then 15 else l_) (o167 b_)), (by exact Kn.pick (ks := [0, 1, 2, 7, 8]) hk rfl), (hs.relab0 (fun l_ => if l_ = 12 then 15 else l_) rfl), (f171.relab (fun l_ => if l_ = 12 then 15 else l_) rfl), (f900.relab (fun l_ => if l_ = 12 then 15 else l_) rfl), H⟩

end Go.Proofs.Ythacdmompikhgaa
