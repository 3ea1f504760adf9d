/- Walks, printed by an own program: the machine's calls compute the plain functions. -/
import Derived.Test.YthmlldkmgdjeoaaW0
set_option linter.unusedVariables false
set_option linter.unusedSimpArgs false
namespace Go.Proofs.Ythmlldkmgdjeoaa
open Go Go.Proofs.XC
/-! tidewrack/cache.New -/
theorem cache_New_calls (p0 : Int) (w : World) (o : Nat → Nat) (LF : Nat)  (hd0 : ([LF] : List Nat).Nodup) (R0 : Nat) (R1 : Nat) (r : T62) (H : cache_New p0 = some r) :
    Calls Try.prog 9 #[.int .i64 p0] w (Ret fun v_ w' => ∃ o' : Nat → Nat, ∃ b0 : Nat, ∃ A0 : Option Addr, ∃ c0 : Nat, v_ = .pointer (some ⟨b0, 0, none⟩) ∧ St [] w o w' o' ∧ Ft (Bx b0 63 [.int .i64 r.most, .int .i64 r.now, mv A0]) w' o' R0 ∧ MpN dT71 true A0 r.l w' o' R1 LF ∧ (r.l).length ≤ c0) := by
  refine x_enter (vs := [.int .i64 p0]) Try.func9 rfl rfl rfl fun a hk => ?_
  obtain ⟨oi, hs0, h0, h1, hob, hoz, hoa⟩ := St.startM2 w o (m := 1) hd0 rfl
  have hs := hs0 []
  clear h0 h1 hs0
  rw [cache_New] at H
  refine x_seq ?_
  refine wpIn_region_lit ?_
  refine x_run tab hk (k := 1) (lv := []) (ks := [0]) (e' := [(0, .int .i64 p0)]) rfl trivial fun a hk => ?_
  refine wpListIn_nil ?_
  refine then_n ?_
  refine x_seq ?_
  refine wpIn_region_lit ?_
  refine x_run tab hk (k := 3) (lv := []) (ks := [5]) (e' := [(5, .int .i64 (mxI 1 (mnI p0 65536)))]) rfl trivial fun a hk => ?_
  refine x_op hk rfl ?_
  refine op_mmakeN (o := oi) rfl dT71 true 1 2 fun bx4 w1 o2 st3 f5 => ?_
  replace hs := hs.locQ st3 hob rfl
  have hk := hk.put 6 (mv (some ⟨bx4, 0, none⟩)) rfl
  refine x_run tab hk (k := 1) (lv := []) (ks := [7]) (e' := [(7, .agg #[.int .i64 (mxI 1 (mnI p0 65536)), .int .i64 0, mv (some ⟨bx4, 0, none⟩)])]) rfl trivial fun a hk => ?_
  refine x_op hk rfl ?_
  refine op_box (o := o2) (t := 63) (v := .agg #[.int .i64 (mxI 1 (mnI p0 65536)), .int .i64 0, mv (some ⟨bx4, 0, none⟩)]) (cs := [.int .i64 (mxI 1 (mnI p0 65536)), .int .i64 0, mv (some ⟨bx4, 0, none⟩)]) hk rfl rfl 3 fun bx9 w6 o7 st8 f10 => ?_
  replace f5 := f5.st st8 (by decide)
  replace hs := hs.locQ st8 hob rfl
  have hk := hk.put 8 (.pointer (some ⟨bx9, 0, none⟩)) rfl
  refine x_run tab hk (k := 1) (lv := []) (ks := [2]) (e' := [(2, .pointer (some ⟨bx9, 0, none⟩))]) rfl trivial fun a hk => ?_
  refine wpListIn_nil ?_
  refine then_n ?_
  refine wpIn_ret ?_
  obtain rfl := Option.some.inj H
  exact x_retG hk (rs := [.tmp 2]) (vs := [.pointer (some ⟨bx9, 0, none⟩)]) rfl ⟨rfl, trivial⟩ ⟨cl w oi o [] (fun l_ => if l_ = 1 then LF else if l_ = 2 then R1 else if l_ = 3 then R0 else 0) o7, bx9, (some ⟨bx4, 0, none⟩), 0, rfl, hs.closeF (Lm := []) (Sh := []) hoa rfl (fun l_ => if l_ = 1 then LF else if l_ = 2 then R1 else if l_ = 3 then R0 else 0), hs.closeM_ft (o := o) (ρ := fun l_ => if l_ = 1 then LF else if l_ = 2 then R1 else if l_ = 3 then R0 else 0) f10 (lab_none hob rfl) rfl, f5.conv (fun _ h_ => hs.closeM_ft (o := o) (ρ := fun l_ => if l_ = 1 then LF else if l_ = 2 then R1 else if l_ = 3 then R0 else 0) h_ (lab_none hob rfl) rfl) (fun _ h_ => hs.closeM_ft (o := o) (ρ := fun l_ => if l_ = 1 then LF else if l_ = 2 then R1 else if l_ = 3 then R0 else 0) h_ (lab_at hoa (i := 0) rfl) rfl), (Nat.le_refl _)⟩

/-! slices.Clone[[]tidewrack/row.Glyph,tidewrack/row.Glyph] -/
theorem slices_Clone_calls (Ap0 : Option Addr) (cp0 : Nat) (p0 : List T59) (w : World) (o : Nat → Nat) (Lp0 : Nat) (hp0 : Ft (RdC ET59 Ap0 p0) w o Lp0) (hcp0 : (p0).length ≤ cp0)  (R0 : Nat) (r : List T59) (H : slices_Clone p0 = some r) :
    Calls Try.prog 23 #[.slice Ap0 (p0).length cp0] w (Ret fun v_ w' => ∃ o' : Nat → Nat, ∃ A0 : Option Addr, ∃ c0 : Nat, v_ = .slice A0 (r).length c0 ∧ St [] w o w' o' ∧ Ft (Own ET59 60 (.slice A0 (r).length c0) r) w' o' R0 ∧ (r).length ≤ c0) := by
  refine x_enter (vs := [.slice Ap0 (p0).length cp0]) Try.func23 rfl rfl rfl fun a hk => ?_
  obtain ⟨o0, hs, h0⟩ := St.start w o
  have f900000 := h0 _ _ hp0
  clear h0
  rw [slices_Clone] at H
  refine x_seq ?_
  refine wpIn_region_lit ?_
  refine x_run tab hk (k := 1) (lv := []) (ks := [0]) (e' := [(0, .slice Ap0 (p0).length cp0)]) rfl trivial fun a hk => ?_
  refine wpListIn_nil ?_
  refine then_n ?_
  refine x_seq ?_
  refine x_seq ?_
  refine wpIn_region_lit ?_
  refine x_run tab hk (k := 1) (lv := []) (ks := [0, 3]) (e' := [(0, .slice Ap0 (p0).length cp0), (3, .slice Ap0 (p0).length cp0)]) rfl trivial fun a hk => ?_
  rcases none_or Ap0 with hAad1 | ⟨ad1, hAad1⟩
  · have hk_C := hk
    have f900000_C := f900000
    subst hAad1
    have hk := hk_C
    clear hk_C
    have f900000 := f900000_C
    clear f900000_C
    have hz2 : p0 = [] := RdC.none f900000.now
    replace H : (some ([] : List T59)) = some r := by (try rw [hz2] at H); simpa using H
    refine x_run tab hk (k := 1) (lv := []) (ks := [0, 4]) (e' := [(0, .slice none (p0).length cp0), (4, .bool true)]) rfl trivial fun a hk => ?_
    refine wpListIn_nil ?_
    refine then_n ?_
    refine x_if hk (b := true) rfl ?_
    refine (show Code.wpIn _ _ _ _ _ _ _ from ?_)
    refine x_seq ?_
    refine wpIn_region_lit ?_
    refine x_run tab hk (k := 1) (lv := []) (ks := [2]) (e' := [(2, .slice none 0 0)]) rfl trivial fun a hk => ?_
    refine wpListIn_nil ?_
    refine then_n ?_
    refine wpIn_ret ?_
    refine then_r ?_
    obtain rfl := Option.some.inj H
    exact x_retG hk (rs := [.tmp 2]) (vs := [.slice none 0 0]) rfl ⟨rfl, trivial⟩ ⟨fun b_ => if b_ < w.heap.size then o b_ else (fun _ => 0) (o0 b_), none, 0, rfl, hs.close0 o (fun _ => 0), (Ft.of_all (fun _ => Own.nil _ _ _) _ _ _), (by simp)⟩
  · have hk_C := hk
    have f900000_C := f900000
    subst hAad1
    have hk := hk_C
    clear hk_C
    have f900000 := f900000_C
    clear f900000_C
    refine x_run tab hk (k := 1) (lv := []) (ks := [0, 4]) (e' := [(0, .slice (some ad1) (p0).length cp0), (4, .bool false)]) rfl trivial fun a hk => ?_
    refine wpListIn_nil ?_
    refine then_n ?_
    refine x_if hk (b := false) rfl ?_
    refine (show Code.wpIn _ _ _ _ _ _ _ from ?_)
    refine wpIn_skip ?_
    refine then_n ?_
    refine x_seq ?_
    refine wpIn_region_lit ?_
    refine x_op hk rfl ?_
    refine op_slice (o := o0) tab hk (vs := []) (cs := []) rfl rfl rfl rfl rfl rfl rfl rfl rfl 1 fun bx6 w3 o4 st5 f7 => ?_
    replace f900000 := f900000.st st5 (by decide)
    replace hs := hs.loc0 st5 (by decide)
    have f8 : Ft (Own ET59 60 (.slice (some ⟨bx6, 0, none⟩) (([] : List T59)).length 0) ([] : List T59)) w3 o4 1 := f7.imp fun _ h_ => Own.of_box h_ rfl (by simp)
    have hk := hk.put 5 (.slice (some ⟨bx6, 0, none⟩) (([] : List T59)).length 0) rfl
    refine x_run tab hk (k := 1) (lv := []) (ks := [5, 6]) (e' := [(5, .slice (some ⟨bx6, 0, none⟩) (([] : List T59)).length 0), (6, .slice (some ad1) (p0).length cp0)]) rfl trivial fun a hk => ?_
    refine x_op hk rfl ?_
    obtain ⟨q12, H⟩ := ifS H
    refine op_append (o := o4) (E := ET59) (xs := ([] : List T59)) (ys := p0) tab hk rfl rfl rfl rfl rfl rfl rfl f8 f900000.now q12 fun A13 c14 w9 o10 st11 f15 hc16 => ?_
    replace f900000 := f900000.st st11 (by decide)
    replace hs := hs.loc0 st11 (by decide)
    have hk := hk.put 7 (.slice A13 ((([] : List T59) ++ p0)).length c14) rfl
    refine x_run tab hk (k := 1) (lv := []) (ks := [2]) (e' := [(2, .slice A13 ((([] : List T59) ++ p0)).length c14)]) rfl trivial fun a hk => ?_
    refine wpListIn_nil ?_
    refine then_n ?_
    refine wpIn_ret ?_
    obtain rfl := Option.some.inj H
    exact x_retG hk (rs := [.tmp 2]) (vs := [.slice A13 ((([] : List T59) ++ p0)).length c14]) rfl ⟨rfl, trivial⟩ ⟨fun b_ => if b_ < w.heap.size then o b_ else (fun _ => R0) (o10 b_), A13, c14, rfl, hs.close0 o (fun _ => R0), hs.close_ft (o := o) (ρ := fun _ => R0) f15 (by decide) rfl, hc16⟩

/-! (*tidewrack/cache.Cache).touch -/
theorem cache_Cache_touch_calls (bp0 : Nat) (Ap0_0 : Option Addr) (cp0_0 : Nat) (p0 : T62) (p1 : Int) (Ap2 : Option Addr) (cp2 : Nat) (p2 : List T59) (w : World) (o : Nat → Nat) (LF : Nat) (Lp0 : Nat) (hp0 : Ft (Bx bp0 63 [.int .i64 p0.most, .int .i64 p0.now, mv Ap0_0]) w o Lp0) (Lp0_0 : Nat) (hp0_0 : MpN dT71 true Ap0_0 p0.l w o Lp0_0 LF) (hcp0_0 : (p0.l).length ≤ cp0_0) (hp2 : Ft (RdC ET59 Ap2 p2) w o LF) (hcp2 : (p2).length ≤ cp2) (hd0 : ([LF, Lp0, Lp0_0] : List Nat).Nodup) (r : T62) (H : cache_Cache_touch p0 p1 p2 = some r) :
    Calls Try.prog 22 #[.pointer (some ⟨bp0, 0, none⟩), .int .i64 p1, .slice Ap2 (p2).length cp2] w (Ret fun v_ w' => ∃ o' : Nat → Nat, ∃ A0 : Option Addr, ∃ c0 : Nat, v_ = .tuple #[] ∧ St [Lp0, Lp0_0] w o w' o' ∧ Ft (Bx bp0 63 [.int .i64 r.most, .int .i64 r.now, mv A0]) w' o' Lp0 ∧ MpN dT71 true A0 r.l w' o' Lp0_0 LF ∧ (r.l).length ≤ c0) := by
  refine x_enter (vs := [.pointer (some ⟨bp0, 0, none⟩), .int .i64 p1, .slice Ap2 (p2).length cp2]) Try.func22 rfl rfl rfl fun a hk => ?_
  obtain ⟨oi, hs0, h0, h1, hob, hoz, hoa⟩ := St.startM2 w o (m := 3) hd0 rfl
  have hs := hs0 [2, 3]
  have f900000 := hp0_0.conv (fun _ h_ => h1 2 3 h_ rfl rfl) (fun _ h_ => h1 0 1 h_ rfl rfl)
  have f900019 := h1 1 2 hp0 rfl rfl
  have f900040 := h1 0 1 hp2 rfl rfl
  clear h0 h1 hs0
  rw [cache_Cache_touch] at H
  refine x_seq ?_
  refine wpIn_region_lit ?_
  refine x_run tab hk (k := 7) (lv := [.int .i64 p0.now]) (ks := [0, 1, 2, 10, 12]) (e' := [(0, .pointer (some ⟨bp0, 0, none⟩)), (1, .int .i64 p1), (2, .slice Ap2 (p2).length cp2), (10, .int .i64 (IntKind.wrap .i64 (p0.now + 1))), (12, .pointer (some ((⟨bp0, 0, none⟩ : Addr).add 1)))]) rfl ⟨(load1 tab rfl ((Bx.cell f900019.now 1).trans rfl)), trivial⟩ fun a hk => ?_
  refine x_op hk rfl ?_
  refine op_store tab hk (t := 3) (v := .int .i64 (IntKind.wrap .i64 (p0.now + 1))) (b := bp0) (k := 1) (cs' := [.int .i64 p0.most, .int .i64 (IntKind.wrap .i64 (p0.now + 1)), mv Ap0_0]) rfl rfl rfl rfl rfl rfl f900019 rfl rfl fun w1 o2 st3 f900019_ => ?_
  replace f900000 := f900000.st st3 (by decide)
  replace f900040 := f900040.st st3 (by decide)
  replace hs := hs.locQ st3 hob rfl
  replace f900019 := f900019_
  refine wpListIn_nil ?_
  refine then_n ?_
  obtain ⟨q7, H⟩ := ifS H
  refine xd_begin (o := o2) (fun W_ => (Bx bp0 63 [.int .i64 p0.most, .int .i64 (IntKind.wrap .i64 (p0.now + 1)), mv Ap0_0]) W_ ∧ True) mixed rfl rfl fun w11 st12 => ?_
  replace f900000 := f900000.st st12 (by decide)
  replace f900019 := f900019.st st12 (by decide)
  replace f900040 := f900040.st st12 (by decide)
  replace hs := hs.locQ st12 hob rfl
  refine xd_take tab hk (k := 1) (is := [0, 1, 2, 3, 4, 5, 6, 7, 8, 9, 10]) (ls' := #[true, true, true, true, true, true, true, true, true, true, true, false]) (lv := [mv Ap0_0, .int .i64 (IntKind.wrap .i64 (p0.now + 1))]) (ks := [16, 17, 23]) (e' := [(16, mv Ap0_0), (17, .int .i64 p1), (23, .agg #[.slice Ap2 (p2).length cp2, .int .i64 (IntKind.wrap .i64 (p0.now + 1))])]) (by kernel_rfl) rfl rfl (by kernel_rfl) np_body ⟨f900019.now, trivial⟩ (fun W_ hS => ⟨(load1 tab rfl ((Bx.cell hS.1 2).trans rfl)), (load1 tab rfl ((Bx.cell hS.1 1).trans rfl)), trivial⟩) fun a hk => ?_
  refine xd_op hk (i := 11) (by kernel_rfl) rfl rfl ?_
  refine op_mputN tab hk (D := dT71) (ag := true) (k := p1) rfl rfl rfl rfl (v := (⟨p2, (IntKind.wrap .i64 (p0.now + 1))⟩ : T71)) (r := (⟨(⟨p2, (IntKind.wrap .i64 (p0.now + 1))⟩ : T71), Ap2, cp2⟩ : NT71)) (f900040.imp fun _ h_ => ⟨h_, hcp2⟩) rfl rfl f900000 (by decide) q7 fun w13 st15 f900000_ => ?_
  replace f900019 := f900019.st st15 (by decide)
  replace f900040 := f900040.st st15 (by decide)
  replace hs := hs.locQ st15 hob rfl
  replace f900000 := f900000_
  refine ⟨.inl (by kernel_rfl), ?_⟩
  refine xd_done (by kernel_rfl) ?_
  obtain rfl := Option.some.inj H
  exact x_endG hk (rs := []) (vs := []) rfl trivial ⟨cl w oi o [2, 3] (fun l_ => if l_ = 1 then LF else if l_ = 2 then Lp0 else if l_ = 3 then Lp0_0 else 0) o2, Ap0_0, ((M.put p0.l p1 (⟨p2, (IntKind.wrap .i64 (p0.now + 1))⟩ : T71))).length, rfl, hs.closeF (Lm := [Lp0, Lp0_0]) (Sh := []) hoa rfl (fun l_ => if l_ = 1 then LF else if l_ = 2 then Lp0 else if l_ = 3 then Lp0_0 else 0), hs.closeM_ft (o := o) (ρ := fun l_ => if l_ = 1 then LF else if l_ = 2 then Lp0 else if l_ = 3 then Lp0_0 else 0) f900019 (lab_at hoa (i := 1) rfl) rfl, f900000.conv (fun _ h_ => hs.closeM_ft (o := o) (ρ := fun l_ => if l_ = 1 then LF else if l_ = 2 then Lp0 else if l_ = 3 then Lp0_0 else 0) h_ (lab_at hoa (i := 2) rfl) rfl) (fun _ h_ => hs.closeM_ft (o := o) (ρ := fun l_ => if l_ = 1 then LF else if l_ = 2 then Lp0 else if l_ = 3 then Lp0_0 else 0) h_ (lab_at hoa (i := 0) rfl) rfl), (Nat.le_refl _)⟩

/-! maps.Keys[map[int]tidewrack/cache.entry,int,tidewrack/cache.entry] -/
theorem maps_Keys'_calls (Ap0 : Option Addr) (cp0 : Nat) (p0 : M T71) (w : World) (o : Nat → Nat) (LF : Nat) (Lp0 : Nat) (hp0 : MpN dT71 true Ap0 p0 w o Lp0 LF) (hcp0 : (p0).length ≤ cp0) (hd0 : ([LF] : List Nat).Nodup) (hd1 : Lp0 ∉ [LF]) (R0 : Nat) (r : Unit) (H : maps_Keys' p0 = some r) :
    Calls Try.prog 26 #[mv Ap0] w (Ret fun v_ w' => ∃ o' : Nat → Nat, ∃ b0 : Nat, v_ = .func (.func 42) #[] #[.pointer (some ⟨b0, 0, none⟩)] ∧ St [] w o w' o' ∧ Ft (Bx b0 61 [mv Ap0]) w' o' R0) := by
  refine x_enter (vs := [mv Ap0]) Try.func26 rfl rfl rfl fun a hk => ?_
  obtain ⟨oi, hs0, h0, h1, hob, hoz, hoa⟩ := St.startM2 w o (m := 1) hd0 rfl
  have hs := hs0 []
  have f900000 := hp0.conv (fun P_ => h0 P_ _ hd1) (fun _ h_ => h1 0 1 h_ rfl rfl)
  clear h0 h1 hs0
  rw [maps_Keys'] at H
  refine x_seq ?_
  refine wpIn_region_lit ?_
  refine x_op hk rfl ?_
  refine op_box (o := oi) (t := 61) (v := mv Ap0) (cs := [mv Ap0]) hk rfl rfl 2 fun bx4 w1 o2 st3 f5 => ?_
  replace f900000 := f900000.st st3 (by decide)
  replace hs := hs.locQ st3 hob rfl
  have hk := hk.put 1 (.pointer (some ⟨bx4, 0, none⟩)) rfl
  refine x_run tab hk (k := 1) (lv := []) (ks := [1]) (e' := [(1, .pointer (some ⟨bx4, 0, none⟩))]) rfl trivial fun a hk => ?_
  refine wpListIn_nil ?_
  refine then_n ?_
  refine x_seq ?_
  refine wpIn_region_lit ?_
  refine x_run tab hk (k := 2) (lv := []) (ks := [2]) (e' := [(2, .func (.func 42) #[] #[.pointer (some ⟨bx4, 0, none⟩)])]) rfl trivial fun a hk => ?_
  refine wpListIn_nil ?_
  refine then_n ?_
  refine wpIn_ret ?_
  obtain rfl := Option.some.inj H
  exact x_retG hk (rs := [.tmp 2]) (vs := [.func (.func 42) #[] #[.pointer (some ⟨bx4, 0, none⟩)]]) rfl ⟨rfl, trivial⟩ ⟨cl w oi o [] (fun l_ => if l_ = 1 then LF else if l_ = 2 then R0 else 0) o2, bx4, rfl, hs.closeF (Lm := []) (Sh := []) hoa rfl (fun l_ => if l_ = 1 then LF else if l_ = 2 then R0 else 0), hs.closeM_ft (o := o) (ρ := fun l_ => if l_ = 1 then LF else if l_ = 2 then R0 else 0) f5 (lab_none hob rfl) rfl⟩

/-! cmp.isNaN[int] -/
theorem cmp_isNaN_calls (p0 : Int) (w : World) (o : Nat → Nat)   (r : Bool) (H : cmp_isNaN p0 = some r) :
    Calls Try.prog 43 #[.int .i64 p0] w (Ret fun v_ w' => ∃ o' : Nat → Nat, v_ = .bool r ∧ St [] w o w' o') := by
  refine x_enter (vs := [.int .i64 p0]) Try.func43 rfl rfl rfl fun a hk => ?_
  obtain ⟨o0, hs, h0⟩ := St.start w o
  clear h0
  rw [cmp_isNaN] at H
  refine x_seq ?_
  refine wpIn_region_lit ?_
  refine x_run tab hk (k := 1) (lv := []) (ks := [0]) (e' := [(0, .int .i64 p0)]) rfl trivial fun a hk => ?_
  refine wpListIn_nil ?_
  refine then_n ?_
  refine x_seq ?_
  refine wpIn_region_lit ?_
  refine x_run tab hk (k := 4) (lv := []) (ks := [2]) (e' := [(2, .bool (p0 != p0))]) rfl trivial fun a hk => ?_
  refine wpListIn_nil ?_
  refine then_n ?_
  refine wpIn_ret ?_
  obtain rfl := Option.some.inj H
  exact x_retG hk (rs := [.tmp 2]) (vs := [.bool (p0 != p0)]) rfl ⟨rfl, trivial⟩ ⟨fun b_ => if b_ < w.heap.size then o b_ else (fun _ => 0) (o0 b_), rfl, hs.close0 o (fun _ => 0)⟩

/-! cmp.Compare[int] -/
theorem cmp_Compare_calls (p0 : Int) (p1 : Int) (w : World) (o : Nat → Nat)   (r : Int) (H : cmp_Compare p0 p1 = some r) :
    Calls Try.prog 28 #[.int .i64 p0, .int .i64 p1] w (Ret fun v_ w' => ∃ o' : Nat → Nat, v_ = .int .i64 r ∧ St [] w o w' o') := by
  refine x_enter (vs := [.int .i64 p0, .int .i64 p1]) Try.func28 rfl rfl rfl fun a hk => ?_
  obtain ⟨o0, hs, h0⟩ := St.start w o
  clear h0
  rw [cmp_Compare] at H
  refine x_seq ?_
  refine wpIn_region_lit ?_
  refine x_run tab hk (k := 1) (lv := []) (ks := [0, 1]) (e' := [(0, .int .i64 p0), (1, .int .i64 p1)]) rfl trivial fun a hk => ?_
  refine wpListIn_nil ?_
  refine then_n ?_
  refine x_seq ?_
  refine wpIn_region_lit ?_
  refine x_run tab hk (k := 1) (lv := []) (ks := [0, 1, 7]) (e' := [(0, .int .i64 p0), (1, .int .i64 p1), (7, .int .i64 p0)]) rfl trivial fun a hk => ?_
  refine x_op hk rfl ?_
  obtain ⟨t4, hc5, H⟩ := bindS H
  refine op_call hk ent_43 (vs := [.int .i64 p0]) rfl (cmp_isNaN_calls p0 _ o0    _ hc5) ?_
  rintro _ w6 ⟨o7, rfl, st8⟩
  replace hs := hs.loc0 st8 (by decide)
  have hk := hk.put 8 (.bool t4) rfl
  refine x_run tab hk (k := 1) (lv := []) (ks := [0, 1, 5]) (e' := [(0, .int .i64 p0), (1, .int .i64 p1), (5, .bool t4)]) rfl trivial fun a hk => ?_
  refine wpListIn_nil ?_
  refine then_n ?_
  refine x_seq ?_
  refine wpIn_region_lit ?_
  refine x_run tab hk (k := 1) (lv := []) (ks := [0, 1, 5, 9]) (e' := [(0, .int .i64 p0), (1, .int .i64 p1), (5, .bool t4), (9, .int .i64 p1)]) rfl trivial fun a hk => ?_
  refine x_op hk rfl ?_
  obtain ⟨t12, hc13, H⟩ := bindS H
  refine op_call hk ent_43 (vs := [.int .i64 p1]) rfl (cmp_isNaN_calls p1 _ o7    _ hc13) ?_
  rintro _ w14 ⟨o15, rfl, st16⟩
  replace hs := hs.loc0 st16 (by decide)
  have hk := hk.put 10 (.bool t12) rfl
  refine x_run tab hk (k := 1) (lv := []) (ks := [0, 1, 5, 6]) (e' := [(0, .int .i64 p0), (1, .int .i64 p1), (5, .bool t4), (6, .bool t12)]) rfl trivial fun a hk => ?_
  refine wpListIn_nil ?_
  refine then_n ?_
  refine x_seq ?_
  refine x_seq ?_
  refine wpIn_region_lit ?_
  refine x_run tab hk (k := 1) (lv := []) (ks := [0, 1, 6, 11]) (e' := [(0, .int .i64 p0), (1, .int .i64 p1), (6, .bool t12), (11, .bool t4)]) rfl trivial fun a hk => ?_
  refine wpListIn_nil ?_
  refine then_n ?_
  cases b17 : t4
  · rw [b17] at hk H
    replace H := bifF H
    refine x_if hk (b := false) rfl ?_
    refine (show Code.wpIn _ _ _ _ _ _ _ from ?_)
    refine wpIn_skip ?_
    refine then_n ?_
    refine x_seq ?_
    refine x_seq ?_
    refine wpIn_region_lit ?_
    refine x_run tab hk (k := 1) (lv := []) (ks := [0, 1, 13]) (e' := [(0, .int .i64 p0), (1, .int .i64 p1), (13, .bool t12)]) rfl trivial fun a hk => ?_
    refine wpListIn_nil ?_
    refine then_n ?_
    cases b18 : t12
    · rw [b18] at hk H
      replace H := bifF H
      refine x_if hk (b := false) rfl ?_
      refine (show Code.wpIn _ _ _ _ _ _ _ from ?_)
      refine wpIn_skip ?_
      refine then_n ?_
      refine x_seq ?_
      refine x_seq ?_
      refine wpIn_region_lit ?_
      refine x_run tab hk (k := 3) (lv := []) (ks := [0, 1, 16]) (e' := [(0, .int .i64 p0), (1, .int .i64 p1), (16, .bool (decide (p0 < p1)))]) rfl trivial fun a hk => ?_
      refine wpListIn_nil ?_
      refine then_n ?_
      cases b19 : (decide (p0 < p1))
      · rw [b19] at hk H
        replace H := bifF H
        refine x_if hk (b := false) rfl ?_
        refine (show Code.wpIn _ _ _ _ _ _ _ from ?_)
        refine wpIn_skip ?_
        refine then_n ?_
        refine x_seq ?_
        refine x_seq ?_
        refine wpIn_region_lit ?_
        refine x_run tab hk (k := 3) (lv := []) (ks := [19]) (e' := [(19, .bool (decide (p0 > p1)))]) rfl trivial fun a hk => ?_
        refine wpListIn_nil ?_
        refine then_n ?_
        cases b20 : (decide (p0 > p1))
        · rw [b20] at hk H
          replace H := bifF H
          refine x_if hk (b := false) rfl ?_
          refine (show Code.wpIn _ _ _ _ _ _ _ from ?_)
          refine wpIn_skip ?_
          refine then_n ?_
          refine x_seq ?_
          refine wpIn_region_lit ?_
          refine x_run tab hk (k := 1) (lv := []) (ks := [4]) (e' := [(4, .int .i64 0)]) rfl trivial fun a hk => ?_
          refine wpListIn_nil ?_
          refine then_n ?_
          refine wpIn_ret ?_
          obtain rfl := Option.some.inj H
          exact x_retG hk (rs := [.tmp 4]) (vs := [.int .i64 0]) rfl ⟨rfl, trivial⟩ ⟨fun b_ => if b_ < w.heap.size then o b_ else (fun _ => 0) (o15 b_), rfl, hs.close0 o (fun _ => 0)⟩
        · rw [b20] at hk H
          replace H := bifT H
          refine x_if hk (b := true) rfl ?_
          refine (show Code.wpIn _ _ _ _ _ _ _ from ?_)
          refine x_seq ?_
          refine wpIn_region_lit ?_
          refine x_run tab hk (k := 1) (lv := []) (ks := [4]) (e' := [(4, .int .i64 1)]) rfl trivial fun a hk => ?_
          refine wpListIn_nil ?_
          refine then_n ?_
          refine wpIn_ret ?_
          refine then_r ?_
          obtain rfl := Option.some.inj H
          exact x_retG hk (rs := [.tmp 4]) (vs := [.int .i64 1]) rfl ⟨rfl, trivial⟩ ⟨fun b_ => if b_ < w.heap.size then o b_ else (fun _ => 0) (o15 b_), rfl, hs.close0 o (fun _ => 0)⟩
      · rw [b19] at hk H
        replace H := bifT H
        refine x_if hk (b := true) rfl ?_
        refine (show Code.wpIn _ _ _ _ _ _ _ from ?_)
        refine x_seq ?_
        refine wpIn_region_lit ?_
        refine x_run tab hk (k := 1) (lv := []) (ks := [4]) (e' := [(4, .int .i64 (-1))]) rfl trivial fun a hk => ?_
        refine wpListIn_nil ?_
        refine then_n ?_
        refine wpIn_ret ?_
        refine then_r ?_
        obtain rfl := Option.some.inj H
        exact x_retG hk (rs := [.tmp 4]) (vs := [.int .i64 (-1)]) rfl ⟨rfl, trivial⟩ ⟨fun b_ => if b_ < w.heap.size then o b_ else (fun _ => 0) (o15 b_), rfl, hs.close0 o (fun _ => 0)⟩
    · rw [b18] at hk H
      replace H := bifT H
      refine x_if hk (b := true) rfl ?_
      refine (show Code.wpIn _ _ _ _ _ _ _ from ?_)
      refine x_seq ?_
      refine wpIn_region_lit ?_
      refine x_run tab hk (k := 1) (lv := []) (ks := [4]) (e' := [(4, .int .i64 1)]) rfl trivial fun a hk => ?_
      refine wpListIn_nil ?_
      refine then_n ?_
      refine wpIn_ret ?_
      refine then_r ?_
      obtain rfl := Option.some.inj H
      exact x_retG hk (rs := [.tmp 4]) (vs := [.int .i64 1]) rfl ⟨rfl, trivial⟩ ⟨fun b_ => if b_ < w.heap.size then o b_ else (fun _ => 0) (o15 b_), rfl, hs.close0 o (fun _ => 0)⟩
  · rw [b17] at hk H
    replace H := bifT H
    refine x_if hk (b := true) rfl ?_
    refine (show Code.wpIn _ _ _ _ _ _ _ from ?_)
    refine x_seq ?_
    refine x_seq ?_
    refine wpIn_region_lit ?_
    refine x_run tab hk (k := 1) (lv := []) (ks := [12]) (e' := [(12, .bool t12)]) rfl trivial fun a hk => ?_
    refine wpListIn_nil ?_
    refine then_n ?_
    cases b21 : t12
    · rw [b21] at hk H
      replace H := bifF H
      refine x_if hk (b := false) rfl ?_
      refine (show Code.wpIn _ _ _ _ _ _ _ from ?_)
      refine wpIn_skip ?_
      refine then_n ?_
      refine x_seq ?_
      refine wpIn_region_lit ?_
      refine x_run tab hk (k := 1) (lv := []) (ks := [4]) (e' := [(4, .int .i64 (-1))]) rfl trivial fun a hk => ?_
      refine wpListIn_nil ?_
      refine then_n ?_
      refine wpIn_ret ?_
      refine then_r ?_
      obtain rfl := Option.some.inj H
      exact x_retG hk (rs := [.tmp 4]) (vs := [.int .i64 (-1)]) rfl ⟨rfl, trivial⟩ ⟨fun b_ => if b_ < w.heap.size then o b_ else (fun _ => 0) (o15 b_), rfl, hs.close0 o (fun _ => 0)⟩
    · rw [b21] at hk H
      replace H := bifT H
      refine x_if hk (b := true) rfl ?_
      refine (show Code.wpIn _ _ _ _ _ _ _ from ?_)
      refine x_seq ?_
      refine wpIn_region_lit ?_
      refine x_run tab hk (k := 1) (lv := []) (ks := [4]) (e' := [(4, .int .i64 0)]) rfl trivial fun a hk => ?_
      refine wpListIn_nil ?_
      refine then_n ?_
      refine wpIn_ret ?_
      refine then_r ?_
      refine then_r ?_
      obtain rfl := Option.some.inj H
      exact x_retG hk (rs := [.tmp 4]) (vs := [.int .i64 0]) rfl ⟨rfl, trivial⟩ ⟨fun b_ => if b_ < w.heap.size then o b_ else (fun _ => 0) (o15 b_), rfl, hs.close0 o (fun _ => 0)⟩

/-! (*tidewrack/cache.Cache).Put$1 -/
theorem cache_Cache_Put_1_calls (p0 : Int) (p1 : Int) (bp2 : Nat) (bq2 : Nat) (Aq2_0 : Option Addr) (cq2_0 : Nat) (p2 : T62) (w : World) (o : Nat → Nat) (LF : Nat) (Lp2 : Nat) (hp2 : Ft (Bx bp2 24 [.pointer (some ⟨bq2, 0, none⟩)]) w o Lp2) (Lq2 : Nat) (hq2 : Ft (Bx bq2 63 [.int .i64 p2.most, .int .i64 p2.now, mv Aq2_0]) w o Lq2) (Lq2_0 : Nat) (hq2_0 : MpN dT71 true Aq2_0 p2.l w o Lq2_0 LF) (hcq2_0 : (p2.l).length ≤ cq2_0) (hd0 : ([LF] : List Nat).Nodup) (hd1 : Lp2 ∉ [LF]) (hd2 : Lq2 ∉ [LF]) (hd3 : Lq2_0 ∉ [LF]) (r : Int) (H : cache_Cache_Put_1 p0 p1 p2 = some r) :
    Calls Try.prog 27 #[.int .i64 p0, .int .i64 p1, .pointer (some ⟨bp2, 0, none⟩)] w (Ret fun v_ w' => ∃ o' : Nat → Nat, v_ = .int .i64 r ∧ St [] w o w' o') := by
  refine x_enter (vs := [.int .i64 p0, .int .i64 p1, .pointer (some ⟨bp2, 0, none⟩)]) Try.func27 rfl rfl rfl fun a hk => ?_
  obtain ⟨oi, hs0, h0, h1, hob, hoz, hoa⟩ := St.startM2 w o (m := 1) hd0 rfl
  have hs := hs0 []
  have f9500040 := h0 _ _ hd1 hp2
  have f9600040 := h0 _ _ hd2 hq2
  have f9700800 := hq2_0.conv (fun P_ => h0 P_ _ hd3) (fun _ h_ => h1 0 1 h_ rfl rfl)
  clear h0 h1 hs0
  rw [cache_Cache_Put_1] at H
  refine x_seq ?_
  refine wpIn_region_lit ?_
  refine x_run tab hk (k := 1) (lv := []) (ks := [0, 1, 2]) (e' := [(0, .int .i64 p0), (1, .int .i64 p1), (2, .pointer (some ⟨bp2, 0, none⟩))]) rfl trivial fun a hk => ?_
  refine wpListIn_nil ?_
  refine then_n ?_
  refine x_seq ?_
  obtain ⟨A19, c20, f21, f22, hc23⟩ := lkT71 f9700800 (P := Try.prog) tab (mt := 61) rfl rfl rfl rfl p0
  obtain ⟨A24, c25, f26, f27, hc28⟩ := lkT71 f9700800 (P := Try.prog) tab (mt := 61) rfl rfl rfl rfl p1
  obtain ⟨t32, hc33, H⟩ := bindS H
  refine xd_begin (o := oi) (fun W_ => (LookIs Try.prog 61 (mv Aq2_0) p0 (.agg #[.slice A19 ((M.get zT71 p2.l p0).l).length c20, .int .i64 ((M.get zT71 p2.l p0).at_)]) (M.has p2.l p0)) W_ ∧ (LookIs Try.prog 61 (mv Aq2_0) p1 (.agg #[.slice A24 ((M.get zT71 p2.l p1).l).length c25, .int .i64 ((M.get zT71 p2.l p1).at_)]) (M.has p2.l p1)) W_ ∧ (Bx bp2 24 [.pointer (some ⟨bq2, 0, none⟩)]) W_ ∧ (Bx bq2 63 [.int .i64 p2.most, .int .i64 p2.now, mv Aq2_0]) W_ ∧ True) mixed rfl rfl fun w43 st44 => ?_
  replace f21 := f21.st st44 (by decide)
  replace f22 := f22.st st44 (by decide)
  replace f26 := f26.st st44 (by decide)
  replace f27 := f27.st st44 (by decide)
  replace f9500040 := f9500040.st st44 (by decide)
  replace f9600040 := f9600040.st st44 (by decide)
  replace f9700800 := f9700800.st st44 (by decide)
  replace hs := hs.locQ st44 hob rfl
  refine xd_take tab hk (k := 2) (is := [0, 1, 2, 3, 4, 5, 6, 7, 8, 9, 10, 11, 12, 13]) (ls' := #[true, true, true, true, true, true, true, true, true, true, true, true, true, true, false, false]) (lv := [.pointer (some ⟨bq2, 0, none⟩), mv Aq2_0, .agg #[.slice A19 ((M.get zT71 p2.l p0).l).length c20, .int .i64 ((M.get zT71 p2.l p0).at_)], .pointer (some ⟨bq2, 0, none⟩), mv Aq2_0, .agg #[.slice A24 ((M.get zT71 p2.l p1).l).length c25, .int .i64 ((M.get zT71 p2.l p1).at_)]]) (ks := [12, 19]) (e' := [(12, .int .i64 ((M.get zT71 p2.l p0).at_)), (19, .int .i64 ((M.get zT71 p2.l p1).at_))]) (by kernel_rfl) rfl rfl (by kernel_rfl) (np_then np_body) ⟨f21.now, f26.now, f9500040.now, f9600040.now, trivial⟩ (fun W_ hS => ⟨(load1 tab rfl ((Bx.cell hS.2.2.1 0).trans rfl)), (load1 tab rfl ((Bx.cell hS.2.2.2.1 2).trans rfl)), (ask_look3 hS.1 rfl rfl), (load1 tab rfl ((Bx.cell hS.2.2.1 0).trans rfl)), (load1 tab rfl ((Bx.cell hS.2.2.2.1 2).trans rfl)), (ask_look3 hS.2.1 rfl rfl), trivial⟩) fun a hk => ?_
  refine xd_op hk (i := 14) (by kernel_rfl) rfl rfl ?_
  refine op_call hk ent_28 (vs := [.int .i64 ((M.get zT71 p2.l p0).at_), .int .i64 ((M.get zT71 p2.l p1).at_)]) rfl (cmp_Compare_calls ((M.get zT71 p2.l p0).at_) ((M.get zT71 p2.l p1).at_) _ oi    _ hc33) ?_
  rintro _ w48 ⟨o49, rfl, st50⟩
  replace f21 := f21.st st50 (by decide)
  replace f22 := f22.st st50 (by decide)
  replace f26 := f26.st st50 (by decide)
  replace f27 := f27.st st50 (by decide)
  replace f9500040 := f9500040.st st50 (by decide)
  replace f9600040 := f9600040.st st50 (by decide)
  replace f9700800 := f9700800.st st50 (by decide)
  replace hs := hs.locQ st50 hob rfl
  have hk := hk.put 20 (.int .i64 t32) rfl
  refine ⟨.inr ⟨f21.now, f26.now, f9500040.now, f9600040.now, trivial⟩, ?_⟩
  refine xd_take tab hk (k := 0) (is := [15]) (ls' := #[true, true, true, true, true, true, true, true, true, true, true, true, true, true, true, true]) (lv := []) (ks := [5]) (e' := [(5, .int .i64 t32)]) (by kernel_rfl) rfl rfl (by kernel_rfl) (np_then np_body) ⟨f21.now, f26.now, f9500040.now, f9600040.now, trivial⟩ (fun W_ hS => trivial) fun a hk => ?_
  refine xd_done (by kernel_rfl) ?_
  refine then_n ?_
  refine wpIn_ret ?_
  obtain rfl := Option.some.inj H
  exact x_retG hk (rs := [.tmp 5]) (vs := [.int .i64 t32]) rfl ⟨rfl, trivial⟩ ⟨cl w oi o [] (fun l_ => if l_ = 1 then LF else 0) o49, rfl, hs.closeF (Lm := []) (Sh := []) hoa rfl (fun l_ => if l_ = 1 then LF else 0)⟩

/-! slices.MinFunc[[]int,int] -/
theorem slices_MinFunc_of27_calls (K : Nat) (Ap0 : Option Addr) (cp0 : Nat) (p0 : List Int) (bp1_0 : Nat) (bq1_0 : Nat) (Aq1_0_0 : Option Addr) (cq1_0_0 : Nat) (p1_0 : T62) (w : World) (o : Nat → Nat) (LF : Nat) (Lp0 : Nat) (hp0 : Ft (RdC (encInt .i64) Ap0 p0) w o Lp0) (hcp0 : (p0).length ≤ cp0) (Lp1_0 : Nat) (hp1_0 : Ft (Bx bp1_0 24 [.pointer (some ⟨bq1_0, 0, none⟩)]) w o Lp1_0) (Lq1_0 : Nat) (hq1_0 : Ft (Bx bq1_0 63 [.int .i64 p1_0.most, .int .i64 p1_0.now, mv Aq1_0_0]) w o Lq1_0) (Lq1_0_0 : Nat) (hq1_0_0 : MpN dT71 true Aq1_0_0 p1_0.l w o Lq1_0_0 LF) (hcq1_0_0 : (p1_0.l).length ≤ cq1_0_0) (hd0 : ([LF] : List Nat).Nodup) (hd1 : Lp0 ∉ [LF]) (hd2 : Lp1_0 ∉ [LF]) (hd3 : Lq1_0 ∉ [LF]) (hd4 : Lq1_0_0 ∉ [LF]) (r : Int) (H : slices_MinFunc_of27 K p0 p1_0 = some r) :
    Calls Try.prog 24 #[.slice Ap0 (p0).length cp0, .func (.func 27) #[] #[.pointer (some ⟨bp1_0, 0, none⟩)]] w (Ret fun v_ w' => ∃ o' : Nat → Nat, v_ = .int .i64 r ∧ St [] w o w' o') := by
  refine x_enter (vs := [.slice Ap0 (p0).length cp0, .func (.func 27) #[] #[.pointer (some ⟨bp1_0, 0, none⟩)]]) Try.func24 rfl rfl rfl fun a hk => ?_
  obtain ⟨oi, hs0, h0, h1, hob, hoz, hoa⟩ := St.startM2 w o (m := 1) hd0 rfl
  have hs := hs0 []
  have f900000 := h0 _ _ hd1 hp0
  have f9500020 := h0 _ _ hd2 hp1_0
  have f9600020 := h0 _ _ hd3 hq1_0
  have f9700400 := hq1_0_0.conv (fun P_ => h0 P_ _ hd4) (fun _ h_ => h1 0 1 h_ rfl rfl)
  clear h0 h1 hs0
  rw [slices_MinFunc_of27] at H
  refine x_seq ?_
  refine wpIn_region_lit ?_
  refine x_run tab hk (k := 1) (lv := []) (ks := [0, 1]) (e' := [(0, .slice Ap0 (p0).length cp0), (1, .func (.func 27) #[] #[.pointer (some ⟨bp1_0, 0, none⟩)])]) rfl trivial fun a hk => ?_
  refine wpListIn_nil ?_
  refine then_n ?_
  refine x_mid (fun a_ w_ => ∃ o5 : Nat → Nat, Kn 33 a_ [(0, .slice Ap0 (p0).length cp0), (1, .func (.func 27) #[] #[.pointer (some ⟨bp1_0, 0, none⟩)])] ∧ St [] w oi w_ o5 ∧ Ft (RdC (encInt .i64) Ap0 p0) w_ o5 0 ∧ Ft (Bx bp1_0 24 [.pointer (some ⟨bq1_0, 0, none⟩)]) w_ o5 0 ∧ Ft (Bx bq1_0 63 [.int .i64 p1_0.most, .int .i64 p1_0.now, mv Aq1_0_0]) w_ o5 0 ∧ MpN dT71 true Aq1_0_0 p1_0.l w_ o5 0 1 ∧ slices_MinFunc_of27_j1 K p0 p1_0 = some r) ?_ ?_
  rotate_left
  · rintro a w6 ⟨o5, hk, hs, f900000, f9500020, f9600020, f9700400, H⟩
    rw [slices_MinFunc_of27_j1] at H
    refine x_seq ?_
    refine wpIn_region_lit ?_
    obtain ⟨q7, H⟩ := ifS H
    obtain ⟨ad8, hAad8⟩ := RdC.addr f900000.now q7
    have hk_C := hk
    have f900000_C := f900000
    have f9500020_C := f9500020
    have f9600020_C := f9600020
    have f9700400_C := f9700400
    subst hAad8
    have hk := hk_C
    clear hk_C
    have f900000 := f900000_C
    clear f900000_C
    have f9500020 := f9500020_C
    clear f9500020_C
    have f9600020 := f9600020_C
    clear f9600020_C
    have f9700400 := f9700400_C
    clear f9700400_C
    refine x_run tab hk (k := 4) (lv := [.int .i64 (rdD 0 p0 0)]) (ks := [0, 1, 5]) (e' := [(0, .slice (some ad8) (p0).length cp0), (1, .func (.func 27) #[] #[.pointer (some ⟨bp1_0, 0, none⟩)]), (5, .int .i64 (rdD 0 p0 0))]) rfl ⟨q7, (load1 tab rfl (RdC.at0 (E := (encInt .i64)) (d := 0) (i := (0 : Int)) f900000.now q7 rfl)), trivial⟩ fun a hk => ?_
    refine wpListIn_nil ?_
    refine then_n ?_
    refine x_mid (fun a_ w_ => ∃ o58 : Nat → Nat, ∃ x59 : Int, Kn 33 a_ [(5, .int .i64 x59)] ∧ St [] w oi w_ o58 ∧ slices_MinFunc_of27_j2 x59 = some r) ?_ ?_
    rotate_left
    · rintro a w60 ⟨o58, x59, hk, hs, H⟩
      rw [slices_MinFunc_of27_j2] at H
      refine x_seq ?_
      refine wpIn_region_lit ?_
      refine x_run tab hk (k := 2) (lv := []) (ks := [4]) (e' := [(4, .int .i64 x59)]) rfl trivial fun a hk => ?_
      refine wpListIn_nil ?_
      refine then_n ?_
      refine wpIn_ret ?_
      obtain rfl := Option.some.inj H
      exact x_retG hk (rs := [.tmp 4]) (vs := [.int .i64 x59]) rfl ⟨rfl, trivial⟩ ⟨cl w oi o [] (fun l_ => if l_ = 1 then LF else 0) o58, rfl, hs.closeF (Lm := []) (Sh := []) hoa rfl (fun l_ => if l_ = 1 then LF else 0)⟩
    refine x_seq ?_
    refine wpIn_region_lit ?_
    refine x_run tab hk (k := 1) (lv := []) (ks := [0, 1, 5, 6]) (e' := [(0, .slice (some ad8) (p0).length cp0), (1, .func (.func 27) #[] #[.pointer (some ⟨bp1_0, 0, none⟩)]), (5, .int .i64 (rdD 0 p0 0)), (6, .int .i64 1)]) rfl trivial fun a hk => ?_
    refine wpListIn_nil ?_
    refine then_n ?_
    refine wpIn_block ?_
    refine x_loop (fun j_ a_ w_ => ∃ o75 : Nat → Nat, ∃ x76 : Int, ∃ x77 : Int, Kn 33 a_ [(0, .slice (some ad8) (p0).length cp0), (1, .func (.func 27) #[] #[.pointer (some ⟨bp1_0, 0, none⟩)]), (5, .int .i64 x76), (6, .int .i64 x77)] ∧ St [] w oi w_ o75 ∧ Ft (RdC (encInt .i64) (some ad8) p0) w_ o75 0 ∧ Ft (Bx bp1_0 24 [.pointer (some ⟨bq1_0, 0, none⟩)]) w_ o75 0 ∧ Ft (Bx bq1_0 63 [.int .i64 p1_0.most, .int .i64 p1_0.now, mv Aq1_0_0]) w_ o75 0 ∧ MpN dT71 true Aq1_0_0 p1_0.l w_ o75 0 1 ∧ slices_MinFunc_of27_l3 p0 p1_0 j_ x76 x77 = some r) (k := K) ⟨o5, (rdD 0 p0 0), 1, (by exact Kn.pick (ks := [0, 1, 5, 6]) hk rfl), hs, f900000, f9500020, f9600020, f9700400, H⟩ (by rintro _ _ ⟨_, _, _, _, _, _, _, _, _, H_⟩; exact absurd (show (none : Option Int) = some r from H_) (by simp)) ?_
    rintro k90 a w89 ⟨o75, x76, x77, hk, hs, f900000, f9500020, f9600020, f9700400, H⟩
    rw [slices_MinFunc_of27_l3] at H
    obtain ⟨lp91, hlp92⟩ : ∃ lp_, lp_ = slices_MinFunc_of27_l3 p0 p1_0 k90 := ⟨_, rfl⟩
    rw [← hlp92] at H
    refine x_seq ?_
    refine x_seq ?_
    refine wpIn_region_lit ?_
    refine x_run tab hk (k := 4) (lv := []) (ks := [0, 1, 5, 6, 17]) (e' := [(0, .slice (some ad8) (p0).length cp0), (1, .func (.func 27) #[] #[.pointer (some ⟨bp1_0, 0, none⟩)]), (5, .int .i64 x76), (6, .int .i64 x77), (17, .bool (decide (x77 < ((p0).length : Int))))]) rfl trivial fun a hk => ?_
    refine wpListIn_nil ?_
    refine then_n ?_
    cases b93 : (decide (x77 < ((p0).length : Int)))
    · rw [b93] at hk H
      replace H := bifF H
      refine x_if hk (b := false) rfl ?_
      refine (show Code.wpIn _ _ _ _ _ _ _ from ?_)
      refine wpIn_exit ?_
      refine then_x ?_
      refine then_x ?_
      refine blk_x ?_
      refine then_n ?_
      exact ⟨o75, x76, (by exact Kn.pick (ks := [5]) hk rfl), hs, H⟩
    · rw [b93] at hk H
      replace H := bifT H
      refine x_if hk (b := true) rfl ?_
      refine (show Code.wpIn _ _ _ _ _ _ _ from ?_)
      refine wpIn_skip ?_
      refine then_n ?_
      refine x_seq ?_
      refine wpIn_block ?_
      refine x_seq ?_
      refine wpIn_region_lit ?_
      obtain ⟨q94, H⟩ := ifS H
      refine x_run tab hk (k := 6) (lv := [.int .i64 (rdD 0 p0 x77)]) (ks := [0, 1, 5, 6, 20, 24, 25]) (e' := [(0, .slice (some ad8) (p0).length cp0), (1, .func (.func 27) #[] #[.pointer (some ⟨bp1_0, 0, none⟩)]), (5, .int .i64 x76), (6, .int .i64 x77), (20, .func (.func 27) #[] #[.pointer (some ⟨bp1_0, 0, none⟩)]), (24, .int .i64 (rdD 0 p0 x77)), (25, .int .i64 x76)]) rfl ⟨q94, (load1 tab rfl (RdC.at0 (E := (encInt .i64)) (d := 0) (i := x77) f900000.now q94 rfl)), trivial⟩ fun a hk => ?_
      refine x_op hk rfl ?_
      obtain ⟨t98, hc99, H⟩ := bindS H
      refine op_callv hk ent_27 rfl (vs := [.int .i64 (rdD 0 p0 x77), .int .i64 x76]) rfl (cache_Cache_Put_1_calls (rdD 0 p0 x77) x76 bp1_0 bq1_0 Aq1_0_0 cq1_0_0 p1_0 _ o75 1 0 f9500020 0 f9600020 _ f9700400 hcq1_0_0 (by decide) (by decide) (by decide) (by decide)   _ hc99) ?_
      rintro _ w100 ⟨o101, rfl, st102⟩
      replace f900000 := f900000.st st102 (by decide)
      replace f9500020 := f9500020.st st102 (by decide)
      replace f9600020 := f9600020.st st102 (by decide)
      replace f9700400 := f9700400.st st102 (by decide)
      replace hs := hs.locQ st102 hob rfl
      have hk := hk.put 26 (.int .i64 t98) rfl
      refine x_run tab hk (k := 1) (lv := []) (ks := [0, 1, 5, 6, 27]) (e' := [(0, .slice (some ad8) (p0).length cp0), (1, .func (.func 27) #[] #[.pointer (some ⟨bp1_0, 0, none⟩)]), (5, .int .i64 x76), (6, .int .i64 x77), (27, .bool (decide (t98 < (0 : Int))))]) rfl trivial fun a hk => ?_
      refine wpListIn_nil ?_
      refine then_n ?_
      cases b103 : (decide (t98 < (0 : Int)))
      · rw [b103] at hk H
        replace H := bifF H
        refine x_if hk (b := false) rfl ?_
        refine (show Code.wpIn _ _ _ _ _ _ _ from ?_)
        refine wpIn_skip ?_
        refine blk_n ?_
        refine then_n ?_
        refine wpIn_region_lit ?_
        refine x_run tab hk (k := 3) (lv := []) (ks := [0, 1, 5, 6]) (e' := [(0, .slice (some ad8) (p0).length cp0), (1, .func (.func 27) #[] #[.pointer (some ⟨bp1_0, 0, none⟩)]), (5, .int .i64 x76), (6, .int .i64 (IntKind.wrap .i64 (x77 + 1)))]) rfl trivial fun a hk => ?_
        refine wpListIn_nil ?_
        refine then_n ?_
        exact ⟨k90, Nat.le_refl _, o101, x76, (IntKind.wrap .i64 (x77 + 1)), (by exact Kn.pick (ks := [0, 1, 5, 6]) hk rfl), hs, f900000, f9500020, f9600020, f9700400, (hlp92 ▸ H)⟩
      · rw [b103] at hk H
        replace H := bifT H
        refine x_if hk (b := true) rfl ?_
        refine (show Code.wpIn _ _ _ _ _ _ _ from ?_)
        refine wpIn_region_lit ?_
        refine x_run tab hk (k := 5) (lv := [.int .i64 (rdD 0 p0 x77)]) (ks := [0, 1, 5, 6]) (e' := [(0, .slice (some ad8) (p0).length cp0), (1, .func (.func 27) #[] #[.pointer (some ⟨bp1_0, 0, none⟩)]), (5, .int .i64 (rdD 0 p0 x77)), (6, .int .i64 x77)]) rfl ⟨q94, (load1 tab rfl (RdC.at0 (E := (encInt .i64)) (d := 0) (i := x77) f900000.now q94 rfl)), trivial⟩ fun a hk => ?_
        refine wpListIn_nil ?_
        refine blk_n ?_
        refine then_n ?_
        refine wpIn_region_lit ?_
        refine x_run tab hk (k := 3) (lv := []) (ks := [0, 1, 5, 6]) (e' := [(0, .slice (some ad8) (p0).length cp0), (1, .func (.func 27) #[] #[.pointer (some ⟨bp1_0, 0, none⟩)]), (5, .int .i64 (rdD 0 p0 x77)), (6, .int .i64 (IntKind.wrap .i64 (x77 + 1)))]) rfl trivial fun a hk => ?_
        refine wpListIn_nil ?_
        refine then_n ?_
        exact ⟨k90, Nat.le_refl _, o101, (rdD 0 p0 x77), (IntKind.wrap .i64 (x77 + 1)), (by exact Kn.pick (ks := [0, 1, 5, 6]) hk rfl), hs, f900000, f9500020, f9600020, f9700400, (hlp92 ▸ H)⟩
  refine x_seq ?_
  refine wpIn_region_lit ?_
  refine x_run tab hk (k := 3) (lv := []) (ks := [0, 1, 9]) (e' := [(0, .slice Ap0 (p0).length cp0), (1, .func (.func 27) #[] #[.pointer (some ⟨bp1_0, 0, none⟩)]), (9, .bool (decide (((p0).length : Int) < (1 : Int))))]) rfl trivial fun a hk => ?_
  refine wpListIn_nil ?_
  refine then_n ?_
  cases b104 : (decide (((p0).length : Int) < (1 : Int)))
  · rw [b104] at hk H
    replace H := bifF H
    refine x_if hk (b := false) rfl ?_
    refine (show Code.wpIn _ _ _ _ _ _ _ from ?_)
    refine wpIn_skip ?_
    refine then_n ?_
    exact ⟨oi, (by exact Kn.pick (ks := [0, 1]) hk rfl), hs, f900000, f9500020, f9600020, f9700400, H⟩
  · rw [b104] at hk H
    replace H := bifT H
    refine x_if hk (b := true) rfl ?_
    refine (show Code.wpIn _ _ _ _ _ _ _ from ?_)
    refine wpIn_region_lit ?_
    exact absurd H (by simp)

/-! (*tidewrack/cache.Cache).Put -/
theorem cache_Cache_Put_calls (K : Nat) (bp0 : Nat) (Ap0_0 : Option Addr) (cp0_0 : Nat) (p0 : T62) (p1 : Int) (Ap2 : Option Addr) (cp2 : Nat) (p2 : List T59) (w : World) (o : Nat → Nat) (LF : Nat) (Lp0 : Nat) (hp0 : Ft (Bx bp0 63 [.int .i64 p0.most, .int .i64 p0.now, mv Ap0_0]) w o Lp0) (Lp0_0 : Nat) (hp0_0 : MpN dT71 true Ap0_0 p0.l w o Lp0_0 LF) (hcp0_0 : (p0.l).length ≤ cp0_0) (Lp2 : Nat) (hp2 : Ft (RdC ET59 Ap2 p2) w o Lp2) (hcp2 : (p2).length ≤ cp2) (hd0 : ([LF, Lp0, Lp0_0] : List Nat).Nodup) (hd1 : Lp2 ∉ [LF, Lp0, Lp0_0]) (r : Int × Bool × T62) (H : cache_Cache_Put K p0 p1 p2 = some r) :
    Calls Try.prog 10 #[.pointer (some ⟨bp0, 0, none⟩), .int .i64 p1, .slice Ap2 (p2).length cp2] w (Ret fun v_ w' => ∃ o' : Nat → Nat, ∃ A0 : Option Addr, ∃ c0 : Nat, v_ = .tuple #[.int .i64 r.1, .bool r.2.1] ∧ St [Lp0, Lp0_0] w o w' o' ∧ Ft (Bx bp0 63 [.int .i64 r.2.2.most, .int .i64 r.2.2.now, mv A0]) w' o' Lp0 ∧ MpN dT71 true A0 r.2.2.l w' o' Lp0_0 LF ∧ (r.2.2.l).length ≤ c0) := by
  refine x_enter (vs := [.pointer (some ⟨bp0, 0, none⟩), .int .i64 p1, .slice Ap2 (p2).length cp2]) Try.func10 rfl rfl rfl fun a hk => ?_
  obtain ⟨oi, hs0, h0, h1, hob, hoz, hoa⟩ := St.startM2 w o (m := 3) hd0 rfl
  have hs := hs0 [2, 3]
  have f900000 := hp0_0.conv (fun _ h_ => h1 2 3 h_ rfl rfl) (fun _ h_ => h1 0 1 h_ rfl rfl)
  have f900019 := h1 1 2 hp0 rfl rfl
  have f900040 := h0 _ _ hd1 hp2
  clear h0 h1 hs0
  rw [cache_Cache_Put] at H
  refine x_seq ?_
  refine wpIn_region_lit ?_
  refine x_op hk rfl ?_
  refine op_box (o := oi) (t := 24) (v := .pointer (some ⟨bp0, 0, none⟩)) (cs := [.pointer (some ⟨bp0, 0, none⟩)]) hk rfl rfl 4 fun bx4 w1 o2 st3 f5 => ?_
  replace f900000 := f900000.st st3 (by decide)
  replace f900019 := f900019.st st3 (by decide)
  replace f900040 := f900040.st st3 (by decide)
  replace hs := hs.locQ st3 hob rfl
  have hk := hk.put 3 (.pointer (some ⟨bx4, 0, none⟩)) rfl
  refine x_run tab hk (k := 2) (lv := []) (ks := [1, 2, 3]) (e' := [(1, .int .i64 p1), (2, .slice Ap2 (p2).length cp2), (3, .pointer (some ⟨bx4, 0, none⟩))]) rfl trivial fun a hk => ?_
  refine wpListIn_nil ?_
  refine then_n ?_
  refine x_mid (fun a_ w_ => ∃ o21 : Nat → Nat, Kn 44 a_ [(1, .int .i64 p1), (2, .slice Ap2 (p2).length cp2), (3, .pointer (some ⟨bx4, 0, none⟩))] ∧ St [2, 3] w oi w_ o21 ∧ Ft (Bx bx4 24 [.pointer (some ⟨bp0, 0, none⟩)]) w_ o21 6 ∧ MpN dT71 true Ap0_0 p0.l w_ o21 3 1 ∧ Ft (Bx bp0 63 [.int .i64 p0.most, .int .i64 p0.now, mv Ap0_0]) w_ o21 2 ∧ Ft (RdC ET59 Ap2 p2) w_ o21 0 ∧ cache_Cache_Put_j1 K p0 p1 p2 = some r) ?_ ?_
  rotate_left
  · rintro a w22 ⟨o21, hk, hs, f5, f900000, f900019, f900040, H⟩
    rw [cache_Cache_Put_j1] at H
    refine x_seq ?_
    refine xd_begin (o := o21) (fun W_ => (Bx bx4 24 [.pointer (some ⟨bp0, 0, none⟩)]) W_ ∧ True) mixed rfl rfl fun w77 st78 => ?_
    replace f5 := f5.st st78 (by decide)
    replace f900000 := f900000.st st78 (by decide)
    replace f900019 := f900019.st st78 (by decide)
    replace f900040 := f900040.st st78 (by decide)
    replace hs := hs.locQ st78 hob rfl
    refine xd_take tab hk (k := 2) (is := [0, 1, 2]) (ls' := #[true, true, true, false, false]) (lv := [.pointer (some ⟨bp0, 0, none⟩)]) (ks := [3, 15, 16, 17]) (e' := [(3, .pointer (some ⟨bx4, 0, none⟩)), (15, .pointer (some ⟨bp0, 0, none⟩)), (16, .int .i64 p1), (17, .slice Ap2 (p2).length cp2)]) (by kernel_rfl) rfl rfl (by kernel_rfl) (np_then np_body) ⟨f5.now, trivial⟩ (fun W_ hS => ⟨(load1 tab rfl ((Bx.cell hS.1 0).trans rfl)), trivial⟩) fun a hk => ?_
    refine xd_op hk (i := 3) (by kernel_rfl) rfl rfl ?_
    obtain ⟨t82, hc83, H⟩ := bindS H
    refine op_call hk ent_23 (vs := [.slice Ap2 (p2).length cp2]) rfl (slices_Clone_calls Ap2 cp2 p2 _ o21 _ f900040 hcp2 9  _ hc83) ?_
    rintro _ w84 ⟨o85, A87, c88, rfl, st86, f89, hc90⟩
    replace f5 := f5.st st86 (by decide)
    replace f900000 := f900000.st st86 (by decide)
    replace f900019 := f900019.st st86 (by decide)
    replace f900040 := f900040.st st86 (by decide)
    replace hs := hs.locQ st86 hob rfl
    have hk := hk.put 18 (.slice A87 (t82).length c88) rfl
    refine ⟨.inr ⟨f5.now, trivial⟩, ?_⟩
    refine xd_op hk (i := 4) (by kernel_rfl) rfl rfl ?_
    obtain ⟨o94, hR95⟩ := relab_ex o85 (fun l_ => if l_ = 9 then 1 else l_)
    replace hs : St [2, 3] w oi w84 o94 := by rw [hR95]; exact (hs.relabM hob (fun l_ => if l_ = 9 then 1 else l_) (by decide))
    replace f5 : Ft (Bx bx4 24 [.pointer (some ⟨bp0, 0, none⟩)]) w84 o94 6 := by rw [hR95]; exact f5.relab (fun l_ => if l_ = 9 then 1 else l_) rfl
    replace f89 : Ft (Own ET59 60 (.slice A87 (t82).length c88) t82) w84 o94 1 := by rw [hR95]; exact f89.relab (fun l_ => if l_ = 9 then 1 else l_) rfl
    replace f900000 : MpN dT71 true Ap0_0 p0.l w84 o94 3 1 := by rw [hR95]; exact f900000.relab (fun l_ => if l_ = 9 then 1 else l_) rfl
    replace f900019 : Ft (Bx bp0 63 [.int .i64 p0.most, .int .i64 p0.now, mv Ap0_0]) w84 o94 2 := by rw [hR95]; exact f900019.relab (fun l_ => if l_ = 9 then 1 else l_) rfl
    replace f900040 : Ft (RdC ET59 Ap2 p2) w84 o94 0 := by rw [hR95]; exact f900040.relab (fun l_ => if l_ = 9 then 1 else l_) rfl
    obtain ⟨t96, hc97, H⟩ := bindS H
    refine op_call hk ent_22 (vs := [.pointer (some ⟨bp0, 0, none⟩), .int .i64 p1, .slice A87 (t82).length c88]) rfl (cache_Cache_touch_calls bp0 Ap0_0 cp0_0 p0 p1 A87 c88 t82 _ o94 1 2 f900019 3 f900000 hcp0_0 (f89.imp fun _ h_ => Own.rd h_) hc90 (by decide)   _ hc97) ?_
    rintro _ w98 ⟨o99, A102, c103, rfl, st100, f101, f104, hc105⟩
    replace f5 := f5.st st100 (by decide)
    replace f89 := f89.st st100 (by decide)
    replace f900040 := f900040.st st100 (by decide)
    replace hs := hs.locQ st100 hob rfl
    have hk := hk.put 19 (.tuple #[]) rfl
    refine ⟨.inr ⟨f5.now, trivial⟩, ?_⟩
    refine xd_done (by kernel_rfl) ?_
    refine then_n ?_
    refine x_seq ?_
    refine x_seq ?_
    have f107 := MpN.size f104
    refine xd_begin (o := o99) (fun W_ => (Bx bp0 63 [.int .i64 t96.most, .int .i64 t96.now, mv A102]) W_ ∧ (MSize A102 (t96.l).length) W_ ∧ (Bx bx4 24 [.pointer (some ⟨bp0, 0, none⟩)]) W_ ∧ True) mixed rfl rfl fun w108 st109 => ?_
    replace f101 := f101.st st109 (by decide)
    replace f104 := f104.st st109 (by decide)
    replace f107 := f107.st st109 (by decide)
    replace f5 := f5.st st109 (by decide)
    replace f89 := f89.st st109 (by decide)
    replace f900040 := f900040.st st109 (by decide)
    replace hs := hs.locQ st109 hob rfl
    refine xd_take tab hk (k := 0) (is := [0, 1, 2, 3, 4, 5, 6, 7, 8, 9]) (ls' := #[true, true, true, true, true, true, true, true, true, true]) (lv := [.pointer (some ⟨bp0, 0, none⟩), mv A102, .int .i64 ((t96.l).length : Int), .pointer (some ⟨bp0, 0, none⟩), .int .i64 t96.most]) (ks := [3, 29]) (e' := [(3, .pointer (some ⟨bx4, 0, none⟩)), (29, .bool (decide (((t96.l).length : Int) ≤ t96.most)))]) (by kernel_rfl) rfl rfl (by kernel_rfl) (np_then (np_then np_body)) ⟨f101.now, f107.now, f5.now, trivial⟩ (fun W_ hS => ⟨(load1 tab rfl ((Bx.cell hS.2.2.1 0).trans rfl)), (load1 tab rfl ((Bx.cell hS.1 2).trans rfl)), (ask_mlenS tab rfl hS.2.1 rfl), (load1 tab rfl ((Bx.cell hS.2.2.1 0).trans rfl)), (load1 tab rfl ((Bx.cell hS.1 0).trans rfl)), trivial⟩) fun a hk => ?_
    refine xd_done (by kernel_rfl) ?_
    refine then_n ?_
    cases b110 : (decide (((t96.l).length : Int) ≤ t96.most))
    · rw [b110] at hk H
      replace H := bifF H
      refine x_if hk (b := false) rfl ?_
      refine (show Code.wpIn _ _ _ _ _ _ _ from ?_)
      refine wpIn_skip ?_
      refine then_n ?_
      refine x_seq ?_
      refine wpIn_region_lit ?_
      refine x_run tab hk (k := 4) (lv := [.pointer (some ⟨bp0, 0, none⟩), mv A102]) (ks := [3, 33]) (e' := [(3, .pointer (some ⟨bx4, 0, none⟩)), (33, mv A102)]) rfl ⟨(load1 tab rfl ((Bx.cell f5.now 0).trans rfl)), (load1 tab rfl ((Bx.cell f101.now 2).trans rfl)), trivial⟩ fun a hk => ?_
      refine x_op hk rfl ?_
      obtain ⟨t114, hc115, H⟩ := bindS H
      refine op_call hk ent_26 (vs := [mv A102]) rfl (maps_Keys'_calls A102 c103 t96.l _ o99 1 _ f104 hc105 (by decide) (by decide) 10  _ hc115) ?_
      rintro _ w116 ⟨o117, bx119, rfl, st118, f120⟩
      replace f101 := f101.st st118 (by decide)
      replace f104 := f104.st st118 (by decide)
      replace f5 := f5.st st118 (by decide)
      replace hs := hs.locQ st118 hob rfl
      have hk := hk.put 34 (.func (.func 42) #[] #[.pointer (some ⟨bx119, 0, none⟩)]) rfl
      refine x_op hk rfl ?_
      obtain ⟨q124, H⟩ := ifS H
      refine op_call hk ent_25 (vs := [.func (.func 42) #[] #[.pointer (some ⟨bx119, 0, none⟩)]]) rfl (collect25_calls bx119 61 A102 t96.l _ o117 f120 f104 q124 11) ?_
      rintro _ w131 ⟨o132, A125, c126, ks127, rfl, st133, hp129, f128, hc130⟩
      replace H := ordP_at H hp129
      replace f101 := f101.st st133 (by decide)
      replace f104 := f104.st st133 (by decide)
      replace f120 := f120.st st133 (by decide)
      replace f5 := f5.st st133 (by decide)
      replace hs := hs.locQ st133 hob rfl
      have hk := hk.put 35 (.slice A125 (ks127).length c126) rfl
      refine x_run tab hk (k := 1) (lv := []) (ks := [3, 35, 36]) (e' := [(3, .pointer (some ⟨bx4, 0, none⟩)), (35, .slice A125 (ks127).length c126), (36, .func (.func 27) #[] #[.pointer (some ⟨bx4, 0, none⟩)])]) rfl trivial fun a hk => ?_
      refine x_op hk rfl ?_
      obtain ⟨t137, hc138, H⟩ := bindS H
      refine op_call hk ent_24 (vs := [.slice A125 (ks127).length c126, .func (.func 27) #[] #[.pointer (some ⟨bx4, 0, none⟩)]]) rfl (slices_MinFunc_of27_calls K A125 c126 ks127 bx4 bp0 A102 c103 t96 _ o132 1 _ (f128.imp fun _ h_ => Own.rd h_) hc130 6 f5 2 f101 _ f104 hc105 (by decide) (by decide) (by decide) (by decide) (by decide)   _ hc138) ?_
      rintro _ w139 ⟨o140, rfl, st141⟩
      replace f101 := f101.st st141 (by decide)
      replace f104 := f104.st st141 (by decide)
      replace f128 := f128.st st141 (by decide)
      replace f5 := f5.st st141 (by decide)
      replace hs := hs.locQ st141 hob rfl
      have hk := hk.put 37 (.int .i64 t137) rfl
      refine x_run tab hk (k := 1) (lv := []) (ks := [3, 8]) (e' := [(3, .pointer (some ⟨bx4, 0, none⟩)), (8, .int .i64 t137)]) rfl trivial fun a hk => ?_
      refine wpListIn_nil ?_
      refine then_n ?_
      refine x_seq ?_
      refine wpIn_region_lit ?_
      refine x_run tab hk (k := 5) (lv := [.pointer (some ⟨bp0, 0, none⟩), mv A102]) (ks := [8, 41, 42]) (e' := [(8, .int .i64 t137), (41, mv A102), (42, .int .i64 t137)]) rfl ⟨(load1 tab rfl ((Bx.cell f5.now 0).trans rfl)), (load1 tab rfl ((Bx.cell f101.now 2).trans rfl)), trivial⟩ fun a hk => ?_
      refine x_op hk rfl ?_
      refine op_mdelN tab hk (D := dT71) (ag := true) (k := t137) rfl rfl rfl rfl f104 (by decide) fun w142 st144 f104_ => ?_
      replace f101 := f101.st st144 (by decide)
      replace hs := hs.locQ st144 hob rfl
      replace f104 := f104_
      refine wpListIn_nil ?_
      refine then_n ?_
      refine x_seq ?_
      refine wpIn_region_lit ?_
      refine x_run tab hk (k := 3) (lv := []) (ks := [6, 7]) (e' := [(6, .int .i64 t137), (7, .bool true)]) rfl trivial fun a hk => ?_
      refine wpListIn_nil ?_
      refine then_n ?_
      refine wpIn_ret ?_
      obtain rfl := Option.some.inj H
      exact x_retG hk (rs := [.tmp 6, .tmp 7]) (vs := [.int .i64 t137, .bool true]) rfl ⟨rfl, rfl, trivial⟩ ⟨cl w oi o [2, 3] (fun l_ => if l_ = 1 then LF else if l_ = 2 then Lp0 else if l_ = 3 then Lp0_0 else 0) o140, A102, ((M.del t96.l t137)).length, rfl, hs.closeF (Lm := [Lp0, Lp0_0]) (Sh := []) hoa rfl (fun l_ => if l_ = 1 then LF else if l_ = 2 then Lp0 else if l_ = 3 then Lp0_0 else 0), hs.closeM_ft (o := o) (ρ := fun l_ => if l_ = 1 then LF else if l_ = 2 then Lp0 else if l_ = 3 then Lp0_0 else 0) f101 (lab_at hoa (i := 1) rfl) rfl, f104.conv (fun _ h_ => hs.closeM_ft (o := o) (ρ := fun l_ => if l_ = 1 then LF else if l_ = 2 then Lp0 else if l_ = 3 then Lp0_0 else 0) h_ (lab_at hoa (i := 2) rfl) rfl) (fun _ h_ => hs.closeM_ft (o := o) (ρ := fun l_ => if l_ = 1 then LF else if l_ = 2 then Lp0 else if l_ = 3 then Lp0_0 else 0) h_ (lab_at hoa (i := 0) rfl) rfl), (Nat.le_refl _)⟩
    · rw [b110] at hk H
      replace H := bifT H
      refine x_if hk (b := true) rfl ?_
      refine (show Code.wpIn _ _ _ _ _ _ _ from ?_)
      refine x_seq ?_
      refine wpIn_region_lit ?_
      refine x_run tab hk (k := 2) (lv := []) (ks := [6, 7]) (e' := [(6, .int .i64 0), (7, .bool false)]) rfl trivial fun a hk => ?_
      refine wpListIn_nil ?_
      refine then_n ?_
      refine wpIn_ret ?_
      refine then_r ?_
      obtain rfl := Option.some.inj H
      exact x_retG hk (rs := [.tmp 6, .tmp 7]) (vs := [.int .i64 0, .bool false]) rfl ⟨rfl, rfl, trivial⟩ ⟨cl w oi o [2, 3] (fun l_ => if l_ = 1 then LF else if l_ = 2 then Lp0 else if l_ = 3 then Lp0_0 else 0) o99, A102, c103, rfl, hs.closeF (Lm := [Lp0, Lp0_0]) (Sh := []) hoa rfl (fun l_ => if l_ = 1 then LF else if l_ = 2 then Lp0 else if l_ = 3 then Lp0_0 else 0), hs.closeM_ft (o := o) (ρ := fun l_ => if l_ = 1 then LF else if l_ = 2 then Lp0 else if l_ = 3 then Lp0_0 else 0) f101 (lab_at hoa (i := 1) rfl) rfl, f104.conv (fun _ h_ => hs.closeM_ft (o := o) (ρ := fun l_ => if l_ = 1 then LF else if l_ = 2 then Lp0 else if l_ = 3 then Lp0_0 else 0) h_ (lab_at hoa (i := 2) rfl) rfl) (fun _ h_ => hs.closeM_ft (o := o) (ρ := fun l_ => if l_ = 1 then LF else if l_ = 2 then Lp0 else if l_ = 3 then Lp0_0 else 0) h_ (lab_at hoa (i := 0) rfl) rfl), hc105⟩
  refine x_mid (fun a_ w_ => ∃ o152 : Nat → Nat, ∃ x153 : Bool, Kn 44 a_ [(1, .int .i64 p1), (2, .slice Ap2 (p2).length cp2), (3, .pointer (some ⟨bx4, 0, none⟩)), (14, .bool x153)] ∧ St [2, 3] w oi w_ o152 ∧ Ft (Bx bx4 24 [.pointer (some ⟨bp0, 0, none⟩)]) w_ o152 12 ∧ MpN dT71 true Ap0_0 p0.l w_ o152 3 1 ∧ Ft (Bx bp0 63 [.int .i64 p0.most, .int .i64 p0.now, mv Ap0_0]) w_ o152 2 ∧ Ft (RdC ET59 Ap2 p2) w_ o152 0 ∧ cache_Cache_Put_j2 K p0 p1 p2 x153 = some r) ?_ ?_
  rotate_left
  · rintro a w154 ⟨o152, x153, hk, hs, f5, f900000, f900019, f900040, H⟩
    rw [cache_Cache_Put_j2] at H
    cases b155 : x153
    · rw [b155] at hk H
      replace H := bifF H
      refine x_if hk (b := false) rfl ?_
      refine (show Code.wpIn _ _ _ _ _ _ _ from ?_)
      refine wpIn_skip ?_
      refine then_n ?_
      exact ⟨(fun b_ => (fun l_ => if l_ = 12 then 6 else l_) (o152 b_)), (by exact Kn.pick (ks := [1, 2, 3]) hk rfl), (hs.relabM hob (fun l_ => if l_ = 12 then 6 else l_) (by decide)), (f5.relab (fun l_ => if l_ = 12 then 6 else l_) rfl), (f900000.relab (fun l_ => if l_ = 12 then 6 else l_) rfl), (f900019.relab (fun l_ => if l_ = 12 then 6 else l_) rfl), (f900040.relab (fun l_ => if l_ = 12 then 6 else l_) rfl), H⟩
    · rw [b155] at hk H
      replace H := bifT H
      refine x_if hk (b := true) rfl ?_
      refine (show Code.wpIn _ _ _ _ _ _ _ from ?_)
      refine x_seq ?_
      refine wpIn_region_lit ?_
      refine x_run tab hk (k := 2) (lv := []) (ks := [6, 7]) (e' := [(6, .int .i64 0), (7, .bool false)]) rfl trivial fun a hk => ?_
      refine wpListIn_nil ?_
      refine then_n ?_
      refine wpIn_ret ?_
      refine then_r ?_
      obtain rfl := Option.some.inj H
      exact x_retG hk (rs := [.tmp 6, .tmp 7]) (vs := [.int .i64 0, .bool false]) rfl ⟨rfl, rfl, trivial⟩ ⟨cl w oi o [2, 3] (fun l_ => if l_ = 1 then LF else if l_ = 2 then Lp0 else if l_ = 3 then Lp0_0 else 0) o152, Ap0_0, cp0_0, rfl, hs.closeF (Lm := [Lp0, Lp0_0]) (Sh := []) hoa rfl (fun l_ => if l_ = 1 then LF else if l_ = 2 then Lp0 else if l_ = 3 then Lp0_0 else 0), hs.closeM_ft (o := o) (ρ := fun l_ => if l_ = 1 then LF else if l_ = 2 then Lp0 else if l_ = 3 then Lp0_0 else 0) f900019 (lab_at hoa (i := 1) rfl) rfl, f900000.conv (fun _ h_ => hs.closeM_ft (o := o) (ρ := fun l_ => if l_ = 1 then LF else if l_ = 2 then Lp0 else if l_ = 3 then Lp0_0 else 0) h_ (lab_at hoa (i := 2) rfl) rfl) (fun _ h_ => hs.closeM_ft (o := o) (ρ := fun l_ => if l_ = 1 then LF else if l_ = 2 then Lp0 else if l_ = 3 then Lp0_0 else 0) h_ (lab_at hoa (i := 0) rfl) rfl), hcp0_0⟩
  refine wpIn_region_lit ?_
  refine x_run tab hk (k := 3) (lv := []) (ks := [1, 2, 3, 11]) (e' := [(1, .int .i64 p1), (2, .slice Ap2 (p2).length cp2), (3, .pointer (some ⟨bx4, 0, none⟩)), (11, .bool (decide (p1 < (0 : Int))))]) rfl trivial fun a hk => ?_
  cases b156 : (decide (p1 < (0 : Int)))
  · rw [b156] at hk H
    replace H := bifF H
    refine x_run tab hk (k := 3) (lv := []) (ks := [1, 2, 3, 14]) (e' := [(1, .int .i64 p1), (2, .slice Ap2 (p2).length cp2), (3, .pointer (some ⟨bx4, 0, none⟩)), (14, .bool (decide (p1 > (1152921504606846976 : Int))))]) rfl trivial fun a hk => ?_
    refine wpListIn_nil ?_
    refine then_n ?_
    exact ⟨(fun b_ => (fun l_ => if l_ = 4 then 12 else l_) (o2 b_)), (decide (p1 > (1152921504606846976 : Int))), (by exact Kn.pick (ks := [1, 2, 3, 14]) hk rfl), (hs.relabM hob (fun l_ => if l_ = 4 then 12 else l_) (by decide)), (f5.relab (fun l_ => if l_ = 4 then 12 else l_) rfl), (f900000.relab (fun l_ => if l_ = 4 then 12 else l_) rfl), (f900019.relab (fun l_ => if l_ = 4 then 12 else l_) rfl), (f900040.relab (fun l_ => if l_ = 4 then 12 else l_) rfl), H⟩
  · rw [b156] at hk H
    replace H := bifT H
    refine x_run tab hk (k := 3) (lv := []) (ks := [1, 2, 3, 14]) (e' := [(1, .int .i64 p1), (2, .slice Ap2 (p2).length cp2), (3, .pointer (some ⟨bx4, 0, none⟩)), (14, .bool true)]) rfl trivial fun a hk => ?_
    refine wpListIn_nil ?_
    refine then_n ?_
    exact ⟨(fun b_ => (fun l_ => if l_ = 4 then 12 else l_) (o2 b_)), true, (by exact Kn.pick (ks := [1, 2, 3, 14]) hk rfl), (hs.relabM hob (fun l_ => if l_ = 4 then 12 else l_) (by decide)), (f5.relab (fun l_ => if l_ = 4 then 12 else l_) rfl), (f900000.relab (fun l_ => if l_ = 4 then 12 else l_) rfl), (f900019.relab (fun l_ => if l_ = 4 then 12 else l_) rfl), (f900040.relab (fun l_ => if l_ = 4 then 12 else l_) rfl), H⟩

/-! (*tidewrack/cache.Cache).Peek -/
theorem cache_Cache_Peek_calls (bp0 : Nat) (Ap0_0 : Option Addr) (cp0_0 : Nat) (p0 : T62) (p1 : Int) (w : World) (o : Nat → Nat) (LF : Nat) (Lp0 : Nat) (hp0 : Ft (Bx bp0 63 [.int .i64 p0.most, .int .i64 p0.now, mv Ap0_0]) w o Lp0) (Lp0_0 : Nat) (hp0_0 : MpN dT71 true Ap0_0 p0.l w o Lp0_0 LF) (hcp0_0 : (p0.l).length ≤ cp0_0) (hd0 : ([LF] : List Nat).Nodup) (hd1 : Lp0_0 ∉ [LF]) (hd2 : Lp0 ∉ [LF]) (R0 : Nat) (r : (List T59) × Bool) (H : cache_Cache_Peek p0 p1 = some r) :
    Calls Try.prog 11 #[.pointer (some ⟨bp0, 0, none⟩), .int .i64 p1] w (Ret fun v_ w' => ∃ o' : Nat → Nat, ∃ A0 : Option Addr, ∃ c0 : Nat, v_ = .tuple #[.slice A0 (r.1).length c0, .bool r.2] ∧ St [] w o w' o' ∧ Ft (Own ET59 60 (.slice A0 (r.1).length c0) r.1) w' o' R0 ∧ (r.1).length ≤ c0) := by
  refine x_enter (vs := [.pointer (some ⟨bp0, 0, none⟩), .int .i64 p1]) Try.func11 rfl rfl rfl fun a hk => ?_
  obtain ⟨oi, hs0, h0, h1, hob, hoz, hoa⟩ := St.startM2 w o (m := 1) hd0 rfl
  have hs := hs0 []
  have f900000 := hp0_0.conv (fun P_ => h0 P_ _ hd1) (fun _ h_ => h1 0 1 h_ rfl rfl)
  have f900019 := h0 _ _ hd2 hp0
  clear h0 h1 hs0
  rw [cache_Cache_Peek] at H
  refine x_seq ?_
  refine wpIn_region_lit ?_
  refine x_run tab hk (k := 2) (lv := []) (ks := [0, 1]) (e' := [(0, .pointer (some ⟨bp0, 0, none⟩)), (1, .int .i64 p1)]) rfl trivial fun a hk => ?_
  refine wpListIn_nil ?_
  refine then_n ?_
  refine x_seq ?_
  refine wpIn_region_lit ?_
  obtain ⟨A1, c2, f3, f4, hc5⟩ := lkT71 f900000 (P := Try.prog) tab (mt := 61) rfl rfl rfl rfl p1
  refine x_run tab hk (k := 9) (lv := [mv Ap0_0, .tuple #[.agg #[.slice A1 ((M.get zT71 p0.l p1).l).length c2, .int .i64 ((M.get zT71 p0.l p1).at_)], .bool (M.has p0.l p1)]]) (ks := [15, 16]) (e' := [(15, .agg #[.slice A1 ((M.get zT71 p0.l p1).l).length c2, .int .i64 ((M.get zT71 p0.l p1).at_)]), (16, .bool (M.has p0.l p1))]) rfl ⟨(load1 tab rfl ((Bx.cell f900019.now 2).trans rfl)), (ask_look2 f3.now rfl rfl), trivial⟩ fun a hk => ?_
  refine x_op hk rfl ?_
  refine op_alloc (o := oi) tab (t := 72) (cs := [.slice none 0 0, .int .i64 0]) rfl rfl 2 fun bx9 w6 o7 st8 f10 => ?_
  replace f4 := f4.st st8 (by decide)
  replace f900000 := f900000.st st8 (by decide)
  replace f900019 := f900019.st st8 (by decide)
  replace hs := hs.locQ st8 hob rfl
  have hk := hk.put 6 (.pointer (some ⟨bx9, 0, none⟩)) rfl
  refine x_op hk rfl ?_
  refine op_store tab hk (t := 72) (v := .agg #[.slice A1 ((M.get zT71 p0.l p1).l).length c2, .int .i64 ((M.get zT71 p0.l p1).at_)]) (b := bx9) (k := 0) (cs' := [.slice A1 ((M.get zT71 p0.l p1).l).length c2, .int .i64 ((M.get zT71 p0.l p1).at_)]) rfl rfl rfl rfl rfl rfl f10 rfl rfl fun w11 o12 st13 f10_ => ?_
  replace f4 := f4.st st13 (by decide)
  replace f900000 := f900000.st st13 (by decide)
  replace f900019 := f900019.st st13 (by decide)
  replace hs := hs.locQ st13 hob rfl
  replace f10 := f10_
  refine x_run tab hk (k := 1) (lv := []) (ks := [6, 7]) (e' := [(6, .pointer (some ⟨bx9, 0, none⟩)), (7, .bool (M.has p0.l p1))]) rfl trivial fun a hk => ?_
  refine wpListIn_nil ?_
  refine then_n ?_
  refine x_seq ?_
  refine wpIn_region_lit ?_
  refine x_run tab hk (k := 2) (lv := [.slice A1 ((M.get zT71 p0.l p1).l).length c2]) (ks := [7, 18]) (e' := [(7, .bool (M.has p0.l p1)), (18, .slice A1 ((M.get zT71 p0.l p1).l).length c2)]) rfl ⟨(load1 tab rfl ((Bx.cell f10.now 0).trans rfl)), trivial⟩ fun a hk => ?_
  refine x_op hk rfl ?_
  obtain ⟨t17, hc18, H⟩ := bindS H
  refine op_call hk ent_23 (vs := [.slice A1 ((M.get zT71 p0.l p1).l).length c2]) rfl (slices_Clone_calls A1 c2 ((M.get zT71 p0.l p1).l) _ o12 _ f4 hc5 3  _ hc18) ?_
  rintro _ w19 ⟨o20, A22, c23, rfl, st21, f24, hc25⟩
  replace f4 := f4.st st21 (by decide)
  replace f900000 := f900000.st st21 (by decide)
  replace f900019 := f900019.st st21 (by decide)
  replace hs := hs.locQ st21 hob rfl
  have hk := hk.put 19 (.slice A22 (t17).length c23) rfl
  refine x_run tab hk (k := 3) (lv := []) (ks := [4, 5]) (e' := [(4, .slice A22 (t17).length c23), (5, .bool (M.has p0.l p1))]) rfl trivial fun a hk => ?_
  refine wpListIn_nil ?_
  refine then_n ?_
  refine wpIn_ret ?_
  obtain rfl := Option.some.inj H
  exact x_retG hk (rs := [.tmp 4, .tmp 5]) (vs := [.slice A22 (t17).length c23, .bool (M.has p0.l p1)]) rfl ⟨rfl, rfl, trivial⟩ ⟨cl w oi o [] (fun l_ => if l_ = 1 then LF else if l_ = 3 then R0 else 0) o20, A22, c23, rfl, hs.closeF (Lm := []) (Sh := []) hoa rfl (fun l_ => if l_ = 1 then LF else if l_ = 3 then R0 else 0), hs.closeM_ft (o := o) (ρ := fun l_ => if l_ = 1 then LF else if l_ = 3 then R0 else 0) f24 (lab_none hob rfl) rfl, hc25⟩

/-! (*tidewrack/cache.Cache).Get -/
theorem cache_Cache_Get_calls (bp0 : Nat) (Ap0_0 : Option Addr) (cp0_0 : Nat) (p0 : T62) (p1 : Int) (w : World) (o : Nat → Nat) (LF : Nat) (Lp0 : Nat) (hp0 : Ft (Bx bp0 63 [.int .i64 p0.most, .int .i64 p0.now, mv Ap0_0]) w o Lp0) (Lp0_0 : Nat) (hp0_0 : MpN dT71 true Ap0_0 p0.l w o Lp0_0 LF) (hcp0_0 : (p0.l).length ≤ cp0_0) (hd0 : ([LF, Lp0, Lp0_0] : List Nat).Nodup) (R0 : Nat) (r : (List T59) × Bool × T62) (H : cache_Cache_Get p0 p1 = some r) :
    Calls Try.prog 14 #[.pointer (some ⟨bp0, 0, none⟩), .int .i64 p1] w (Ret fun v_ w' => ∃ o' : Nat → Nat, ∃ A0 : Option Addr, ∃ c0 : Nat, ∃ A1 : Option Addr, ∃ c1 : Nat, v_ = .tuple #[.slice A0 (r.1).length c0, .bool r.2.1] ∧ St [Lp0, Lp0_0] w o w' o' ∧ Ft (Own ET59 60 (.slice A0 (r.1).length c0) r.1) w' o' R0 ∧ (r.1).length ≤ c0 ∧ Ft (Bx bp0 63 [.int .i64 r.2.2.most, .int .i64 r.2.2.now, mv A1]) w' o' Lp0 ∧ MpN dT71 true A1 r.2.2.l w' o' Lp0_0 LF ∧ (r.2.2.l).length ≤ c1) := by
  refine x_enter (vs := [.pointer (some ⟨bp0, 0, none⟩), .int .i64 p1]) Try.func14 rfl rfl rfl fun a hk => ?_
  obtain ⟨oi, hs0, h0, h1, hob, hoz, hoa⟩ := St.startM2 w o (m := 3) hd0 rfl
  have hs := hs0 [2, 3]
  have f900000 := hp0_0.conv (fun _ h_ => h1 2 3 h_ rfl rfl) (fun _ h_ => h1 0 1 h_ rfl rfl)
  have f900019 := h1 1 2 hp0 rfl rfl
  clear h0 h1 hs0
  rw [cache_Cache_Get] at H
  refine x_seq ?_
  refine wpIn_region_lit ?_
  refine x_run tab hk (k := 2) (lv := []) (ks := [0, 1]) (e' := [(0, .pointer (some ⟨bp0, 0, none⟩)), (1, .int .i64 p1)]) rfl trivial fun a hk => ?_
  refine wpListIn_nil ?_
  refine then_n ?_
  refine x_seq ?_
  refine x_seq ?_
  refine wpIn_region_lit ?_
  obtain ⟨A1, c2, f3, f4, hc5⟩ := lkT71 f900000 (P := Try.prog) tab (mt := 61) rfl rfl rfl rfl p1
  refine x_run tab hk (k := 9) (lv := [mv Ap0_0, .tuple #[.agg #[.slice A1 ((M.get zT71 p0.l p1).l).length c2, .int .i64 ((M.get zT71 p0.l p1).at_)], .bool (M.has p0.l p1)]]) (ks := [0, 1, 15, 16]) (e' := [(0, .pointer (some ⟨bp0, 0, none⟩)), (1, .int .i64 p1), (15, .agg #[.slice A1 ((M.get zT71 p0.l p1).l).length c2, .int .i64 ((M.get zT71 p0.l p1).at_)]), (16, .bool (M.has p0.l p1))]) rfl ⟨(load1 tab rfl ((Bx.cell f900019.now 2).trans rfl)), (ask_look2 f3.now rfl rfl), trivial⟩ fun a hk => ?_
  refine x_op hk rfl ?_
  refine op_alloc (o := oi) tab (t := 72) (cs := [.slice none 0 0, .int .i64 0]) rfl rfl 4 fun bx9 w6 o7 st8 f10 => ?_
  replace f4 := f4.st st8 (by decide)
  replace f900000 := f900000.st st8 (by decide)
  replace f900019 := f900019.st st8 (by decide)
  replace hs := hs.locQ st8 hob rfl
  have hk := hk.put 6 (.pointer (some ⟨bx9, 0, none⟩)) rfl
  refine x_op hk rfl ?_
  refine op_store tab hk (t := 72) (v := .agg #[.slice A1 ((M.get zT71 p0.l p1).l).length c2, .int .i64 ((M.get zT71 p0.l p1).at_)]) (b := bx9) (k := 0) (cs' := [.slice A1 ((M.get zT71 p0.l p1).l).length c2, .int .i64 ((M.get zT71 p0.l p1).at_)]) rfl rfl rfl rfl rfl rfl f10 rfl rfl fun w11 o12 st13 f10_ => ?_
  replace f4 := f4.st st13 (by decide)
  replace f900000 := f900000.st st13 (by decide)
  replace f900019 := f900019.st st13 (by decide)
  replace hs := hs.locQ st13 hob rfl
  replace f10 := f10_
  refine x_run tab hk (k := 1) (lv := []) (ks := [0, 1, 6, 7]) (e' := [(0, .pointer (some ⟨bp0, 0, none⟩)), (1, .int .i64 p1), (6, .pointer (some ⟨bx9, 0, none⟩)), (7, .bool (M.has p0.l p1))]) rfl trivial fun a hk => ?_
  refine wpListIn_nil ?_
  refine then_n ?_
  refine x_seq ?_
  refine wpIn_region_lit ?_
  refine x_run tab hk (k := 1) (lv := []) (ks := [0, 1, 6, 17]) (e' := [(0, .pointer (some ⟨bp0, 0, none⟩)), (1, .int .i64 p1), (6, .pointer (some ⟨bx9, 0, none⟩)), (17, .bool (M.has p0.l p1))]) rfl trivial fun a hk => ?_
  refine wpListIn_nil ?_
  refine then_n ?_
  cases b14 : (M.has p0.l p1)
  · rw [b14] at hk H
    replace H := bifF H
    refine x_if hk (b := false) rfl ?_
    refine (show Code.wpIn _ _ _ _ _ _ _ from ?_)
    refine wpIn_skip ?_
    refine then_n ?_
    refine x_seq ?_
    refine wpIn_region_lit ?_
    refine x_run tab hk (k := 2) (lv := []) (ks := [23, 24]) (e' := [(23, .pointer (some ⟨bp0, 0, none⟩)), (24, .int .i64 p1)]) rfl trivial fun a hk => ?_
    refine x_op hk rfl ?_
    obtain ⟨t18, hc19, H⟩ := bindS H
    refine op_call hk ent_11 (vs := [.pointer (some ⟨bp0, 0, none⟩), .int .i64 p1]) rfl (cache_Cache_Peek_calls bp0 Ap0_0 cp0_0 p0 p1 _ o12 1 2 f900019 _ f900000 hcp0_0 (by decide) (by decide) (by decide) 5  _ hc19) ?_
    rintro _ w20 ⟨o21, A23, c24, rfl, st22, f25, hc26⟩
    replace f900000 := f900000.st st22 (by decide)
    replace f900019 := f900019.st st22 (by decide)
    replace hs := hs.locQ st22 hob rfl
    have hk := hk.put 25 (.tuple #[.slice A23 (t18.1).length c24, .bool t18.2]) rfl
    refine x_run tab hk (k := 4) (lv := []) (ks := [4, 5]) (e' := [(4, .slice A23 (t18.1).length c24), (5, .bool t18.2)]) rfl trivial fun a hk => ?_
    refine wpListIn_nil ?_
    refine then_n ?_
    refine wpIn_ret ?_
    obtain rfl := Option.some.inj H
    exact x_retG hk (rs := [.tmp 4, .tmp 5]) (vs := [.slice A23 (t18.1).length c24, .bool t18.2]) rfl ⟨rfl, rfl, trivial⟩ ⟨cl w oi o [2, 3] (fun l_ => if l_ = 1 then LF else if l_ = 2 then Lp0 else if l_ = 3 then Lp0_0 else if l_ = 5 then R0 else 0) o21, A23, c24, Ap0_0, cp0_0, rfl, hs.closeF (Lm := [Lp0, Lp0_0]) (Sh := []) hoa rfl (fun l_ => if l_ = 1 then LF else if l_ = 2 then Lp0 else if l_ = 3 then Lp0_0 else if l_ = 5 then R0 else 0), hs.closeM_ft (o := o) (ρ := fun l_ => if l_ = 1 then LF else if l_ = 2 then Lp0 else if l_ = 3 then Lp0_0 else if l_ = 5 then R0 else 0) f25 (lab_none hob rfl) rfl, hc26, hs.closeM_ft (o := o) (ρ := fun l_ => if l_ = 1 then LF else if l_ = 2 then Lp0 else if l_ = 3 then Lp0_0 else if l_ = 5 then R0 else 0) f900019 (lab_at hoa (i := 1) rfl) rfl, f900000.conv (fun _ h_ => hs.closeM_ft (o := o) (ρ := fun l_ => if l_ = 1 then LF else if l_ = 2 then Lp0 else if l_ = 3 then Lp0_0 else if l_ = 5 then R0 else 0) h_ (lab_at hoa (i := 2) rfl) rfl) (fun _ h_ => hs.closeM_ft (o := o) (ρ := fun l_ => if l_ = 1 then LF else if l_ = 2 then Lp0 else if l_ = 3 then Lp0_0 else if l_ = 5 then R0 else 0) h_ (lab_at hoa (i := 0) rfl) rfl), hcp0_0⟩
  · rw [b14] at hk H
    replace H := bifT H
    refine x_if hk (b := true) rfl ?_
    refine (show Code.wpIn _ _ _ _ _ _ _ from ?_)
    refine wpIn_region_lit ?_
    refine x_run tab hk (k := 4) (lv := [.slice A1 ((M.get zT71 p0.l p1).l).length c2]) (ks := [0, 1, 18, 19, 21]) (e' := [(0, .pointer (some ⟨bp0, 0, none⟩)), (1, .int .i64 p1), (18, .pointer (some ⟨bp0, 0, none⟩)), (19, .int .i64 p1), (21, .slice A1 ((M.get zT71 p0.l p1).l).length c2)]) rfl ⟨(load1 tab rfl ((Bx.cell f10.now 0).trans rfl)), trivial⟩ fun a hk => ?_
    refine x_op hk rfl ?_
    obtain ⟨t30, hc31, H⟩ := bindS H
    refine op_call hk ent_22 (vs := [.pointer (some ⟨bp0, 0, none⟩), .int .i64 p1, .slice A1 ((M.get zT71 p0.l p1).l).length c2]) rfl (cache_Cache_touch_calls bp0 Ap0_0 cp0_0 p0 p1 A1 c2 ((M.get zT71 p0.l p1).l) _ o12 1 2 f900019 3 f900000 hcp0_0 f4 hc5 (by decide)   _ hc31) ?_
    rintro _ w32 ⟨o33, A36, c37, rfl, st34, f35, f38, hc39⟩
    replace f4 := f4.st st34 (by decide)
    replace hs := hs.locQ st34 hob rfl
    have hk := hk.put 22 (.tuple #[]) rfl
    refine wpListIn_nil ?_
    refine then_n ?_
    refine x_seq ?_
    refine wpIn_region_lit ?_
    refine x_run tab hk (k := 2) (lv := []) (ks := [23, 24]) (e' := [(23, .pointer (some ⟨bp0, 0, none⟩)), (24, .int .i64 p1)]) rfl trivial fun a hk => ?_
    refine x_op hk rfl ?_
    obtain ⟨t43, hc44, H⟩ := bindS H
    refine op_call hk ent_11 (vs := [.pointer (some ⟨bp0, 0, none⟩), .int .i64 p1]) rfl (cache_Cache_Peek_calls bp0 A36 c37 t30 p1 _ o33 1 2 f35 _ f38 hc39 (by decide) (by decide) (by decide) 6  _ hc44) ?_
    rintro _ w45 ⟨o46, A48, c49, rfl, st47, f50, hc51⟩
    replace f35 := f35.st st47 (by decide)
    replace f38 := f38.st st47 (by decide)
    replace hs := hs.locQ st47 hob rfl
    have hk := hk.put 25 (.tuple #[.slice A48 (t43.1).length c49, .bool t43.2]) rfl
    refine x_run tab hk (k := 4) (lv := []) (ks := [4, 5]) (e' := [(4, .slice A48 (t43.1).length c49), (5, .bool t43.2)]) rfl trivial fun a hk => ?_
    refine wpListIn_nil ?_
    refine then_n ?_
    refine wpIn_ret ?_
    obtain rfl := Option.some.inj H
    exact x_retG hk (rs := [.tmp 4, .tmp 5]) (vs := [.slice A48 (t43.1).length c49, .bool t43.2]) rfl ⟨rfl, rfl, trivial⟩ ⟨cl w oi o [2, 3] (fun l_ => if l_ = 1 then LF else if l_ = 2 then Lp0 else if l_ = 3 then Lp0_0 else if l_ = 6 then R0 else 0) o46, A48, c49, A36, c37, rfl, hs.closeF (Lm := [Lp0, Lp0_0]) (Sh := []) hoa rfl (fun l_ => if l_ = 1 then LF else if l_ = 2 then Lp0 else if l_ = 3 then Lp0_0 else if l_ = 6 then R0 else 0), hs.closeM_ft (o := o) (ρ := fun l_ => if l_ = 1 then LF else if l_ = 2 then Lp0 else if l_ = 3 then Lp0_0 else if l_ = 6 then R0 else 0) f50 (lab_none hob rfl) rfl, hc51, hs.closeM_ft (o := o) (ρ := fun l_ => if l_ = 1 then LF else if l_ = 2 then Lp0 else if l_ = 3 then Lp0_0 else if l_ = 6 then R0 else 0) f35 (lab_at hoa (i := 1) rfl) rfl, f38.conv (fun _ h_ => hs.closeM_ft (o := o) (ρ := fun l_ => if l_ = 1 then LF else if l_ = 2 then Lp0 else if l_ = 3 then Lp0_0 else if l_ = 6 then R0 else 0) h_ (lab_at hoa (i := 2) rfl) rfl) (fun _ h_ => hs.closeM_ft (o := o) (ρ := fun l_ => if l_ = 1 then LF else if l_ = 2 then Lp0 else if l_ = 3 then Lp0_0 else if l_ = 6 then R0 else 0) h_ (lab_at hoa (i := 0) rfl) rfl), hc39⟩

/-! (*tidewrack/cache.Cache).Len -/
theorem cache_Cache_Len_calls (bp0 : Nat) (Ap0_0 : Option Addr) (cp0_0 : Nat) (p0 : T62) (w : World) (o : Nat → Nat) (LF : Nat) (Lp0 : Nat) (hp0 : Ft (Bx bp0 63 [.int .i64 p0.most, .int .i64 p0.now, mv Ap0_0]) w o Lp0) (Lp0_0 : Nat) (hp0_0 : MpN dT71 true Ap0_0 p0.l w o Lp0_0 LF) (hcp0_0 : (p0.l).length ≤ cp0_0) (hd0 : ([LF] : List Nat).Nodup) (hd1 : Lp0_0 ∉ [LF]) (hd2 : Lp0 ∉ [LF]) (r : Int) (H : cache_Cache_Len p0 = some r) :
    Calls Try.prog 17 #[.pointer (some ⟨bp0, 0, none⟩)] w (Ret fun v_ w' => ∃ o' : Nat → Nat, v_ = .int .i64 r ∧ St [] w o w' o') := by
  refine x_enter (vs := [.pointer (some ⟨bp0, 0, none⟩)]) Try.func17 rfl rfl rfl fun a hk => ?_
  obtain ⟨oi, hs0, h0, h1, hob, hoz, hoa⟩ := St.startM2 w o (m := 1) hd0 rfl
  have hs := hs0 []
  have f900000 := hp0_0.conv (fun P_ => h0 P_ _ hd1) (fun _ h_ => h1 0 1 h_ rfl rfl)
  have f900019 := h0 _ _ hd2 hp0
  clear h0 h1 hs0
  rw [cache_Cache_Len] at H
  refine x_seq ?_
  refine wpIn_region_lit ?_
  refine x_run tab hk (k := 1) (lv := []) (ks := [0]) (e' := [(0, .pointer (some ⟨bp0, 0, none⟩))]) rfl trivial fun a hk => ?_
  refine wpListIn_nil ?_
  refine then_n ?_
  refine x_seq ?_
  refine wpIn_region_lit ?_
  have f1 := MpN.size f900000
  refine x_run tab hk (k := 6) (lv := [mv Ap0_0, .int .i64 ((p0.l).length : Int)]) (ks := [2]) (e' := [(2, .int .i64 ((p0.l).length : Int))]) rfl ⟨(load1 tab rfl ((Bx.cell f900019.now 2).trans rfl)), (ask_mlenS tab rfl f1.now rfl), trivial⟩ fun a hk => ?_
  refine wpListIn_nil ?_
  refine then_n ?_
  refine wpIn_ret ?_
  obtain rfl := Option.some.inj H
  exact x_retG hk (rs := [.tmp 2]) (vs := [.int .i64 ((p0.l).length : Int)]) rfl ⟨rfl, trivial⟩ ⟨cl w oi o [] (fun l_ => if l_ = 1 then LF else 0) oi, rfl, hs.closeF (Lm := []) (Sh := []) hoa rfl (fun l_ => if l_ = 1 then LF else 0)⟩

/-! tidewrack/tidewracklaw14.awake -/
theorem tidewracklaw14_awake_calls (K : Nat)  (w : World) (o : Nat → Nat)   (r : Bool) (H : tidewracklaw14_awake K = some r) :
    Calls Try.prog 8 #[] w (Ret fun v_ w' => ∃ o' : Nat → Nat, v_ = .bool r ∧ St [] w o w' o') := by
  refine x_enter (vs := []) Try.func8 rfl rfl rfl fun a hk => ?_
  obtain ⟨o0, hs, h0⟩ := St.start w o
  clear h0
  rw [tidewracklaw14_awake] at H
  refine x_seq ?_
  refine wpIn_region_lit ?_
  refine x_run tab hk (k := 1) (lv := []) (ks := []) (e' := []) rfl trivial fun a hk => ?_
  refine wpListIn_nil ?_
  refine then_n ?_
  refine x_seq ?_
  refine wpIn_region_lit ?_
  refine x_op hk rfl ?_
  obtain ⟨t4, hc5, H⟩ := bindS H
  refine op_call hk ent_9 (vs := [.int .i64 2]) rfl (cache_New_calls 2 _ o0 1 (by decide) 2 3  _ hc5) ?_
  rintro _ w6 ⟨o7, bx9, A11, c12, rfl, st8, f10, f13, hc14⟩
  replace hs := hs.loc0 st8 (by decide)
  have hk := hk.put 6 (.pointer (some ⟨bx9, 0, none⟩)) rfl
  refine x_run tab hk (k := 1) (lv := []) (ks := [1]) (e' := [(1, .pointer (some ⟨bx9, 0, none⟩))]) rfl trivial fun a hk => ?_
  refine wpListIn_nil ?_
  refine then_n ?_
  refine x_seq ?_
  refine x_seq ?_
  refine wpIn_region_lit ?_
  refine x_run tab hk (k := 2) (lv := []) (ks := [1, 8]) (e' := [(1, .pointer (some ⟨bx9, 0, none⟩)), (8, .bool false)]) rfl trivial fun a hk => ?_
  refine wpListIn_nil ?_
  refine then_n ?_
  refine x_if hk (b := false) rfl ?_
  refine (show Code.wpIn _ _ _ _ _ _ _ from ?_)
  refine wpIn_skip ?_
  refine then_n ?_
  refine x_seq ?_
  refine wpIn_region_lit ?_
  refine x_run tab hk (k := 2) (lv := []) (ks := [1, 9, 10]) (e' := [(1, .pointer (some ⟨bx9, 0, none⟩)), (9, .pointer (some ⟨bx9, 0, none⟩)), (10, .agg #[.int .i32 97, .int .i64 0])]) rfl trivial fun a hk => ?_
  refine x_op hk rfl ?_
  refine op_slice (o := o7) tab hk (vs := [.agg #[.int .i32 97, .int .i64 0]]) (cs := [.int .i32 97, .int .i64 0]) rfl rfl rfl rfl rfl rfl rfl rfl rfl 4 fun bx18 w15 o16 st17 f19 => ?_
  replace f10 := f10.st st17 (by decide)
  replace f13 := f13.st st17 (by decide)
  replace hs := hs.loc0 st17 (by decide)
  have f20 : Ft (Own ET59 60 (.slice (some ⟨bx18, 0, none⟩) (([(⟨97, 0⟩ : T59)] : List T59)).length 1) ([(⟨97, 0⟩ : T59)] : List T59)) w15 o16 4 := f19.imp fun _ h_ => Own.of_box h_ rfl (by simp)
  have hk := hk.put 11 (.slice (some ⟨bx18, 0, none⟩) (([(⟨97, 0⟩ : T59)] : List T59)).length 1) rfl
  refine x_op hk rfl ?_
  obtain ⟨t24, hc25, H⟩ := bindS H
  refine op_call hk ent_10 (vs := [.pointer (some ⟨bx9, 0, none⟩), .int .i64 1, .slice (some ⟨bx18, 0, none⟩) (([(⟨97, 0⟩ : T59)] : List T59)).length 1]) rfl (cache_Cache_Put_calls K bx9 A11 c12 t4 1 (some ⟨bx18, 0, none⟩) 1 ([(⟨97, 0⟩ : T59)] : List T59) _ o16 1 2 f10 3 f13 hc14 _ (f20.imp fun _ h_ => Own.rd h_) (Nat.le_refl _) (by decide) (by decide)   _ hc25) ?_
  rintro _ w26 ⟨o27, A30, c31, rfl, st28, f29, f32, hc33⟩
  replace f20 := f20.st st28 (by decide)
  replace hs := hs.loc0 st28 (by decide)
  have hk := hk.put 12 (.tuple #[.int .i64 t24.1, .bool t24.2.1]) rfl
  refine wpListIn_nil ?_
  refine then_n ?_
  refine x_seq ?_
  refine wpIn_region_lit ?_
  refine x_run tab hk (k := 1) (lv := []) (ks := [1, 13]) (e' := [(1, .pointer (some ⟨bx9, 0, none⟩)), (13, .pointer (some ⟨bx9, 0, none⟩))]) rfl trivial fun a hk => ?_
  refine x_op hk rfl ?_
  obtain ⟨t37, hc38, H⟩ := bindS H
  refine op_call hk ent_10 (vs := [.pointer (some ⟨bx9, 0, none⟩), .int .i64 2, .slice none 0 0]) rfl (cache_Cache_Put_calls K bx9 A30 c31 t24.2.2 2 none 0 ([] : List T59) _ o27 1 2 f29 3 f32 hc33 _ (Ft.of_all (fun _ h_ => absurd h_ (by simp)) _ _ 0) (by simp) (by decide) (by decide)   _ hc38) ?_
  rintro _ w39 ⟨o40, A43, c44, rfl, st41, f42, f45, hc46⟩
  replace hs := hs.loc0 st41 (by decide)
  have hk := hk.put 14 (.tuple #[.int .i64 t37.1, .bool t37.2.1]) rfl
  refine wpListIn_nil ?_
  refine then_n ?_
  refine x_seq ?_
  refine wpIn_region_lit ?_
  refine x_run tab hk (k := 1) (lv := []) (ks := [1, 16]) (e' := [(1, .pointer (some ⟨bx9, 0, none⟩)), (16, .pointer (some ⟨bx9, 0, none⟩))]) rfl trivial fun a hk => ?_
  refine x_op hk rfl ?_
  obtain ⟨t50, hc51, H⟩ := bindS H
  refine op_call hk ent_14 (vs := [.pointer (some ⟨bx9, 0, none⟩), .int .i64 1]) rfl (cache_Cache_Get_calls bx9 A43 c44 t37.2.2 1 _ o40 1 2 f42 3 f45 hc46 (by decide) 5  _ hc51) ?_
  rintro _ w52 ⟨o53, A55, c56, A60, c61, rfl, st54, f57, hc58, f59, f62, hc63⟩
  replace hs := hs.loc0 st54 (by decide)
  have hk := hk.put 17 (.tuple #[.slice A55 (t50.1).length c56, .bool t50.2.1]) rfl
  refine x_run tab hk (k := 5) (lv := []) (ks := [1, 2, 3]) (e' := [(1, .pointer (some ⟨bx9, 0, none⟩)), (2, .slice A55 (t50.1).length c56), (3, .bool t50.2.1)]) rfl trivial fun a hk => ?_
  refine wpListIn_nil ?_
  refine then_n ?_
  refine x_seq ?_
  refine wpIn_region_lit ?_
  refine x_run tab hk (k := 1) (lv := []) (ks := [1, 2, 3, 21]) (e' := [(1, .pointer (some ⟨bx9, 0, none⟩)), (2, .slice A55 (t50.1).length c56), (3, .bool t50.2.1), (21, .pointer (some ⟨bx9, 0, none⟩))]) rfl trivial fun a hk => ?_
  refine x_op hk rfl ?_
  obtain ⟨t67, hc68, H⟩ := bindS H
  refine op_call hk ent_10 (vs := [.pointer (some ⟨bx9, 0, none⟩), .int .i64 3, .slice none 0 0]) rfl (cache_Cache_Put_calls K bx9 A60 c61 t50.2.2 3 none 0 ([] : List T59) _ o53 1 2 f59 3 f62 hc63 _ (Ft.of_all (fun _ h_ => absurd h_ (by simp)) _ _ 0) (by simp) (by decide) (by decide)   _ hc68) ?_
  rintro _ w69 ⟨o70, A73, c74, rfl, st71, f72, f75, hc76⟩
  replace f57 := f57.st st71 (by decide)
  replace hs := hs.loc0 st71 (by decide)
  have hk := hk.put 22 (.tuple #[.int .i64 t67.1, .bool t67.2.1]) rfl
  refine x_run tab hk (k := 5) (lv := []) (ks := [1, 2, 3, 4, 5]) (e' := [(1, .pointer (some ⟨bx9, 0, none⟩)), (2, .slice A55 (t50.1).length c56), (3, .bool t50.2.1), (4, .int .i64 t67.1), (5, .bool t67.2.1)]) rfl trivial fun a hk => ?_
  refine wpListIn_nil ?_
  refine then_n ?_
  refine x_seq ?_
  refine wpIn_region_lit ?_
  refine x_run tab hk (k := 2) (lv := []) (ks := [1, 2, 4, 5, 26]) (e' := [(1, .pointer (some ⟨bx9, 0, none⟩)), (2, .slice A55 (t50.1).length c56), (4, .int .i64 t67.1), (5, .bool t67.2.1), (26, .bool t50.2.1)]) rfl trivial fun a hk => ?_
  cases b77 : t50.2.1
  · rw [b77] at hk H
    replace H := bifF H
    refine x_run tab hk (k := 10) (lv := []) (ks := [1, 35, 36]) (e' := [(1, .pointer (some ⟨bx9, 0, none⟩)), (35, .bool false), (36, undef)]) rfl trivial fun a hk => ?_
    refine x_run tab hk (k := 7) (lv := []) (ks := [0]) (e' := [(0, .bool false)]) rfl trivial fun a hk => ?_
    refine wpListIn_nil ?_
    refine then_n ?_
    refine wpIn_ret ?_
    obtain rfl := Option.some.inj H
    exact x_retG hk (rs := [.tmp 0]) (vs := [.bool false]) rfl ⟨rfl, trivial⟩ ⟨fun b_ => if b_ < w.heap.size then o b_ else (fun _ => 0) (o70 b_), rfl, hs.close0 o (fun _ => 0)⟩
  · rw [b77] at hk H
    replace H := bifT H
    refine x_run tab hk (k := 5) (lv := []) (ks := [1, 4, 5, 31]) (e' := [(1, .pointer (some ⟨bx9, 0, none⟩)), (4, .int .i64 t67.1), (5, .bool t67.2.1), (31, .bool (((t50.1).length : Int) == (1 : Int)))]) rfl trivial fun a hk => ?_
    cases b78 : (((t50.1).length : Int) == (1 : Int))
    · rw [b78] at hk H
      replace H := bifF H
      refine x_run tab hk (k := 10) (lv := []) (ks := [38, 41]) (e' := [(38, .bool false), (41, undef)]) rfl trivial fun a hk => ?_
      refine x_run tab hk (k := 2) (lv := []) (ks := [0]) (e' := [(0, .bool false)]) rfl trivial fun a hk => ?_
      refine wpListIn_nil ?_
      refine then_n ?_
      refine wpIn_ret ?_
      obtain rfl := Option.some.inj H
      exact x_retG hk (rs := [.tmp 0]) (vs := [.bool false]) rfl ⟨rfl, trivial⟩ ⟨fun b_ => if b_ < w.heap.size then o b_ else (fun _ => 0) (o70 b_), rfl, hs.close0 o (fun _ => 0)⟩
    · rw [b78] at hk H
      replace H := bifT H
      refine x_run tab hk (k := 4) (lv := []) (ks := [1, 5, 35]) (e' := [(1, .pointer (some ⟨bx9, 0, none⟩)), (5, .bool t67.2.1), (35, .bool (t67.1 == (2 : Int)))]) rfl trivial fun a hk => ?_
      cases b79 : (t67.1 == (2 : Int))
      · rw [b79] at hk H
        replace H := bifF H
        refine x_run tab hk (k := 8) (lv := []) (ks := [0]) (e' := [(0, .bool false)]) rfl trivial fun a hk => ?_
        refine wpListIn_nil ?_
        refine then_n ?_
        refine wpIn_ret ?_
        obtain rfl := Option.some.inj H
        exact x_retG hk (rs := [.tmp 0]) (vs := [.bool false]) rfl ⟨rfl, trivial⟩ ⟨fun b_ => if b_ < w.heap.size then o b_ else (fun _ => 0) (o70 b_), rfl, hs.close0 o (fun _ => 0)⟩
      · rw [b79] at hk H
        replace H := bifT H
        refine x_run tab hk (k := 3) (lv := []) (ks := [1, 38]) (e' := [(1, .pointer (some ⟨bx9, 0, none⟩)), (38, .bool t67.2.1)]) rfl trivial fun a hk => ?_
        cases b80 : t67.2.1
        · rw [b80] at hk H
          replace H := bifF H
          refine x_run tab hk (k := 5) (lv := []) (ks := [0]) (e' := [(0, .bool false)]) rfl trivial fun a hk => ?_
          refine wpListIn_nil ?_
          refine then_n ?_
          refine wpIn_ret ?_
          obtain rfl := Option.some.inj H
          exact x_retG hk (rs := [.tmp 0]) (vs := [.bool false]) rfl ⟨rfl, trivial⟩ ⟨fun b_ => if b_ < w.heap.size then o b_ else (fun _ => 0) (o70 b_), rfl, hs.close0 o (fun _ => 0)⟩
        · rw [b80] at hk H
          replace H := bifT H
          refine x_run tab hk (k := 1) (lv := []) (ks := [38, 39]) (e' := [(38, .bool true), (39, .pointer (some ⟨bx9, 0, none⟩))]) rfl trivial fun a hk => ?_
          refine x_op hk rfl ?_
          obtain ⟨t84, hc85, H⟩ := bindS H
          refine op_call hk ent_17 (vs := [.pointer (some ⟨bx9, 0, none⟩)]) rfl (cache_Cache_Len_calls bx9 A73 c74 t67.2.2 _ o70 1 2 f72 _ f75 hc76 (by decide) (by decide) (by decide)   _ hc85) ?_
          rintro _ w86 ⟨o87, rfl, st88⟩
          replace f72 := f72.st st88 (by decide)
          replace f75 := f75.st st88 (by decide)
          replace hs := hs.loc0 st88 (by decide)
          have hk := hk.put 40 (.int .i64 t84) rfl
          refine x_run tab hk (k := 3) (lv := []) (ks := [0]) (e' := [(0, .bool (t84 == (2 : Int)))]) rfl trivial fun a hk => ?_
          refine wpListIn_nil ?_
          refine then_n ?_
          refine wpIn_ret ?_
          obtain rfl := Option.some.inj H
          exact x_retG hk (rs := [.tmp 0]) (vs := [.bool (t84 == (2 : Int))]) rfl ⟨rfl, trivial⟩ ⟨fun b_ => if b_ < w.heap.size then o b_ else (fun _ => 0) (o87 b_), rfl, hs.close0 o (fun _ => 0)⟩

/-! tidewrack/tidewracklaw14.Told -/
theorem tidewracklaw14_Told_calls (K : Nat) (Ap0 : Option Addr) (cp0 : Nat) (p0 : List T59) (w : World) (o : Nat → Nat) (Lp0 : Nat) (hp0 : Ft (RdC ET59 Ap0 p0) w o Lp0) (hcp0 : (p0).length ≤ cp0)  (R0 : Nat) (r : List T75) (H : tidewracklaw14_Told K p0 = some r) :
    Calls Try.prog 13 #[.slice Ap0 (p0).length cp0] w (Ret fun v_ w' => ∃ o' : Nat → Nat, ∃ A0 : Option Addr, ∃ c0 : Nat, v_ = .slice A0 (r).length c0 ∧ St [] w o w' o' ∧ Ft (Own ET75 76 (.slice A0 (r).length c0) r) w' o' R0 ∧ (r).length ≤ c0) := by
  refine x_enter (vs := [.slice Ap0 (p0).length cp0]) Try.func13 rfl rfl rfl fun a hk => ?_
  obtain ⟨o0, hs, h0⟩ := St.start w o
  have f900000 := h0 _ _ hp0
  clear h0
  rw [tidewracklaw14_Told] at H
  refine x_seq ?_
  refine wpIn_region_lit ?_
  refine x_run tab hk (k := 1) (lv := []) (ks := [0]) (e' := [(0, .slice Ap0 (p0).length cp0)]) rfl trivial fun a hk => ?_
  refine wpListIn_nil ?_
  refine then_n ?_
  refine x_seq ?_
  refine wpIn_region_lit ?_
  refine x_run tab hk (k := 1) (lv := []) (ks := [0, 3]) (e' := [(0, .slice Ap0 (p0).length cp0), (3, .slice none 0 0)]) rfl trivial fun a hk => ?_
  refine wpListIn_nil ?_
  refine then_n ?_
  refine x_mid (fun a_ w_ => ∃ o100 : Nat → Nat, ∃ A101 : Option Addr, ∃ c102 : Nat, ∃ l103 : List T75, Kn 23 a_ [(3, .slice A101 (l103).length c102)] ∧ St [] w (fun _ => 0) w_ o100 ∧ Ft (Own ET75 76 (.slice A101 (l103).length c102) l103) w_ o100 10 ∧ (l103).length ≤ c102 ∧ tidewracklaw14_Told_j1 l103 = some r) ?_ ?_
  rotate_left
  · rintro a w106 ⟨o100, A101, c102, l103, hk, hs, f104, hc105, H⟩
    rw [tidewracklaw14_Told_j1] at H
    refine x_seq ?_
    refine wpIn_region_lit ?_
    refine x_run tab hk (k := 2) (lv := []) (ks := [2]) (e' := [(2, .slice A101 (l103).length c102)]) rfl trivial fun a hk => ?_
    refine wpListIn_nil ?_
    refine then_n ?_
    refine wpIn_ret ?_
    obtain rfl := Option.some.inj H
    exact x_retG hk (rs := [.tmp 2]) (vs := [.slice A101 (l103).length c102]) rfl ⟨rfl, trivial⟩ ⟨fun b_ => if b_ < w.heap.size then o b_ else (fun _ => R0) (o100 b_), A101, c102, rfl, hs.close0 o (fun _ => R0), hs.close_ft (o := o) (ρ := fun _ => R0) f104 (by decide) rfl, hc105⟩
  refine x_seq ?_
  refine wpIn_region_lit ?_
  refine x_run tab hk (k := 3) (lv := []) (ks := [3, 6, 7, 8]) (e' := [(3, .slice none 0 0), (6, .slice Ap0 (p0).length cp0), (7, .int .i64 ((p0).length : Int)), (8, .int .i64 0)]) rfl trivial fun a hk => ?_
  refine wpListIn_nil ?_
  refine then_n ?_
  refine wpIn_block ?_
  refine x_loop (fun j_ a_ w_ => ∃ o135 : Nat → Nat, ∃ A136 : Option Addr, ∃ c137 : Nat, ∃ l138 : List T75, ∃ x141 : Int, Kn 23 a_ [(3, .slice A136 (l138).length c137), (6, .slice Ap0 (p0).length cp0), (7, .int .i64 ((p0).length : Int)), (8, .int .i64 x141)] ∧ St [] w (fun _ => 0) w_ o135 ∧ Ft (Own ET75 76 (.slice A136 (l138).length c137) l138) w_ o135 14 ∧ Ft (RdC ET59 Ap0 p0) w_ o135 0 ∧ (l138).length ≤ c137 ∧ tidewracklaw14_Told_l2 p0 j_ l138 x141 = some r) (k := K) ⟨o0, none, 0, ([] : List T75), 0, (by exact Kn.pick (ks := [3, 6, 7, 8]) hk rfl), hs, (Ft.of_all (fun _ => Own.nil _ _ _) _ _ _), f900000, (by simp), H⟩ (by rintro _ _ ⟨_, _, _, _, _, _, _, _, _, _, H_⟩; exact absurd (show (none : Option (List T75)) = some r from H_) (by simp)) ?_
  rintro k168 a w167 ⟨o135, A136, c137, l138, x141, hk, hs, f139, f900000, hc140, H⟩
  rw [tidewracklaw14_Told_l2] at H
  obtain ⟨lp169, hlp170⟩ : ∃ lp_, lp_ = tidewracklaw14_Told_l2 p0 k168 := ⟨_, rfl⟩
  rw [← hlp170] at H
  refine x_seq ?_
  refine wpIn_region_lit ?_
  refine x_run tab hk (k := 1) (lv := []) (ks := [3, 6, 7, 8, 9]) (e' := [(3, .slice A136 (l138).length c137), (6, .slice Ap0 (p0).length cp0), (7, .int .i64 ((p0).length : Int)), (8, .int .i64 x141), (9, .bool (decide (x141 < ((p0).length : Int))))]) rfl trivial fun a hk => ?_
  refine wpListIn_nil ?_
  refine then_n ?_
  refine x_seq ?_
  cases b171 : (decide (x141 < ((p0).length : Int)))
  · rw [b171] at hk H
    replace H := bifF H
    refine x_if hk (b := false) rfl ?_
    refine (show Code.wpIn _ _ _ _ _ _ _ from ?_)
    refine wpIn_exit ?_
    refine then_x ?_
    refine then_x ?_
    refine blk_x ?_
    refine then_n ?_
    exact ⟨(fun b_ => (fun l_ => if l_ = 14 then 10 else l_) (o135 b_)), A136, c137, l138, (by exact Kn.pick (ks := [3]) hk rfl), (hs.relab0 (fun l_ => if l_ = 14 then 10 else l_) rfl), (f139.relab (fun l_ => if l_ = 14 then 10 else l_) rfl), hc140, H⟩
  · rw [b171] at hk H
    replace H := bifT H
    refine x_if hk (b := true) rfl ?_
    refine (show Code.wpIn _ _ _ _ _ _ _ from ?_)
    refine wpIn_skip ?_
    refine then_n ?_
    refine x_seq ?_
    refine wpIn_block ?_
    refine x_seq ?_
    refine wpIn_region_lit ?_
    obtain ⟨q172, H⟩ := ifS H
    obtain ⟨ad173, hAad173⟩ := RdC.addr f900000.now q172
    have hk_C := hk
    have f139_C := f139
    have f900000_C := f900000
    subst hAad173
    have hk := hk_C
    clear hk_C
    have f139 := f139_C
    clear f139_C
    have f900000 := f900000_C
    clear f900000_C
    refine x_run tab hk (k := 2) (lv := [.agg #[.int .i32 ((rdD zT59 p0 x141).Rune), .int .i64 ((rdD zT59 p0 x141).Style)]]) (ks := [3, 6, 7, 8, 11]) (e' := [(3, .slice A136 (l138).length c137), (6, .slice (some ad173) (p0).length cp0), (7, .int .i64 ((p0).length : Int)), (8, .int .i64 x141), (11, .agg #[.int .i32 ((rdD zT59 p0 x141).Rune), .int .i64 ((rdD zT59 p0 x141).Style)])]) rfl ⟨q172, (load_elem (E := ET59) (i := x141) (dx := zT59) tab rfl rfl f900000.now q172), trivial⟩ fun a hk => ?_
    refine x_op hk rfl ?_
    refine op_alloc (o := o135) tab (t := 60) (cs := [.int .i32 0, .int .i64 0]) rfl rfl 17 fun bx177 w174 o175 st176 f178 => ?_
    replace f139 := f139.st st176 (by decide)
    replace f900000 := f900000.st st176 (by decide)
    replace hs := hs.loc0 st176 (by decide)
    have hk := hk.put 5 (.pointer (some ⟨bx177, 0, none⟩)) rfl
    refine x_op hk rfl ?_
    refine op_store tab hk (t := 60) (v := .agg #[.int .i32 ((rdD zT59 p0 x141).Rune), .int .i64 ((rdD zT59 p0 x141).Style)]) (b := bx177) (k := 0) (cs' := [.int .i32 ((rdD zT59 p0 x141).Rune), .int .i64 ((rdD zT59 p0 x141).Style)]) rfl rfl rfl rfl rfl rfl f178 rfl rfl fun w179 o180 st181 f178_ => ?_
    replace f139 := f139.st st181 (by decide)
    replace f900000 := f900000.st st181 (by decide)
    replace hs := hs.loc0 st181 (by decide)
    replace f178 := f178_
    refine wpListIn_nil ?_
    refine then_n ?_
    refine wpIn_region_lit ?_
    refine x_run tab hk (k := 7) (lv := [.int .i32 ((rdD zT59 p0 x141).Rune), .int .i64 ((rdD zT59 p0 x141).Style)]) (ks := [6, 7, 8, 12, 18]) (e' := [(6, .slice (some ad173) (p0).length cp0), (7, .int .i64 ((p0).length : Int)), (8, .int .i64 x141), (12, .slice A136 (l138).length c137), (18, .agg #[.int .i64 (IntKind.wrap .i64 ((rdD zT59 p0 x141).Rune)), .int .i64 ((rdD zT59 p0 x141).Style)])]) rfl ⟨(load1 tab rfl ((Bx.cell f178.now 0).trans rfl)), (load1 tab rfl ((Bx.cell f178.now 1).trans rfl)), trivial⟩ fun a hk => ?_
    refine x_op hk rfl ?_
    refine op_slice (o := o180) tab hk (vs := [.agg #[.int .i64 (IntKind.wrap .i64 ((rdD zT59 p0 x141).Rune)), .int .i64 ((rdD zT59 p0 x141).Style)]]) (cs := [.int .i64 (IntKind.wrap .i64 ((rdD zT59 p0 x141).Rune)), .int .i64 ((rdD zT59 p0 x141).Style)]) rfl rfl rfl rfl rfl rfl rfl rfl rfl 18 fun bx185 w182 o183 st184 f186 => ?_
    replace f139 := f139.st st184 (by decide)
    replace f900000 := f900000.st st184 (by decide)
    replace hs := hs.loc0 st184 (by decide)
    have f187 : Ft (Own ET75 76 (.slice (some ⟨bx185, 0, none⟩) (([(⟨(IntKind.wrap .i64 ((rdD zT59 p0 x141).Rune)), (rdD zT59 p0 x141).Style⟩ : T75)] : List T75)).length 1) ([(⟨(IntKind.wrap .i64 ((rdD zT59 p0 x141).Rune)), (rdD zT59 p0 x141).Style⟩ : T75)] : List T75)) w182 o183 18 := f186.imp fun _ h_ => Own.of_box h_ rfl (by simp)
    have hk := hk.put 19 (.slice (some ⟨bx185, 0, none⟩) (([(⟨(IntKind.wrap .i64 ((rdD zT59 p0 x141).Rune)), (rdD zT59 p0 x141).Style⟩ : T75)] : List T75)).length 1) rfl
    refine x_op hk rfl ?_
    obtain ⟨q191, H⟩ := ifS H
    refine op_append (o := o183) (E := ET75) (xs := l138) (ys := ([(⟨(IntKind.wrap .i64 ((rdD zT59 p0 x141).Rune)), (rdD zT59 p0 x141).Style⟩ : T75)] : List T75)) tab hk rfl rfl rfl rfl rfl rfl rfl f139 (Own.rd f187.now) q191 fun A192 c193 w188 o189 st190 f194 hc195 => ?_
    replace f187 := f187.st st190 (by decide)
    replace f900000 := f900000.st st190 (by decide)
    replace hs := hs.loc0 st190 (by decide)
    have hk := hk.put 20 (.slice A192 ((l138 ++ ([(⟨(IntKind.wrap .i64 ((rdD zT59 p0 x141).Rune)), (rdD zT59 p0 x141).Style⟩ : T75)] : List T75))).length c193) rfl
    refine x_run tab hk (k := 1) (lv := []) (ks := [3, 6, 7, 8]) (e' := [(3, .slice A192 ((l138 ++ ([(⟨(IntKind.wrap .i64 ((rdD zT59 p0 x141).Rune)), (rdD zT59 p0 x141).Style⟩ : T75)] : List T75))).length c193), (6, .slice (some ad173) (p0).length cp0), (7, .int .i64 ((p0).length : Int)), (8, .int .i64 x141)]) rfl trivial fun a hk => ?_
    refine wpListIn_nil ?_
    refine blk_n ?_
    refine then_n ?_
    refine wpIn_region_lit ?_
    refine x_run tab hk (k := 2) (lv := []) (ks := [3, 6, 7, 8]) (e' := [(3, .slice A192 ((l138 ++ ([(⟨(IntKind.wrap .i64 ((rdD zT59 p0 x141).Rune)), (rdD zT59 p0 x141).Style⟩ : T75)] : List T75))).length c193), (6, .slice (some ad173) (p0).length cp0), (7, .int .i64 ((p0).length : Int)), (8, .int .i64 (IntKind.wrap .i64 (x141 + 1)))]) rfl trivial fun a hk => ?_
    refine wpListIn_nil ?_
    refine then_n ?_
    exact ⟨k168, Nat.le_refl _, o189, A192, c193, (l138 ++ ([(⟨(IntKind.wrap .i64 ((rdD zT59 p0 x141).Rune)), (rdD zT59 p0 x141).Style⟩ : T75)] : List T75)), (IntKind.wrap .i64 (x141 + 1)), (by exact Kn.pick (ks := [3, 6, 7, 8]) hk rfl), hs, f194, f900000, hc195, (hlp170 ▸ H)⟩

/-! tidewrack/tidewracklaw09.Glyphs -/
theorem tidewracklaw09_Glyphs_calls (K : Nat) (Ap0 : Option Addr) (cp0 : Nat) (p0 : List T59) (Ap1 : Option Addr) (cp1 : Nat) (p1 : List T75) (w : World) (o : Nat → Nat) (Lp0 : Nat) (hp0 : Ft (RdC ET59 Ap0 p0) w o Lp0) (hcp0 : (p0).length ≤ cp0) (Lp1 : Nat) (hp1 : Ft (RdC ET75 Ap1 p1) w o Lp1) (hcp1 : (p1).length ≤ cp1)  (r : Bool) (H : tidewracklaw09_Glyphs K p0 p1 = some r) :
    Calls Try.prog 12 #[.slice Ap0 (p0).length cp0, .slice Ap1 (p1).length cp1] w (Ret fun v_ w' => ∃ o' : Nat → Nat, v_ = .bool r ∧ St [] w o w' o') := by
  refine x_enter (vs := [.slice Ap0 (p0).length cp0, .slice Ap1 (p1).length cp1]) Try.func12 rfl rfl rfl fun a hk => ?_
  obtain ⟨o0, hs, h0⟩ := St.start w o
  have f900000 := h0 _ _ hp0
  have f900020 := h0 _ _ hp1
  clear h0
  rw [tidewracklaw09_Glyphs] at H
  refine x_seq ?_
  refine wpIn_region_lit ?_
  refine x_run tab hk (k := 1) (lv := []) (ks := [0, 1]) (e' := [(0, .slice Ap0 (p0).length cp0), (1, .slice Ap1 (p1).length cp1)]) rfl trivial fun a hk => ?_
  refine wpListIn_nil ?_
  refine then_n ?_
  refine x_seq ?_
  refine x_seq ?_
  refine wpIn_region_lit ?_
  refine x_run tab hk (k := 5) (lv := []) (ks := [0, 1, 11]) (e' := [(0, .slice Ap0 (p0).length cp0), (1, .slice Ap1 (p1).length cp1), (11, .bool (((p0).length : Int) != ((p1).length : Int)))]) rfl trivial fun a hk => ?_
  refine wpListIn_nil ?_
  refine then_n ?_
  cases b1 : (((p0).length : Int) != ((p1).length : Int))
  · rw [b1] at hk H
    replace H := bifF H
    refine x_if hk (b := false) rfl ?_
    refine (show Code.wpIn _ _ _ _ _ _ _ from ?_)
    refine wpIn_skip ?_
    refine then_n ?_
    refine x_mid (fun a_ w_ => ∃ o83 : Nat → Nat, Kn 39 a_ [] ∧ St [] w (fun _ => 0) w_ o83 ∧ tidewracklaw09_Glyphs_j1 = some r) ?_ ?_
    rotate_left
    · rintro a w84 ⟨o83, hk, hs, H⟩
      rw [tidewracklaw09_Glyphs_j1] at H
      refine x_seq ?_
      refine wpIn_region_lit ?_
      refine x_run tab hk (k := 1) (lv := []) (ks := [4]) (e' := [(4, .bool true)]) rfl trivial fun a hk => ?_
      refine wpListIn_nil ?_
      refine then_n ?_
      refine wpIn_ret ?_
      obtain rfl := Option.some.inj H
      exact x_retG hk (rs := [.tmp 4]) (vs := [.bool true]) rfl ⟨rfl, trivial⟩ ⟨fun b_ => if b_ < w.heap.size then o b_ else (fun _ => 0) (o83 b_), rfl, hs.close0 o (fun _ => 0)⟩
    refine x_seq ?_
    refine wpIn_region_lit ?_
    refine x_run tab hk (k := 3) (lv := []) (ks := [1, 12, 13, 14]) (e' := [(1, .slice Ap1 (p1).length cp1), (12, .slice Ap0 (p0).length cp0), (13, .int .i64 ((p0).length : Int)), (14, .int .i64 0)]) rfl trivial fun a hk => ?_
    refine wpListIn_nil ?_
    refine then_n ?_
    refine wpIn_block ?_
    refine x_loop (fun j_ a_ w_ => ∃ o111 : Nat → Nat, ∃ x112 : Int, Kn 39 a_ [(1, .slice Ap1 (p1).length cp1), (12, .slice Ap0 (p0).length cp0), (13, .int .i64 ((p0).length : Int)), (14, .int .i64 x112)] ∧ St [] w (fun _ => 0) w_ o111 ∧ Ft (RdC ET59 Ap0 p0) w_ o111 0 ∧ Ft (RdC ET75 Ap1 p1) w_ o111 0 ∧ tidewracklaw09_Glyphs_l2 p0 p1 j_ x112 = some r) (k := K) ⟨o0, 0, (by exact Kn.pick (ks := [1, 12, 13, 14]) hk rfl), hs, f900000, f900020, H⟩ (by rintro _ _ ⟨_, _, _, _, _, _, H_⟩; exact absurd (show (none : Option Bool) = some r from H_) (by simp)) ?_
    rintro k137 a w136 ⟨o111, x112, hk, hs, f900000, f900020, H⟩
    rw [tidewracklaw09_Glyphs_l2] at H
    obtain ⟨lp138, hlp139⟩ : ∃ lp_, lp_ = tidewracklaw09_Glyphs_l2 p0 p1 k137 := ⟨_, rfl⟩
    rw [← hlp139] at H
    refine x_seq ?_
    refine wpIn_region_lit ?_
    refine x_run tab hk (k := 1) (lv := []) (ks := [1, 12, 13, 14, 15]) (e' := [(1, .slice Ap1 (p1).length cp1), (12, .slice Ap0 (p0).length cp0), (13, .int .i64 ((p0).length : Int)), (14, .int .i64 x112), (15, .bool (decide (x112 < ((p0).length : Int))))]) rfl trivial fun a hk => ?_
    refine wpListIn_nil ?_
    refine then_n ?_
    refine x_seq ?_
    cases b140 : (decide (x112 < ((p0).length : Int)))
    · rw [b140] at hk H
      replace H := bifF H
      refine x_if hk (b := false) rfl ?_
      refine (show Code.wpIn _ _ _ _ _ _ _ from ?_)
      refine wpIn_exit ?_
      refine then_x ?_
      refine then_x ?_
      refine blk_x ?_
      refine then_n ?_
      exact ⟨o111, (by exact Kn.pick (ks := []) hk rfl), hs, H⟩
    · rw [b140] at hk H
      replace H := bifT H
      refine x_if hk (b := true) rfl ?_
      refine (show Code.wpIn _ _ _ _ _ _ _ from ?_)
      refine wpIn_skip ?_
      refine then_n ?_
      refine x_seq ?_
      refine wpIn_block ?_
      refine x_seq ?_
      refine wpIn_region_lit ?_
      obtain ⟨q141, H⟩ := ifS H
      obtain ⟨ad142, hAad142⟩ := RdC.addr f900000.now q141
      have hk_C := hk
      have f900000_C := f900000
      have f900020_C := f900020
      subst hAad142
      have hk := hk_C
      clear hk_C
      have f900000 := f900000_C
      clear f900000_C
      have f900020 := f900020_C
      clear f900020_C
      refine x_run tab hk (k := 3) (lv := [.agg #[.int .i32 ((rdD zT59 p0 x112).Rune), .int .i64 ((rdD zT59 p0 x112).Style)]]) (ks := [1, 12, 13, 14, 16, 18]) (e' := [(1, .slice Ap1 (p1).length cp1), (12, .slice (some ad142) (p0).length cp0), (13, .int .i64 ((p0).length : Int)), (14, .int .i64 x112), (16, .int .i64 x112), (18, .agg #[.int .i32 ((rdD zT59 p0 x112).Rune), .int .i64 ((rdD zT59 p0 x112).Style)])]) rfl ⟨q141, (load_elem (E := ET59) (i := x112) (dx := zT59) tab rfl rfl f900000.now q141), trivial⟩ fun a hk => ?_
      refine x_op hk rfl ?_
      refine op_alloc (o := o111) tab (t := 60) (cs := [.int .i32 0, .int .i64 0]) rfl rfl 6 fun bx146 w143 o144 st145 f147 => ?_
      replace f900000 := f900000.st st145 (by decide)
      replace f900020 := f900020.st st145 (by decide)
      replace hs := hs.loc0 st145 (by decide)
      have hk := hk.put 6 (.pointer (some ⟨bx146, 0, none⟩)) rfl
      refine x_run tab hk (k := 1) (lv := []) (ks := [1, 5, 6, 12, 13, 14, 18]) (e' := [(1, .slice Ap1 (p1).length cp1), (5, .int .i64 x112), (6, .pointer (some ⟨bx146, 0, none⟩)), (12, .slice (some ad142) (p0).length cp0), (13, .int .i64 ((p0).length : Int)), (14, .int .i64 x112), (18, .agg #[.int .i32 ((rdD zT59 p0 x112).Rune), .int .i64 ((rdD zT59 p0 x112).Style)])]) rfl trivial fun a hk => ?_
      refine x_op hk rfl ?_
      refine op_store tab hk (t := 60) (v := .agg #[.int .i32 ((rdD zT59 p0 x112).Rune), .int .i64 ((rdD zT59 p0 x112).Style)]) (b := bx146) (k := 0) (cs' := [.int .i32 ((rdD zT59 p0 x112).Rune), .int .i64 ((rdD zT59 p0 x112).Style)]) rfl rfl rfl rfl rfl rfl f147 rfl rfl fun w148 o149 st150 f147_ => ?_
      replace f900000 := f900000.st st150 (by decide)
      replace f900020 := f900020.st st150 (by decide)
      replace hs := hs.loc0 st150 (by decide)
      replace f147 := f147_
      refine wpListIn_nil ?_
      refine then_n ?_
      refine x_seq ?_
      refine xd_begin (o := o149) (fun W_ => (Bx bx146 60 [.int .i32 ((rdD zT59 p0 x112).Rune), .int .i64 ((rdD zT59 p0 x112).Style)]) W_ ∧ (RdC ET75 Ap1 p1) W_ ∧ True) mixed rfl rfl fun w157 st158 => ?_
      replace f147 := f147.st st158 (by decide)
      replace f900000 := f900000.st st158 (by decide)
      replace f900020 := f900020.st st158 (by decide)
      replace hs := hs.loc0 st158 (by decide)
      obtain ⟨q159, H⟩ := ifS H
      obtain ⟨ad160, hAad160⟩ := RdC.addr f900020.now q159
      have hk_C := hk
      have f147_C := f147
      have f900000_C := f900000
      have f900020_C := f900020
      subst hAad160
      have hk := hk_C
      clear hk_C
      have f147 := f147_C
      clear f147_C
      have f900000 := f900000_C
      clear f900000_C
      have f900020 := f900020_C
      clear f900020_C
      refine xd_take tab hk (k := 9) (is := [0, 1, 2, 3, 4, 5, 6, 7, 8, 9]) (ls' := #[true, true, true, true, true, true, true, true, true, true, false, false, false, false, false, false, false, false, false]) (lv := [.int .i32 ((rdD zT59 p0 x112).Rune), .int .i64 ((rdD zT75 p1 x112).Rune)]) (ks := [1, 5, 6, 12, 13, 14, 28]) (e' := [(1, .slice (some ad160) (p1).length cp1), (5, .int .i64 x112), (6, .pointer (some ⟨bx146, 0, none⟩)), (12, .slice (some ad142) (p0).length cp0), (13, .int .i64 ((p0).length : Int)), (14, .int .i64 x112), (28, .bool ((IntKind.wrap .i64 ((rdD zT59 p0 x112).Rune)) != ((rdD zT75 p1 x112).Rune)))]) (by kernel_rfl) rfl rfl (by kernel_rfl) (np_then (np_blk (np_then (np_then (np_blk (np_then np_body)))))) ⟨f147.now, f900020.now, trivial⟩ (fun W_ hS => ⟨(load1 tab rfl ((Bx.cell hS.1 0).trans rfl)), q159, (load1 tab rfl (RdC.at (E := ET75) (d := zT75) (i := x112) (j := 0) hS.2.1 q159 rfl)), trivial⟩) fun a hk => ?_
      cases b161 : ((IntKind.wrap .i64 ((rdD zT59 p0 x112).Rune)) != ((rdD zT75 p1 x112).Rune))
      · rw [b161] at hk H
        replace H := bifF H
        refine xd_take tab hk (k := 0) (is := [10, 11, 12, 13, 14, 15, 16, 17, 18]) (ls' := #[true, true, true, true, true, true, true, true, true, true, true, true, true, true, true, true, true, true, true]) (lv := [.int .i64 ((rdD zT59 p0 x112).Style), .int .i64 ((rdD zT75 p1 x112).Style)]) (ks := [1, 12, 13, 14, 37]) (e' := [(1, .slice (some ad160) (p1).length cp1), (12, .slice (some ad142) (p0).length cp0), (13, .int .i64 ((p0).length : Int)), (14, .int .i64 x112), (37, .bool (((rdD zT59 p0 x112).Style) != ((rdD zT75 p1 x112).Style)))]) (by kernel_rfl) rfl rfl (by kernel_rfl) (np_then (np_blk (np_then (np_then (np_blk (np_then np_body)))))) ⟨f147.now, f900020.now, trivial⟩ (fun W_ hS => ⟨(load1 tab rfl ((Bx.cell hS.1 1).trans rfl)), q159, (load1 tab rfl (RdC.at (E := ET75) (d := zT75) (i := x112) (j := 1) hS.2.1 q159 rfl)), trivial⟩) fun a hk => ?_
        refine xd_done (by kernel_rfl) ?_
        refine then_n ?_
        cases b162 : (((rdD zT59 p0 x112).Style) != ((rdD zT75 p1 x112).Style))
        · rw [b162] at hk H
          replace H := bifF H
          refine x_if hk (b := false) rfl ?_
          refine (show Code.wpIn _ _ _ _ _ _ _ from ?_)
          refine wpIn_skip ?_
          refine blk_n ?_
          refine then_n ?_
          refine wpIn_region_lit ?_
          refine x_run tab hk (k := 2) (lv := []) (ks := [1, 12, 13, 14]) (e' := [(1, .slice (some ad160) (p1).length cp1), (12, .slice (some ad142) (p0).length cp0), (13, .int .i64 ((p0).length : Int)), (14, .int .i64 (IntKind.wrap .i64 (x112 + 1)))]) rfl trivial fun a hk => ?_
          refine wpListIn_nil ?_
          refine then_n ?_
          exact ⟨k137, Nat.le_refl _, o149, (IntKind.wrap .i64 (x112 + 1)), (by exact Kn.pick (ks := [1, 12, 13, 14]) hk rfl), hs, f900000, f900020, (hlp139 ▸ H)⟩
        · rw [b162] at hk H
          replace H := bifT H
          refine x_if hk (b := true) rfl ?_
          refine (show Code.wpIn _ _ _ _ _ _ _ from ?_)
          refine x_seq ?_
          refine wpIn_region_lit ?_
          refine x_run tab hk (k := 1) (lv := []) (ks := [4]) (e' := [(4, .bool false)]) rfl trivial fun a hk => ?_
          refine wpListIn_nil ?_
          refine then_n ?_
          refine wpIn_ret ?_
          refine blk_r ?_
          refine then_r ?_
          refine then_r ?_
          refine blk_r ?_
          refine then_r ?_
          obtain rfl := Option.some.inj H
          exact x_retG hk (rs := [.tmp 4]) (vs := [.bool false]) rfl ⟨rfl, trivial⟩ ⟨fun b_ => if b_ < w.heap.size then o b_ else (fun _ => 0) (o149 b_), rfl, hs.close0 o (fun _ => 0)⟩
      · rw [b161] at hk H
        replace H := bifT H
        refine xd_take tab hk (k := 0) (is := [10, 11, 12, 13, 14, 15, 16, 17, 18]) (ls' := #[true, true, true, true, true, true, true, true, true, true, true, true, true, true, true, true, true, true, true]) (lv := []) (ks := [1, 12, 13, 14, 37]) (e' := [(1, .slice (some ad160) (p1).length cp1), (12, .slice (some ad142) (p0).length cp0), (13, .int .i64 ((p0).length : Int)), (14, .int .i64 x112), (37, .bool true)]) (by kernel_rfl) rfl rfl (by kernel_rfl) (np_then (np_blk (np_then (np_then (np_blk (np_then np_body)))))) ⟨f147.now, f900020.now, trivial⟩ (fun W_ hS => trivial) fun a hk => ?_
        refine xd_done (by kernel_rfl) ?_
        refine then_n ?_
        refine x_if hk (b := true) rfl ?_
        refine (show Code.wpIn _ _ _ _ _ _ _ from ?_)
        refine x_seq ?_
        refine wpIn_region_lit ?_
        refine x_run tab hk (k := 1) (lv := []) (ks := [4]) (e' := [(4, .bool false)]) rfl trivial fun a hk => ?_
        refine wpListIn_nil ?_
        refine then_n ?_
        refine wpIn_ret ?_
        refine blk_r ?_
        refine then_r ?_
        refine then_r ?_
        refine blk_r ?_
        refine then_r ?_
        obtain rfl := Option.some.inj H
        exact x_retG hk (rs := [.tmp 4]) (vs := [.bool false]) rfl ⟨rfl, trivial⟩ ⟨fun b_ => if b_ < w.heap.size then o b_ else (fun _ => 0) (o149 b_), rfl, hs.close0 o (fun _ => 0)⟩
  · rw [b1] at hk H
    replace H := bifT H
    refine x_if hk (b := true) rfl ?_
    refine (show Code.wpIn _ _ _ _ _ _ _ from ?_)
    refine x_seq ?_
    refine wpIn_region_lit ?_
    refine x_run tab hk (k := 1) (lv := []) (ks := [4]) (e' := [(4, .bool false)]) rfl trivial fun a hk => ?_
    refine wpListIn_nil ?_
    refine then_n ?_
    refine wpIn_ret ?_
    refine then_r ?_
    obtain rfl := Option.some.inj H
    exact x_retG hk (rs := [.tmp 4]) (vs := [.bool false]) rfl ⟨rfl, trivial⟩ ⟨fun b_ => if b_ < w.heap.size then o b_ else (fun _ => 0) (o0 b_), rfl, hs.close0 o (fun _ => 0)⟩

/-! tidewrack/tidewracklaw14.CacheLast -/
set_option maxHeartbeats 4000000 in
set_option maxRecDepth 20000 in
theorem tidewracklaw14_CacheLast_calls (K : Nat) (Ap0 : Option Addr) (cp0 : Nat) (p0 : List T29) (p1 : Int) (w : World) (o : Nat → Nat) (LF : Nat) (Lp0 : Nat) (Fp0 : Nat) (hp0 : NRd dT29 Ap0 p0 w o Lp0 Fp0) (hcp0 : (p0).length ≤ cp0) (hd0 : ([LF] : List Nat).Nodup) (hd1 : Lp0 ∉ [LF]) (hd2 : Fp0 ∉ [LF]) (r : Bool) (H : tidewracklaw14_CacheLast K p0 p1 = some r) :
    Calls Try.prog 3 #[.slice Ap0 (p0).length cp0, .int .i64 p1] w (Ret fun v_ w' => ∃ o' : Nat → Nat, v_ = .bool r ∧ St [] w o w' o') := by
  refine x_enter (vs := [.slice Ap0 (p0).length cp0, .int .i64 p1]) Try.func3 rfl rfl rfl fun a hk => ?_
  obtain ⟨oi, hs0, h0, h1, hob, hoz, hoa⟩ := St.startM2 w o (m := 1) hd0 rfl
  have hs := hs0 []
  have f900000 := hp0.conv (fun P_ => h0 P_ _ hd1) (fun P_ => h0 P_ _ hd2)
  clear h0 h1 hs0
  rw [tidewracklaw14_CacheLast] at H
  refine x_seq ?_
  refine wpIn_region_lit ?_
  refine x_run tab hk (k := 1) (lv := []) (ks := [0, 1]) (e' := [(0, .slice Ap0 (p0).length cp0), (1, .int .i64 p1)]) rfl trivial fun a hk => ?_
  refine wpListIn_nil ?_
  refine then_n ?_
  refine x_seq ?_
  refine x_seq ?_
  refine wpIn_region_lit ?_
  refine x_op hk rfl ?_
  obtain ⟨t4, hc5, H⟩ := bindS H
  refine op_call hk ent_8 (vs := []) rfl (tidewracklaw14_awake_calls K  _ oi    _ hc5) ?_
  rintro _ w6 ⟨o7, rfl, st8⟩
  replace f900000 := f900000.st st8 (by decide)
  replace hs := hs.locQ st8 hob rfl
  have hk := hk.put 17 (.bool t4) rfl
  refine x_run tab hk (k := 1) (lv := []) (ks := [0, 1, 18]) (e' := [(0, .slice Ap0 (p0).length cp0), (1, .int .i64 p1), (18, .bool (!t4))]) rfl trivial fun a hk => ?_
  refine wpListIn_nil ?_
  refine then_n ?_
  cases b9 : (!t4)
  · rw [b9] at hk H
    replace H := bifF H
    refine x_if hk (b := false) rfl ?_
    refine (show Code.wpIn _ _ _ _ _ _ _ from ?_)
    refine wpIn_skip ?_
    refine then_n ?_
    refine x_seq ?_
    refine wpIn_region_lit ?_
    refine x_run tab hk (k := 4) (lv := []) (ks := [0, 1]) (e' := [(0, .slice Ap0 (p0).length cp0), (1, .int .i64 (IntKind.wrap .i64 (1 + (bits .and .i64 p1 7))))]) rfl trivial fun a hk => ?_
    refine wpListIn_nil ?_
    refine then_n ?_
    refine x_seq ?_
    refine wpIn_region_lit ?_
    refine x_run tab hk (k := 1) (lv := []) (ks := [0, 1, 22]) (e' := [(0, .slice Ap0 (p0).length cp0), (1, .int .i64 (IntKind.wrap .i64 (1 + (bits .and .i64 p1 7)))), (22, .int .i64 (IntKind.wrap .i64 (1 + (bits .and .i64 p1 7))))]) rfl trivial fun a hk => ?_
    refine x_op hk rfl ?_
    obtain ⟨t13, hc14, H⟩ := bindS H
    refine op_call hk ent_9 (vs := [.int .i64 (IntKind.wrap .i64 (1 + (bits .and .i64 p1 7)))]) rfl (cache_New_calls (IntKind.wrap .i64 (1 + (bits .and .i64 p1 7))) _ o7 1 (by decide) 2 3  _ hc14) ?_
    rintro _ w15 ⟨o16, bx18, A20, c21, rfl, st17, f19, f22, hc23⟩
    replace f900000 := f900000.st st17 (by decide)
    replace hs := hs.locQ st17 hob rfl
    have hk := hk.put 23 (.pointer (some ⟨bx18, 0, none⟩)) rfl
    refine x_run tab hk (k := 1) (lv := []) (ks := [0, 1, 5]) (e' := [(0, .slice Ap0 (p0).length cp0), (1, .int .i64 (IntKind.wrap .i64 (1 + (bits .and .i64 p1 7)))), (5, .pointer (some ⟨bx18, 0, none⟩))]) rfl trivial fun a hk => ?_
    refine wpListIn_nil ?_
    refine then_n ?_
    refine x_seq ?_
    refine x_seq ?_
    refine wpIn_region_lit ?_
    refine x_run tab hk (k := 2) (lv := []) (ks := [0, 1, 5, 25]) (e' := [(0, .slice Ap0 (p0).length cp0), (1, .int .i64 (IntKind.wrap .i64 (1 + (bits .and .i64 p1 7)))), (5, .pointer (some ⟨bx18, 0, none⟩)), (25, .bool false)]) rfl trivial fun a hk => ?_
    refine wpListIn_nil ?_
    refine then_n ?_
    refine x_if hk (b := false) rfl ?_
    refine (show Code.wpIn _ _ _ _ _ _ _ from ?_)
    refine wpIn_skip ?_
    refine then_n ?_
    refine x_seq ?_
    refine wpIn_region_lit ?_
    refine x_op hk rfl ?_
    refine op_mmakeN (o := o16) rfl (dRows ET59) false 1 4 fun bx27 w24 o25 st26 f28 => ?_
    replace f19 := f19.st st26 (by decide)
    replace f22 := f22.st st26 (by decide)
    replace f900000 := f900000.st st26 (by decide)
    replace hs := hs.locQ st26 hob rfl
    have hk := hk.put 26 (mv (some ⟨bx27, 0, none⟩)) rfl
    refine x_run tab hk (k := 1) (lv := []) (ks := [0, 1, 5, 6]) (e' := [(0, .slice Ap0 (p0).length cp0), (1, .int .i64 (IntKind.wrap .i64 (1 + (bits .and .i64 p1 7)))), (5, .pointer (some ⟨bx18, 0, none⟩)), (6, mv (some ⟨bx27, 0, none⟩))]) rfl trivial fun a hk => ?_
    refine wpListIn_nil ?_
    refine then_n ?_
    refine x_seq ?_
    refine wpIn_region_lit ?_
    refine x_run tab hk (k := 1) (lv := []) (ks := [0, 1, 5, 6, 7]) (e' := [(0, .slice Ap0 (p0).length cp0), (1, .int .i64 (IntKind.wrap .i64 (1 + (bits .and .i64 p1 7)))), (5, .pointer (some ⟨bx18, 0, none⟩)), (6, mv (some ⟨bx27, 0, none⟩)), (7, .slice none 0 0)]) rfl trivial fun a hk => ?_
    refine wpListIn_nil ?_
    refine then_n ?_
    refine x_mid (fun a_ w_ => ∃ o498 : Nat → Nat, ∃ x499 : Int, ∃ x500 : Int, ∃ A501 : Option Addr, ∃ c502 : Nat, ∃ l503 : M T71, ∃ A506 : Option Addr, ∃ c507 : Nat, ∃ l508 : M (List T59), ∃ A511 : Option Addr, ∃ c512 : Nat, ∃ l513 : List Int, Kn 111 a_ [(1, .int .i64 (IntKind.wrap .i64 (1 + (bits .and .i64 p1 7)))), (5, .pointer (some ⟨bx18, 0, none⟩)), (6, mv A506), (7, .slice A511 (l513).length c512)] ∧ St [] w oi w_ o498 ∧ Ft (Bx bx18 63 [.int .i64 x499, .int .i64 x500, mv A501]) w_ o498 41 ∧ MpN dT71 true A501 l503 w_ o498 40 1 ∧ MpN (dRows ET59) false A506 l508 w_ o498 42 1 ∧ Ft (Own (encInt .i64) 3 (.slice A511 (l513).length c512) l513) w_ o498 43 ∧ (l503).length ≤ c502 ∧ (l508).length ≤ c507 ∧ (l513).length ≤ c512 ∧ tidewracklaw14_CacheLast_j1 K p1 x499 x500 l503 l508 l513 = some r) ?_ ?_
    rotate_left
    · rintro a w516 ⟨o498, x499, x500, A501, c502, l503, A506, c507, l508, A511, c512, l513, hk, hs, f19, f504, f509, f514, hc505, hc510, hc515, H⟩
      rw [tidewracklaw14_CacheLast_j1] at H
      refine x_seq ?_
      refine wpIn_region_lit ?_
      refine x_op hk rfl ?_
      refine op_mmake (o := o498) rfl encBool false 44 fun bx520 w517 o518 st519 f521 => ?_
      replace f19 := f19.st st519 (by decide)
      replace f504 := f504.st st519 (by decide)
      replace f509 := f509.st st519 (by decide)
      replace f514 := f514.st st519 (by decide)
      replace hs := hs.locQ st519 hob rfl
      have hk := hk.put 69 (mv (some ⟨bx520, 0, none⟩)) rfl
      refine x_run tab hk (k := 1) (lv := []) (ks := [1, 5, 6, 7, 11]) (e' := [(1, .int .i64 (IntKind.wrap .i64 (1 + (bits .and .i64 p1 7)))), (5, .pointer (some ⟨bx18, 0, none⟩)), (6, mv A506), (7, .slice A511 (l513).length c512), (11, mv (some ⟨bx520, 0, none⟩))]) rfl trivial fun a hk => ?_
      refine wpListIn_nil ?_
      refine then_n ?_
      refine x_mid (fun a_ w_ => ∃ o682 : Nat → Nat, Kn 111 a_ [] ∧ St [] w oi w_ o682 ∧ tidewracklaw14_CacheLast_j2 = some r) ?_ ?_
      rotate_left
      · rintro a w683 ⟨o682, hk, hs, H⟩
        rw [tidewracklaw14_CacheLast_j2] at H
        refine x_seq ?_
        refine wpIn_region_lit ?_
        refine x_run tab hk (k := 1) (lv := []) (ks := [4]) (e' := [(4, .bool true)]) rfl trivial fun a hk => ?_
        refine wpListIn_nil ?_
        refine then_n ?_
        refine wpIn_ret ?_
        obtain rfl := Option.some.inj H
        exact x_retG hk (rs := [.tmp 4]) (vs := [.bool true]) rfl ⟨rfl, trivial⟩ ⟨cl w oi o [] (fun l_ => if l_ = 1 then LF else 0) o682, rfl, hs.closeF (Lm := []) (Sh := []) hoa rfl (fun l_ => if l_ = 1 then LF else 0)⟩
      refine x_seq ?_
      refine wpIn_region_lit ?_
      refine x_run tab hk (k := 4) (lv := []) (ks := [1, 5, 6, 7, 11, 12]) (e' := [(1, .int .i64 (IntKind.wrap .i64 (1 + (bits .and .i64 p1 7)))), (5, .pointer (some ⟨bx18, 0, none⟩)), (6, mv A506), (7, .slice A511 (l513).length c512), (11, mv (some ⟨bx520, 0, none⟩)), (12, .int .i64 (IntKind.wrap .i64 (((l513).length : Int) - 1)))]) rfl trivial fun a hk => ?_
      refine wpListIn_nil ?_
      refine then_n ?_
      refine wpIn_block ?_
      refine x_loop (fun j_ a_ w_ => ∃ o734 : Nat → Nat, ∃ A735 : Option Addr, ∃ c736 : Nat, ∃ l737 : M Bool, ∃ x740 : Int, Kn 111 a_ [(1, .int .i64 (IntKind.wrap .i64 (1 + (bits .and .i64 p1 7)))), (5, .pointer (some ⟨bx18, 0, none⟩)), (6, mv A506), (7, .slice A511 (l513).length c512), (11, mv A735), (12, .int .i64 x740)] ∧ St [] w oi w_ o734 ∧ Ft (Bx bx18 63 [.int .i64 x499, .int .i64 x500, mv A501]) w_ o734 69 ∧ MpN dT71 true A501 l503 w_ o734 68 1 ∧ MpN (dRows ET59) false A506 l508 w_ o734 70 1 ∧ Ft (Own (encInt .i64) 3 (.slice A511 (l513).length c512) l513) w_ o734 71 ∧ Ft (MpF encBool false A735 l737) w_ o734 72 ∧ (l737).length ≤ c736 ∧ tidewracklaw14_CacheLast_l3 K p1 x499 x500 l503 l508 l513 j_ l737 x740 = some r) (k := K) ⟨(fun b_ => (fun l_ => if l_ = 40 then 68 else if l_ = 41 then 69 else if l_ = 42 then 70 else if l_ = 43 then 71 else if l_ = 44 then 72 else l_) (o518 b_)), (some ⟨bx520, 0, none⟩), 0, (M.new : M Bool), (IntKind.wrap .i64 (((l513).length : Int) - 1)), (by exact Kn.pick (ks := [1, 5, 6, 7, 11, 12]) hk rfl), (hs.relabM hob (fun l_ => if l_ = 40 then 68 else if l_ = 41 then 69 else if l_ = 42 then 70 else if l_ = 43 then 71 else if l_ = 44 then 72 else l_) (by decide)), (f19.relab (fun l_ => if l_ = 40 then 68 else if l_ = 41 then 69 else if l_ = 42 then 70 else if l_ = 43 then 71 else if l_ = 44 then 72 else l_) rfl), (f504.relab (fun l_ => if l_ = 40 then 68 else if l_ = 41 then 69 else if l_ = 42 then 70 else if l_ = 43 then 71 else if l_ = 44 then 72 else l_) rfl), (f509.relab (fun l_ => if l_ = 40 then 68 else if l_ = 41 then 69 else if l_ = 42 then 70 else if l_ = 43 then 71 else if l_ = 44 then 72 else l_) rfl), (f514.relab (fun l_ => if l_ = 40 then 68 else if l_ = 41 then 69 else if l_ = 42 then 70 else if l_ = 43 then 71 else if l_ = 44 then 72 else l_) rfl), (f521.relab (fun l_ => if l_ = 40 then 68 else if l_ = 41 then 69 else if l_ = 42 then 70 else if l_ = 43 then 71 else if l_ = 44 then 72 else l_) rfl), (Nat.le_refl _), H⟩ (by rintro _ _ ⟨_, _, _, _, _, _, _, _, _, _, _, _, _, H_⟩; exact absurd (show (none : Option Bool) = some r from H_) (by simp)) ?_
      rintro k790 a w789 ⟨o734, A735, c736, l737, x740, hk, hs, f19, f504, f509, f514, f738, hc739, H⟩
      rw [tidewracklaw14_CacheLast_l3] at H
      obtain ⟨lp791, hlp792⟩ : ∃ lp_, lp_ = tidewracklaw14_CacheLast_l3 K p1 x499 x500 l503 l508 l513 k790 := ⟨_, rfl⟩
      rw [← hlp792] at H
      refine x_seq ?_
      refine x_seq ?_
      refine wpIn_region_lit ?_
      refine x_run tab hk (k := 2) (lv := []) (ks := [1, 5, 6, 7, 11, 12, 74]) (e' := [(1, .int .i64 (IntKind.wrap .i64 (1 + (bits .and .i64 p1 7)))), (5, .pointer (some ⟨bx18, 0, none⟩)), (6, mv A506), (7, .slice A511 (l513).length c512), (11, mv A735), (12, .int .i64 x740), (74, .bool (decide (x740 ≥ (0 : Int))))]) rfl trivial fun a hk => ?_
      refine wpListIn_nil ?_
      refine then_n ?_
      cases b793 : (decide (x740 ≥ (0 : Int)))
      · rw [b793] at hk H
        replace H := bifF H
        refine x_if hk (b := false) rfl ?_
        refine (show Code.wpIn _ _ _ _ _ _ _ from ?_)
        refine wpIn_exit ?_
        refine then_x ?_
        refine then_x ?_
        refine blk_x ?_
        refine then_n ?_
        exact ⟨o734, (by exact Kn.pick (ks := []) hk rfl), hs, H⟩
      · rw [b793] at hk H
        replace H := bifT H
        refine x_if hk (b := true) rfl ?_
        refine (show Code.wpIn _ _ _ _ _ _ _ from ?_)
        refine wpIn_skip ?_
        refine then_n ?_
        refine x_seq ?_
        refine wpIn_block ?_
        refine x_seq ?_
        refine wpIn_region_lit ?_
        obtain ⟨q794, H⟩ := ifS H
        obtain ⟨ad795, hAad795⟩ := RdC.addr (Own.rd f514.now) q794
        have hk_C := hk
        have f19_C := f19
        have f504_C := f504
        have f509_C := f509
        have f514_C := f514
        have f738_C := f738
        subst hAad795
        have hk := hk_C
        clear hk_C
        have f19 := f19_C
        clear f19_C
        have f504 := f504_C
        clear f504_C
        have f509 := f509_C
        clear f509_C
        have f514 := f514_C
        clear f514_C
        have f738 := f738_C
        clear f738_C
        refine x_run tab hk (k := 5) (lv := [.int .i64 (rdD 0 l513 x740)]) (ks := [1, 5, 6, 7, 11, 12, 13]) (e' := [(1, .int .i64 (IntKind.wrap .i64 (1 + (bits .and .i64 p1 7)))), (5, .pointer (some ⟨bx18, 0, none⟩)), (6, mv A506), (7, .slice (some ad795) (l513).length c512), (11, mv A735), (12, .int .i64 x740), (13, .int .i64 (rdD 0 l513 x740))]) rfl ⟨q794, (load1 tab rfl (RdC.at0 (E := (encInt .i64)) (d := 0) (i := x740) (Own.rd f514.now) q794 rfl)), trivial⟩ fun a hk => ?_
        refine wpListIn_nil ?_
        refine then_n ?_
        refine x_seq ?_
        refine x_seq ?_
        refine wpIn_region_lit ?_
        refine x_run tab hk (k := 3) (lv := [.bool (M.get false l737 (rdD 0 l513 x740))]) (ks := [1, 5, 6, 7, 11, 12, 13, 83]) (e' := [(1, .int .i64 (IntKind.wrap .i64 (1 + (bits .and .i64 p1 7)))), (5, .pointer (some ⟨bx18, 0, none⟩)), (6, mv A506), (7, .slice (some ad795) (l513).length c512), (11, mv A735), (12, .int .i64 x740), (13, .int .i64 (rdD 0 l513 x740)), (83, .bool (M.get false l737 (rdD 0 l513 x740)))]) rfl ⟨(ask_look1 (E := encBool) (ag := false) (zx := false) tab rfl rfl rfl rfl f738.now rfl rfl), trivial⟩ fun a hk => ?_
        refine wpListIn_nil ?_
        refine then_n ?_
        cases b796 : (M.get false l737 (rdD 0 l513 x740))
        · rw [b796] at hk H
          replace H := bifF H
          refine x_if hk (b := false) rfl ?_
          refine (show Code.wpIn _ _ _ _ _ _ _ from ?_)
          refine wpIn_skip ?_
          refine then_n ?_
          refine x_seq ?_
          refine wpIn_region_lit ?_
          refine x_run tab hk (k := 5) (lv := [.int .i64 ((l737).length : Int)]) (ks := [1, 5, 6, 7, 11, 12, 13, 14]) (e' := [(1, .int .i64 (IntKind.wrap .i64 (1 + (bits .and .i64 p1 7)))), (5, .pointer (some ⟨bx18, 0, none⟩)), (6, mv A506), (7, .slice (some ad795) (l513).length c512), (11, mv A735), (12, .int .i64 x740), (13, .int .i64 (rdD 0 l513 x740)), (14, .bool (decide (((l737).length : Int) < (IntKind.wrap .i64 (1 + (bits .and .i64 p1 7))))))]) rfl ⟨(ask_mlen (E := encBool) (ag := false) tab rfl f738.now rfl), trivial⟩ fun a hk => ?_
          refine wpListIn_nil ?_
          refine then_n ?_
          refine x_seq ?_
          refine wpIn_region_lit ?_
          refine x_run tab hk (k := 2) (lv := []) (ks := [1, 5, 6, 7, 11, 12, 13, 14, 88, 89]) (e' := [(1, .int .i64 (IntKind.wrap .i64 (1 + (bits .and .i64 p1 7)))), (5, .pointer (some ⟨bx18, 0, none⟩)), (6, mv A506), (7, .slice (some ad795) (l513).length c512), (11, mv A735), (12, .int .i64 x740), (13, .int .i64 (rdD 0 l513 x740)), (14, .bool (decide (((l737).length : Int) < (IntKind.wrap .i64 (1 + (bits .and .i64 p1 7)))))), (88, mv A735), (89, .int .i64 (rdD 0 l513 x740))]) rfl trivial fun a hk => ?_
          refine x_op hk rfl ?_
          obtain ⟨q800, H⟩ := ifS H
          refine op_mput tab hk (E := encBool) (ag := false) (k := (rdD 0 l513 x740)) (v := true) rfl rfl rfl rfl rfl f738 q800 fun w797 st799 f738_ => ?_
          replace f19 := f19.st st799 (by decide)
          replace f504 := f504.st st799 (by decide)
          replace f509 := f509.st st799 (by decide)
          replace f514 := f514.st st799 (by decide)
          replace hs := hs.locQ st799 hob rfl
          replace f738 := f738_
          refine wpListIn_nil ?_
          refine then_n ?_
          refine x_seq ?_
          refine wpIn_region_lit ?_
          refine x_run tab hk (k := 2) (lv := []) (ks := [1, 5, 6, 7, 11, 12, 13, 14, 91, 92]) (e' := [(1, .int .i64 (IntKind.wrap .i64 (1 + (bits .and .i64 p1 7)))), (5, .pointer (some ⟨bx18, 0, none⟩)), (6, mv A506), (7, .slice (some ad795) (l513).length c512), (11, mv A735), (12, .int .i64 x740), (13, .int .i64 (rdD 0 l513 x740)), (14, .bool (decide (((l737).length : Int) < (IntKind.wrap .i64 (1 + (bits .and .i64 p1 7)))))), (91, .pointer (some ⟨bx18, 0, none⟩)), (92, .int .i64 (rdD 0 l513 x740))]) rfl trivial fun a hk => ?_
          refine x_op hk rfl ?_
          obtain ⟨t804, hc805, H⟩ := bindS H
          refine op_call hk ent_11 (vs := [.pointer (some ⟨bx18, 0, none⟩), .int .i64 (rdD 0 l513 x740)]) rfl (cache_Cache_Peek_calls bx18 A501 c502 (⟨x499, x500, l503⟩ : T62) (rdD 0 l513 x740) _ o734 1 69 f19 _ f504 hc505 (by decide) (by decide) (by decide) 75  _ hc805) ?_
          rintro _ w806 ⟨o807, A809, c810, rfl, st808, f811, hc812⟩
          replace f19 := f19.st st808 (by decide)
          replace f504 := f504.st st808 (by decide)
          replace f509 := f509.st st808 (by decide)
          replace f514 := f514.st st808 (by decide)
          replace f738 := f738.st st808 (by decide)
          replace hs := hs.locQ st808 hob rfl
          have hk := hk.put 93 (.tuple #[.slice A809 (t804.1).length c810, .bool t804.2]) rfl
          refine x_run tab hk (k := 5) (lv := []) (ks := [1, 5, 6, 7, 11, 12, 13, 14, 15, 16]) (e' := [(1, .int .i64 (IntKind.wrap .i64 (1 + (bits .and .i64 p1 7)))), (5, .pointer (some ⟨bx18, 0, none⟩)), (6, mv A506), (7, .slice (some ad795) (l513).length c512), (11, mv A735), (12, .int .i64 x740), (13, .int .i64 (rdD 0 l513 x740)), (14, .bool (decide (((l737).length : Int) < (IntKind.wrap .i64 (1 + (bits .and .i64 p1 7)))))), (15, .slice A809 (t804.1).length c810), (16, .bool t804.2)]) rfl trivial fun a hk => ?_
          refine wpListIn_nil ?_
          refine then_n ?_
          refine x_seq ?_
          refine wpIn_region_lit ?_
          refine x_run tab hk (k := 4) (lv := []) (ks := [1, 5, 6, 7, 11, 12, 13, 15, 16, 99]) (e' := [(1, .int .i64 (IntKind.wrap .i64 (1 + (bits .and .i64 p1 7)))), (5, .pointer (some ⟨bx18, 0, none⟩)), (6, mv A506), (7, .slice (some ad795) (l513).length c512), (11, mv A735), (12, .int .i64 x740), (13, .int .i64 (rdD 0 l513 x740)), (15, .slice A809 (t804.1).length c810), (16, .bool t804.2), (99, .bool (!(t804.2 == (decide (((l737).length : Int) < (IntKind.wrap .i64 (1 + (bits .and .i64 p1 7))))))))]) rfl trivial fun a hk => ?_
          cases b813 : (!(t804.2 == (decide (((l737).length : Int) < (IntKind.wrap .i64 (1 + (bits .and .i64 p1 7)))))))
          · rw [b813] at hk H
            replace H := bifF H
            refine x_run tab hk (k := 2) (lv := []) (ks := [1, 5, 6, 7, 11, 12, 13, 15, 99, 101]) (e' := [(1, .int .i64 (IntKind.wrap .i64 (1 + (bits .and .i64 p1 7)))), (5, .pointer (some ⟨bx18, 0, none⟩)), (6, mv A506), (7, .slice (some ad795) (l513).length c512), (11, mv A735), (12, .int .i64 x740), (13, .int .i64 (rdD 0 l513 x740)), (15, .slice A809 (t804.1).length c810), (99, .bool false), (101, .bool t804.2)]) rfl trivial fun a hk => ?_
            cases b814 : t804.2
            · rw [b814] at hk H
              replace H := bifF H
              refine x_run tab hk (k := 9) (lv := []) (ks := [1, 5, 6, 7, 11, 12, 110]) (e' := [(1, .int .i64 (IntKind.wrap .i64 (1 + (bits .and .i64 p1 7)))), (5, .pointer (some ⟨bx18, 0, none⟩)), (6, mv A506), (7, .slice (some ad795) (l513).length c512), (11, mv A735), (12, .int .i64 x740), (110, .bool false)]) rfl trivial fun a hk => ?_
              refine wpListIn_nil ?_
              refine then_n ?_
              refine x_if hk (b := false) rfl ?_
              refine (show Code.wpIn _ _ _ _ _ _ _ from ?_)
              refine wpIn_skip ?_
              refine blk_n ?_
              refine then_n ?_
              refine wpIn_region_lit ?_
              refine x_run tab hk (k := 3) (lv := []) (ks := [1, 5, 6, 7, 11, 12]) (e' := [(1, .int .i64 (IntKind.wrap .i64 (1 + (bits .and .i64 p1 7)))), (5, .pointer (some ⟨bx18, 0, none⟩)), (6, mv A506), (7, .slice (some ad795) (l513).length c512), (11, mv A735), (12, .int .i64 (IntKind.wrap .i64 (x740 - 1)))]) rfl trivial fun a hk => ?_
              refine wpListIn_nil ?_
              refine then_n ?_
              exact ⟨k790, Nat.le_refl _, o807, A735, ((M.put l737 (rdD 0 l513 x740) true)).length, (M.put l737 (rdD 0 l513 x740) true), (IntKind.wrap .i64 (x740 - 1)), (by exact Kn.pick (ks := [1, 5, 6, 7, 11, 12]) hk rfl), hs, f19, f504, f509, f514, f738, (Nat.le_refl _), (hlp792 ▸ H)⟩
            · rw [b814] at hk H
              replace H := bifT H
              obtain ⟨A815, c816, f817, f818, hc819⟩ := MpN.row f509 (P := Try.prog) tab (mt := 26) rfl rfl rfl (rdD 0 l513 x740)
              refine x_run tab hk (k := 4) (lv := [.slice A815 ((M.get [] l508 (rdD 0 l513 x740))).length c816]) (ks := [1, 5, 6, 7, 11, 12, 99, 101, 102, 105]) (e' := [(1, .int .i64 (IntKind.wrap .i64 (1 + (bits .and .i64 p1 7)))), (5, .pointer (some ⟨bx18, 0, none⟩)), (6, mv A506), (7, .slice (some ad795) (l513).length c512), (11, mv A735), (12, .int .i64 x740), (99, .bool false), (101, .bool true), (102, .slice A809 (t804.1).length c810), (105, .slice A815 ((M.get [] l508 (rdD 0 l513 x740))).length c816)]) rfl ⟨(ask_look3 f817.now rfl rfl), trivial⟩ fun a hk => ?_
              refine x_op hk rfl ?_
              obtain ⟨t823, hc824, H⟩ := bindS H
              refine op_call hk ent_13 (vs := [.slice A815 ((M.get [] l508 (rdD 0 l513 x740))).length c816]) rfl (tidewracklaw14_Told_calls K A815 c816 (M.get [] l508 (rdD 0 l513 x740)) _ o807 _ f818 hc819 76  _ hc824) ?_
              rintro _ w825 ⟨o826, A828, c829, rfl, st827, f830, hc831⟩
              replace f19 := f19.st st827 (by decide)
              replace f504 := f504.st st827 (by decide)
              replace f509 := f509.st st827 (by decide)
              replace f514 := f514.st st827 (by decide)
              replace f738 := f738.st st827 (by decide)
              replace f811 := f811.st st827 (by decide)
              replace f818 := f818.st st827 (by decide)
              replace hs := hs.locQ st827 hob rfl
              have hk := hk.put 106 (.slice A828 (t823).length c829) rfl
              refine x_op hk rfl ?_
              obtain ⟨t835, hc836, H⟩ := bindS H
              refine op_call hk ent_12 (vs := [.slice A809 (t804.1).length c810, .slice A828 (t823).length c829]) rfl (tidewracklaw09_Glyphs_calls K A809 c810 t804.1 A828 c829 t823 _ o826 _ (f811.imp fun _ h_ => Own.rd h_) hc812 _ (f830.imp fun _ h_ => Own.rd h_) hc831   _ hc836) ?_
              rintro _ w837 ⟨o838, rfl, st839⟩
              replace f19 := f19.st st839 (by decide)
              replace f504 := f504.st st839 (by decide)
              replace f509 := f509.st st839 (by decide)
              replace f514 := f514.st st839 (by decide)
              replace f738 := f738.st st839 (by decide)
              replace f811 := f811.st st839 (by decide)
              replace f818 := f818.st st839 (by decide)
              replace f830 := f830.st st839 (by decide)
              replace hs := hs.locQ st839 hob rfl
              have hk := hk.put 107 (.bool t835) rfl
              refine x_run tab hk (k := 3) (lv := []) (ks := [1, 5, 6, 7, 11, 12, 110]) (e' := [(1, .int .i64 (IntKind.wrap .i64 (1 + (bits .and .i64 p1 7)))), (5, .pointer (some ⟨bx18, 0, none⟩)), (6, mv A506), (7, .slice (some ad795) (l513).length c512), (11, mv A735), (12, .int .i64 x740), (110, .bool (!t835))]) rfl trivial fun a hk => ?_
              refine wpListIn_nil ?_
              refine then_n ?_
              cases b840 : (!t835)
              · rw [b840] at hk H
                replace H := bifF H
                refine x_if hk (b := false) rfl ?_
                refine (show Code.wpIn _ _ _ _ _ _ _ from ?_)
                refine wpIn_skip ?_
                refine blk_n ?_
                refine then_n ?_
                refine wpIn_region_lit ?_
                refine x_run tab hk (k := 3) (lv := []) (ks := [1, 5, 6, 7, 11, 12]) (e' := [(1, .int .i64 (IntKind.wrap .i64 (1 + (bits .and .i64 p1 7)))), (5, .pointer (some ⟨bx18, 0, none⟩)), (6, mv A506), (7, .slice (some ad795) (l513).length c512), (11, mv A735), (12, .int .i64 (IntKind.wrap .i64 (x740 - 1)))]) rfl trivial fun a hk => ?_
                refine wpListIn_nil ?_
                refine then_n ?_
                exact ⟨k790, Nat.le_refl _, o838, A735, ((M.put l737 (rdD 0 l513 x740) true)).length, (M.put l737 (rdD 0 l513 x740) true), (IntKind.wrap .i64 (x740 - 1)), (by exact Kn.pick (ks := [1, 5, 6, 7, 11, 12]) hk rfl), hs, f19, f504, f509, f514, f738, (Nat.le_refl _), (hlp792 ▸ H)⟩
              · rw [b840] at hk H
                replace H := bifT H
                refine x_if hk (b := true) rfl ?_
                refine (show Code.wpIn _ _ _ _ _ _ _ from ?_)
                refine x_seq ?_
                refine wpIn_region_lit ?_
                refine x_run tab hk (k := 1) (lv := []) (ks := [4]) (e' := [(4, .bool false)]) rfl trivial fun a hk => ?_
                refine wpListIn_nil ?_
                refine then_n ?_
                refine wpIn_ret ?_
                refine blk_r ?_
                refine then_r ?_
                refine then_r ?_
                refine blk_r ?_
                refine then_r ?_
                obtain rfl := Option.some.inj H
                exact x_retG hk (rs := [.tmp 4]) (vs := [.bool false]) rfl ⟨rfl, trivial⟩ ⟨cl w oi o [] (fun l_ => if l_ = 1 then LF else 0) o838, rfl, hs.closeF (Lm := []) (Sh := []) hoa rfl (fun l_ => if l_ = 1 then LF else 0)⟩
          · rw [b813] at hk H
            replace H := bifT H
            refine x_run tab hk (k := 10) (lv := []) (ks := [1, 5, 6, 7, 11, 12, 99, 109]) (e' := [(1, .int .i64 (IntKind.wrap .i64 (1 + (bits .and .i64 p1 7)))), (5, .pointer (some ⟨bx18, 0, none⟩)), (6, mv A506), (7, .slice (some ad795) (l513).length c512), (11, mv A735), (12, .int .i64 x740), (99, .bool true), (109, undef)]) rfl trivial fun a hk => ?_
            refine x_run tab hk (k := 1) (lv := []) (ks := [1, 5, 6, 7, 11, 12, 110]) (e' := [(1, .int .i64 (IntKind.wrap .i64 (1 + (bits .and .i64 p1 7)))), (5, .pointer (some ⟨bx18, 0, none⟩)), (6, mv A506), (7, .slice (some ad795) (l513).length c512), (11, mv A735), (12, .int .i64 x740), (110, .bool true)]) rfl trivial fun a hk => ?_
            refine wpListIn_nil ?_
            refine then_n ?_
            refine x_if hk (b := true) rfl ?_
            refine (show Code.wpIn _ _ _ _ _ _ _ from ?_)
            refine x_seq ?_
            refine wpIn_region_lit ?_
            refine x_run tab hk (k := 1) (lv := []) (ks := [4]) (e' := [(4, .bool false)]) rfl trivial fun a hk => ?_
            refine wpListIn_nil ?_
            refine then_n ?_
            refine wpIn_ret ?_
            refine blk_r ?_
            refine then_r ?_
            refine then_r ?_
            refine blk_r ?_
            refine then_r ?_
            obtain rfl := Option.some.inj H
            exact x_retG hk (rs := [.tmp 4]) (vs := [.bool false]) rfl ⟨rfl, trivial⟩ ⟨cl w oi o [] (fun l_ => if l_ = 1 then LF else 0) o807, rfl, hs.closeF (Lm := []) (Sh := []) hoa rfl (fun l_ => if l_ = 1 then LF else 0)⟩
        · rw [b796] at hk H
          replace H := bifT H
          refine x_if hk (b := true) rfl ?_
          refine (show Code.wpIn _ _ _ _ _ _ _ from ?_)
          refine wpIn_exit ?_
          refine then_x ?_
          refine blk_x ?_
          refine then_n ?_
          refine wpIn_region_lit ?_
          refine x_run tab hk (k := 3) (lv := []) (ks := [1, 5, 6, 7, 11, 12]) (e' := [(1, .int .i64 (IntKind.wrap .i64 (1 + (bits .and .i64 p1 7)))), (5, .pointer (some ⟨bx18, 0, none⟩)), (6, mv A506), (7, .slice (some ad795) (l513).length c512), (11, mv A735), (12, .int .i64 (IntKind.wrap .i64 (x740 - 1)))]) rfl trivial fun a hk => ?_
          refine wpListIn_nil ?_
          refine then_n ?_
          exact ⟨k790, Nat.le_refl _, o734, A735, c736, l737, (IntKind.wrap .i64 (x740 - 1)), (by exact Kn.pick (ks := [1, 5, 6, 7, 11, 12]) hk rfl), hs, f19, f504, f509, f514, f738, hc739, (hlp792 ▸ H)⟩
    refine x_seq ?_
    refine wpIn_region_lit ?_
    refine x_run tab hk (k := 1) (lv := []) (ks := [0, 1, 5, 6, 7, 8]) (e' := [(0, .slice Ap0 (p0).length cp0), (1, .int .i64 (IntKind.wrap .i64 (1 + (bits .and .i64 p1 7)))), (5, .pointer (some ⟨bx18, 0, none⟩)), (6, mv (some ⟨bx27, 0, none⟩)), (7, .slice none 0 0), (8, .int .i64 0)]) rfl trivial fun a hk => ?_
    refine wpListIn_nil ?_
    refine then_n ?_
    refine wpIn_block ?_
    refine x_loop (fun j_ a_ w_ => ∃ o982 : Nat → Nat, ∃ x983 : Int, ∃ x984 : Int, ∃ A985 : Option Addr, ∃ c986 : Nat, ∃ l987 : M T71, ∃ A990 : Option Addr, ∃ c991 : Nat, ∃ l992 : M (List T59), ∃ A995 : Option Addr, ∃ c996 : Nat, ∃ l997 : List Int, ∃ x1000 : Int, Kn 111 a_ [(0, .slice Ap0 (p0).length cp0), (1, .int .i64 (IntKind.wrap .i64 (1 + (bits .and .i64 p1 7)))), (5, .pointer (some ⟨bx18, 0, none⟩)), (6, mv A990), (7, .slice A995 (l997).length c996), (8, .int .i64 x1000)] ∧ St [] w oi w_ o982 ∧ Ft (Bx bx18 63 [.int .i64 x983, .int .i64 x984, mv A985]) w_ o982 90 ∧ NRd dT29 Ap0 p0 w_ o982 0 0 ∧ MpN dT71 true A985 l987 w_ o982 89 1 ∧ MpN (dRows ET59) false A990 l992 w_ o982 91 1 ∧ Ft (Own (encInt .i64) 3 (.slice A995 (l997).length c996) l997) w_ o982 92 ∧ (l987).length ≤ c986 ∧ (l992).length ≤ c991 ∧ (l997).length ≤ c996 ∧ tidewracklaw14_CacheLast_l4 K p0 p1 j_ x983 x984 l987 l992 l997 x1000 = some r) (k := K) ⟨(fun b_ => (fun l_ => if l_ = 2 then 90 else if l_ = 3 then 89 else if l_ = 4 then 91 else l_) (o25 b_)), t13.most, t13.now, A20, c21, t13.l, (some ⟨bx27, 0, none⟩), 0, (M.new : M (List T59)), none, 0, ([] : List Int), 0, (by exact Kn.pick (ks := [0, 1, 5, 6, 7, 8]) hk rfl), (hs.relabM hob (fun l_ => if l_ = 2 then 90 else if l_ = 3 then 89 else if l_ = 4 then 91 else l_) (by decide)), (f19.relab (fun l_ => if l_ = 2 then 90 else if l_ = 3 then 89 else if l_ = 4 then 91 else l_) rfl), (f900000.relab (fun l_ => if l_ = 2 then 90 else if l_ = 3 then 89 else if l_ = 4 then 91 else l_) rfl), (f22.relab (fun l_ => if l_ = 2 then 90 else if l_ = 3 then 89 else if l_ = 4 then 91 else l_) rfl), (f28.relab (fun l_ => if l_ = 2 then 90 else if l_ = 3 then 89 else if l_ = 4 then 91 else l_) rfl), (Ft.of_all (fun _ => Own.nil _ _ _) _ _ _), hc23, (Nat.le_refl _), (by simp), H⟩ (by rintro _ _ ⟨_, _, _, _, _, _, _, _, _, _, _, _, _, _, _, _, _, _, _, _, _, _, _, H_⟩; exact absurd (show (none : Option Bool) = some r from H_) (by simp)) ?_
    rintro k1141 a w1140 ⟨o982, x983, x984, A985, c986, l987, A990, c991, l992, A995, c996, l997, x1000, hk, hs, f19, f900000, f988, f993, f998, hc989, hc994, hc999, H⟩
    rw [tidewracklaw14_CacheLast_l4] at H
    obtain ⟨lp1142, hlp1143⟩ : ∃ lp_, lp_ = tidewracklaw14_CacheLast_l4 K p0 p1 k1141 := ⟨_, rfl⟩
    rw [← hlp1143] at H
    refine x_mid (fun a_ w_ => ∃ o1149 : Nat → Nat, Kn 111 a_ [(0, .slice Ap0 (p0).length cp0), (1, .int .i64 (IntKind.wrap .i64 (1 + (bits .and .i64 p1 7)))), (5, .pointer (some ⟨bx18, 0, none⟩)), (6, mv A990), (7, .slice A995 (l997).length c996), (8, .int .i64 x1000)] ∧ St [] w oi w_ o1149 ∧ Ft (Bx bx18 63 [.int .i64 x983, .int .i64 x984, mv A985]) w_ o1149 103 ∧ NRd dT29 Ap0 p0 w_ o1149 0 0 ∧ MpN dT71 true A985 l987 w_ o1149 102 1 ∧ MpN (dRows ET59) false A990 l992 w_ o1149 104 1 ∧ Ft (Own (encInt .i64) 3 (.slice A995 (l997).length c996) l997) w_ o1149 105 ∧ tidewracklaw14_CacheLast_j5 K p0 x983 x984 l987 l992 l997 x1000 lp1142 = some r) ?_ ?_
    rotate_left
    · rintro a w1150 ⟨o1149, hk, hs, f19, f900000, f988, f993, f998, H⟩
      rw [tidewracklaw14_CacheLast_j5] at H
      refine x_seq ?_
      refine wpIn_block ?_
      refine x_seq ?_
      refine wpIn_region_lit ?_
      obtain ⟨q1151, H⟩ := ifS H
      obtain ⟨ad1152, hAad1152⟩ := NRd.addr f900000 q1151
      have hk_C := hk
      have f19_C := f19
      have f900000_C := f900000
      have f988_C := f988
      have f993_C := f993
      have f998_C := f998
      subst hAad1152
      have hk := hk_C
      clear hk_C
      have f19 := f19_C
      clear f19_C
      have f900000 := f900000_C
      clear f900000_C
      have f988 := f988_C
      clear f988_C
      have f993 := f993_C
      clear f993_C
      have f998 := f998_C
      clear f998_C
      obtain ⟨A1153, c1154, f1155, f1156, hc1157⟩ := elT29 f900000 (i := x1000) q1151
      refine x_run tab hk (k := 7) (lv := [.int .i64 ((rdD zT29 p0 x1000).I)]) (ks := [0, 1, 5, 6, 7, 8, 9]) (e' := [(0, .slice (some ad1152) (p0).length cp0), (1, .int .i64 (IntKind.wrap .i64 (1 + (bits .and .i64 p1 7)))), (5, .pointer (some ⟨bx18, 0, none⟩)), (6, mv A990), (7, .slice A995 (l997).length c996), (8, .int .i64 x1000), (9, .int .i64 (bits .and .i64 ((rdD zT29 p0 x1000).I) 15))]) rfl ⟨q1151, (CellsAt.one f1155.now tab rfl 1 rfl), trivial⟩ fun a hk => ?_
      refine wpListIn_nil ?_
      refine then_n ?_
      refine x_seq ?_
      obtain ⟨A1190, c1191, f1192, f1193, hc1194⟩ := elT29 f900000 (i := x1000) q1151
      obtain ⟨q1195, H⟩ := ifS H
      obtain ⟨q1196, H⟩ := ifS H
      obtain ⟨q1205, H⟩ := ifS H
      refine xd_begin (o := o1149) (fun W_ => (fun W => CellsAt (ad1152.add (Int.toNat x1000 * 3)) [.int .i64 ((rdD zT29 p0 x1000).Kind), .int .i64 ((rdD zT29 p0 x1000).I), .slice A1190 ((rdD zT29 p0 x1000).L).length c1191] W) W_ ∧ True) mixed rfl rfl fun w1228 st1229 => ?_
      replace f1192 := f1192.st st1229 (by decide)
      replace f1193 := f1193.st st1229 (by decide)
      replace f19 := f19.st st1229 (by decide)
      replace f900000 := f900000.st st1229 (by decide)
      replace f988 := f988.st st1229 (by decide)
      replace f993 := f993.st st1229 (by decide)
      replace f998 := f998.st st1229 (by decide)
      replace hs := hs.locQ st1229 hob rfl
      obtain ⟨A1230, c1231, ak1233, f1232, hc1234⟩ := ask_cut (P := Try.prog) tab (t := 28) rfl rfl f1193 hc1194 none (some (.int .i64 (mnI (((rdD zT29 p0 x1000).L).length : Int) 10))) rfl ⟨q1195, (by have := q1196; have := hc1194; omega), trivial⟩ (by have := q1195; have := q1196; omega) (by have := q1195; have := q1196; omega)
      refine xd_take tab hk (k := 3) (is := [1, 2, 3, 4, 5, 6, 7, 8, 9, 10, 11, 12, 13]) (ls' := #[false, true, true, true, true, true, true, true, true, true, true, true, true, true, false, false]) (lv := [.slice A1190 ((rdD zT29 p0 x1000).L).length c1191, .slice A1190 ((rdD zT29 p0 x1000).L).length c1191, .slice A1230 ((List.drop 0 (List.take (Int.toNat (mnI (((rdD zT29 p0 x1000).L).length : Int) 10)) ((rdD zT29 p0 x1000).L)))).length c1231]) (ks := [0, 1, 5, 6, 7, 8, 9, 56]) (e' := [(0, .slice (some ad1152) (p0).length cp0), (1, .int .i64 (IntKind.wrap .i64 (1 + (bits .and .i64 p1 7)))), (5, .pointer (some ⟨bx18, 0, none⟩)), (6, mv A990), (7, .slice A995 (l997).length c996), (8, .int .i64 x1000), (9, .int .i64 (bits .and .i64 ((rdD zT29 p0 x1000).I) 15)), (56, .slice A1230 ((List.drop 0 (List.take (Int.toNat (mnI (((rdD zT29 p0 x1000).L).length : Int) 10)) ((rdD zT29 p0 x1000).L)))).length c1231)]) (by kernel_rfl) rfl rfl (by kernel_rfl) (np_then (np_blk (np_then (np_then (np_blk (np_then np_body)))))) ⟨f1192.now, trivial⟩ (fun W_ hS => ⟨q1151, (CellsAt.one hS.1 tab rfl 2 rfl), q1151, (CellsAt.one hS.1 tab rfl 2 rfl), (ak1233 rfl rfl rfl _), trivial⟩) fun a hk => ?_
      refine xd_op hk (i := 0) (by kernel_rfl) rfl rfl ?_
      refine op_slice (o := o1149) tab hk (vs := []) (cs := []) rfl rfl rfl rfl rfl rfl rfl rfl rfl 109 fun bx1238 w1235 o1236 st1237 f1239 => ?_
      replace f1192 := f1192.st st1237 (by decide)
      replace f1193 := f1193.st st1237 (by decide)
      replace f1232 := f1232.st st1237 (by decide)
      replace f19 := f19.st st1237 (by decide)
      replace f900000 := f900000.st st1237 (by decide)
      replace f988 := f988.st st1237 (by decide)
      replace f993 := f993.st st1237 (by decide)
      replace f998 := f998.st st1237 (by decide)
      replace hs := hs.locQ st1237 hob rfl
      have f1240 : Ft (Own ET59 60 (.slice (some ⟨bx1238, 0, none⟩) (([] : List T59)).length 0) ([] : List T59)) w1235 o1236 109 := f1239.imp fun _ h_ => Own.of_box h_ rfl (by simp)
      have hk := hk.put 43 (.slice (some ⟨bx1238, 0, none⟩) (([] : List T59)).length 0) rfl
      refine ⟨.inr ⟨f1192.now, trivial⟩, ?_⟩
      refine xd_op hk (i := 14) (by kernel_rfl) rfl rfl ?_
      refine op_append (o := o1236) (E := ET59) (xs := ([] : List T59)) (ys := (List.drop 0 (List.take (Int.toNat (mnI (((rdD zT29 p0 x1000).L).length : Int) 10)) ((rdD zT29 p0 x1000).L)))) tab hk rfl rfl rfl rfl rfl rfl rfl f1240 f1232.now q1205 fun A1244 c1245 w1241 o1242 st1243 f1246 hc1247 => ?_
      replace f1192 := f1192.st st1243 (by decide)
      replace f1193 := f1193.st st1243 (by decide)
      replace f1232 := f1232.st st1243 (by decide)
      replace f19 := f19.st st1243 (by decide)
      replace f900000 := f900000.st st1243 (by decide)
      replace f988 := f988.st st1243 (by decide)
      replace f993 := f993.st st1243 (by decide)
      replace f998 := f998.st st1243 (by decide)
      replace hs := hs.locQ st1243 hob rfl
      have hk := hk.put 57 (.slice A1244 ((([] : List T59) ++ (List.drop 0 (List.take (Int.toNat (mnI (((rdD zT29 p0 x1000).L).length : Int) 10)) ((rdD zT29 p0 x1000).L))))).length c1245) rfl
      refine ⟨.inr ⟨f1192.now, trivial⟩, ?_⟩
      refine xd_take tab hk (k := 0) (is := [15]) (ls' := #[true, true, true, true, true, true, true, true, true, true, true, true, true, true, true, true]) (lv := []) (ks := [0, 1, 5, 6, 7, 8, 9, 10]) (e' := [(0, .slice (some ad1152) (p0).length cp0), (1, .int .i64 (IntKind.wrap .i64 (1 + (bits .and .i64 p1 7)))), (5, .pointer (some ⟨bx18, 0, none⟩)), (6, mv A990), (7, .slice A995 (l997).length c996), (8, .int .i64 x1000), (9, .int .i64 (bits .and .i64 ((rdD zT29 p0 x1000).I) 15)), (10, .slice A1244 ((([] : List T59) ++ (List.drop 0 (List.take (Int.toNat (mnI (((rdD zT29 p0 x1000).L).length : Int) 10)) ((rdD zT29 p0 x1000).L))))).length c1245)]) (by kernel_rfl) rfl rfl (by kernel_rfl) (np_then (np_blk (np_then (np_then (np_blk (np_then np_body)))))) ⟨f1192.now, trivial⟩ (fun W_ hS => trivial) fun a hk => ?_
      refine xd_done (by kernel_rfl) ?_
      refine then_n ?_
      refine x_seq ?_
      refine wpIn_region_lit ?_
      refine x_run tab hk (k := 3) (lv := []) (ks := [0, 1, 5, 6, 7, 8, 9, 10, 58, 59, 60]) (e' := [(0, .slice (some ad1152) (p0).length cp0), (1, .int .i64 (IntKind.wrap .i64 (1 + (bits .and .i64 p1 7)))), (5, .pointer (some ⟨bx18, 0, none⟩)), (6, mv A990), (7, .slice A995 (l997).length c996), (8, .int .i64 x1000), (9, .int .i64 (bits .and .i64 ((rdD zT29 p0 x1000).I) 15)), (10, .slice A1244 ((([] : List T59) ++ (List.drop 0 (List.take (Int.toNat (mnI (((rdD zT29 p0 x1000).L).length : Int) 10)) ((rdD zT29 p0 x1000).L))))).length c1245), (58, .pointer (some ⟨bx18, 0, none⟩)), (59, .int .i64 (bits .and .i64 ((rdD zT29 p0 x1000).I) 15)), (60, .slice A1244 ((([] : List T59) ++ (List.drop 0 (List.take (Int.toNat (mnI (((rdD zT29 p0 x1000).L).length : Int) 10)) ((rdD zT29 p0 x1000).L))))).length c1245)]) rfl trivial fun a hk => ?_
      refine x_op hk rfl ?_
      obtain ⟨t1251, hc1252, H⟩ := bindS H
      refine op_call hk ent_10 (vs := [.pointer (some ⟨bx18, 0, none⟩), .int .i64 (bits .and .i64 ((rdD zT29 p0 x1000).I) 15), .slice A1244 ((([] : List T59) ++ (List.drop 0 (List.take (Int.toNat (mnI (((rdD zT29 p0 x1000).L).length : Int) 10)) ((rdD zT29 p0 x1000).L))))).length c1245]) rfl (cache_Cache_Put_calls K bx18 A985 c986 (⟨x983, x984, l987⟩ : T62) (bits .and .i64 ((rdD zT29 p0 x1000).I) 15) A1244 c1245 (([] : List T59) ++ (List.drop 0 (List.take (Int.toNat (mnI (((rdD zT29 p0 x1000).L).length : Int) 10)) ((rdD zT29 p0 x1000).L)))) _ o1242 1 103 f19 102 f988 hc989 _ (f1246.imp fun _ h_ => Own.rd h_) hc1247 (by decide) (by decide)   _ hc1252) ?_
      rintro _ w1253 ⟨o1254, A1257, c1258, rfl, st1255, f1256, f1259, hc1260⟩
      replace f1246 := f1246.st st1255 (by decide)
      replace f900000 := f900000.st st1255 (by decide)
      replace f993 := f993.st st1255 (by decide)
      replace f998 := f998.st st1255 (by decide)
      replace hs := hs.locQ st1255 hob rfl
      have hk := hk.put 61 (.tuple #[.int .i64 t1251.1, .bool t1251.2.1]) rfl
      refine wpListIn_nil ?_
      refine then_n ?_
      refine x_seq ?_
      refine wpIn_region_lit ?_
      refine x_run tab hk (k := 3) (lv := []) (ks := [0, 1, 5, 6, 7, 8, 9, 62, 63, 64]) (e' := [(0, .slice (some ad1152) (p0).length cp0), (1, .int .i64 (IntKind.wrap .i64 (1 + (bits .and .i64 p1 7)))), (5, .pointer (some ⟨bx18, 0, none⟩)), (6, mv A990), (7, .slice A995 (l997).length c996), (8, .int .i64 x1000), (9, .int .i64 (bits .and .i64 ((rdD zT29 p0 x1000).I) 15)), (62, mv A990), (63, .int .i64 (bits .and .i64 ((rdD zT29 p0 x1000).I) 15)), (64, .slice A1244 ((([] : List T59) ++ (List.drop 0 (List.take (Int.toNat (mnI (((rdD zT29 p0 x1000).L).length : Int) 10)) ((rdD zT29 p0 x1000).L))))).length c1245)]) rfl trivial fun a hk => ?_
      refine x_op hk rfl ?_
      obtain ⟨o1264, hR1265⟩ := relab_ex o1254 (fun l_ => if l_ = 109 then 1 else l_)
      replace hs : St [] w oi w1253 o1264 := by rw [hR1265]; exact (hs.relabM hob (fun l_ => if l_ = 109 then 1 else l_) (by decide))
      replace f1246 : Ft (Own ET59 60 (.slice A1244 ((([] : List T59) ++ (List.drop 0 (List.take (Int.toNat (mnI (((rdD zT29 p0 x1000).L).length : Int) 10)) ((rdD zT29 p0 x1000).L))))).length c1245) (([] : List T59) ++ (List.drop 0 (List.take (Int.toNat (mnI (((rdD zT29 p0 x1000).L).length : Int) 10)) ((rdD zT29 p0 x1000).L))))) w1253 o1264 1 := by rw [hR1265]; exact f1246.relab (fun l_ => if l_ = 109 then 1 else l_) rfl
      replace f1256 : Ft (Bx bx18 63 [.int .i64 t1251.2.2.most, .int .i64 t1251.2.2.now, mv A1257]) w1253 o1264 103 := by rw [hR1265]; exact f1256.relab (fun l_ => if l_ = 109 then 1 else l_) rfl
      replace f1259 : MpN dT71 true A1257 t1251.2.2.l w1253 o1264 102 1 := by rw [hR1265]; exact f1259.relab (fun l_ => if l_ = 109 then 1 else l_) rfl
      replace f900000 : NRd dT29 (some ad1152) p0 w1253 o1264 0 0 := by rw [hR1265]; exact f900000.relab (fun l_ => if l_ = 109 then 1 else l_) rfl
      replace f993 : MpN (dRows ET59) false A990 l992 w1253 o1264 104 1 := by rw [hR1265]; exact f993.relab (fun l_ => if l_ = 109 then 1 else l_) rfl
      replace f998 : Ft (Own (encInt .i64) 3 (.slice A995 (l997).length c996) l997) w1253 o1264 105 := by rw [hR1265]; exact f998.relab (fun l_ => if l_ = 109 then 1 else l_) rfl
      obtain ⟨q1266, H⟩ := ifS H
      refine op_mputN tab hk (D := (dRows ET59)) (ag := false) (k := (bits .and .i64 ((rdD zT29 p0 x1000).I) 15)) rfl rfl rfl rfl (v := (([] : List T59) ++ (List.drop 0 (List.take (Int.toNat (mnI (((rdD zT29 p0 x1000).L).length : Int) 10)) ((rdD zT29 p0 x1000).L))))) (r := (⟨A1244, c1245, (([] : List T59) ++ (List.drop 0 (List.take (Int.toNat (mnI (((rdD zT29 p0 x1000).L).length : Int) 10)) ((rdD zT29 p0 x1000).L))))⟩ : NR _)) ((f1246.imp fun _ h_ => Own.rd h_).imp fun _ h_ => ⟨h_, hc1247⟩) rfl rfl f993 (by decide) q1266 fun w1261 st1263 f993_ => ?_
      replace f1246 := f1246.st st1263 (by decide)
      replace f1256 := f1256.st st1263 (by decide)
      replace f1259 := f1259.st st1263 (by decide)
      replace f900000 := f900000.st st1263 (by decide)
      replace f998 := f998.st st1263 (by decide)
      replace hs := hs.locQ st1263 hob rfl
      replace f993 := f993_
      refine wpListIn_nil ?_
      refine then_n ?_
      refine wpIn_region_lit ?_
      refine x_run tab hk (k := 2) (lv := []) (ks := [0, 1, 5, 6, 8, 65, 66]) (e' := [(0, .slice (some ad1152) (p0).length cp0), (1, .int .i64 (IntKind.wrap .i64 (1 + (bits .and .i64 p1 7)))), (5, .pointer (some ⟨bx18, 0, none⟩)), (6, mv A990), (8, .int .i64 x1000), (65, .slice A995 (l997).length c996), (66, .int .i64 (bits .and .i64 ((rdD zT29 p0 x1000).I) 15))]) rfl trivial fun a hk => ?_
      refine x_op hk rfl ?_
      refine op_slice (o := o1264) tab hk (vs := [.int .i64 (bits .and .i64 ((rdD zT29 p0 x1000).I) 15)]) (cs := [.int .i64 (bits .and .i64 ((rdD zT29 p0 x1000).I) 15)]) rfl rfl rfl rfl rfl rfl rfl rfl rfl 110 fun bx1270 w1267 o1268 st1269 f1271 => ?_
      replace f1256 := f1256.st st1269 (by decide)
      replace f1259 := f1259.st st1269 (by decide)
      replace f900000 := f900000.st st1269 (by decide)
      replace f993 := f993.st st1269 (by decide)
      replace f998 := f998.st st1269 (by decide)
      replace hs := hs.locQ st1269 hob rfl
      have f1272 : Ft (Own (encInt .i64) 3 (.slice (some ⟨bx1270, 0, none⟩) (([(bits .and .i64 ((rdD zT29 p0 x1000).I) 15)] : List Int)).length 1) ([(bits .and .i64 ((rdD zT29 p0 x1000).I) 15)] : List Int)) w1267 o1268 110 := f1271.imp fun _ h_ => Own.of_box h_ rfl (by simp)
      have hk := hk.put 67 (.slice (some ⟨bx1270, 0, none⟩) (([(bits .and .i64 ((rdD zT29 p0 x1000).I) 15)] : List Int)).length 1) rfl
      refine x_op hk rfl ?_
      obtain ⟨q1276, H⟩ := ifS H
      refine op_append (o := o1268) (E := (encInt .i64)) (xs := l997) (ys := ([(bits .and .i64 ((rdD zT29 p0 x1000).I) 15)] : List Int)) tab hk rfl rfl rfl rfl rfl rfl rfl f998 (Own.rd f1272.now) q1276 fun A1277 c1278 w1273 o1274 st1275 f1279 hc1280 => ?_
      replace f1256 := f1256.st st1275 (by decide)
      replace f1259 := f1259.st st1275 (by decide)
      replace f1272 := f1272.st st1275 (by decide)
      replace f900000 := f900000.st st1275 (by decide)
      replace f993 := f993.st st1275 (by decide)
      replace hs := hs.locQ st1275 hob rfl
      have hk := hk.put 68 (.slice A1277 ((l997 ++ ([(bits .and .i64 ((rdD zT29 p0 x1000).I) 15)] : List Int))).length c1278) rfl
      refine x_run tab hk (k := 1) (lv := []) (ks := [0, 1, 5, 6, 7, 8]) (e' := [(0, .slice (some ad1152) (p0).length cp0), (1, .int .i64 (IntKind.wrap .i64 (1 + (bits .and .i64 p1 7)))), (5, .pointer (some ⟨bx18, 0, none⟩)), (6, mv A990), (7, .slice A1277 ((l997 ++ ([(bits .and .i64 ((rdD zT29 p0 x1000).I) 15)] : List Int))).length c1278), (8, .int .i64 x1000)]) rfl trivial fun a hk => ?_
      refine wpListIn_nil ?_
      refine blk_n ?_
      refine then_n ?_
      refine wpIn_region_lit ?_
      refine x_run tab hk (k := 3) (lv := []) (ks := [0, 1, 5, 6, 7, 8]) (e' := [(0, .slice (some ad1152) (p0).length cp0), (1, .int .i64 (IntKind.wrap .i64 (1 + (bits .and .i64 p1 7)))), (5, .pointer (some ⟨bx18, 0, none⟩)), (6, mv A990), (7, .slice A1277 ((l997 ++ ([(bits .and .i64 ((rdD zT29 p0 x1000).I) 15)] : List Int))).length c1278), (8, .int .i64 (IntKind.wrap .i64 (x1000 + 1)))]) rfl trivial fun a hk => ?_
      refine wpListIn_nil ?_
      refine then_n ?_
      exact ⟨k1141, Nat.le_refl _, (fun b_ => (fun l_ => if l_ = 102 then 89 else if l_ = 103 then 90 else if l_ = 104 then 91 else if l_ = 105 then 92 else l_) (o1274 b_)), t1251.2.2.most, t1251.2.2.now, A1257, c1258, t1251.2.2.l, A990, ((M.put l992 (bits .and .i64 ((rdD zT29 p0 x1000).I) 15) (([] : List T59) ++ (List.drop 0 (List.take (Int.toNat (mnI (((rdD zT29 p0 x1000).L).length : Int) 10)) ((rdD zT29 p0 x1000).L)))))).length, (M.put l992 (bits .and .i64 ((rdD zT29 p0 x1000).I) 15) (([] : List T59) ++ (List.drop 0 (List.take (Int.toNat (mnI (((rdD zT29 p0 x1000).L).length : Int) 10)) ((rdD zT29 p0 x1000).L))))), A1277, c1278, (l997 ++ ([(bits .and .i64 ((rdD zT29 p0 x1000).I) 15)] : List Int)), (IntKind.wrap .i64 (x1000 + 1)), (by exact Kn.pick (ks := [0, 1, 5, 6, 7, 8]) hk rfl), (hs.relabM hob (fun l_ => if l_ = 102 then 89 else if l_ = 103 then 90 else if l_ = 104 then 91 else if l_ = 105 then 92 else l_) (by decide)), (f1256.relab (fun l_ => if l_ = 102 then 89 else if l_ = 103 then 90 else if l_ = 104 then 91 else if l_ = 105 then 92 else l_) rfl), (f900000.relab (fun l_ => if l_ = 102 then 89 else if l_ = 103 then 90 else if l_ = 104 then 91 else if l_ = 105 then 92 else l_) rfl), (f1259.relab (fun l_ => if l_ = 102 then 89 else if l_ = 103 then 90 else if l_ = 104 then 91 else if l_ = 105 then 92 else l_) rfl), (f993.relab (fun l_ => if l_ = 102 then 89 else if l_ = 103 then 90 else if l_ = 104 then 91 else if l_ = 105 then 92 else l_) rfl), (f1279.relab (fun l_ => if l_ = 102 then 89 else if l_ = 103 then 90 else if l_ = 104 then 91 else if l_ = 105 then 92 else l_) rfl), hc1260, (Nat.le_refl _), hc1280, (hlp1143 ▸ H)⟩
    refine x_seq ?_
    refine wpIn_region_lit ?_
    refine x_run tab hk (k := 5) (lv := []) (ks := [0, 1, 5, 6, 7, 8, 31]) (e' := [(0, .slice Ap0 (p0).length cp0), (1, .int .i64 (IntKind.wrap .i64 (1 + (bits .and .i64 p1 7)))), (5, .pointer (some ⟨bx18, 0, none⟩)), (6, mv A990), (7, .slice A995 (l997).length c996), (8, .int .i64 x1000), (31, .bool (decide (x1000 < ((p0).length : Int))))]) rfl trivial fun a hk => ?_
    cases b1281 : (decide (x1000 < ((p0).length : Int)))
    · rw [b1281] at hk H
      replace H := bifF H
      refine x_run tab hk (k := 3) (lv := []) (ks := [0, 1, 5, 6, 7, 8, 34]) (e' := [(0, .slice Ap0 (p0).length cp0), (1, .int .i64 (IntKind.wrap .i64 (1 + (bits .and .i64 p1 7)))), (5, .pointer (some ⟨bx18, 0, none⟩)), (6, mv A990), (7, .slice A995 (l997).length c996), (8, .int .i64 x1000), (34, .bool false)]) rfl trivial fun a hk => ?_
      refine wpListIn_nil ?_
      refine then_n ?_
      refine x_if hk (b := false) rfl ?_
      refine (show Code.wpIn _ _ _ _ _ _ _ from ?_)
      refine wpIn_exit ?_
      refine then_x ?_
      refine then_x ?_
      refine blk_x ?_
      refine then_n ?_
      exact ⟨(fun b_ => (fun l_ => if l_ = 89 then 40 else if l_ = 90 then 41 else if l_ = 91 then 42 else if l_ = 92 then 43 else l_) (o982 b_)), x983, x984, A985, c986, l987, A990, c991, l992, A995, c996, l997, (by exact Kn.pick (ks := [1, 5, 6, 7]) hk rfl), (hs.relabM hob (fun l_ => if l_ = 89 then 40 else if l_ = 90 then 41 else if l_ = 91 then 42 else if l_ = 92 then 43 else l_) (by decide)), (f19.relab (fun l_ => if l_ = 89 then 40 else if l_ = 90 then 41 else if l_ = 91 then 42 else if l_ = 92 then 43 else l_) rfl), (f988.relab (fun l_ => if l_ = 89 then 40 else if l_ = 90 then 41 else if l_ = 91 then 42 else if l_ = 92 then 43 else l_) rfl), (f993.relab (fun l_ => if l_ = 89 then 40 else if l_ = 90 then 41 else if l_ = 91 then 42 else if l_ = 92 then 43 else l_) rfl), (f998.relab (fun l_ => if l_ = 89 then 40 else if l_ = 90 then 41 else if l_ = 91 then 42 else if l_ = 92 then 43 else l_) rfl), hc989, hc994, hc999, H⟩
    · rw [b1281] at hk H
      replace H := bifT H
      refine x_run tab hk (k := 3) (lv := []) (ks := [0, 1, 5, 6, 7, 8, 34]) (e' := [(0, .slice Ap0 (p0).length cp0), (1, .int .i64 (IntKind.wrap .i64 (1 + (bits .and .i64 p1 7)))), (5, .pointer (some ⟨bx18, 0, none⟩)), (6, mv A990), (7, .slice A995 (l997).length c996), (8, .int .i64 x1000), (34, .bool (decide (x1000 < (30 : Int))))]) rfl trivial fun a hk => ?_
      refine wpListIn_nil ?_
      refine then_n ?_
      cases b1282 : (decide (x1000 < (30 : Int)))
      · rw [b1282] at hk H
        replace H := bifF H
        refine x_if hk (b := false) rfl ?_
        refine (show Code.wpIn _ _ _ _ _ _ _ from ?_)
        refine wpIn_exit ?_
        refine then_x ?_
        refine then_x ?_
        refine blk_x ?_
        refine then_n ?_
        exact ⟨(fun b_ => (fun l_ => if l_ = 89 then 40 else if l_ = 90 then 41 else if l_ = 91 then 42 else if l_ = 92 then 43 else l_) (o982 b_)), x983, x984, A985, c986, l987, A990, c991, l992, A995, c996, l997, (by exact Kn.pick (ks := [1, 5, 6, 7]) hk rfl), (hs.relabM hob (fun l_ => if l_ = 89 then 40 else if l_ = 90 then 41 else if l_ = 91 then 42 else if l_ = 92 then 43 else l_) (by decide)), (f19.relab (fun l_ => if l_ = 89 then 40 else if l_ = 90 then 41 else if l_ = 91 then 42 else if l_ = 92 then 43 else l_) rfl), (f988.relab (fun l_ => if l_ = 89 then 40 else if l_ = 90 then 41 else if l_ = 91 then 42 else if l_ = 92 then 43 else l_) rfl), (f993.relab (fun l_ => if l_ = 89 then 40 else if l_ = 90 then 41 else if l_ = 91 then 42 else if l_ = 92 then 43 else l_) rfl), (f998.relab (fun l_ => if l_ = 89 then 40 else if l_ = 90 then 41 else if l_ = 91 then 42 else if l_ = 92 then 43 else l_) rfl), hc989, hc994, hc999, H⟩
      · rw [b1282] at hk H
        replace H := bifT H
        refine x_if hk (b := true) rfl ?_
        refine (show Code.wpIn _ _ _ _ _ _ _ from ?_)
        refine wpIn_skip ?_
        refine then_n ?_
        exact ⟨(fun b_ => (fun l_ => if l_ = 89 then 102 else if l_ = 90 then 103 else if l_ = 91 then 104 else if l_ = 92 then 105 else l_) (o982 b_)), (by exact Kn.pick (ks := [0, 1, 5, 6, 7, 8]) hk rfl), (hs.relabM hob (fun l_ => if l_ = 89 then 102 else if l_ = 90 then 103 else if l_ = 91 then 104 else if l_ = 92 then 105 else l_) (by decide)), (f19.relab (fun l_ => if l_ = 89 then 102 else if l_ = 90 then 103 else if l_ = 91 then 104 else if l_ = 92 then 105 else l_) rfl), (f900000.relab (fun l_ => if l_ = 89 then 102 else if l_ = 90 then 103 else if l_ = 91 then 104 else if l_ = 92 then 105 else l_) rfl), (f988.relab (fun l_ => if l_ = 89 then 102 else if l_ = 90 then 103 else if l_ = 91 then 104 else if l_ = 92 then 105 else l_) rfl), (f993.relab (fun l_ => if l_ = 89 then 102 else if l_ = 90 then 103 else if l_ = 91 then 104 else if l_ = 92 then 105 else l_) rfl), (f998.relab (fun l_ => if l_ = 89 then 102 else if l_ = 90 then 103 else if l_ = 91 then 104 else if l_ = 92 then 105 else l_) rfl), H⟩
  · rw [b9] at hk H
    replace H := bifT H
    refine x_if hk (b := true) rfl ?_
    refine (show Code.wpIn _ _ _ _ _ _ _ from ?_)
    refine x_seq ?_
    refine wpIn_region_lit ?_
    refine x_run tab hk (k := 1) (lv := []) (ks := [4]) (e' := [(4, .bool false)]) rfl trivial fun a hk => ?_
    refine wpListIn_nil ?_
    refine then_n ?_
    refine wpIn_ret ?_
    refine then_r ?_
    obtain rfl := Option.some.inj H
    exact x_retG hk (rs := [.tmp 4]) (vs := [.bool false]) rfl ⟨rfl, trivial⟩ ⟨cl w oi o [] (fun l_ => if l_ = 1 then LF else 0) o7, rfl, hs.closeF (Lm := []) (Sh := []) hoa rfl (fun l_ => if l_ = 1 then LF else 0)⟩

end Go.Proofs.Ythmlldkmgdjeoaa
