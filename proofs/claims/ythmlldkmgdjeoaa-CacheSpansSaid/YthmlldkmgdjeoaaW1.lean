/- Walks, printed by an own program: the machine's calls compute the plain functions. -/
import Derived.Test.YthmlldkmgdjeoaaW0
import Derived.Test.YthmlldkmgdjeoaaO
set_option linter.unusedVariables false
set_option linter.unusedSimpArgs false
namespace Go.Proofs.Ythmlldkmgdjeoaa
open Go Go.Proofs.XC
/-! tidewrack/cache.New -/
theorem cache_New_calls (p0 : Int) (w : World) (o : Nat → Nat) (LF : Nat)  (hd0 : ([LF] : List Nat).Nodup) (R0 : Nat) (R1 : Nat) (r : T62) (H : cache_New p0 = some r) :
    Calls Try.prog 9 #[.int .i64 p0] w (Ret fun v_ w' => ∃ o' : Nat → Nat, ∃ b0 : Nat, ∃ A0 : Option Addr, ∃ c0 : Nat, v_ = .pointer (some ⟨b0, 0, none⟩) ∧ St [] w o w' o' ∧ Ft (Bx b0 63 [.int .i64 r.most, .int .i64 r.now, mv A0]) w' o' R0 ∧ MpN dT71 true A0 r.l w' o' R1 LF ∧ (r.l).length ≤ c0) := by
  refine x_enter (vs := [.int .i64 p0]) Try.func9 rfl rfl rfl fun a hk => ?_
  obtain ⟨oi, hs0, h0, h1, hob, hoz, hoa⟩ := St.startM2 w o (m := 1) hd0 rfl
  have hs := hs0 []
  clear h0 h1 hs0
  rw [cache_New] at H
  refine x_seq ?_
  refine wpIn_region_lit ?_
  refine x_run tab hk (k := 1) (lv := []) (ks := [0]) (e' := [(0, .int .i64 p0)]) rfl trivial fun a hk => ?_
  refine wpListIn_nil ?_
  refine then_n ?_
  refine x_seq ?_
  refine wpIn_region_lit ?_
  refine x_run tab hk (k := 3) (lv := []) (ks := [5]) (e' := [(5, .int .i64 (mxI 1 (mnI p0 65536)))]) rfl trivial fun a hk => ?_
  refine x_op hk rfl ?_
  refine op_mmakeN (o := oi) rfl dT71 true 1 2 fun bx4 w1 o2 st3 f5 => ?_
  replace hs := hs.locQ st3 hob rfl
  have hk := hk.put 6 (mv (some ⟨bx4, 0, none⟩)) rfl
  refine x_run tab hk (k := 1) (lv := []) (ks := [7]) (e' := [(7, .agg #[.int .i64 (mxI 1 (mnI p0 65536)), .int .i64 0, mv (some ⟨bx4, 0, none⟩)])]) rfl trivial fun a hk => ?_
  refine x_op hk rfl ?_
  refine op_box (o := o2) (t := 63) (v := .agg #[.int .i64 (mxI 1 (mnI p0 65536)), .int .i64 0, mv (some ⟨bx4, 0, none⟩)]) (cs := [.int .i64 (mxI 1 (mnI p0 65536)), .int .i64 0, mv (some ⟨bx4, 0, none⟩)]) hk rfl rfl 3 fun bx9 w6 o7 st8 f10 => ?_
  replace f5 := f5.st st8 (by decide)
  replace hs := hs.locQ st8 hob rfl
  have hk := hk.put 8 (.pointer (some ⟨bx9, 0, none⟩)) rfl
  refine x_run tab hk (k := 1) (lv := []) (ks := [2]) (e' := [(2, .pointer (some ⟨bx9, 0, none⟩))]) rfl trivial fun a hk => ?_
  refine wpListIn_nil ?_
  refine then_n ?_
  refine wpIn_ret ?_
  obtain rfl := Option.some.inj H
  exact x_retG hk (rs := [.tmp 2]) (vs := [.pointer (some ⟨bx9, 0, none⟩)]) rfl ⟨rfl, trivial⟩ ⟨cl w oi o [] (fun l_ => if l_ = 1 then LF else if l_ = 2 then R1 else if l_ = 3 then R0 else 0) o7, bx9, (some ⟨bx4, 0, none⟩), 0, rfl, hs.closeF (Lm := []) (Sh := []) hoa rfl (fun l_ => if l_ = 1 then LF else if l_ = 2 then R1 else if l_ = 3 then R0 else 0), hs.closeM_ft (o := o) (ρ := fun l_ => if l_ = 1 then LF else if l_ = 2 then R1 else if l_ = 3 then R0 else 0) f10 (lab_none hob rfl) rfl, f5.conv (fun _ h_ => hs.closeM_ft (o := o) (ρ := fun l_ => if l_ = 1 then LF else if l_ = 2 then R1 else if l_ = 3 then R0 else 0) h_ (lab_none hob rfl) rfl) (fun _ h_ => hs.closeM_ft (o := o) (ρ := fun l_ => if l_ = 1 then LF else if l_ = 2 then R1 else if l_ = 3 then R0 else 0) h_ (lab_at hoa (i := 0) rfl) rfl), (Nat.le_refl _)⟩

/-! slices.Clone[[]tidewrack/row.Glyph,tidewrack/row.Glyph] -/
theorem slices_Clone_calls (Ap0 : Option Addr) (cp0 : Nat) (p0 : List T59) (w : World) (o : Nat → Nat) (Lp0 : Nat) (hp0 : Ft (RdC ET59 Ap0 p0) w o Lp0) (hcp0 : (p0).length ≤ cp0)  (R0 : Nat) (r : List T59) (H : slices_Clone p0 = some r) :
    Calls Try.prog 23 #[.slice Ap0 (p0).length cp0] w (Ret fun v_ w' => ∃ o' : Nat → Nat, ∃ A0 : Option Addr, ∃ c0 : Nat, v_ = .slice A0 (r).length c0 ∧ St [] w o w' o' ∧ Ft (Own ET59 60 (.slice A0 (r).length c0) r) w' o' R0 ∧ (r).length ≤ c0) := by
  refine x_enter (vs := [.slice Ap0 (p0).length cp0]) Try.func23 rfl rfl rfl fun a hk => ?_
  obtain ⟨o0, hs, h0⟩ := St.start w o
  have f900000 := h0 _ _ hp0
  clear h0
  rw [slices_Clone] at H
  refine x_seq ?_
  refine wpIn_region_lit ?_
  refine x_run tab hk (k := 1) (lv := []) (ks := [0]) (e' := [(0, .slice Ap0 (p0).length cp0)]) rfl trivial fun a hk => ?_
  refine wpListIn_nil ?_
  refine then_n ?_
  refine x_seq ?_
  refine x_seq ?_
  refine wpIn_region_lit ?_
  refine x_run tab hk (k := 1) (lv := []) (ks := [0, 3]) (e' := [(0, .slice Ap0 (p0).length cp0), (3, .slice Ap0 (p0).length cp0)]) rfl trivial fun a hk => ?_
  rcases none_or Ap0 with hAad1 | ⟨ad1, hAad1⟩
  · have hk_C := hk
    have f900000_C := f900000
    subst hAad1
    have hk := hk_C
    clear hk_C
    have f900000 := f900000_C
    clear f900000_C
    have hz2 : p0 = [] := RdC.none f900000.now
    replace H : (some ([] : List T59)) = some r := by (try rw [hz2] at H); simpa using H
    refine x_run tab hk (k := 1) (lv := []) (ks := [0, 4]) (e' := [(0, .slice none (p0).length cp0), (4, .bool true)]) rfl trivial fun a hk => ?_
    refine wpListIn_nil ?_
    refine then_n ?_
    refine x_if hk (b := true) rfl ?_
    refine (show Code.wpIn _ _ _ _ _ _ _ from ?_)
    refine x_seq ?_
    refine wpIn_region_lit ?_
    refine x_run tab hk (k := 1) (lv := []) (ks := [2]) (e' := [(2, .slice none 0 0)]) rfl trivial fun a hk => ?_
    refine wpListIn_nil ?_
    refine then_n ?_
    refine wpIn_ret ?_
    refine then_r ?_
    obtain rfl := Option.some.inj H
    exact x_retG hk (rs := [.tmp 2]) (vs := [.slice none 0 0]) rfl ⟨rfl, trivial⟩ ⟨fun b_ => if b_ < w.heap.size then o b_ else (fun _ => 0) (o0 b_), none, 0, rfl, hs.close0 o (fun _ => 0), (Ft.of_all (fun _ => Own.nil _ _ _) _ _ _), (by simp)⟩
  · have hk_C := hk
    have f900000_C := f900000
    subst hAad1
    have hk := hk_C
    clear hk_C
    have f900000 := f900000_C
    clear f900000_C
    refine x_run tab hk (k := 1) (lv := []) (ks := [0, 4]) (e' := [(0, .slice (some ad1) (p0).length cp0), (4, .bool false)]) rfl trivial fun a hk => ?_
    refine wpListIn_nil ?_
    refine then_n ?_
    refine x_if hk (b := false) rfl ?_
    refine (show Code.wpIn _ _ _ _ _ _ _ from ?_)
    refine wpIn_skip ?_
    refine then_n ?_
    refine x_seq ?_
    refine wpIn_region_lit ?_
    refine x_op hk rfl ?_
    refine op_slice (o := o0) tab hk (vs := []) (cs := []) rfl rfl rfl rfl rfl rfl rfl rfl rfl 1 fun bx6 w3 o4 st5 f7 => ?_
    replace f900000 := f900000.st st5 (by decide)
    replace hs := hs.loc0 st5 (by decide)
    have f8 : Ft (Own ET59 60 (.slice (some ⟨bx6, 0, none⟩) (([] : List T59)).length 0) ([] : List T59)) w3 o4 1 := f7.imp fun _ h_ => Own.of_box h_ rfl (by simp)
    have hk := hk.put 5 (.slice (some ⟨bx6, 0, none⟩) (([] : List T59)).length 0) rfl
    refine x_run tab hk (k := 1) (lv := []) (ks := [5, 6]) (e' := [(5, .slice (some ⟨bx6, 0, none⟩) (([] : List T59)).length 0), (6, .slice (some ad1) (p0).length cp0)]) rfl trivial fun a hk => ?_
    refine x_op hk rfl ?_
    obtain ⟨q12, H⟩ := ifS H
    refine op_append (o := o4) (E := ET59) (xs := ([] : List T59)) (ys := p0) tab hk rfl rfl rfl rfl rfl rfl rfl f8 f900000.now q12 fun A13 c14 w9 o10 st11 f15 hc16 => ?_
    replace f900000 := f900000.st st11 (by decide)
    replace hs := hs.loc0 st11 (by decide)
    have hk := hk.put 7 (.slice A13 ((([] : List T59) ++ p0)).length c14) rfl
    refine x_run tab hk (k := 1) (lv := []) (ks := [2]) (e' := [(2, .slice A13 ((([] : List T59) ++ p0)).length c14)]) rfl trivial fun a hk => ?_
    refine wpListIn_nil ?_
    refine then_n ?_
    refine wpIn_ret ?_
    obtain rfl := Option.some.inj H
    exact x_retG hk (rs := [.tmp 2]) (vs := [.slice A13 ((([] : List T59) ++ p0)).length c14]) rfl ⟨rfl, trivial⟩ ⟨fun b_ => if b_ < w.heap.size then o b_ else (fun _ => R0) (o10 b_), A13, c14, rfl, hs.close0 o (fun _ => R0), hs.close_ft (o := o) (ρ := fun _ => R0) f15 (by decide) rfl, hc16⟩

/-! (*tidewrack/cache.Cache).touch -/
theorem cache_Cache_touch_calls (bp0 : Nat) (Ap0_0 : Option Addr) (cp0_0 : Nat) (p0 : T62) (p1 : Int) (Ap2 : Option Addr) (cp2 : Nat) (p2 : List T59) (w : World) (o : Nat → Nat) (LF : Nat) (Lp0 : Nat) (hp0 : Ft (Bx bp0 63 [.int .i64 p0.most, .int .i64 p0.now, mv Ap0_0]) w o Lp0) (Lp0_0 : Nat) (hp0_0 : MpN dT71 true Ap0_0 p0.l w o Lp0_0 LF) (hcp0_0 : (p0.l).length ≤ cp0_0) (hp2 : Ft (RdC ET59 Ap2 p2) w o LF) (hcp2 : (p2).length ≤ cp2) (hd0 : ([LF, Lp0, Lp0_0] : List Nat).Nodup) (r : T62) (H : cache_Cache_touch p0 p1 p2 = some r) :
    Calls Try.prog 22 #[.pointer (some ⟨bp0, 0, none⟩), .int .i64 p1, .slice Ap2 (p2).length cp2] w (Ret fun v_ w' => ∃ o' : Nat → Nat, ∃ A0 : Option Addr, ∃ c0 : Nat, v_ = .tuple #[] ∧ St [Lp0, Lp0_0] w o w' o' ∧ Ft (Bx bp0 63 [.int .i64 r.most, .int .i64 r.now, mv A0]) w' o' Lp0 ∧ MpN dT71 true A0 r.l w' o' Lp0_0 LF ∧ (r.l).length ≤ c0) := by
  refine x_enter (vs := [.pointer (some ⟨bp0, 0, none⟩), .int .i64 p1, .slice Ap2 (p2).length cp2]) Try.func22 rfl rfl rfl fun a hk => ?_
  obtain ⟨oi, hs0, h0, h1, hob, hoz, hoa⟩ := St.startM2 w o (m := 3) hd0 rfl
  have hs := hs0 [2, 3]
  have f900000 := hp0_0.conv (fun _ h_ => h1 2 3 h_ rfl rfl) (fun _ h_ => h1 0 1 h_ rfl rfl)
  have f900019 := h1 1 2 hp0 rfl rfl
  have f900040 := h1 0 1 hp2 rfl rfl
  clear h0 h1 hs0
  rw [cache_Cache_touch] at H
  refine x_seq ?_
  refine wpIn_region_lit ?_
  refine x_run tab hk (k := 7) (lv := [.int .i64 p0.now]) (ks := [0, 1, 2, 10, 12]) (e' := [(0, .pointer (some ⟨bp0, 0, none⟩)), (1, .int .i64 p1), (2, .slice Ap2 (p2).length cp2), (10, .int .i64 (IntKind.wrap .i64 (p0.now + 1))), (12, .pointer (some ((⟨bp0, 0, none⟩ : Addr).add 1)))]) rfl ⟨(load1 tab rfl ((Bx.cell f900019.now 1).trans rfl)), trivial⟩ fun a hk => ?_
  refine x_op hk rfl ?_
  refine op_store tab hk (t := 3) (v := .int .i64 (IntKind.wrap .i64 (p0.now + 1))) (b := bp0) (k := 1) (cs' := [.int .i64 p0.most, .int .i64 (IntKind.wrap .i64 (p0.now + 1)), mv Ap0_0]) rfl rfl rfl rfl rfl rfl f900019 rfl rfl fun w1 o2 st3 f900019_ => ?_
  replace f900000 := f900000.st st3 (by decide)
  replace f900040 := f900040.st st3 (by decide)
  replace hs := hs.locQ st3 hob rfl
  replace f900019 := f900019_
  refine wpListIn_nil ?_
  refine then_n ?_
  obtain ⟨q7, H⟩ := ifS H
  refine xd_begin (o := o2) (fun W_ => (Bx bp0 63 [.int .i64 p0.most, .int .i64 (IntKind.wrap .i64 (p0.now + 1)), mv Ap0_0]) W_ ∧ True) mixed rfl rfl fun w11 st12 => ?_
  replace f900000 := f900000.st st12 (by decide)
  replace f900019 := f900019.st st12 (by decide)
  replace f900040 := f900040.st st12 (by decide)
  replace hs := hs.locQ st12 hob rfl
  refine xd_take tab hk (k := 1) (is := [0, 1, 2, 3, 4, 5, 6, 7, 8, 9, 10]) (ls' := #[true, true, true, true, true, true, true, true, true, true, true, false]) (lv := [mv Ap0_0, .int .i64 (IntKind.wrap .i64 (p0.now + 1))]) (ks := [16, 17, 23]) (e' := [(16, mv Ap0_0), (17, .int .i64 p1), (23, .agg #[.slice Ap2 (p2).length cp2, .int .i64 (IntKind.wrap .i64 (p0.now + 1))])]) (by kernel_rfl) rfl rfl (by kernel_rfl) np_body ⟨f900019.now, trivial⟩ (fun W_ hS => ⟨(load1 tab rfl ((Bx.cell hS.1 2).trans rfl)), (load1 tab rfl ((Bx.cell hS.1 1).trans rfl)), trivial⟩) fun a hk => ?_
  refine xd_op hk (i := 11) (by kernel_rfl) rfl rfl ?_
  refine op_mputN tab hk (D := dT71) (ag := true) (k := p1) rfl rfl rfl rfl (v := (⟨p2, (IntKind.wrap .i64 (p0.now + 1))⟩ : T71)) (r := (⟨(⟨p2, (IntKind.wrap .i64 (p0.now + 1))⟩ : T71), Ap2, cp2⟩ : NT71)) (f900040.imp fun _ h_ => ⟨h_, hcp2⟩) rfl rfl f900000 (by decide) q7 fun w13 st15 f900000_ => ?_
  replace f900019 := f900019.st st15 (by decide)
  replace f900040 := f900040.st st15 (by decide)
  replace hs := hs.locQ st15 hob rfl
  replace f900000 := f900000_
  refine ⟨.inl (by kernel_rfl), ?_⟩
  refine xd_done (by kernel_rfl) ?_
  obtain rfl := Option.some.inj H
  exact x_endG hk (rs := []) (vs := []) rfl trivial ⟨cl w oi o [2, 3] (fun l_ => if l_ = 1 then LF else if l_ = 2 then Lp0 else if l_ = 3 then Lp0_0 else 0) o2, Ap0_0, ((M.put p0.l p1 (⟨p2, (IntKind.wrap .i64 (p0.now + 1))⟩ : T71))).length, rfl, hs.closeF (Lm := [Lp0, Lp0_0]) (Sh := []) hoa rfl (fun l_ => if l_ = 1 then LF else if l_ = 2 then Lp0 else if l_ = 3 then Lp0_0 else 0), hs.closeM_ft (o := o) (ρ := fun l_ => if l_ = 1 then LF else if l_ = 2 then Lp0 else if l_ = 3 then Lp0_0 else 0) f900019 (lab_at hoa (i := 1) rfl) rfl, f900000.conv (fun _ h_ => hs.closeM_ft (o := o) (ρ := fun l_ => if l_ = 1 then LF else if l_ = 2 then Lp0 else if l_ = 3 then Lp0_0 else 0) h_ (lab_at hoa (i := 2) rfl) rfl) (fun _ h_ => hs.closeM_ft (o := o) (ρ := fun l_ => if l_ = 1 then LF else if l_ = 2 then Lp0 else if l_ = 3 then Lp0_0 else 0) h_ (lab_at hoa (i := 0) rfl) rfl), (Nat.le_refl _)⟩

/-! maps.Keys[map[int]tidewrack/cache.entry,int,tidewrack/cache.entry] -/
theorem maps_Keys'_calls (Ap0 : Option Addr) (cp0 : Nat) (p0 : M T71) (w : World) (o : Nat → Nat) (LF : Nat) (Lp0 : Nat) (hp0 : MpN dT71 true Ap0 p0 w o Lp0 LF) (hcp0 : (p0).length ≤ cp0) (hd0 : ([LF] : List Nat).Nodup) (hd1 : Lp0 ∉ [LF]) (R0 : Nat) (r : Unit) (H : maps_Keys' p0 = some r) :
    Calls Try.prog 26 #[mv Ap0] w (Ret fun v_ w' => ∃ o' : Nat → Nat, ∃ b0 : Nat, v_ = .func (.func 42) #[] #[.pointer (some ⟨b0, 0, none⟩)] ∧ St [] w o w' o' ∧ Ft (Bx b0 61 [mv Ap0]) w' o' R0) := by
  refine x_enter (vs := [mv Ap0]) Try.func26 rfl rfl rfl fun a hk => ?_
  obtain ⟨oi, hs0, h0, h1, hob, hoz, hoa⟩ := St.startM2 w o (m := 1) hd0 rfl
  have hs := hs0 []
  have f900000 := hp0.conv (fun P_ => h0 P_ _ hd1) (fun _ h_ => h1 0 1 h_ rfl rfl)
  clear h0 h1 hs0
  rw [maps_Keys'] at H
  refine x_seq ?_
  refine wpIn_region_lit ?_
  refine x_op hk rfl ?_
  refine op_box (o := oi) (t := 61) (v := mv Ap0) (cs := [mv Ap0]) hk rfl rfl 2 fun bx4 w1 o2 st3 f5 => ?_
  replace f900000 := f900000.st st3 (by decide)
  replace hs := hs.locQ st3 hob rfl
  have hk := hk.put 1 (.pointer (some ⟨bx4, 0, none⟩)) rfl
  refine x_run tab hk (k := 1) (lv := []) (ks := [1]) (e' := [(1, .pointer (some ⟨bx4, 0, none⟩))]) rfl trivial fun a hk => ?_
  refine wpListIn_nil ?_
  refine then_n ?_
  refine x_seq ?_
  refine wpIn_region_lit ?_
  refine x_run tab hk (k := 2) (lv := []) (ks := [2]) (e' := [(2, .func (.func 42) #[] #[.pointer (some ⟨bx4, 0, none⟩)])]) rfl trivial fun a hk => ?_
  refine wpListIn_nil ?_
  refine then_n ?_
  refine wpIn_ret ?_
  obtain rfl := Option.some.inj H
  exact x_retG hk (rs := [.tmp 2]) (vs := [.func (.func 42) #[] #[.pointer (some ⟨bx4, 0, none⟩)]]) rfl ⟨rfl, trivial⟩ ⟨cl w oi o [] (fun l_ => if l_ = 1 then LF else if l_ = 2 then R0 else 0) o2, bx4, rfl, hs.closeF (Lm := []) (Sh := []) hoa rfl (fun l_ => if l_ = 1 then LF else if l_ = 2 then R0 else 0), hs.closeM_ft (o := o) (ρ := fun l_ => if l_ = 1 then LF else if l_ = 2 then R0 else 0) f5 (lab_none hob rfl) rfl⟩

/-! cmp.isNaN[int] -/
theorem cmp_isNaN_calls (p0 : Int) (w : World) (o : Nat → Nat)   (r : Bool) (H : cmp_isNaN p0 = some r) :
    Calls Try.prog 43 #[.int .i64 p0] w (Ret fun v_ w' => ∃ o' : Nat → Nat, v_ = .bool r ∧ St [] w o w' o') := by
  refine x_enter (vs := [.int .i64 p0]) Try.func43 rfl rfl rfl fun a hk => ?_
  obtain ⟨o0, hs, h0⟩ := St.start w o
  clear h0
  rw [cmp_isNaN] at H
  refine x_seq ?_
  refine wpIn_region_lit ?_
  refine x_run tab hk (k := 1) (lv := []) (ks := [0]) (e' := [(0, .int .i64 p0)]) rfl trivial fun a hk => ?_
  refine wpListIn_nil ?_
  refine then_n ?_
  refine x_seq ?_
  refine wpIn_region_lit ?_
  refine x_run tab hk (k := 4) (lv := []) (ks := [2]) (e' := [(2, .bool (p0 != p0))]) rfl trivial fun a hk => ?_
  refine wpListIn_nil ?_
  refine then_n ?_
  refine wpIn_ret ?_
  obtain rfl := Option.some.inj H
  exact x_retG hk (rs := [.tmp 2]) (vs := [.bool (p0 != p0)]) rfl ⟨rfl, trivial⟩ ⟨fun b_ => if b_ < w.heap.size then o b_ else (fun _ => 0) (o0 b_), rfl, hs.close0 o (fun _ => 0)⟩

/-! cmp.Compare[int] -/
theorem cmp_Compare_calls (p0 : Int) (p1 : Int) (w : World) (o : Nat → Nat)   (r : Int) (H : cmp_Compare p0 p1 = some r) :
    Calls Try.prog 28 #[.int .i64 p0, .int .i64 p1] w (Ret fun v_ w' => ∃ o' : Nat → Nat, v_ = .int .i64 r ∧ St [] w o w' o') := by
  refine x_enter (vs := [.int .i64 p0, .int .i64 p1]) Try.func28 rfl rfl rfl fun a hk => ?_
  obtain ⟨o0, hs, h0⟩ := St.start w o
  clear h0
  rw [cmp_Compare] at H
  refine x_seq ?_
  refine wpIn_region_lit ?_
  refine x_run tab hk (k := 1) (lv := []) (ks := [0, 1]) (e' := [(0, .int .i64 p0), (1, .int .i64 p1)]) rfl trivial fun a hk => ?_
  refine wpListIn_nil ?_
  refine then_n ?_
  refine x_seq ?_
  refine wpIn_region_lit ?_
  refine x_run tab hk (k := 1) (lv := []) (ks := [0, 1, 7]) (e' := [(0, .int .i64 p0), (1, .int .i64 p1), (7, .int .i64 p0)]) rfl trivial fun a hk => ?_
  refine x_op hk rfl ?_
  obtain ⟨t4, hc5, H⟩ := bindS H
  refine op_call hk ent_43 (vs := [.int .i64 p0]) rfl (cmp_isNaN_calls p0 _ o0    _ hc5) ?_
  rintro _ w6 ⟨o7, rfl, st8⟩
  replace hs := hs.loc0 st8 (by decide)
  have hk := hk.put 8 (.bool t4) rfl
  refine x_run tab hk (k := 1) (lv := []) (ks := [0, 1, 5]) (e' := [(0, .int .i64 p0), (1, .int .i64 p1), (5, .bool t4)]) rfl trivial fun a hk => ?_
  refine wpListIn_nil ?_
  refine then_n ?_
  refine x_seq ?_
  refine wpIn_region_lit ?_
  refine x_run tab hk (k := 1) (lv := []) (ks := [0, 1, 5, 9]) (e' := [(0, .int .i64 p0), (1, .int .i64 p1), (5, .bool t4), (9, .int .i64 p1)]) rfl trivial fun a hk => ?_
  refine x_op hk rfl ?_
  obtain ⟨t12, hc13, H⟩ := bindS H
  refine op_call hk ent_43 (vs := [.int .i64 p1]) rfl (cmp_isNaN_calls p1 _ o7    _ hc13) ?_
  rintro _ w14 ⟨o15, rfl, st16⟩
  replace hs := hs.loc0 st16 (by decide)
  have hk := hk.put 10 (.bool t12) rfl
  refine x_run tab hk (k := 1) (lv := []) (ks := [0, 1, 5, 6]) (e' := [(0, .int .i64 p0), (1, .int .i64 p1), (5, .bool t4), (6, .bool t12)]) rfl trivial fun a hk => ?_
  refine wpListIn_nil ?_
  refine then_n ?_
  refine x_seq ?_
  refine x_seq ?_
  refine wpIn_region_lit ?_
  refine x_run tab hk (k := 1) (lv := []) (ks := [0, 1, 6, 11]) (e' := [(0, .int .i64 p0), (1, .int .i64 p1), (6, .bool t12), (11, .bool t4)]) rfl trivial fun a hk => ?_
  refine wpListIn_nil ?_
  refine then_n ?_
  cases b17 : t4
  · rw [b17] at hk H
    replace H := bifF H
    refine x_if hk (b := false) rfl ?_
    refine (show Code.wpIn _ _ _ _ _ _ _ from ?_)
    refine wpIn_skip ?_
    refine then_n ?_
    refine x_seq ?_
    refine x_seq ?_
    refine wpIn_region_lit ?_
    refine x_run tab hk (k := 1) (lv := []) (ks := [0, 1, 13]) (e' := [(0, .int .i64 p0), (1, .int .i64 p1), (13, .bool t12)]) rfl trivial fun a hk => ?_
    refine wpListIn_nil ?_
    refine then_n ?_
    cases b18 : t12
    · rw [b18] at hk H
      replace H := bifF H
      refine x_if hk (b := false) rfl ?_
      refine (show Code.wpIn _ _ _ _ _ _ _ from ?_)
      refine wpIn_skip ?_
      refine then_n ?_
      refine x_seq ?_
      refine x_seq ?_
      refine wpIn_region_lit ?_
      refine x_run tab hk (k := 3) (lv := []) (ks := [0, 1, 16]) (e' := [(0, .int .i64 p0), (1, .int .i64 p1), (16, .bool (decide (p0 < p1)))]) rfl trivial fun a hk => ?_
      refine wpListIn_nil ?_
      refine then_n ?_
      cases b19 : (decide (p0 < p1))
      · rw [b19] at hk H
        replace H := bifF H
        refine x_if hk (b := false) rfl ?_
        refine (show Code.wpIn _ _ _ _ _ _ _ from ?_)
        refine wpIn_skip ?_
        refine then_n ?_
        refine x_seq ?_
        refine x_seq ?_
        refine wpIn_region_lit ?_
        refine x_run tab hk (k := 3) (lv := []) (ks := [19]) (e' := [(19, .bool (decide (p0 > p1)))]) rfl trivial fun a hk => ?_
        refine wpListIn_nil ?_
        refine then_n ?_
        cases b20 : (decide (p0 > p1))
        · rw [b20] at hk H
          replace H := bifF H
          refine x_if hk (b := false) rfl ?_
          refine (show Code.wpIn _ _ _ _ _ _ _ from ?_)
          refine wpIn_skip ?_
          refine then_n ?_
          refine x_seq ?_
          refine wpIn_region_lit ?_
          refine x_run tab hk (k := 1) (lv := []) (ks := [4]) (e' := [(4, .int .i64 0)]) rfl trivial fun a hk => ?_
          refine wpListIn_nil ?_
          refine then_n ?_
          refine wpIn_ret ?_
          obtain rfl := Option.some.inj H
          exact x_retG hk (rs := [.tmp 4]) (vs := [.int .i64 0]) rfl ⟨rfl, trivial⟩ ⟨fun b_ => if b_ < w.heap.size then o b_ else (fun _ => 0) (o15 b_), rfl, hs.close0 o (fun _ => 0)⟩
        · rw [b20] at hk H
          replace H := bifT H
          refine x_if hk (b := true) rfl ?_
          refine (show Code.wpIn _ _ _ _ _ _ _ from ?_)
          refine x_seq ?_
          refine wpIn_region_lit ?_
          refine x_run tab hk (k := 1) (lv := []) (ks := [4]) (e' := [(4, .int .i64 1)]) rfl trivial fun a hk => ?_
          refine wpListIn_nil ?_
          refine then_n ?_
          refine wpIn_ret ?_
          refine then_r ?_
          obtain rfl := Option.some.inj H
          exact x_retG hk (rs := [.tmp 4]) (vs := [.int .i64 1]) rfl ⟨rfl, trivial⟩ ⟨fun b_ => if b_ < w.heap.size then o b_ else (fun _ => 0) (o15 b_), rfl, hs.close0 o (fun _ => 0)⟩
      · rw [b19] at hk H
        replace H := bifT H
        refine x_if hk (b := true) rfl ?_
        refine (show Code.wpIn _ _ _ _ _ _ _ from ?_)
        refine x_seq ?_
        refine wpIn_region_lit ?_
        refine x_run tab hk (k := 1) (lv := []) (ks := [4]) (e' := [(4, .int .i64 (-1))]) rfl trivial fun a hk => ?_
        refine wpListIn_nil ?_
        refine then_n ?_
        refine wpIn_ret ?_
        refine then_r ?_
        obtain rfl := Option.some.inj H
        exact x_retG hk (rs := [.tmp 4]) (vs := [.int .i64 (-1)]) rfl ⟨rfl, trivial⟩ ⟨fun b_ => if b_ < w.heap.size then o b_ else (fun _ => 0) (o15 b_), rfl, hs.close0 o (fun _ => 0)⟩
    · rw [b18] at hk H
      replace H := bifT H
      refine x_if hk (b := true) rfl ?_
      refine (show Code.wpIn _ _ _ _ _ _ _ from ?_)
      refine x_seq ?_
      refine wpIn_region_lit ?_
      refine x_run tab hk (k := 1) (lv := []) (ks := [4]) (e' := [(4, .int .i64 1)]) rfl trivial fun a hk => ?_
      refine wpListIn_nil ?_
      refine then_n ?_
      refine wpIn_ret ?_
      refine then_r ?_
      obtain rfl := Option.some.inj H
      exact x_retG hk (rs := [.tmp 4]) (vs := [.int .i64 1]) rfl ⟨rfl, trivial⟩ ⟨fun b_ => if b_ < w.heap.size then o b_ else (fun _ => 0) (o15 b_), rfl, hs.close0 o (fun _ => 0)⟩
  · rw [b17] at hk H
    replace H := bifT H
    refine x_if hk (b := true) rfl ?_
    refine (show Code.wpIn _ _ _ _ _ _ _ from ?_)
    refine x_seq ?_
    refine x_seq ?_
    refine wpIn_region_lit ?_
    refine x_run tab hk (k := 1) (lv := []) (ks := [12]) (e' := [(12, .bool t12)]) rfl trivial fun a hk => ?_
    refine wpListIn_nil ?_
    refine then_n ?_
    cases b21 : t12
    · rw [b21] at hk H
      replace H := bifF H
      refine x_if hk (b := false) rfl ?_
      refine (show Code.wpIn _ _ _ _ _ _ _ from ?_)
      refine wpIn_skip ?_
      refine then_n ?_
      refine x_seq ?_
      refine wpIn_region_lit ?_
      refine x_run tab hk (k := 1) (lv := []) (ks := [4]) (e' := [(4, .int .i64 (-1))]) rfl trivial fun a hk => ?_
      refine wpListIn_nil ?_
      refine then_n ?_
      refine wpIn_ret ?_
      refine then_r ?_
      obtain rfl := Option.some.inj H
      exact x_retG hk (rs := [.tmp 4]) (vs := [.int .i64 (-1)]) rfl ⟨rfl, trivial⟩ ⟨fun b_ => if b_ < w.heap.size then o b_ else (fun _ => 0) (o15 b_), rfl, hs.close0 o (fun _ => 0)⟩
    · rw [b21] at hk H
      replace H := bifT H
      refine x_if hk (b := true) rfl ?_
      refine (show Code.wpIn _ _ _ _ _ _ _ from ?_)
      refine x_seq ?_
      refine wpIn_region_lit ?_
      refine x_run tab hk (k := 1) (lv := []) (ks := [4]) (e' := [(4, .int .i64 0)]) rfl trivial fun a hk => ?_
      refine wpListIn_nil ?_
      refine then_n ?_
      refine wpIn_ret ?_
      refine then_r ?_
      refine then_r ?_
      obtain rfl := Option.some.inj H
      exact x_retG hk (rs := [.tmp 4]) (vs := [.int .i64 0]) rfl ⟨rfl, trivial⟩ ⟨fun b_ => if b_ < w.heap.size then o b_ else (fun _ => 0) (o15 b_), rfl, hs.close0 o (fun _ => 0)⟩

/-! (*tidewrack/cache.Cache).Put$1 -/
theorem cache_Cache_Put_1_calls (p0 : Int) (p1 : Int) (bp2 : Nat) (bq2 : Nat) (Aq2_0 : Option Addr) (cq2_0 : Nat) (p2 : T62) (w : World) (o : Nat → Nat) (LF : Nat) (Lp2 : Nat) (hp2 : Ft (Bx bp2 24 [.pointer (some ⟨bq2, 0, none⟩)]) w o Lp2) (Lq2 : Nat) (hq2 : Ft (Bx bq2 63 [.int .i64 p2.most, .int .i64 p2.now, mv Aq2_0]) w o Lq2) (Lq2_0 : Nat) (hq2_0 : MpN dT71 true Aq2_0 p2.l w o Lq2_0 LF) (hcq2_0 : (p2.l).length ≤ cq2_0) (hd0 : ([LF] : List Nat).Nodup) (hd1 : Lp2 ∉ [LF]) (hd2 : Lq2 ∉ [LF]) (hd3 : Lq2_0 ∉ [LF]) (r : Int) (H : cache_Cache_Put_1 p0 p1 p2 = some r) :
    Calls Try.prog 27 #[.int .i64 p0, .int .i64 p1, .pointer (some ⟨bp2, 0, none⟩)] w (Ret fun v_ w' => ∃ o' : Nat → Nat, v_ = .int .i64 r ∧ St [] w o w' o') := by
  refine x_enter (vs := [.int .i64 p0, .int .i64 p1, .pointer (some ⟨bp2, 0, none⟩)]) Try.func27 rfl rfl rfl fun a hk => ?_
  obtain ⟨oi, hs0, h0, h1, hob, hoz, hoa⟩ := St.startM2 w o (m := 1) hd0 rfl
  have hs := hs0 []
  have f9500040 := h0 _ _ hd1 hp2
  have f9600040 := h0 _ _ hd2 hq2
  have f9700800 := hq2_0.conv (fun P_ => h0 P_ _ hd3) (fun _ h_ => h1 0 1 h_ rfl rfl)
  clear h0 h1 hs0
  rw [cache_Cache_Put_1] at H
  refine x_seq ?_
  refine wpIn_region_lit ?_
  refine x_run tab hk (k := 1) (lv := []) (ks := [0, 1, 2]) (e' := [(0, .int .i64 p0), (1, .int .i64 p1), (2, .pointer (some ⟨bp2, 0, none⟩))]) rfl trivial fun a hk => ?_
  refine wpListIn_nil ?_
  refine then_n ?_
  refine x_seq ?_
  obtain ⟨A19, c20, f21, f22, hc23⟩ := lkT71 f9700800 (P := Try.prog) tab (mt := 61) rfl rfl rfl rfl p0
  obtain ⟨A24, c25, f26, f27, hc28⟩ := lkT71 f9700800 (P := Try.prog) tab (mt := 61) rfl rfl rfl rfl p1
  obtain ⟨t32, hc33, H⟩ := bindS H
  refine xd_begin (o := oi) (fun W_ => (LookIs Try.prog 61 (mv Aq2_0) p0 (.agg #[.slice A19 ((M.get zT71 p2.l p0).l).length c20, .int .i64 ((M.get zT71 p2.l p0).at_)]) (M.has p2.l p0)) W_ ∧ (LookIs Try.prog 61 (mv Aq2_0) p1 (.agg #[.slice A24 ((M.get zT71 p2.l p1).l).length c25, .int .i64 ((M.get zT71 p2.l p1).at_)]) (M.has p2.l p1)) W_ ∧ (Bx bp2 24 [.pointer (some ⟨bq2, 0, none⟩)]) W_ ∧ (Bx bq2 63 [.int .i64 p2.most, .int .i64 p2.now, mv Aq2_0]) W_ ∧ True) mixed rfl rfl fun w43 st44 => ?_
  replace f21 := f21.st st44 (by decide)
  replace f22 := f22.st st44 (by decide)
  replace f26 := f26.st st44 (by decide)
  replace f27 := f27.st st44 (by decide)
  replace f9500040 := f9500040.st st44 (by decide)
  replace f9600040 := f9600040.st st44 (by decide)
  replace f9700800 := f9700800.st st44 (by decide)
  replace hs := hs.locQ st44 hob rfl
  refine xd_take tab hk (k := 2) (is := [0, 1, 2, 3, 4, 5, 6, 7, 8, 9, 10, 11, 12, 13]) (ls' := #[true, true, true, true, true, true, true, true, true, true, true, true, true, true, false, false]) (lv := [.pointer (some ⟨bq2, 0, none⟩), mv Aq2_0, .agg #[.slice A19 ((M.get zT71 p2.l p0).l).length c20, .int .i64 ((M.get zT71 p2.l p0).at_)], .pointer (some ⟨bq2, 0, none⟩), mv Aq2_0, .agg #[.slice A24 ((M.get zT71 p2.l p1).l).length c25, .int .i64 ((M.get zT71 p2.l p1).at_)]]) (ks := [12, 19]) (e' := [(12, .int .i64 ((M.get zT71 p2.l p0).at_)), (19, .int .i64 ((M.get zT71 p2.l p1).at_))]) (by kernel_rfl) rfl rfl (by kernel_rfl) (np_then np_body) ⟨f21.now, f26.now, f9500040.now, f9600040.now, trivial⟩ (fun W_ hS => ⟨(load1 tab rfl ((Bx.cell hS.2.2.1 0).trans rfl)), (load1 tab rfl ((Bx.cell hS.2.2.2.1 2).trans rfl)), (ask_look3 hS.1 rfl rfl), (load1 tab rfl ((Bx.cell hS.2.2.1 0).trans rfl)), (load1 tab rfl ((Bx.cell hS.2.2.2.1 2).trans rfl)), (ask_look3 hS.2.1 rfl rfl), trivial⟩) fun a hk => ?_
  refine xd_op hk (i := 14) (by kernel_rfl) rfl rfl ?_
  refine op_call hk ent_28 (vs := [.int .i64 ((M.get zT71 p2.l p0).at_), .int .i64 ((M.get zT71 p2.l p1).at_)]) rfl (cmp_Compare_calls ((M.get zT71 p2.l p0).at_) ((M.get zT71 p2.l p1).at_) _ oi    _ hc33) ?_
  rintro _ w48 ⟨o49, rfl, st50⟩
  replace f21 := f21.st st50 (by decide)
  replace f22 := f22.st st50 (by decide)
  replace f26 := f26.st st50 (by decide)
  replace f27 := f27.st st50 (by decide)
  replace f9500040 := f9500040.st st50 (by decide)
  replace f9600040 := f9600040.st st50 (by decide)
  replace f9700800 := f9700800.st st50 (by decide)
  replace hs := hs.locQ st50 hob rfl
  have hk := hk.put 20 (.int .i64 t32) rfl
  refine ⟨.inr ⟨f21.now, f26.now, f9500040.now, f9600040.now, trivial⟩, ?_⟩
  refine xd_take tab hk (k := 0) (is := [15]) (ls' := #[true, true, true, true, true, true, true, true, true, true, true, true, true, true, true, true]) (lv := []) (ks := [5]) (e' := [(5, .int .i64 t32)]) (by kernel_rfl) rfl rfl (by kernel_rfl) (np_then np_body) ⟨f21.now, f26.now, f9500040.now, f9600040.now, trivial⟩ (fun W_ hS => trivial) fun a hk => ?_
  refine xd_done (by kernel_rfl) ?_
  refine then_n ?_
  refine wpIn_ret ?_
  obtain rfl := Option.some.inj H
  exact x_retG hk (rs := [.tmp 5]) (vs := [.int .i64 t32]) rfl ⟨rfl, trivial⟩ ⟨cl w oi o [] (fun l_ => if l_ = 1 then LF else 0) o49, rfl, hs.closeF (Lm := []) (Sh := []) hoa rfl (fun l_ => if l_ = 1 then LF else 0)⟩

/-! slices.MinFunc[[]int,int] -/
theorem slices_MinFunc_of27_calls (K : Nat) (Ap0 : Option Addr) (cp0 : Nat) (p0 : List Int) (bp1_0 : Nat) (bq1_0 : Nat) (Aq1_0_0 : Option Addr) (cq1_0_0 : Nat) (p1_0 : T62) (w : World) (o : Nat → Nat) (LF : Nat) (Lp0 : Nat) (hp0 : Ft (RdC (encInt .i64) Ap0 p0) w o Lp0) (hcp0 : (p0).length ≤ cp0) (Lp1_0 : Nat) (hp1_0 : Ft (Bx bp1_0 24 [.pointer (some ⟨bq1_0, 0, none⟩)]) w o Lp1_0) (Lq1_0 : Nat) (hq1_0 : Ft (Bx bq1_0 63 [.int .i64 p1_0.most, .int .i64 p1_0.now, mv Aq1_0_0]) w o Lq1_0) (Lq1_0_0 : Nat) (hq1_0_0 : MpN dT71 true Aq1_0_0 p1_0.l w o Lq1_0_0 LF) (hcq1_0_0 : (p1_0.l).length ≤ cq1_0_0) (hd0 : ([LF] : List Nat).Nodup) (hd1 : Lp0 ∉ [LF]) (hd2 : Lp1_0 ∉ [LF]) (hd3 : Lq1_0 ∉ [LF]) (hd4 : Lq1_0_0 ∉ [LF]) (r : Int) (H : slices_MinFunc_of27 K p0 p1_0 = some r) :
    Calls Try.prog 24 #[.slice Ap0 (p0).length cp0, .func (.func 27) #[] #[.pointer (some ⟨bp1_0, 0, none⟩)]] w (Ret fun v_ w' => ∃ o' : Nat → Nat, v_ = .int .i64 r ∧ St [] w o w' o') := by
  refine x_enter (vs := [.slice Ap0 (p0).length cp0, .func (.func 27) #[] #[.pointer (some ⟨bp1_0, 0, none⟩)]]) Try.func24 rfl rfl rfl fun a hk => ?_
  obtain ⟨oi, hs0, h0, h1, hob, hoz, hoa⟩ := St.startM2 w o (m := 1) hd0 rfl
  have hs := hs0 []
  have f900000 := h0 _ _ hd1 hp0
  have f9500020 := h0 _ _ hd2 hp1_0
  have f9600020 := h0 _ _ hd3 hq1_0
  have f9700400 := hq1_0_0.conv (fun P_ => h0 P_ _ hd4) (fun _ h_ => h1 0 1 h_ rfl rfl)
  clear h0 h1 hs0
  rw [slices_MinFunc_of27] at H
  refine x_seq ?_
  refine wpIn_region_lit ?_
  refine x_run tab hk (k := 1) (lv := []) (ks := [0, 1]) (e' := [(0, .slice Ap0 (p0).length cp0), (1, .func (.func 27) #[] #[.pointer (some ⟨bp1_0, 0, none⟩)])]) rfl trivial fun a hk => ?_
  refine wpListIn_nil ?_
  refine then_n ?_
  refine x_mid (fun a_ w_ => ∃ o5 : Nat → Nat, Kn 33 a_ [(0, .slice Ap0 (p0).length cp0), (1, .func (.func 27) #[] #[.pointer (some ⟨bp1_0, 0, none⟩)])] ∧ St [] w oi w_ o5 ∧ Ft (RdC (encInt .i64) Ap0 p0) w_ o5 0 ∧ Ft (Bx bp1_0 24 [.pointer (some ⟨bq1_0, 0, none⟩)]) w_ o5 0 ∧ Ft (Bx bq1_0 63 [.int .i64 p1_0.most, .int .i64 p1_0.now, mv Aq1_0_0]) w_ o5 0 ∧ MpN dT71 true Aq1_0_0 p1_0.l w_ o5 0 1 ∧ slices_MinFunc_of27_j1 K p0 p1_0 = some r) ?_ ?_
  rotate_left
  · rintro a w6 ⟨o5, hk, hs, f900000, f9500020, f9600020, f9700400, H⟩
    rw [slices_MinFunc_of27_j1] at H
    refine x_seq ?_
    refine wpIn_region_lit ?_
    obtain ⟨q7, H⟩ := ifS H
    obtain ⟨ad8, hAad8⟩ := RdC.addr f900000.now q7
    have hk_C := hk
    have f900000_C := f900000
    have f9500020_C := f9500020
    have f9600020_C := f9600020
    have f9700400_C := f9700400
    subst hAad8
    have hk := hk_C
    clear hk_C
    have f900000 := f900000_C
    clear f900000_C
    have f9500020 := f9500020_C
    clear f9500020_C
    have f9600020 := f9600020_C
    clear f9600020_C
    have f9700400 := f9700400_C
    clear f9700400_C
    refine x_run tab hk (k := 4) (lv := [.int .i64 (rdD 0 p0 0)]) (ks := [0, 1, 5]) (e' := [(0, .slice (some ad8) (p0).length cp0), (1, .func (.func 27) #[] #[.pointer (some ⟨bp1_0, 0, none⟩)]), (5, .int .i64 (rdD 0 p0 0))]) rfl ⟨q7, (load1 tab rfl (RdC.at0 (E := (encInt .i64)) (d := 0) (i := (0 : Int)) f900000.now q7 rfl)), trivial⟩ fun a hk => ?_
    refine wpListIn_nil ?_
    refine then_n ?_
    refine x_mid (fun a_ w_ => ∃ o58 : Nat → Nat, ∃ x59 : Int, Kn 33 a_ [(5, .int .i64 x59)] ∧ St [] w oi w_ o58 ∧ slices_MinFunc_of27_j2 x59 = some r) ?_ ?_
    rotate_left
    · rintro a w60 ⟨o58, x59, hk, hs, H⟩
      rw [slices_MinFunc_of27_j2] at H
      refine x_seq ?_
      refine wpIn_region_lit ?_
      refine x_run tab hk (k := 2) (lv := []) (ks := [4]) (e' := [(4, .int .i64 x59)]) rfl trivial fun a hk => ?_
      refine wpListIn_nil ?_
      refine then_n ?_
      refine wpIn_ret ?_
      obtain rfl := Option.some.inj H
      exact x_retG hk (rs := [.tmp 4]) (vs := [.int .i64 x59]) rfl ⟨rfl, trivial⟩ ⟨cl w oi o [] (fun l_ => if l_ = 1 then LF else 0) o58, rfl, hs.closeF (Lm := []) (Sh := []) hoa rfl (fun l_ => if l_ = 1 then LF else 0)⟩
    refine x_seq ?_
    refine wpIn_region_lit ?_
    refine x_run tab hk (k := 1) (lv := []) (ks := [0, 1, 5, 6]) (e' := [(0, .slice (some ad8) (p0).length cp0), (1, .func (.func 27) #[] #[.pointer (some ⟨bp1_0, 0, none⟩)]), (5, .int .i64 (rdD 0 p0 0)), (6, .int .i64 1)]) rfl trivial fun a hk => ?_
    refine wpListIn_nil ?_
    refine then_n ?_
    refine wpIn_block ?_
    refine x_loop (fun j_ a_ w_ => ∃ o75 : Nat → Nat, ∃ x76 : Int, ∃ x77 : Int, Kn 33 a_ [(0, .slice (some ad8) (p0).length cp0), (1, .func (.func 27) #[] #[.pointer (some ⟨bp1_0, 0, none⟩)]), (5, .int .i64 x76), (6, .int .i64 x77)] ∧ St [] w oi w_ o75 ∧ Ft (RdC (encInt .i64) (some ad8) p0) w_ o75 0 ∧ Ft (Bx bp1_0 24 [.pointer (some ⟨bq1_0, 0, none⟩)]) w_ o75 0 ∧ Ft (Bx bq1_0 63 [.int .i64 p1_0.most, .int .i64 p1_0.now, mv Aq1_0_0]) w_ o75 0 ∧ MpN dT71 true Aq1_0_0 p1_0.l w_ o75 0 1 ∧ slices_MinFunc_of27_l3 p0 p1_0 j_ x76 x77 = some r) (k := K) ⟨o5, (rdD 0 p0 0), 1, (by exact Kn.pick (ks := [0, 1, 5, 6]) hk rfl), hs, f900000, f9500020, f9600020, f9700400, H⟩ (by rintro _ _ ⟨_, _, _, _, _, _, _, _, _, H_⟩; exact absurd (show (none : Option Int) = some r from H_) (by simp)) ?_
    rintro k90 a w89 ⟨o75, x76, x77, hk, hs, f900000, f9500020, f9600020, f9700400, H⟩
    rw [slices_MinFunc_of27_l3] at H
    obtain ⟨lp91, hlp92⟩ : ∃ lp_, lp_ = slices_MinFunc_of27_l3 p0 p1_0 k90 := ⟨_, rfl⟩
    rw [← hlp92] at H
    refine x_seq ?_
    refine x_seq ?_
    refine wpIn_region_lit ?_
    refine x_run tab hk (k := 4) (lv := []) (ks := [0, 1, 5, 6, 17]) (e' := [(0, .slice (some ad8) (p0).length cp0), (1, .func (.func 27) #[] #[.pointer (some ⟨bp1_0, 0, none⟩)]), (5, .int .i64 x76), (6, .int .i64 x77), (17, .bool (decide (x77 < ((p0).length : Int))))]) rfl trivial fun a hk => ?_
    refine wpListIn_nil ?_
    refine then_n ?_
    cases b93 : (decide (x77 < ((p0).length : Int)))
    · rw [b93] at hk H
      replace H := bifF H
      refine x_if hk (b := false) rfl ?_
      refine (show Code.wpIn _ _ _ _ _ _ _ from ?_)
      refine wpIn_exit ?_
      refine then_x ?_
      refine then_x ?_
      refine blk_x ?_
      refine then_n ?_
      exact ⟨o75, x76, (by exact Kn.pick (ks := [5]) hk rfl), hs, H⟩
    · rw [b93] at hk H
      replace H := bifT H
      refine x_if hk (b := true) rfl ?_
      refine (show Code.wpIn _ _ _ _ _ _ _ from ?_)
      refine wpIn_skip ?_
      refine then_n ?_
      refine x_seq ?_
      refine wpIn_block ?_
      refine x_seq ?_
      refine wpIn_region_lit ?_
      obtain ⟨q94, H⟩ := ifS H
      refine x_run tab hk (k := 6) (lv := [.int .i64 (rdD 0 p0 x77)]) (ks := [0, 1, 5, 6, 20, 24, 25]) (e' := [(0, .slice (some ad8) (p0).length cp0), (1, .func (.func 27) #[] #[.pointer (some ⟨bp1_0, 0, none⟩)]), (5, .int .i64 x76), (6, .int .i64 x77), (20, .func (.func 27) #[] #[.pointer (some ⟨bp1_0, 0, none⟩)]), (24, .int .i64 (rdD 0 p0 x77)), (25, .int .i64 x76)]) rfl ⟨q94, (load1 tab rfl (RdC.at0 (E := (encInt .i64)) (d := 0) (i := x77) f900000.now q94 rfl)), trivial⟩ fun a hk => ?_
      refine x_op hk rfl ?_
      obtain ⟨t98, hc99, H⟩ := bindS H
      refine op_callv hk ent_27 rfl (vs := [.int .i64 (rdD 0 p0 x77), .int .i64 x76]) rfl (cache_Cache_Put_1_calls (rdD 0 p0 x77) x76 bp1_0 bq1_0 Aq1_0_0 cq1_0_0 p1_0 _ o75 1 0 f9500020 0 f9600020 _ f9700400 hcq1_0_0 (by decide) (by decide) (by decide) (by decide)   _ hc99) ?_
      rintro _ w100 ⟨o101, rfl, st102⟩
      replace f900000 := f900000.st st102 (by decide)
      replace f9500020 := f9500020.st st102 (by decide)
      replace f9600020 := f9600020.st st102 (by decide)
      replace f9700400 := f9700400.st st102 (by decide)
      replace hs := hs.locQ st102 hob rfl
      have hk := hk.put 26 (.int .i64 t98) rfl
      refine x_run tab hk (k := 1) (lv := []) (ks := [0, 1, 5, 6, 27]) (e' := [(0, .slice (some ad8) (p0).length cp0), (1, .func (.func 27) #[] #[.pointer (some ⟨bp1_0, 0, none⟩)]), (5, .int .i64 x76), (6, .int .i64 x77), (27, .bool (decide (t98 < (0 : Int))))]) rfl trivial fun a hk => ?_
      refine wpListIn_nil ?_
      refine then_n ?_
      cases b103 : (decide (t98 < (0 : Int)))
      · rw [b103] at hk H
        replace H := bifF H
        refine x_if hk (b := false) rfl ?_
        refine (show Code.wpIn _ _ _ _ _ _ _ from ?_)
        refine wpIn_skip ?_
        refine blk_n ?_
        refine then_n ?_
        refine wpIn_region_lit ?_
        refine x_run tab hk (k := 3) (lv := []) (ks := [0, 1, 5, 6]) (e' := [(0, .slice (some ad8) (p0).length cp0), (1, .func (.func 27) #[] #[.pointer (some ⟨bp1_0, 0, none⟩)]), (5, .int .i64 x76), (6, .int .i64 (IntKind.wrap .i64 (x77 + 1)))]) rfl trivial fun a hk => ?_
        refine wpListIn_nil ?_
        refine then_n ?_
        exact ⟨k90, Nat.le_refl _, o101, x76, (IntKind.wrap .i64 (x77 + 1)), (by exact Kn.pick (ks := [0, 1, 5, 6]) hk rfl), hs, f900000, f9500020, f9600020, f9700400, (hlp92 ▸ H)⟩
      · rw [b103] at hk H
        replace H := bifT H
        refine x_if hk (b := true) rfl ?_
        refine (show Code.wpIn _ _ _ _ _ _ _ from ?_)
        refine wpIn_region_lit ?_
        refine x_run tab hk (k := 5) (lv := [.int .i64 (rdD 0 p0 x77)]) (ks := [0, 1, 5, 6]) (e' := [(0, .slice (some ad8) (p0).length cp0), (1, .func (.func 27) #[] #[.pointer (some ⟨bp1_0, 0, none⟩)]), (5, .int .i64 (rdD 0 p0 x77)), (6, .int .i64 x77)]) rfl ⟨q94, (load1 tab rfl (RdC.at0 (E := (encInt .i64)) (d := 0) (i := x77) f900000.now q94 rfl)), trivial⟩ fun a hk => ?_
        refine wpListIn_nil ?_
        refine blk_n ?_
        refine then_n ?_
        refine wpIn_region_lit ?_
        refine x_run tab hk (k := 3) (lv := []) (ks := [0, 1, 5, 6]) (e' := [(0, .slice (some ad8) (p0).length cp0), (1, .func (.func 27) #[] #[.pointer (some ⟨bp1_0, 0, none⟩)]), (5, .int .i64 (rdD 0 p0 x77)), (6, .int .i64 (IntKind.wrap .i64 (x77 + 1)))]) rfl trivial fun a hk => ?_
        refine wpListIn_nil ?_
        refine then_n ?_
        exact ⟨k90, Nat.le_refl _, o101, (rdD 0 p0 x77), (IntKind.wrap .i64 (x77 + 1)), (by exact Kn.pick (ks := [0, 1, 5, 6]) hk rfl), hs, f900000, f9500020, f9600020, f9700400, (hlp92 ▸ H)⟩
  refine x_seq ?_
  refine wpIn_region_lit ?_
  refine x_run tab hk (k := 3) (lv := []) (ks := [0, 1, 9]) (e' := [(0, .slice Ap0 (p0).length cp0), (1, .func (.func 27) #[] #[.pointer (some ⟨bp1_0, 0, none⟩)]), (9, .bool (decide (((p0).length : Int) < (1 : Int))))]) rfl trivial fun a hk => ?_
  refine wpListIn_nil ?_
  refine then_n ?_
  cases b104 : (decide (((p0).length : Int) < (1 : Int)))
  · rw [b104] at hk H
    replace H := bifF H
    refine x_if hk (b := false) rfl ?_
    refine (show Code.wpIn _ _ _ _ _ _ _ from ?_)
    refine wpIn_skip ?_
    refine then_n ?_
    exact ⟨oi, (by exact Kn.pick (ks := [0, 1]) hk rfl), hs, f900000, f9500020, f9600020, f9700400, H⟩
  · rw [b104] at hk H
    replace H := bifT H
    refine x_if hk (b := true) rfl ?_
    refine (show Code.wpIn _ _ _ _ _ _ _ from ?_)
    refine wpIn_region_lit ?_
    exact absurd H (by simp)

/-! (*tidewrack/cache.Cache).Put -/
theorem cache_Cache_Put_calls (K : Nat) (bp0 : Nat) (Ap0_0 : Option Addr) (cp0_0 : Nat) (p0 : T62) (p1 : Int) (Ap2 : Option Addr) (cp2 : Nat) (p2 : List T59) (w : World) (o : Nat → Nat) (LF : Nat) (Lp0 : Nat) (hp0 : Ft (Bx bp0 63 [.int .i64 p0.most, .int .i64 p0.now, mv Ap0_0]) w o Lp0) (Lp0_0 : Nat) (hp0_0 : MpN dT71 true Ap0_0 p0.l w o Lp0_0 LF) (hcp0_0 : (p0.l).length ≤ cp0_0) (Lp2 : Nat) (hp2 : Ft (RdC ET59 Ap2 p2) w o Lp2) (hcp2 : (p2).length ≤ cp2) (hd0 : ([LF, Lp0, Lp0_0] : List Nat).Nodup) (hd1 : Lp2 ∉ [LF, Lp0, Lp0_0]) (r : Int × Bool × T62) (H : cache_Cache_Put K p0 p1 p2 = some r) :
    Calls Try.prog 10 #[.pointer (some ⟨bp0, 0, none⟩), .int .i64 p1, .slice Ap2 (p2).length cp2] w (Ret fun v_ w' => ∃ o' : Nat → Nat, ∃ A0 : Option Addr, ∃ c0 : Nat, v_ = .tuple #[.int .i64 r.1, .bool r.2.1] ∧ St [Lp0, Lp0_0] w o w' o' ∧ Ft (Bx bp0 63 [.int .i64 r.2.2.most, .int .i64 r.2.2.now, mv A0]) w' o' Lp0 ∧ MpN dT71 true A0 r.2.2.l w' o' Lp0_0 LF ∧ (r.2.2.l).length ≤ c0) := by
  refine x_enter (vs := [.pointer (some ⟨bp0, 0, none⟩), .int .i64 p1, .slice Ap2 (p2).length cp2]) Try.func10 rfl rfl rfl fun a hk => ?_
  obtain ⟨oi, hs0, h0, h1, hob, hoz, hoa⟩ := St.startM2 w o (m := 3) hd0 rfl
  have hs := hs0 [2, 3]
  have f900000 := hp0_0.conv (fun _ h_ => h1 2 3 h_ rfl rfl) (fun _ h_ => h1 0 1 h_ rfl rfl)
  have f900019 := h1 1 2 hp0 rfl rfl
  have f900040 := h0 _ _ hd1 hp2
  clear h0 h1 hs0
  rw [cache_Cache_Put] at H
  refine x_seq ?_
  refine wpIn_region_lit ?_
  refine x_op hk rfl ?_
  refine op_box (o := oi) (t := 24) (v := .pointer (some ⟨bp0, 0, none⟩)) (cs := [.pointer (some ⟨bp0, 0, none⟩)]) hk rfl rfl 4 fun bx4 w1 o2 st3 f5 => ?_
  replace f900000 := f900000.st st3 (by decide)
  replace f900019 := f900019.st st3 (by decide)
  replace f900040 := f900040.st st3 (by decide)
  replace hs := hs.locQ st3 hob rfl
  have hk := hk.put 3 (.pointer (some ⟨bx4, 0, none⟩)) rfl
  refine x_run tab hk (k := 2) (lv := []) (ks := [1, 2, 3]) (e' := [(1, .int .i64 p1), (2, .slice Ap2 (p2).length cp2), (3, .pointer (some ⟨bx4, 0, none⟩))]) rfl trivial fun a hk => ?_
  refine wpListIn_nil ?_
  refine then_n ?_
  refine x_mid (fun a_ w_ => ∃ o21 : Nat → Nat, Kn 44 a_ [(1, .int .i64 p1), (2, .slice Ap2 (p2).length cp2), (3, .pointer (some ⟨bx4, 0, none⟩))] ∧ St [2, 3] w oi w_ o21 ∧ Ft (Bx bx4 24 [.pointer (some ⟨bp0, 0, none⟩)]) w_ o21 6 ∧ MpN dT71 true Ap0_0 p0.l w_ o21 3 1 ∧ Ft (Bx bp0 63 [.int .i64 p0.most, .int .i64 p0.now, mv Ap0_0]) w_ o21 2 ∧ Ft (RdC ET59 Ap2 p2) w_ o21 0 ∧ cache_Cache_Put_j1 K p0 p1 p2 = some r) ?_ ?_
  rotate_left
  · rintro a w22 ⟨o21, hk, hs, f5, f900000, f900019, f900040, H⟩
    rw [cache_Cache_Put_j1] at H
    refine x_seq ?_
    refine xd_begin (o := o21) (fun W_ => (Bx bx4 24 [.pointer (some ⟨bp0, 0, none⟩)]) W_ ∧ True) mixed rfl rfl fun w77 st78 => ?_
    replace f5 := f5.st st78 (by decide)
    replace f900000 := f900000.st st78 (by decide)
    replace f900019 := f900019.st st78 (by decide)
    replace f900040 := f900040.st st78 (by decide)
    replace hs := hs.locQ st78 hob rfl
    refine xd_take tab hk (k := 2) (is := [0, 1, 2]) (ls' := #[true, true, true, false, false]) (lv := [.pointer (some ⟨bp0, 0, none⟩)]) (ks := [3, 15, 16, 17]) (e' := [(3, .pointer (some ⟨bx4, 0, none⟩)), (15, .pointer (some ⟨bp0, 0, none⟩)), (16, .int .i64 p1), (17, .slice Ap2 (p2).length cp2)]) (by kernel_rfl) rfl rfl (by kernel_rfl) (np_then np_body) ⟨f5.now, trivial⟩ (fun W_ hS => ⟨(load1 tab rfl ((Bx.cell hS.1 0).trans rfl)), trivial⟩) fun a hk => ?_
    refine xd_op hk (i := 3) (by kernel_rfl) rfl rfl ?_
    obtain ⟨t82, hc83, H⟩ := bindS H
    refine op_call hk ent_23 (vs := [.slice Ap2 (p2).length cp2]) rfl (slices_Clone_calls Ap2 cp2 p2 _ o21 _ f900040 hcp2 9  _ hc83) ?_
    rintro _ w84 ⟨o85, A87, c88, rfl, st86, f89, hc90⟩
    replace f5 := f5.st st86 (by decide)
    replace f900000 := f900000.st st86 (by decide)
    replace f900019 := f900019.st st86 (by decide)
    replace f900040 := f900040.st st86 (by decide)
    replace hs := hs.locQ st86 hob rfl
    have hk := hk.put 18 (.slice A87 (t82).length c88) rfl
    refine ⟨.inr ⟨f5.now, trivial⟩, ?_⟩
    refine xd_op hk (i := 4) (by kernel_rfl) rfl rfl ?_
    obtain ⟨o94, hR95⟩ := relab_ex o85 (fun l_ => if l_ = 9 then 1 else l_)
    replace hs : St [2, 3] w oi w84 o94 := by rw [hR95]; exact (hs.relabM hob (fun l_ => if l_ = 9 then 1 else l_) (by decide))
    replace f5 : Ft (Bx bx4 24 [.pointer (some ⟨bp0, 0, none⟩)]) w84 o94 6 := by rw [hR95]; exact f5.relab (fun l_ => if l_ = 9 then 1 else l_) rfl
    replace f89 : Ft (Own ET59 60 (.slice A87 (t82).length c88) t82) w84 o94 1 := by rw [hR95]; exact f89.relab (fun l_ => if l_ = 9 then 1 else l_) rfl
    replace f900000 : MpN dT71 true Ap0_0 p0.l w84 o94 3 1 := by rw [hR95]; exact f900000.relab (fun l_ => if l_ = 9 then 1 else l_) rfl
    replace f900019 : Ft (Bx bp0 63 [.int .i64 p0.most, .int .i64 p0.now, mv Ap0_0]) w84 o94 2 := by rw [hR95]; exact f900019.relab (fun l_ => if l_ = 9 then 1 else l_) rfl
    replace f900040 : Ft (RdC ET59 Ap2 p2) w84 o94 0 := by rw [hR95]; exact f900040.relab (fun l_ => if l_ = 9 then 1 else l_) rfl
    obtain ⟨t96, hc97, H⟩ := bindS H
    refine op_call hk ent_22 (vs := [.pointer (some ⟨bp0, 0, none⟩), .int .i64 p1, .slice A87 (t82).length c88]) rfl (cache_Cache_touch_calls bp0 Ap0_0 cp0_0 p0 p1 A87 c88 t82 _ o94 1 2 f900019 3 f900000 hcp0_0 (f89.imp fun _ h_ => Own.rd h_) hc90 (by decide)   _ hc97) ?_
    rintro _ w98 ⟨o99, A102, c103, rfl, st100, f101, f104, hc105⟩
    replace f5 := f5.st st100 (by decide)
    replace f89 := f89.st st100 (by decide)
    replace f900040 := f900040.st st100 (by decide)
    replace hs := hs.locQ st100 hob rfl
    have hk := hk.put 19 (.tuple #[]) rfl
    refine ⟨.inr ⟨f5.now, trivial⟩, ?_⟩
    refine xd_done (by kernel_rfl) ?_
    refine then_n ?_
    refine x_seq ?_
    refine x_seq ?_
    have f107 := MpN.size f104
    refine xd_begin (o := o99) (fun W_ => (Bx bp0 63 [.int .i64 t96.most, .int .i64 t96.now, mv A102]) W_ ∧ (MSize A102 (t96.l).length) W_ ∧ (Bx bx4 24 [.pointer (some ⟨bp0, 0, none⟩)]) W_ ∧ True) mixed rfl rfl fun w108 st109 => ?_
    replace f101 := f101.st st109 (by decide)
    replace f104 := f104.st st109 (by decide)
    replace f107 := f107.st st109 (by decide)
    replace f5 := f5.st st109 (by decide)
    replace f89 := f89.st st109 (by decide)
    replace f900040 := f900040.st st109 (by decide)
    replace hs := hs.locQ st109 hob rfl
    refine xd_take tab hk (k := 0) (is := [0, 1, 2, 3, 4, 5, 6, 7, 8, 9]) (ls' := #[true, true, true, true, true, true, true, true, true, true]) (lv := [.pointer (some ⟨bp0, 0, none⟩), mv A102, .int .i64 ((t96.l).length : Int), .pointer (some ⟨bp0, 0, none⟩), .int .i64 t96.most]) (ks := [3, 29]) (e' := [(3, .pointer (some ⟨bx4, 0, none⟩)), (29, .bool (decide (((t96.l).length : Int) ≤ t96.most)))]) (by kernel_rfl) rfl rfl (by kernel_rfl) (np_then (np_then np_body)) ⟨f101.now, f107.now, f5.now, trivial⟩ (fun W_ hS => ⟨(load1 tab rfl ((Bx.cell hS.2.2.1 0).trans rfl)), (load1 tab rfl ((Bx.cell hS.1 2).trans rfl)), (ask_mlenS tab rfl hS.2.1 rfl), (load1 tab rfl ((Bx.cell hS.2.2.1 0).trans rfl)), (load1 tab rfl ((Bx.cell hS.1 0).trans rfl)), trivial⟩) fun a hk => ?_
    refine xd_done (by kernel_rfl) ?_
    refine then_n ?_
    cases b110 : (decide (((t96.l).length : Int) ≤ t96.most))
    · rw [b110] at hk H
      replace H := bifF H
      refine x_if hk (b := false) rfl ?_
      refine (show Code.wpIn _ _ _ _ _ _ _ from ?_)
      refine wpIn_skip ?_
      refine then_n ?_
      refine x_seq ?_
      refine wpIn_region_lit ?_
      refine x_run tab hk (k := 4) (lv := [.pointer (some ⟨bp0, 0, none⟩), mv A102]) (ks := [3, 33]) (e' := [(3, .pointer (some ⟨bx4, 0, none⟩)), (33, mv A102)]) rfl ⟨(load1 tab rfl ((Bx.cell f5.now 0).trans rfl)), (load1 tab rfl ((Bx.cell f101.now 2).trans rfl)), trivial⟩ fun a hk => ?_
      refine x_op hk rfl ?_
      obtain ⟨t114, hc115, H⟩ := bindS H
      refine op_call hk ent_26 (vs := [mv A102]) rfl (maps_Keys'_calls A102 c103 t96.l _ o99 1 _ f104 hc105 (by decide) (by decide) 10  _ hc115) ?_
      rintro _ w116 ⟨o117, bx119, rfl, st118, f120⟩
      replace f101 := f101.st st118 (by decide)
      replace f104 := f104.st st118 (by decide)
      replace f5 := f5.st st118 (by decide)
      replace hs := hs.locQ st118 hob rfl
      have hk := hk.put 34 (.func (.func 42) #[] #[.pointer (some ⟨bx119, 0, none⟩)]) rfl
      refine x_op hk rfl ?_
      obtain ⟨q124, H⟩ := ifS H
      refine op_call hk ent_25 (vs := [.func (.func 42) #[] #[.pointer (some ⟨bx119, 0, none⟩)]]) rfl (collect25_calls bx119 61 A102 t96.l _ o117 f120 f104 q124 11) ?_
      rintro _ w131 ⟨o132, A125, c126, ks127, rfl, st133, hp129, f128, hc130⟩
      replace H := ordP_at H hp129
      replace f101 := f101.st st133 (by decide)
      replace f104 := f104.st st133 (by decide)
      replace f120 := f120.st st133 (by decide)
      replace f5 := f5.st st133 (by decide)
      replace hs := hs.locQ st133 hob rfl
      have hk := hk.put 35 (.slice A125 (ks127).length c126) rfl
      refine x_run tab hk (k := 1) (lv := []) (ks := [3, 35, 36]) (e' := [(3, .pointer (some ⟨bx4, 0, none⟩)), (35, .slice A125 (ks127).length c126), (36, .func (.func 27) #[] #[.pointer (some ⟨bx4, 0, none⟩)])]) rfl trivial fun a hk => ?_
      refine x_op hk rfl ?_
      obtain ⟨t137, hc138, H⟩ := bindS H
      refine op_call hk ent_24 (vs := [.slice A125 (ks127).length c126, .func (.func 27) #[] #[.pointer (some ⟨bx4, 0, none⟩)]]) rfl (slices_MinFunc_of27_calls K A125 c126 ks127 bx4 bp0 A102 c103 t96 _ o132 1 _ (f128.imp fun _ h_ => Own.rd h_) hc130 6 f5 2 f101 _ f104 hc105 (by decide) (by decide) (by decide) (by decide) (by decide)   _ hc138) ?_
      rintro _ w139 ⟨o140, rfl, st141⟩
      replace f101 := f101.st st141 (by decide)
      replace f104 := f104.st st141 (by decide)
      replace f128 := f128.st st141 (by decide)
      replace f5 := f5.st st141 (by decide)
      replace hs := hs.locQ st141 hob rfl
      have hk := hk.put 37 (.int .i64 t137) rfl
      refine x_run tab hk (k := 1) (lv := []) (ks := [3, 8]) (e' := [(3, .pointer (some ⟨bx4, 0, none⟩)), (8, .int .i64 t137)]) rfl trivial fun a hk => ?_
      refine wpListIn_nil ?_
      refine then_n ?_
      refine x_seq ?_
      refine wpIn_region_lit ?_
      refine x_run tab hk (k := 5) (lv := [.pointer (some ⟨bp0, 0, none⟩), mv A102]) (ks := [8, 41, 42]) (e' := [(8, .int .i64 t137), (41, mv A102), (42, .int .i64 t137)]) rfl ⟨(load1 tab rfl ((Bx.cell f5.now 0).trans rfl)), (load1 tab rfl ((Bx.cell f101.now 2).trans rfl)), trivial⟩ fun a hk => ?_
      refine x_op hk rfl ?_
      refine op_mdelN tab hk (D := dT71) (ag := true) (k := t137) rfl rfl rfl rfl f104 (by decide) fun w142 st144 f104_ => ?_
      replace f101 := f101.st st144 (by decide)
      replace hs := hs.locQ st144 hob rfl
      replace f104 := f104_
      refine wpListIn_nil ?_
      refine then_n ?_
      refine x_seq ?_
      refine wpIn_region_lit ?_
      refine x_run tab hk (k := 3) (lv := []) (ks := [6, 7]) (e' := [(6, .int .i64 t137), (7, .bool true)]) rfl trivial fun a hk => ?_
      refine wpListIn_nil ?_
      refine then_n ?_
      refine wpIn_ret ?_
      obtain rfl := Option.some.inj H
      exact x_retG hk (rs := [.tmp 6, .tmp 7]) (vs := [.int .i64 t137, .bool true]) rfl ⟨rfl, rfl, trivial⟩ ⟨cl w oi o [2, 3] (fun l_ => if l_ = 1 then LF else if l_ = 2 then Lp0 else if l_ = 3 then Lp0_0 else 0) o140, A102, ((M.del t96.l t137)).length, rfl, hs.closeF (Lm := [Lp0, Lp0_0]) (Sh := []) hoa rfl (fun l_ => if l_ = 1 then LF else if l_ = 2 then Lp0 else if l_ = 3 then Lp0_0 else 0), hs.closeM_ft (o := o) (ρ := fun l_ => if l_ = 1 then LF else if l_ = 2 then Lp0 else if l_ = 3 then Lp0_0 else 0) f101 (lab_at hoa (i := 1) rfl) rfl, f104.conv (fun _ h_ => hs.closeM_ft (o := o) (ρ := fun l_ => if l_ = 1 then LF else if l_ = 2 then Lp0 else if l_ = 3 then Lp0_0 else 0) h_ (lab_at hoa (i := 2) rfl) rfl) (fun _ h_ => hs.closeM_ft (o := o) (ρ := fun l_ => if l_ = 1 then LF else if l_ = 2 then Lp0 else if l_ = 3 then Lp0_0 else 0) h_ (lab_at hoa (i := 0) rfl) rfl), (Nat.le_refl _)⟩
    · rw [b110] at hk H
      replace H := bifT H
      refine x_if hk (b := true) rfl ?_
      refine (show Code.wpIn _ _ _ _ _ _ _ from ?_)
      refine x_seq ?_
      refine wpIn_region_lit ?_
      refine x_run tab hk (k := 2) (lv := []) (ks := [6, 7]) (e' := [(6, .int .i64 0), (7, .bool false)]) rfl trivial fun a hk => ?_
      refine wpListIn_nil ?_
      refine then_n ?_
      refine wpIn_ret ?_
      refine then_r ?_
      obtain rfl := Option.some.inj H
      exact x_retG hk (rs := [.tmp 6, .tmp 7]) (vs := [.int .i64 0, .bool false]) rfl ⟨rfl, rfl, trivial⟩ ⟨cl w oi o [2, 3] (fun l_ => if l_ = 1 then LF else if l_ = 2 then Lp0 else if l_ = 3 then Lp0_0 else 0) o99, A102, c103, rfl, hs.closeF (Lm := [Lp0, Lp0_0]) (Sh := []) hoa rfl (fun l_ => if l_ = 1 then LF else if l_ = 2 then Lp0 else if l_ = 3 then Lp0_0 else 0), hs.closeM_ft (o := o) (ρ := fun l_ => if l_ = 1 then LF else if l_ = 2 then Lp0 else if l_ = 3 then Lp0_0 else 0) f101 (lab_at hoa (i := 1) rfl) rfl, f104.conv (fun _ h_ => hs.closeM_ft (o := o) (ρ := fun l_ => if l_ = 1 then LF else if l_ = 2 then Lp0 else if l_ = 3 then Lp0_0 else 0) h_ (lab_at hoa (i := 2) rfl) rfl) (fun _ h_ => hs.closeM_ft (o := o) (ρ := fun l_ => if l_ = 1 then LF else if l_ = 2 then Lp0 else if l_ = 3 then Lp0_0 else 0) h_ (lab_at hoa (i := 0) rfl) rfl), hc105⟩
  refine x_mid (fun a_ w_ => ∃ o152 : Nat → Nat, ∃ x153 : Bool, Kn 44 a_ [(1, .int .i64 p1), (2, .slice Ap2 (p2).length cp2), (3, .pointer (some ⟨bx4, 0, none⟩)), (14, .bool x153)] ∧ St [2, 3] w oi w_ o152 ∧ Ft (Bx bx4 24 [.pointer (some ⟨bp0, 0, none⟩)]) w_ o152 12 ∧ MpN dT71 true Ap0_0 p0.l w_ o152 3 1 ∧ Ft (Bx bp0 63 [.int .i64 p0.most, .int .i64 p0.now, mv Ap0_0]) w_ o152 2 ∧ Ft (RdC ET59 Ap2 p2) w_ o152 0 ∧ cache_Cache_Put_j2 K p0 p1 p2 x153 = some r) ?_ ?_
  rotate_left
  · rintro a w154 ⟨o152, x153, hk, hs, f5, f900000, f900019, f900040, H⟩
    rw [cache_Cache_Put_j2] at H
    cases b155 : x153
    · rw [b155] at hk H
      replace H := bifF H
      refine x_if hk (b := false) rfl ?_
      refine (show Code.wpIn _ _ _ _ _ _ _ from ?_)
      refine wpIn_skip ?_
      refine then_n ?_
      exact ⟨(fun b_ => (fun l_ => if l_ = 12 then 6 else l_) (o152 b_)), (by exact Kn.pick (ks := [1, 2, 3]) hk rfl), (hs.relabM hob (fun l_ => if l_ = 12 then 6 else l_) (by decide)), (f5.relab (fun l_ => if l_ = 12 then 6 else l_) rfl), (f900000.relab (fun l_ => if l_ = 12 then 6 else l_) rfl), (f900019.relab (fun l_ => if l_ = 12 then 6 else l_) rfl), (f900040.relab (fun l_ => if l_ = 12 then 6 else l_) rfl), H⟩
    · rw [b155] at hk H
      replace H := bifT H
      refine x_if hk (b := true) rfl ?_
      refine (show Code.wpIn _ _ _ _ _ _ _ from ?_)
      refine x_seq ?_
      refine wpIn_region_lit ?_
      refine x_run tab hk (k := 2) (lv := []) (ks := [6, 7]) (e' := [(6, .int .i64 0), (7, .bool false)]) rfl trivial fun a hk => ?_
      refine wpListIn_nil ?_
      refine then_n ?_
      refine wpIn_ret ?_
      refine then_r ?_
      obtain rfl := Option.some.inj H
      exact x_retG hk (rs := [.tmp 6, .tmp 7]) (vs := [.int .i64 0, .bool false]) rfl ⟨rfl, rfl, trivial⟩ ⟨cl w oi o [2, 3] (fun l_ => if l_ = 1 then LF else if l_ = 2 then Lp0 else if l_ = 3 then Lp0_0 else 0) o152, Ap0_0, cp0_0, rfl, hs.closeF (Lm := [Lp0, Lp0_0]) (Sh := []) hoa rfl (fun l_ => if l_ = 1 then LF else if l_ = 2 then Lp0 else if l_ = 3 then Lp0_0 else 0), hs.closeM_ft (o := o) (ρ := fun l_ => if l_ = 1 then LF else if l_ = 2 then Lp0 else if l_ = 3 then Lp0_0 else 0) f900019 (lab_at hoa (i := 1) rfl) rfl, f900000.conv (fun _ h_ => hs.closeM_ft (o := o) (ρ := fun l_ => if l_ = 1 then LF else if l_ = 2 then Lp0 else if l_ = 3 then Lp0_0 else 0) h_ (lab_at hoa (i := 2) rfl) rfl) (fun _ h_ => hs.closeM_ft (o := o) (ρ := fun l_ => if l_ = 1 then LF else if l_ = 2 then Lp0 else if l_ = 3 then Lp0_0 else 0) h_ (lab_at hoa (i := 0) rfl) rfl), hcp0_0⟩
  refine wpIn_region_lit ?_
  refine x_run tab hk (k := 3) (lv := []) (ks := [1, 2, 3, 11]) (e' := [(1, .int .i64 p1), (2, .slice Ap2 (p2).length cp2), (3, .pointer (some ⟨bx4, 0, none⟩)), (11, .bool (decide (p1 < (0 : Int))))]) rfl trivial fun a hk => ?_
  cases b156 : (decide (p1 < (0 : Int)))
  · rw [b156] at hk H
    replace H := bifF H
    refine x_run tab hk (k := 3) (lv := []) (ks := [1, 2, 3, 14]) (e' := [(1, .int .i64 p1), (2, .slice Ap2 (p2).length cp2), (3, .pointer (some ⟨bx4, 0, none⟩)), (14, .bool (decide (p1 > (1152921504606846976 : Int))))]) rfl trivial fun a hk => ?_
    refine wpListIn_nil ?_
    refine then_n ?_
    exact ⟨(fun b_ => (fun l_ => if l_ = 4 then 12 else l_) (o2 b_)), (decide (p1 > (1152921504606846976 : Int))), (by exact Kn.pick (ks := [1, 2, 3, 14]) hk rfl), (hs.relabM hob (fun l_ => if l_ = 4 then 12 else l_) (by decide)), (f5.relab (fun l_ => if l_ = 4 then 12 else l_) rfl), (f900000.relab (fun l_ => if l_ = 4 then 12 else l_) rfl), (f900019.relab (fun l_ => if l_ = 4 then 12 else l_) rfl), (f900040.relab (fun l_ => if l_ = 4 then 12 else l_) rfl), H⟩
  · rw [b156] at hk H
    replace H := bifT H
    refine x_run tab hk (k := 3) (lv := []) (ks := [1, 2, 3, 14]) (e' := [(1, .int .i64 p1), (2, .slice Ap2 (p2).length cp2), (3, .pointer (some ⟨bx4, 0, none⟩)), (14, .bool true)]) rfl trivial fun a hk => ?_
    refine wpListIn_nil ?_
    refine then_n ?_
    exact ⟨(fun b_ => (fun l_ => if l_ = 4 then 12 else l_) (o2 b_)), true, (by exact Kn.pick (ks := [1, 2, 3, 14]) hk rfl), (hs.relabM hob (fun l_ => if l_ = 4 then 12 else l_) (by decide)), (f5.relab (fun l_ => if l_ = 4 then 12 else l_) rfl), (f900000.relab (fun l_ => if l_ = 4 then 12 else l_) rfl), (f900019.relab (fun l_ => if l_ = 4 then 12 else l_) rfl), (f900040.relab (fun l_ => if l_ = 4 then 12 else l_) rfl), H⟩

/-! (*tidewrack/cache.Cache).Peek -/
theorem cache_Cache_Peek_calls (bp0 : Nat) (Ap0_0 : Option Addr) (cp0_0 : Nat) (p0 : T62) (p1 : Int) (w : World) (o : Nat → Nat) (LF : Nat) (Lp0 : Nat) (hp0 : Ft (Bx bp0 63 [.int .i64 p0.most, .int .i64 p0.now, mv Ap0_0]) w o Lp0) (Lp0_0 : Nat) (hp0_0 : MpN dT71 true Ap0_0 p0.l w o Lp0_0 LF) (hcp0_0 : (p0.l).length ≤ cp0_0) (hd0 : ([LF] : List Nat).Nodup) (hd1 : Lp0_0 ∉ [LF]) (hd2 : Lp0 ∉ [LF]) (R0 : Nat) (r : (List T59) × Bool) (H : cache_Cache_Peek p0 p1 = some r) :
    Calls Try.prog 11 #[.pointer (some ⟨bp0, 0, none⟩), .int .i64 p1] w (Ret fun v_ w' => ∃ o' : Nat → Nat, ∃ A0 : Option Addr, ∃ c0 : Nat, v_ = .tuple #[.slice A0 (r.1).length c0, .bool r.2] ∧ St [] w o w' o' ∧ Ft (Own ET59 60 (.slice A0 (r.1).length c0) r.1) w' o' R0 ∧ (r.1).length ≤ c0) := by
  refine x_enter (vs := [.pointer (some ⟨bp0, 0, none⟩), .int .i64 p1]) Try.func11 rfl rfl rfl fun a hk => ?_
  obtain ⟨oi, hs0, h0, h1, hob, hoz, hoa⟩ := St.startM2 w o (m := 1) hd0 rfl
  have hs := hs0 []
  have f900000 := hp0_0.conv (fun P_ => h0 P_ _ hd1) (fun _ h_ => h1 0 1 h_ rfl rfl)
  have f900019 := h0 _ _ hd2 hp0
  clear h0 h1 hs0
  rw [cache_Cache_Peek] at H
  refine x_seq ?_
  refine wpIn_region_lit ?_
  refine x_run tab hk (k := 2) (lv := []) (ks := [0, 1]) (e' := [(0, .pointer (some ⟨bp0, 0, none⟩)), (1, .int .i64 p1)]) rfl trivial fun a hk => ?_
  refine wpListIn_nil ?_
  refine then_n ?_
  refine x_seq ?_
  refine wpIn_region_lit ?_
  obtain ⟨A1, c2, f3, f4, hc5⟩ := lkT71 f900000 (P := Try.prog) tab (mt := 61) rfl rfl rfl rfl p1
  refine x_run tab hk (k := 9) (lv := [mv Ap0_0, .tuple #[.agg #[.slice A1 ((M.get zT71 p0.l p1).l).length c2, .int .i64 ((M.get zT71 p0.l p1).at_)], .bool (M.has p0.l p1)]]) (ks := [15, 16]) (e' := [(15, .agg #[.slice A1 ((M.get zT71 p0.l p1).l).length c2, .int .i64 ((M.get zT71 p0.l p1).at_)]), (16, .bool (M.has p0.l p1))]) rfl ⟨(load1 tab rfl ((Bx.cell f900019.now 2).trans rfl)), (ask_look2 f3.now rfl rfl), trivial⟩ fun a hk => ?_
  refine x_op hk rfl ?_
  refine op_alloc (o := oi) tab (t := 72) (cs := [.slice none 0 0, .int .i64 0]) rfl rfl 2 fun bx9 w6 o7 st8 f10 => ?_
  replace f4 := f4.st st8 (by decide)
  replace f900000 := f900000.st st8 (by decide)
  replace f900019 := f900019.st st8 (by decide)
  replace hs := hs.locQ st8 hob rfl
  have hk := hk.put 6 (.pointer (some ⟨bx9, 0, none⟩)) rfl
  refine x_op hk rfl ?_
  refine op_store tab hk (t := 72) (v := .agg #[.slice A1 ((M.get zT71 p0.l p1).l).length c2, .int .i64 ((M.get zT71 p0.l p1).at_)]) (b := bx9) (k := 0) (cs' := [.slice A1 ((M.get zT71 p0.l p1).l).length c2, .int .i64 ((M.get zT71 p0.l p1).at_)]) rfl rfl rfl rfl rfl rfl f10 rfl rfl fun w11 o12 st13 f10_ => ?_
  replace f4 := f4.st st13 (by decide)
  replace f900000 := f900000.st st13 (by decide)
  replace f900019 := f900019.st st13 (by decide)
  replace hs := hs.locQ st13 hob rfl
  replace f10 := f10_
  refine x_run tab hk (k := 1) (lv := []) (ks := [6, 7]) (e' := [(6, .pointer (some ⟨bx9, 0, none⟩)), (7, .bool (M.has p0.l p1))]) rfl trivial fun a hk => ?_
  refine wpListIn_nil ?_
  refine then_n ?_
  refine x_seq ?_
  refine wpIn_region_lit ?_
  refine x_run tab hk (k := 2) (lv := [.slice A1 ((M.get zT71 p0.l p1).l).length c2]) (ks := [7, 18]) (e' := [(7, .bool (M.has p0.l p1)), (18, .slice A1 ((M.get zT71 p0.l p1).l).length c2)]) rfl ⟨(load1 tab rfl ((Bx.cell f10.now 0).trans rfl)), trivial⟩ fun a hk => ?_
  refine x_op hk rfl ?_
  obtain ⟨t17, hc18, H⟩ := bindS H
  refine op_call hk ent_23 (vs := [.slice A1 ((M.get zT71 p0.l p1).l).length c2]) rfl (slices_Clone_calls A1 c2 ((M.get zT71 p0.l p1).l) _ o12 _ f4 hc5 3  _ hc18) ?_
  rintro _ w19 ⟨o20, A22, c23, rfl, st21, f24, hc25⟩
  replace f4 := f4.st st21 (by decide)
  replace f900000 := f900000.st st21 (by decide)
  replace f900019 := f900019.st st21 (by decide)
  replace hs := hs.locQ st21 hob rfl
  have hk := hk.put 19 (.slice A22 (t17).length c23) rfl
  refine x_run tab hk (k := 3) (lv := []) (ks := [4, 5]) (e' := [(4, .slice A22 (t17).length c23), (5, .bool (M.has p0.l p1))]) rfl trivial fun a hk => ?_
  refine wpListIn_nil ?_
  refine then_n ?_
  refine wpIn_ret ?_
  obtain rfl := Option.some.inj H
  exact x_retG hk (rs := [.tmp 4, .tmp 5]) (vs := [.slice A22 (t17).length c23, .bool (M.has p0.l p1)]) rfl ⟨rfl, rfl, trivial⟩ ⟨cl w oi o [] (fun l_ => if l_ = 1 then LF else if l_ = 3 then R0 else 0) o20, A22, c23, rfl, hs.closeF (Lm := []) (Sh := []) hoa rfl (fun l_ => if l_ = 1 then LF else if l_ = 3 then R0 else 0), hs.closeM_ft (o := o) (ρ := fun l_ => if l_ = 1 then LF else if l_ = 3 then R0 else 0) f24 (lab_none hob rfl) rfl, hc25⟩

/-! (*tidewrack/cache.Cache).Get -/
theorem cache_Cache_Get_calls (bp0 : Nat) (Ap0_0 : Option Addr) (cp0_0 : Nat) (p0 : T62) (p1 : Int) (w : World) (o : Nat → Nat) (LF : Nat) (Lp0 : Nat) (hp0 : Ft (Bx bp0 63 [.int .i64 p0.most, .int .i64 p0.now, mv Ap0_0]) w o Lp0) (Lp0_0 : Nat) (hp0_0 : MpN dT71 true Ap0_0 p0.l w o Lp0_0 LF) (hcp0_0 : (p0.l).length ≤ cp0_0) (hd0 : ([LF, Lp0, Lp0_0] : List Nat).Nodup) (R0 : Nat) (r : (List T59) × Bool × T62) (H : cache_Cache_Get p0 p1 = some r) :
    Calls Try.prog 14 #[.pointer (some ⟨bp0, 0, none⟩), .int .i64 p1] w (Ret fun v_ w' => ∃ o' : Nat → Nat, ∃ A0 : Option Addr, ∃ c0 : Nat, ∃ A1 : Option Addr, ∃ c1 : Nat, v_ = .tuple #[.slice A0 (r.1).length c0, .bool r.2.1] ∧ St [Lp0, Lp0_0] w o w' o' ∧ Ft (Own ET59 60 (.slice A0 (r.1).length c0) r.1) w' o' R0 ∧ (r.1).length ≤ c0 ∧ Ft (Bx bp0 63 [.int .i64 r.2.2.most, .int .i64 r.2.2.now, mv A1]) w' o' Lp0 ∧ MpN dT71 true A1 r.2.2.l w' o' Lp0_0 LF ∧ (r.2.2.l).length ≤ c1) := by
  refine x_enter (vs := [.pointer (some ⟨bp0, 0, none⟩), .int .i64 p1]) Try.func14 rfl rfl rfl fun a hk => ?_
  obtain ⟨oi, hs0, h0, h1, hob, hoz, hoa⟩ := St.startM2 w o (m := 3) hd0 rfl
  have hs := hs0 [2, 3]
  have f900000 := hp0_0.conv (fun _ h_ => h1 2 3 h_ rfl rfl) (fun _ h_ => h1 0 1 h_ rfl rfl)
  have f900019 := h1 1 2 hp0 rfl rfl
  clear h0 h1 hs0
  rw [cache_Cache_Get] at H
  refine x_seq ?_
  refine wpIn_region_lit ?_
  refine x_run tab hk (k := 2) (lv := []) (ks := [0, 1]) (e' := [(0, .pointer (some ⟨bp0, 0, none⟩)), (1, .int .i64 p1)]) rfl trivial fun a hk => ?_
  refine wpListIn_nil ?_
  refine then_n ?_
  refine x_seq ?_
  refine x_seq ?_
  refine wpIn_region_lit ?_
  obtain ⟨A1, c2, f3, f4, hc5⟩ := lkT71 f900000 (P := Try.prog) tab (mt := 61) rfl rfl rfl rfl p1
  refine x_run tab hk (k := 9) (lv := [mv Ap0_0, .tuple #[.agg #[.slice A1 ((M.get zT71 p0.l p1).l).length c2, .int .i64 ((M.get zT71 p0.l p1).at_)], .bool (M.has p0.l p1)]]) (ks := [0, 1, 15, 16]) (e' := [(0, .pointer (some ⟨bp0, 0, none⟩)), (1, .int .i64 p1), (15, .agg #[.slice A1 ((M.get zT71 p0.l p1).l).length c2, .int .i64 ((M.get zT71 p0.l p1).at_)]), (16, .bool (M.has p0.l p1))]) rfl ⟨(load1 tab rfl ((Bx.cell f900019.now 2).trans rfl)), (ask_look2 f3.now rfl rfl), trivial⟩ fun a hk => ?_
  refine x_op hk rfl ?_
  refine op_alloc (o := oi) tab (t := 72) (cs := [.slice none 0 0, .int .i64 0]) rfl rfl 4 fun bx9 w6 o7 st8 f10 => ?_
  replace f4 := f4.st st8 (by decide)
  replace f900000 := f900000.st st8 (by decide)
  replace f900019 := f900019.st st8 (by decide)
  replace hs := hs.locQ st8 hob rfl
  have hk := hk.put 6 (.pointer (some ⟨bx9, 0, none⟩)) rfl
  refine x_op hk rfl ?_
  refine op_store tab hk (t := 72) (v := .agg #[.slice A1 ((M.get zT71 p0.l p1).l).length c2, .int .i64 ((M.get zT71 p0.l p1).at_)]) (b := bx9) (k := 0) (cs' := [.slice A1 ((M.get zT71 p0.l p1).l).length c2, .int .i64 ((M.get zT71 p0.l p1).at_)]) rfl rfl rfl rfl rfl rfl f10 rfl rfl fun w11 o12 st13 f10_ => ?_
  replace f4 := f4.st st13 (by decide)
  replace f900000 := f900000.st st13 (by decide)
  replace f900019 := f900019.st st13 (by decide)
  replace hs := hs.locQ st13 hob rfl
  replace f10 := f10_
  refine x_run tab hk (k := 1) (lv := []) (ks := [0, 1, 6, 7]) (e' := [(0, .pointer (some ⟨bp0, 0, none⟩)), (1, .int .i64 p1), (6, .pointer (some ⟨bx9, 0, none⟩)), (7, .bool (M.has p0.l p1))]) rfl trivial fun a hk => ?_
  refine wpListIn_nil ?_
  refine then_n ?_
  refine x_seq ?_
  refine wpIn_region_lit ?_
  refine x_run tab hk (k := 1) (lv := []) (ks := [0, 1, 6, 17]) (e' := [(0, .pointer (some ⟨bp0, 0, none⟩)), (1, .int .i64 p1), (6, .pointer (some ⟨bx9, 0, none⟩)), (17, .bool (M.has p0.l p1))]) rfl trivial fun a hk => ?_
  refine wpListIn_nil ?_
  refine then_n ?_
  cases b14 : (M.has p0.l p1)
  · rw [b14] at hk H
    replace H := bifF H
    refine x_if hk (b := false) rfl ?_
    refine (show Code.wpIn _ _ _ _ _ _ _ from ?_)
    refine wpIn_skip ?_
    refine then_n ?_
    refine x_seq ?_
    refine wpIn_region_lit ?_
    refine x_run tab hk (k := 2) (lv := []) (ks := [23, 24]) (e' := [(23, .pointer (some ⟨bp0, 0, none⟩)), (24, .int .i64 p1)]) rfl trivial fun a hk => ?_
    refine x_op hk rfl ?_
    obtain ⟨t18, hc19, H⟩ := bindS H
    refine op_call hk ent_11 (vs := [.pointer (some ⟨bp0, 0, none⟩), .int .i64 p1]) rfl (cache_Cache_Peek_calls bp0 Ap0_0 cp0_0 p0 p1 _ o12 1 2 f900019 _ f900000 hcp0_0 (by decide) (by decide) (by decide) 5  _ hc19) ?_
    rintro _ w20 ⟨o21, A23, c24, rfl, st22, f25, hc26⟩
    replace f900000 := f900000.st st22 (by decide)
    replace f900019 := f900019.st st22 (by decide)
    replace hs := hs.locQ st22 hob rfl
    have hk := hk.put 25 (.tuple #[.slice A23 (t18.1).length c24, .bool t18.2]) rfl
    refine x_run tab hk (k := 4) (lv := []) (ks := [4, 5]) (e' := [(4, .slice A23 (t18.1).length c24), (5, .bool t18.2)]) rfl trivial fun a hk => ?_
    refine wpListIn_nil ?_
    refine then_n ?_
    refine wpIn_ret ?_
    obtain rfl := Option.some.inj H
    exact x_retG hk (rs := [.tmp 4, .tmp 5]) (vs := [.slice A23 (t18.1).length c24, .bool t18.2]) rfl ⟨rfl, rfl, trivial⟩ ⟨cl w oi o [2, 3] (fun l_ => if l_ = 1 then LF else if l_ = 2 then Lp0 else if l_ = 3 then Lp0_0 else if l_ = 5 then R0 else 0) o21, A23, c24, Ap0_0, cp0_0, rfl, hs.closeF (Lm := [Lp0, Lp0_0]) (Sh := []) hoa rfl (fun l_ => if l_ = 1 then LF else if l_ = 2 then Lp0 else if l_ = 3 then Lp0_0 else if l_ = 5 then R0 else 0), hs.closeM_ft (o := o) (ρ := fun l_ => if l_ = 1 then LF else if l_ = 2 then Lp0 else if l_ = 3 then Lp0_0 else if l_ = 5 then R0 else 0) f25 (lab_none hob rfl) rfl, hc26, hs.closeM_ft (o := o) (ρ := fun l_ => if l_ = 1 then LF else if l_ = 2 then Lp0 else if l_ = 3 then Lp0_0 else if l_ = 5 then R0 else 0) f900019 (lab_at hoa (i := 1) rfl) rfl, f900000.conv (fun _ h_ => hs.closeM_ft (o := o) (ρ := fun l_ => if l_ = 1 then LF else if l_ = 2 then Lp0 else if l_ = 3 then Lp0_0 else if l_ = 5 then R0 else 0) h_ (lab_at hoa (i := 2) rfl) rfl) (fun _ h_ => hs.closeM_ft (o := o) (ρ := fun l_ => if l_ = 1 then LF else if l_ = 2 then Lp0 else if l_ = 3 then Lp0_0 else if l_ = 5 then R0 else 0) h_ (lab_at hoa (i := 0) rfl) rfl), hcp0_0⟩
  · rw [b14] at hk H
    replace H := bifT H
    refine x_if hk (b := true) rfl ?_
    refine (show Code.wpIn _ _ _ _ _ _ _ from ?_)
    refine wpIn_region_lit ?_
    refine x_run tab hk (k := 4) (lv := [.slice A1 ((M.get zT71 p0.l p1).l).length c2]) (ks := [0, 1, 18, 19, 21]) (e' := [(0, .pointer (some ⟨bp0, 0, none⟩)), (1, .int .i64 p1), (18, .pointer (some ⟨bp0, 0, none⟩)), (19, .int .i64 p1), (21, .slice A1 ((M.get zT71 p0.l p1).l).length c2)]) rfl ⟨(load1 tab rfl ((Bx.cell f10.now 0).trans rfl)), trivial⟩ fun a hk => ?_
    refine x_op hk rfl ?_
    obtain ⟨t30, hc31, H⟩ := bindS H
    refine op_call hk ent_22 (vs := [.pointer (some ⟨bp0, 0, none⟩), .int .i64 p1, .slice A1 ((M.get zT71 p0.l p1).l).length c2]) rfl (cache_Cache_touch_calls bp0 Ap0_0 cp0_0 p0 p1 A1 c2 ((M.get zT71 p0.l p1).l) _ o12 1 2 f900019 3 f900000 hcp0_0 f4 hc5 (by decide)   _ hc31) ?_
    rintro _ w32 ⟨o33, A36, c37, rfl, st34, f35, f38, hc39⟩
    replace f4 := f4.st st34 (by decide)
    replace hs := hs.locQ st34 hob rfl
    have hk := hk.put 22 (.tuple #[]) rfl
    refine wpListIn_nil ?_
    refine then_n ?_
    refine x_seq ?_
    refine wpIn_region_lit ?_
    refine x_run tab hk (k := 2) (lv := []) (ks := [23, 24]) (e' := [(23, .pointer (some ⟨bp0, 0, none⟩)), (24, .int .i64 p1)]) rfl trivial fun a hk => ?_
    refine x_op hk rfl ?_
    obtain ⟨t43, hc44, H⟩ := bindS H
    refine op_call hk ent_11 (vs := [.pointer (some ⟨bp0, 0, none⟩), .int .i64 p1]) rfl (cache_Cache_Peek_calls bp0 A36 c37 t30 p1 _ o33 1 2 f35 _ f38 hc39 (by decide) (by decide) (by decide) 6  _ hc44) ?_
    rintro _ w45 ⟨o46, A48, c49, rfl, st47, f50, hc51⟩
    replace f35 := f35.st st47 (by decide)
    replace f38 := f38.st st47 (by decide)
    replace hs := hs.locQ st47 hob rfl
    have hk := hk.put 25 (.tuple #[.slice A48 (t43.1).length c49, .bool t43.2]) rfl
    refine x_run tab hk (k := 4) (lv := []) (ks := [4, 5]) (e' := [(4, .slice A48 (t43.1).length c49), (5, .bool t43.2)]) rfl trivial fun a hk => ?_
    refine wpListIn_nil ?_
    refine then_n ?_
    refine wpIn_ret ?_
    obtain rfl := Option.some.inj H
    exact x_retG hk (rs := [.tmp 4, .tmp 5]) (vs := [.slice A48 (t43.1).length c49, .bool t43.2]) rfl ⟨rfl, rfl, trivial⟩ ⟨cl w oi o [2, 3] (fun l_ => if l_ = 1 then LF else if l_ = 2 then Lp0 else if l_ = 3 then Lp0_0 else if l_ = 6 then R0 else 0) o46, A48, c49, A36, c37, rfl, hs.closeF (Lm := [Lp0, Lp0_0]) (Sh := []) hoa rfl (fun l_ => if l_ = 1 then LF else if l_ = 2 then Lp0 else if l_ = 3 then Lp0_0 else if l_ = 6 then R0 else 0), hs.closeM_ft (o := o) (ρ := fun l_ => if l_ = 1 then LF else if l_ = 2 then Lp0 else if l_ = 3 then Lp0_0 else if l_ = 6 then R0 else 0) f50 (lab_none hob rfl) rfl, hc51, hs.closeM_ft (o := o) (ρ := fun l_ => if l_ = 1 then LF else if l_ = 2 then Lp0 else if l_ = 3 then Lp0_0 else if l_ = 6 then R0 else 0) f35 (lab_at hoa (i := 1) rfl) rfl, f38.conv (fun _ h_ => hs.closeM_ft (o := o) (ρ := fun l_ => if l_ = 1 then LF else if l_ = 2 then Lp0 else if l_ = 3 then Lp0_0 else if l_ = 6 then R0 else 0) h_ (lab_at hoa (i := 2) rfl) rfl) (fun _ h_ => hs.closeM_ft (o := o) (ρ := fun l_ => if l_ = 1 then LF else if l_ = 2 then Lp0 else if l_ = 3 then Lp0_0 else if l_ = 6 then R0 else 0) h_ (lab_at hoa (i := 0) rfl) rfl), hc39⟩

/-! (*tidewrack/cache.Cache).Len -/
theorem cache_Cache_Len_calls (bp0 : Nat) (Ap0_0 : Option Addr) (cp0_0 : Nat) (p0 : T62) (w : World) (o : Nat → Nat) (LF : Nat) (Lp0 : Nat) (hp0 : Ft (Bx bp0 63 [.int .i64 p0.most, .int .i64 p0.now, mv Ap0_0]) w o Lp0) (Lp0_0 : Nat) (hp0_0 : MpN dT71 true Ap0_0 p0.l w o Lp0_0 LF) (hcp0_0 : (p0.l).length ≤ cp0_0) (hd0 : ([LF] : List Nat).Nodup) (hd1 : Lp0_0 ∉ [LF]) (hd2 : Lp0 ∉ [LF]) (r : Int) (H : cache_Cache_Len p0 = some r) :
    Calls Try.prog 17 #[.pointer (some ⟨bp0, 0, none⟩)] w (Ret fun v_ w' => ∃ o' : Nat → Nat, v_ = .int .i64 r ∧ St [] w o w' o') := by
  refine x_enter (vs := [.pointer (some ⟨bp0, 0, none⟩)]) Try.func17 rfl rfl rfl fun a hk => ?_
  obtain ⟨oi, hs0, h0, h1, hob, hoz, hoa⟩ := St.startM2 w o (m := 1) hd0 rfl
  have hs := hs0 []
  have f900000 := hp0_0.conv (fun P_ => h0 P_ _ hd1) (fun _ h_ => h1 0 1 h_ rfl rfl)
  have f900019 := h0 _ _ hd2 hp0
  clear h0 h1 hs0
  rw [cache_Cache_Len] at H
  refine x_seq ?_
  refine wpIn_region_lit ?_
  refine x_run tab hk (k := 1) (lv := []) (ks := [0]) (e' := [(0, .pointer (some ⟨bp0, 0, none⟩))]) rfl trivial fun a hk => ?_
  refine wpListIn_nil ?_
  refine then_n ?_
  refine x_seq ?_
  refine wpIn_region_lit ?_
  have f1 := MpN.size f900000
  refine x_run tab hk (k := 6) (lv := [mv Ap0_0, .int .i64 ((p0.l).length : Int)]) (ks := [2]) (e' := [(2, .int .i64 ((p0.l).length : Int))]) rfl ⟨(load1 tab rfl ((Bx.cell f900019.now 2).trans rfl)), (ask_mlenS tab rfl f1.now rfl), trivial⟩ fun a hk => ?_
  refine wpListIn_nil ?_
  refine then_n ?_
  refine wpIn_ret ?_
  obtain rfl := Option.some.inj H
  exact x_retG hk (rs := [.tmp 2]) (vs := [.int .i64 ((p0.l).length : Int)]) rfl ⟨rfl, trivial⟩ ⟨cl w oi o [] (fun l_ => if l_ = 1 then LF else 0) oi, rfl, hs.closeF (Lm := []) (Sh := []) hoa rfl (fun l_ => if l_ = 1 then LF else 0)⟩

/-! tidewrack/tidewracklaw14.awake -/
theorem tidewracklaw14_awake_calls (K : Nat)  (w : World) (o : Nat → Nat)   (r : Bool) (H : tidewracklaw14_awake K = some r) :
    Calls Try.prog 8 #[] w (Ret fun v_ w' => ∃ o' : Nat → Nat, v_ = .bool r ∧ St [] w o w' o') := by
  refine x_enter (vs := []) Try.func8 rfl rfl rfl fun a hk => ?_
  obtain ⟨o0, hs, h0⟩ := St.start w o
  clear h0
  rw [tidewracklaw14_awake] at H
  refine x_seq ?_
  refine wpIn_region_lit ?_
  refine x_run tab hk (k := 1) (lv := []) (ks := []) (e' := []) rfl trivial fun a hk => ?_
  refine wpListIn_nil ?_
  refine then_n ?_
  refine x_seq ?_
  refine wpIn_region_lit ?_
  refine x_op hk rfl ?_
  obtain ⟨t4, hc5, H⟩ := bindS H
  refine op_call hk ent_9 (vs := [.int .i64 2]) rfl (cache_New_calls 2 _ o0 1 (by decide) 2 3  _ hc5) ?_
  rintro _ w6 ⟨o7, bx9, A11, c12, rfl, st8, f10, f13, hc14⟩
  replace hs := hs.loc0 st8 (by decide)
  have hk := hk.put 6 (.pointer (some ⟨bx9, 0, none⟩)) rfl
  refine x_run tab hk (k := 1) (lv := []) (ks := [1]) (e' := [(1, .pointer (some ⟨bx9, 0, none⟩))]) rfl trivial fun a hk => ?_
  refine wpListIn_nil ?_
  refine then_n ?_
  refine x_seq ?_
  refine x_seq ?_
  refine wpIn_region_lit ?_
  refine x_run tab hk (k := 2) (lv := []) (ks := [1, 8]) (e' := [(1, .pointer (some ⟨bx9, 0, none⟩)), (8, .bool false)]) rfl trivial fun a hk => ?_
  refine wpListIn_nil ?_
  refine then_n ?_
  refine x_if hk (b := false) rfl ?_
  refine (show Code.wpIn _ _ _ _ _ _ _ from ?_)
  refine wpIn_skip ?_
  refine then_n ?_
  refine x_seq ?_
  refine wpIn_region_lit ?_
  refine x_run tab hk (k := 2) (lv := []) (ks := [1, 9, 10]) (e' := [(1, .pointer (some ⟨bx9, 0, none⟩)), (9, .pointer (some ⟨bx9, 0, none⟩)), (10, .agg #[.int .i32 97, .int .i64 0])]) rfl trivial fun a hk => ?_
  refine x_op hk rfl ?_
  refine op_slice (o := o7) tab hk (vs := [.agg #[.int .i32 97, .int .i64 0]]) (cs := [.int .i32 97, .int .i64 0]) rfl rfl rfl rfl rfl rfl rfl rfl rfl 4 fun bx18 w15 o16 st17 f19 => ?_
  replace f10 := f10.st st17 (by decide)
  replace f13 := f13.st st17 (by decide)
  replace hs := hs.loc0 st17 (by decide)
  have f20 : Ft (Own ET59 60 (.slice (some ⟨bx18, 0, none⟩) (([(⟨97, 0⟩ : T59)] : List T59)).length 1) ([(⟨97, 0⟩ : T59)] : List T59)) w15 o16 4 := f19.imp fun _ h_ => Own.of_box h_ rfl (by simp)
  have hk := hk.put 11 (.slice (some ⟨bx18, 0, none⟩) (([(⟨97, 0⟩ : T59)] : List T59)).length 1) rfl
  refine x_op hk rfl ?_
  obtain ⟨t24, hc25, H⟩ := bindS H
  refine op_call hk ent_10 (vs := [.pointer (some ⟨bx9, 0, none⟩), .int .i64 1, .slice (some ⟨bx18, 0, none⟩) (([(⟨97, 0⟩ : T59)] : List T59)).length 1]) rfl (cache_Cache_Put_calls K bx9 A11 c12 t4 1 (some ⟨bx18, 0, none⟩) 1 ([(⟨97, 0⟩ : T59)] : List T59) _ o16 1 2 f10 3 f13 hc14 _ (f20.imp fun _ h_ => Own.rd h_) (Nat.le_refl _) (by decide) (by decide)   _ hc25) ?_
  rintro _ w26 ⟨o27, A30, c31, rfl, st28, f29, f32, hc33⟩
  replace f20 := f20.st st28 (by decide)
  replace hs := hs.loc0 st28 (by decide)
  have hk := hk.put 12 (.tuple #[.int .i64 t24.1, .bool t24.2.1]) rfl
  refine wpListIn_nil ?_
  refine then_n ?_
  refine x_seq ?_
  refine wpIn_region_lit ?_
  refine x_run tab hk (k := 1) (lv := []) (ks := [1, 13]) (e' := [(1, .pointer (some ⟨bx9, 0, none⟩)), (13, .pointer (some ⟨bx9, 0, none⟩))]) rfl trivial fun a hk => ?_
  refine x_op hk rfl ?_
  obtain ⟨t37, hc38, H⟩ := bindS H
  refine op_call hk ent_10 (vs := [.pointer (some ⟨bx9, 0, none⟩), .int .i64 2, .slice none 0 0]) rfl (cache_Cache_Put_calls K bx9 A30 c31 t24.2.2 2 none 0 ([] : List T59) _ o27 1 2 f29 3 f32 hc33 _ (Ft.of_all (fun _ h_ => absurd h_ (by simp)) _ _ 0) (by simp) (by decide) (by decide)   _ hc38) ?_
  rintro _ w39 ⟨o40, A43, c44, rfl, st41, f42, f45, hc46⟩
  replace hs := hs.loc0 st41 (by decide)
  have hk := hk.put 14 (.tuple #[.int .i64 t37.1, .bool t37.2.1]) rfl
  refine wpListIn_nil ?_
  refine then_n ?_
  refine x_seq ?_
  refine wpIn_region_lit ?_
  refine x_run tab hk (k := 1) (lv := []) (ks := [1, 16]) (e' := [(1, .pointer (some ⟨bx9, 0, none⟩)), (16, .pointer (some ⟨bx9, 0, none⟩))]) rfl trivial fun a hk => ?_
  refine x_op hk rfl ?_
  obtain ⟨t50, hc51, H⟩ := bindS H
  refine op_call hk ent_14 (vs := [.pointer (some ⟨bx9, 0, none⟩), .int .i64 1]) rfl (cache_Cache_Get_calls bx9 A43 c44 t37.2.2 1 _ o40 1 2 f42 3 f45 hc46 (by decide) 5  _ hc51) ?_
  rintro _ w52 ⟨o53, A55, c56, A60, c61, rfl, st54, f57, hc58, f59, f62, hc63⟩
  replace hs := hs.loc0 st54 (by decide)
  have hk := hk.put 17 (.tuple #[.slice A55 (t50.1).length c56, .bool t50.2.1]) rfl
  refine x_run tab hk (k := 5) (lv := []) (ks := [1, 2, 3]) (e' := [(1, .pointer (some ⟨bx9, 0, none⟩)), (2, .slice A55 (t50.1).length c56), (3, .bool t50.2.1)]) rfl trivial fun a hk => ?_
  refine wpListIn_nil ?_
  refine then_n ?_
  refine x_seq ?_
  refine wpIn_region_lit ?_
  refine x_run tab hk (k := 1) (lv := []) (ks := [1, 2, 3, 21]) (e' := [(1, .pointer (some ⟨bx9, 0, none⟩)), (2, .slice A55 (t50.1).length c56), (3, .bool t50.2.1), (21, .pointer (some ⟨bx9, 0, none⟩))]) rfl trivial fun a hk => ?_
  refine x_op hk rfl ?_
  obtain ⟨t67, hc68, H⟩ := bindS H
  refine op_call hk ent_10 (vs := [.pointer (some ⟨bx9, 0, none⟩), .int .i64 3, .slice none 0 0]) rfl (cache_Cache_Put_calls K bx9 A60 c61 t50.2.2 3 none 0 ([] : List T59) _ o53 1 2 f59 3 f62 hc63 _ (Ft.of_all (fun _ h_ => absurd h_ (by simp)) _ _ 0) (by simp) (by decide) (by decide)   _ hc68) ?_
  rintro _ w69 ⟨o70, A73, c74, rfl, st71, f72, f75, hc76⟩
  replace f57 := f57.st st71 (by decide)
  replace hs := hs.loc0 st71 (by decide)
  have hk := hk.put 22 (.tuple #[.int .i64 t67.1, .bool t67.2.1]) rfl
  refine x_run tab hk (k := 5) (lv := []) (ks := [1, 2, 3, 4, 5]) (e' := [(1, .pointer (some ⟨bx9, 0, none⟩)), (2, .slice A55 (t50.1).length c56), (3, .bool t50.2.1), (4, .int .i64 t67.1), (5, .bool t67.2.1)]) rfl trivial fun a hk => ?_
  refine wpListIn_nil ?_
  refine then_n ?_
  refine x_seq ?_
  refine wpIn_region_lit ?_
  refine x_run tab hk (k := 2) (lv := []) (ks := [1, 2, 4, 5, 26]) (e' := [(1, .pointer (some ⟨bx9, 0, none⟩)), (2, .slice A55 (t50.1).length c56), (4, .int .i64 t67.1), (5, .bool t67.2.1), (26, .bool t50.2.1)]) rfl trivial fun a hk => ?_
  cases b77 : t50.2.1
  · rw [b77] at hk H
    replace H := bifF H
    refine x_run tab hk (k := 10) (lv := []) (ks := [1, 35, 36]) (e' := [(1, .pointer (some ⟨bx9, 0, none⟩)), (35, .bool false), (36, undef)]) rfl trivial fun a hk => ?_
    refine x_run tab hk (k := 7) (lv := []) (ks := [0]) (e' := [(0, .bool false)]) rfl trivial fun a hk => ?_
    refine wpListIn_nil ?_
    refine then_n ?_
    refine wpIn_ret ?_
    obtain rfl := Option.some.inj H
    exact x_retG hk (rs := [.tmp 0]) (vs := [.bool false]) rfl ⟨rfl, trivial⟩ ⟨fun b_ => if b_ < w.heap.size then o b_ else (fun _ => 0) (o70 b_), rfl, hs.close0 o (fun _ => 0)⟩
  · rw [b77] at hk H
    replace H := bifT H
    refine x_run tab hk (k := 5) (lv := []) (ks := [1, 4, 5, 31]) (e' := [(1, .pointer (some ⟨bx9, 0, none⟩)), (4, .int .i64 t67.1), (5, .bool t67.2.1), (31, .bool (((t50.1).length : Int) == (1 : Int)))]) rfl trivial fun a hk => ?_
    cases b78 : (((t50.1).length : Int) == (1 : Int))
    · rw [b78] at hk H
      replace H := bifF H
      refine x_run tab hk (k := 10) (lv := []) (ks := [38, 41]) (e' := [(38, .bool false), (41, undef)]) rfl trivial fun a hk => ?_
      refine x_run tab hk (k := 2) (lv := []) (ks := [0]) (e' := [(0, .bool false)]) rfl trivial fun a hk => ?_
      refine wpListIn_nil ?_
      refine then_n ?_
      refine wpIn_ret ?_
      obtain rfl := Option.some.inj H
      exact x_retG hk (rs := [.tmp 0]) (vs := [.bool false]) rfl ⟨rfl, trivial⟩ ⟨fun b_ => if b_ < w.heap.size then o b_ else (fun _ => 0) (o70 b_), rfl, hs.close0 o (fun _ => 0)⟩
    · rw [b78] at hk H
      replace H := bifT H
      refine x_run tab hk (k := 4) (lv := []) (ks := [1, 5, 35]) (e' := [(1, .pointer (some ⟨bx9, 0, none⟩)), (5, .bool t67.2.1), (35, .bool (t67.1 == (2 : Int)))]) rfl trivial fun a hk => ?_
      cases b79 : (t67.1 == (2 : Int))
      · rw [b79] at hk H
        replace H := bifF H
        refine x_run tab hk (k := 8) (lv := []) (ks := [0]) (e' := [(0, .bool false)]) rfl trivial fun a hk => ?_
        refine wpListIn_nil ?_
        refine then_n ?_
        refine wpIn_ret ?_
        obtain rfl := Option.some.inj H
        exact x_retG hk (rs := [.tmp 0]) (vs := [.bool false]) rfl ⟨rfl, trivial⟩ ⟨fun b_ => if b_ < w.heap.size then o b_ else (fun _ => 0) (o70 b_), rfl, hs.close0 o (fun _ => 0)⟩
      · rw [b79] at hk H
        replace H := bifT H
        refine x_run tab hk (k := 3) (lv := []) (ks := [1, 38]) (e' := [(1, .pointer (some ⟨bx9, 0, none⟩)), (38, .bool t67.2.1)]) rfl trivial fun a hk => ?_
        cases b80 : t67.2.1
        · rw [b80] at hk H
          replace H := bifF H
          refine x_run tab hk (k := 5) (lv := []) (ks := [0]) (e' := [(0, .bool false)]) rfl trivial fun a hk => ?_
          refine wpListIn_nil ?_
          refine then_n ?_
          refine wpIn_ret ?_
          obtain rfl := Option.some.inj H
          exact x_retG hk (rs := [.tmp 0]) (vs := [.bool false]) rfl ⟨rfl, trivial⟩ ⟨fun b_ => if b_ < w.heap.size then o b_ else (fun _ => 0) (o70 b_), rfl, hs.close0 o (fun _ => 0)⟩
        · rw [b80] at hk H
          replace H := bifT H
          refine x_run tab hk (k := 1) (lv := []) (ks := [38, 39]) (e' := [(38, .bool true), (39, .pointer (some ⟨bx9, 0, none⟩))]) rfl trivial fun a hk => ?_
          refine x_op hk rfl ?_
          obtain ⟨t84, hc85, H⟩ := bindS H
          refine op_call hk ent_17 (vs := [.pointer (some ⟨bx9, 0, none⟩)]) rfl (cache_Cache_Len_calls bx9 A73 c74 t67.2.2 _ o70 1 2 f72 _ f75 hc76 (by decide) (by decide) (by decide)   _ hc85) ?_
          rintro _ w86 ⟨o87, rfl, st88⟩
          replace f72 := f72.st st88 (by decide)
          replace f75 := f75.st st88 (by decide)
          replace hs := hs.loc0 st88 (by decide)
          have hk := hk.put 40 (.int .i64 t84) rfl
          refine x_run tab hk (k := 3) (lv := []) (ks := [0]) (e' := [(0, .bool (t84 == (2 : Int)))]) rfl trivial fun a hk => ?_
          refine wpListIn_nil ?_
          refine then_n ?_
          refine wpIn_ret ?_
          obtain rfl := Option.some.inj H
          exact x_retG hk (rs := [.tmp 0]) (vs := [.bool (t84 == (2 : Int))]) rfl ⟨rfl, trivial⟩ ⟨fun b_ => if b_ < w.heap.size then o b_ else (fun _ => 0) (o87 b_), rfl, hs.close0 o (fun _ => 0)⟩

/-! (*tidewrack/cache.Cache).Order$1 -/
theorem cache_Cache_Order_1_calls (p0 : Int) (p1 : Int) (bp2 : Nat) (bq2 : Nat) (Aq2_0 : Option Addr) (cq2_0 : Nat) (p2 : T62) (w : World) (o : Nat → Nat) (LF : Nat) (Lp2 : Nat) (hp2 : Ft (Bx bp2 24 [.pointer (some ⟨bq2, 0, none⟩)]) w o Lp2) (Lq2 : Nat) (hq2 : Ft (Bx bq2 63 [.int .i64 p2.most, .int .i64 p2.now, mv Aq2_0]) w o Lq2) (Lq2_0 : Nat) (hq2_0 : MpN dT71 true Aq2_0 p2.l w o Lq2_0 LF) (hcq2_0 : (p2.l).length ≤ cq2_0) (hd0 : ([LF] : List Nat).Nodup) (hd1 : Lp2 ∉ [LF]) (hd2 : Lq2 ∉ [LF]) (hd3 : Lq2_0 ∉ [LF]) (r : Int) (H : cache_Cache_Order_1 p0 p1 p2 = some r) :
    Calls Try.prog 32 #[.int .i64 p0, .int .i64 p1, .pointer (some ⟨bp2, 0, none⟩)] w (Ret fun v_ w' => ∃ o' : Nat → Nat, v_ = .int .i64 r ∧ St [] w o w' o') := by
  refine x_enter (vs := [.int .i64 p0, .int .i64 p1, .pointer (some ⟨bp2, 0, none⟩)]) Try.func32 rfl rfl rfl fun a hk => ?_
  obtain ⟨oi, hs0, h0, h1, hob, hoz, hoa⟩ := St.startM2 w o (m := 1) hd0 rfl
  have hs := hs0 []
  have f9500040 := h0 _ _ hd1 hp2
  have f9600040 := h0 _ _ hd2 hq2
  have f9700800 := hq2_0.conv (fun P_ => h0 P_ _ hd3) (fun _ h_ => h1 0 1 h_ rfl rfl)
  clear h0 h1 hs0
  rw [cache_Cache_Order_1] at H
  refine x_seq ?_
  refine wpIn_region_lit ?_
  refine x_run tab hk (k := 1) (lv := []) (ks := [0, 1, 2]) (e' := [(0, .int .i64 p0), (1, .int .i64 p1), (2, .pointer (some ⟨bp2, 0, none⟩))]) rfl trivial fun a hk => ?_
  refine wpListIn_nil ?_
  refine then_n ?_
  refine x_seq ?_
  obtain ⟨A19, c20, f21, f22, hc23⟩ := lkT71 f9700800 (P := Try.prog) tab (mt := 61) rfl rfl rfl rfl p0
  obtain ⟨A24, c25, f26, f27, hc28⟩ := lkT71 f9700800 (P := Try.prog) tab (mt := 61) rfl rfl rfl rfl p1
  obtain ⟨t32, hc33, H⟩ := bindS H
  refine xd_begin (o := oi) (fun W_ => (LookIs Try.prog 61 (mv Aq2_0) p0 (.agg #[.slice A19 ((M.get zT71 p2.l p0).l).length c20, .int .i64 ((M.get zT71 p2.l p0).at_)]) (M.has p2.l p0)) W_ ∧ (LookIs Try.prog 61 (mv Aq2_0) p1 (.agg #[.slice A24 ((M.get zT71 p2.l p1).l).length c25, .int .i64 ((M.get zT71 p2.l p1).at_)]) (M.has p2.l p1)) W_ ∧ (Bx bp2 24 [.pointer (some ⟨bq2, 0, none⟩)]) W_ ∧ (Bx bq2 63 [.int .i64 p2.most, .int .i64 p2.now, mv Aq2_0]) W_ ∧ True) mixed rfl rfl fun w43 st44 => ?_
  replace f21 := f21.st st44 (by decide)
  replace f22 := f22.st st44 (by decide)
  replace f26 := f26.st st44 (by decide)
  replace f27 := f27.st st44 (by decide)
  replace f9500040 := f9500040.st st44 (by decide)
  replace f9600040 := f9600040.st st44 (by decide)
  replace f9700800 := f9700800.st st44 (by decide)
  replace hs := hs.locQ st44 hob rfl
  refine xd_take tab hk (k := 2) (is := [0, 1, 2, 3, 4, 5, 6, 7, 8, 9, 10, 11, 12, 13]) (ls' := #[true, true, true, true, true, true, true, true, true, true, true, true, true, true, false, false]) (lv := [.pointer (some ⟨bq2, 0, none⟩), mv Aq2_0, .agg #[.slice A19 ((M.get zT71 p2.l p0).l).length c20, .int .i64 ((M.get zT71 p2.l p0).at_)], .pointer (some ⟨bq2, 0, none⟩), mv Aq2_0, .agg #[.slice A24 ((M.get zT71 p2.l p1).l).length c25, .int .i64 ((M.get zT71 p2.l p1).at_)]]) (ks := [12, 19]) (e' := [(12, .int .i64 ((M.get zT71 p2.l p0).at_)), (19, .int .i64 ((M.get zT71 p2.l p1).at_))]) (by kernel_rfl) rfl rfl (by kernel_rfl) (np_then np_body) ⟨f21.now, f26.now, f9500040.now, f9600040.now, trivial⟩ (fun W_ hS => ⟨(load1 tab rfl ((Bx.cell hS.2.2.1 0).trans rfl)), (load1 tab rfl ((Bx.cell hS.2.2.2.1 2).trans rfl)), (ask_look3 hS.1 rfl rfl), (load1 tab rfl ((Bx.cell hS.2.2.1 0).trans rfl)), (load1 tab rfl ((Bx.cell hS.2.2.2.1 2).trans rfl)), (ask_look3 hS.2.1 rfl rfl), trivial⟩) fun a hk => ?_
  refine xd_op hk (i := 14) (by kernel_rfl) rfl rfl ?_
  refine op_call hk ent_28 (vs := [.int .i64 ((M.get zT71 p2.l p0).at_), .int .i64 ((M.get zT71 p2.l p1).at_)]) rfl (cmp_Compare_calls ((M.get zT71 p2.l p0).at_) ((M.get zT71 p2.l p1).at_) _ oi    _ hc33) ?_
  rintro _ w48 ⟨o49, rfl, st50⟩
  replace f21 := f21.st st50 (by decide)
  replace f22 := f22.st st50 (by decide)
  replace f26 := f26.st st50 (by decide)
  replace f27 := f27.st st50 (by decide)
  replace f9500040 := f9500040.st st50 (by decide)
  replace f9600040 := f9600040.st st50 (by decide)
  replace f9700800 := f9700800.st st50 (by decide)
  replace hs := hs.locQ st50 hob rfl
  have hk := hk.put 20 (.int .i64 t32) rfl
  refine ⟨.inr ⟨f21.now, f26.now, f9500040.now, f9600040.now, trivial⟩, ?_⟩
  refine xd_take tab hk (k := 0) (is := [15]) (ls' := #[true, true, true, true, true, true, true, true, true, true, true, true, true, true, true, true]) (lv := []) (ks := [5]) (e' := [(5, .int .i64 t32)]) (by kernel_rfl) rfl rfl (by kernel_rfl) (np_then np_body) ⟨f21.now, f26.now, f9500040.now, f9600040.now, trivial⟩ (fun W_ hS => trivial) fun a hk => ?_
  refine xd_done (by kernel_rfl) ?_
  refine then_n ?_
  refine wpIn_ret ?_
  obtain rfl := Option.some.inj H
  exact x_retG hk (rs := [.tmp 5]) (vs := [.int .i64 t32]) rfl ⟨rfl, trivial⟩ ⟨cl w oi o [] (fun l_ => if l_ = 1 then LF else 0) o49, rfl, hs.closeF (Lm := []) (Sh := []) hoa rfl (fun l_ => if l_ = 1 then LF else 0)⟩

/-! slices.SortedFunc[int] -/
theorem slices_SortedFunc_of42_32_calls (bp0_0 : Nat) (Aq0_0 : Option Addr) (cq0_0 : Nat) (p0_0 : M T71) (bp1_0 : Nat) (bq1_0 : Nat) (Aq1_0_0 : Option Addr) (cq1_0_0 : Nat) (p1_0 : T62) (w : World) (o : Nat → Nat) (LF : Nat) (Lp0_0 : Nat) (hp0_0 : Ft (Bx bp0_0 61 [mv Aq0_0]) w o Lp0_0) (Lq0_0 : Nat) (hq0_0 : MpN dT71 true Aq0_0 p0_0 w o Lq0_0 LF) (hcq0_0 : (p0_0).length ≤ cq0_0) (Lp1_0 : Nat) (hp1_0 : Ft (Bx bp1_0 24 [.pointer (some ⟨bq1_0, 0, none⟩)]) w o Lp1_0) (Lq1_0 : Nat) (hq1_0 : Ft (Bx bq1_0 63 [.int .i64 p1_0.most, .int .i64 p1_0.now, mv Aq1_0_0]) w o Lq1_0) (Lq1_0_0 : Nat) (hq1_0_0 : MpN dT71 true Aq1_0_0 p1_0.l w o Lq1_0_0 LF) (hcq1_0_0 : (p1_0.l).length ≤ cq1_0_0) (hd0 : ([LF] : List Nat).Nodup) (hd1 : Lp0_0 ∉ [LF]) (hd2 : Lq0_0 ∉ [LF]) (hd3 : Lp1_0 ∉ [LF]) (hd4 : Lq1_0 ∉ [LF]) (hd5 : Lq1_0_0 ∉ [LF]) (R0 : Nat) (r : List Int) (H : slices_SortedFunc_of42_32 p0_0 p1_0 = some r) :
    Calls Try.prog 31 #[.func (.func 42) #[] #[.pointer (some ⟨bp0_0, 0, none⟩)], .func (.func 32) #[] #[.pointer (some ⟨bp1_0, 0, none⟩)]] w (Ret fun v_ w' => ∃ o' : Nat → Nat, ∃ A0 : Option Addr, ∃ c0 : Nat, v_ = .slice A0 (r).length c0 ∧ St [] w o w' o' ∧ Ft (Own (encInt .i64) 3 (.slice A0 (r).length c0) r) w' o' R0 ∧ (r).length ≤ c0) := by
  refine x_enter (vs := [.func (.func 42) #[] #[.pointer (some ⟨bp0_0, 0, none⟩)], .func (.func 32) #[] #[.pointer (some ⟨bp1_0, 0, none⟩)]]) Try.func31 rfl rfl rfl fun a hk => ?_
  obtain ⟨oi, hs0, h0, h1, hob, hoz, hoa⟩ := St.startM2 w o (m := 1) hd0 rfl
  have hs := hs0 []
  have f9500000 := h0 _ _ hd1 hp0_0
  have f9700000 := hq0_0.conv (fun P_ => h0 P_ _ hd2) (fun _ h_ => h1 0 1 h_ rfl rfl)
  have f9500020 := h0 _ _ hd3 hp1_0
  have f9600020 := h0 _ _ hd4 hq1_0
  have f9700400 := hq1_0_0.conv (fun P_ => h0 P_ _ hd5) (fun _ h_ => h1 0 1 h_ rfl rfl)
  clear h0 h1 hs0
  rw [slices_SortedFunc_of42_32] at H
  refine x_seq ?_
  refine wpIn_region_lit ?_
  refine x_run tab hk (k := 1) (lv := []) (ks := [0, 1]) (e' := [(0, .func (.func 42) #[] #[.pointer (some ⟨bp0_0, 0, none⟩)]), (1, .func (.func 32) #[] #[.pointer (some ⟨bp1_0, 0, none⟩)])]) rfl trivial fun a hk => ?_
  refine wpListIn_nil ?_
  refine then_n ?_
  refine x_seq ?_
  refine wpIn_region_lit ?_
  refine x_run tab hk (k := 1) (lv := []) (ks := [1, 6]) (e' := [(1, .func (.func 32) #[] #[.pointer (some ⟨bp1_0, 0, none⟩)]), (6, .func (.func 42) #[] #[.pointer (some ⟨bp0_0, 0, none⟩)])]) rfl trivial fun a hk => ?_
  refine x_op hk rfl ?_
  obtain ⟨q4, H⟩ := ifS H
  refine op_call hk ent_25 (vs := [.func (.func 42) #[] #[.pointer (some ⟨bp0_0, 0, none⟩)]]) rfl (collect25_calls bp0_0 61 Aq0_0 p0_0 _ oi f9500000 f9700000 q4 2) ?_
  rintro _ w11 ⟨o12, A5, c6, ks7, rfl, st13, hp9, f8, hc10⟩
  replace H := ordP_at H hp9
  replace f9500000 := f9500000.st st13 (by decide)
  replace f9500020 := f9500020.st st13 (by decide)
  replace f9600020 := f9600020.st st13 (by decide)
  replace f9700000 := f9700000.st st13 (by decide)
  replace f9700400 := f9700400.st st13 (by decide)
  replace hs := hs.locQ st13 hob rfl
  have hk := hk.put 7 (.slice A5 (ks7).length c6) rfl
  refine x_run tab hk (k := 1) (lv := []) (ks := [1, 5]) (e' := [(1, .func (.func 32) #[] #[.pointer (some ⟨bp1_0, 0, none⟩)]), (5, .slice A5 (ks7).length c6)]) rfl trivial fun a hk => ?_
  refine wpListIn_nil ?_
  refine then_n ?_
  refine x_seq ?_
  refine wpIn_region_lit ?_
  refine x_run tab hk (k := 2) (lv := []) (ks := [5, 8, 9]) (e' := [(5, .slice A5 (ks7).length c6), (8, .slice A5 (ks7).length c6), (9, .func (.func 32) #[] #[.pointer (some ⟨bp1_0, 0, none⟩)])]) rfl trivial fun a hk => ?_
  refine x_op hk rfl ?_
  obtain ⟨q17, H⟩ := ifS H
  refine op_call hk ent_48 (vs := [.slice A5 (ks7).length c6, .func (.func 32) #[] #[.pointer (some ⟨bp1_0, 0, none⟩)]]) rfl (sort48_calls A5 c6 ks7 bp1_0 bq1_0 Aq1_0_0 p1_0 _ o12 f8 q17 f9500020 f9600020 f9700400 (by decide) (by decide)) ?_
  rintro _ w20 ⟨o21, ks18, rfl, st22, hp19, f23⟩
  replace H := ordP_at H hp19
  have hl24 : (ks7).length = (ks18).length := hp19.1.length_eq.symm
  rw [hl24] at f23
  replace f9500020 := f9500020.st st22 (by decide)
  replace f9600020 := f9600020.st st22 (by decide)
  replace f9700400 := f9700400.st st22 (by decide)
  replace hs := hs.locQ st22 hob rfl
  have hc25 : (ks18).length ≤ c6 := by rw [← hl24]; exact hc10
  rw [hl24] at hk
  have hk := hk.put 10 (.tuple #[]) rfl
  refine wpListIn_nil ?_
  refine then_n ?_
  refine x_seq ?_
  refine wpIn_region_lit ?_
  refine x_run tab hk (k := 2) (lv := []) (ks := [4]) (e' := [(4, .slice A5 (ks18).length c6)]) rfl trivial fun a hk => ?_
  refine wpListIn_nil ?_
  refine then_n ?_
  refine wpIn_ret ?_
  obtain rfl := Option.some.inj H
  exact x_retG hk (rs := [.tmp 4]) (vs := [.slice A5 (ks18).length c6]) rfl ⟨rfl, trivial⟩ ⟨cl w oi o [] (fun l_ => if l_ = 1 then LF else if l_ = 2 then R0 else 0) o21, A5, c6, rfl, hs.closeF (Lm := []) (Sh := []) hoa rfl (fun l_ => if l_ = 1 then LF else if l_ = 2 then R0 else 0), hs.closeM_ft (o := o) (ρ := fun l_ => if l_ = 1 then LF else if l_ = 2 then R0 else 0) f23 (lab_none hob rfl) rfl, hc25⟩

/-! (*tidewrack/cache.Cache).Order -/
theorem cache_Cache_Order_calls (bp0 : Nat) (Ap0_0 : Option Addr) (cp0_0 : Nat) (p0 : T62) (w : World) (o : Nat → Nat) (LF : Nat) (Lp0 : Nat) (hp0 : Ft (Bx bp0 63 [.int .i64 p0.most, .int .i64 p0.now, mv Ap0_0]) w o Lp0) (Lp0_0 : Nat) (hp0_0 : MpN dT71 true Ap0_0 p0.l w o Lp0_0 LF) (hcp0_0 : (p0.l).length ≤ cp0_0) (hd0 : ([LF] : List Nat).Nodup) (hd1 : Lp0_0 ∉ [LF]) (hd2 : Lp0 ∉ [LF]) (R0 : Nat) (r : List Int) (H : cache_Cache_Order p0 = some r) :
    Calls Try.prog 16 #[.pointer (some ⟨bp0, 0, none⟩)] w (Ret fun v_ w' => ∃ o' : Nat → Nat, ∃ A0 : Option Addr, ∃ c0 : Nat, v_ = .slice A0 (r).length c0 ∧ St [] w o w' o' ∧ Ft (Own (encInt .i64) 3 (.slice A0 (r).length c0) r) w' o' R0 ∧ (r).length ≤ c0) := by
  refine x_enter (vs := [.pointer (some ⟨bp0, 0, none⟩)]) Try.func16 rfl rfl rfl fun a hk => ?_
  obtain ⟨oi, hs0, h0, h1, hob, hoz, hoa⟩ := St.startM2 w o (m := 1) hd0 rfl
  have hs := hs0 []
  have f900000 := hp0_0.conv (fun P_ => h0 P_ _ hd1) (fun _ h_ => h1 0 1 h_ rfl rfl)
  have f900019 := h0 _ _ hd2 hp0
  clear h0 h1 hs0
  rw [cache_Cache_Order] at H
  refine x_seq ?_
  refine wpIn_region_lit ?_
  refine x_op hk rfl ?_
  refine op_box (o := oi) (t := 24) (v := .pointer (some ⟨bp0, 0, none⟩)) (cs := [.pointer (some ⟨bp0, 0, none⟩)]) hk rfl rfl 2 fun bx4 w1 o2 st3 f5 => ?_
  replace f900000 := f900000.st st3 (by decide)
  replace f900019 := f900019.st st3 (by decide)
  replace hs := hs.locQ st3 hob rfl
  have hk := hk.put 1 (.pointer (some ⟨bx4, 0, none⟩)) rfl
  refine x_run tab hk (k := 1) (lv := []) (ks := [1]) (e' := [(1, .pointer (some ⟨bx4, 0, none⟩))]) rfl trivial fun a hk => ?_
  refine wpListIn_nil ?_
  refine then_n ?_
  refine x_seq ?_
  refine wpIn_region_lit ?_
  refine x_run tab hk (k := 4) (lv := [.pointer (some ⟨bp0, 0, none⟩), mv Ap0_0]) (ks := [1, 6]) (e' := [(1, .pointer (some ⟨bx4, 0, none⟩)), (6, mv Ap0_0)]) rfl ⟨(load1 tab rfl ((Bx.cell f5.now 0).trans rfl)), (load1 tab rfl ((Bx.cell f900019.now 2).trans rfl)), trivial⟩ fun a hk => ?_
  refine x_op hk rfl ?_
  obtain ⟨t9, hc10, H⟩ := bindS H
  refine op_call hk ent_26 (vs := [mv Ap0_0]) rfl (maps_Keys'_calls Ap0_0 cp0_0 p0.l _ o2 1 _ f900000 hcp0_0 (by decide) (by decide) 3  _ hc10) ?_
  rintro _ w11 ⟨o12, bx14, rfl, st13, f15⟩
  replace f5 := f5.st st13 (by decide)
  replace f900000 := f900000.st st13 (by decide)
  replace f900019 := f900019.st st13 (by decide)
  replace hs := hs.locQ st13 hob rfl
  have hk := hk.put 7 (.func (.func 42) #[] #[.pointer (some ⟨bx14, 0, none⟩)]) rfl
  refine x_run tab hk (k := 1) (lv := []) (ks := [7, 8]) (e' := [(7, .func (.func 42) #[] #[.pointer (some ⟨bx14, 0, none⟩)]), (8, .func (.func 32) #[] #[.pointer (some ⟨bx4, 0, none⟩)])]) rfl trivial fun a hk => ?_
  refine x_op hk rfl ?_
  obtain ⟨t19, hc20, H⟩ := bindS H
  refine op_call hk ent_31 (vs := [.func (.func 42) #[] #[.pointer (some ⟨bx14, 0, none⟩)], .func (.func 32) #[] #[.pointer (some ⟨bx4, 0, none⟩)]]) rfl (slices_SortedFunc_of42_32_calls bx14 Ap0_0 cp0_0 p0.l bx4 bp0 Ap0_0 cp0_0 p0 _ o12 1 3 f15 _ f900000 hcp0_0 2 f5 0 f900019 _ f900000 hcp0_0 (by decide) (by decide) (by decide) (by decide) (by decide) (by decide) 4  _ hc20) ?_
  rintro _ w21 ⟨o22, A24, c25, rfl, st23, f26, hc27⟩
  replace f15 := f15.st st23 (by decide)
  replace f5 := f5.st st23 (by decide)
  replace f900000 := f900000.st st23 (by decide)
  replace f900019 := f900019.st st23 (by decide)
  replace hs := hs.locQ st23 hob rfl
  have hk := hk.put 9 (.slice A24 (t19).length c25) rfl
  refine x_run tab hk (k := 1) (lv := []) (ks := [2]) (e' := [(2, .slice A24 (t19).length c25)]) rfl trivial fun a hk => ?_
  refine wpListIn_nil ?_
  refine then_n ?_
  refine wpIn_ret ?_
  obtain rfl := Option.some.inj H
  exact x_retG hk (rs := [.tmp 2]) (vs := [.slice A24 (t19).length c25]) rfl ⟨rfl, trivial⟩ ⟨cl w oi o [] (fun l_ => if l_ = 1 then LF else if l_ = 4 then R0 else 0) o22, A24, c25, rfl, hs.closeF (Lm := []) (Sh := []) hoa rfl (fun l_ => if l_ = 1 then LF else if l_ = 4 then R0 else 0), hs.closeM_ft (o := o) (ρ := fun l_ => if l_ = 1 then LF else if l_ = 4 then R0 else 0) f26 (lab_none hob rfl) rfl, hc27⟩

/-! (tidewrack/spans.Span).fit -/
theorem spans_Span_fit_calls (p0 : T44) (w : World) (o : Nat → Nat)   (r : T44) (H : spans_Span_fit p0 = some r) :
    Calls Try.prog 44 #[.agg #[.int .i64 p0.From, .int .i64 p0.To]] w (Ret fun v_ w' => ∃ o' : Nat → Nat, v_ = .agg #[.int .i64 r.From, .int .i64 r.To] ∧ St [] w o w' o') := by
  refine x_enter (vs := [.agg #[.int .i64 p0.From, .int .i64 p0.To]]) Try.func44 rfl rfl rfl fun a hk => ?_
  obtain ⟨o0, hs, h0⟩ := St.start w o
  clear h0
  rw [spans_Span_fit] at H
  refine x_seq ?_
  refine wpIn_region_lit ?_
  refine x_op hk rfl ?_
  refine op_box (o := o0) (t := 45) (v := .agg #[.int .i64 p0.From, .int .i64 p0.To]) (cs := [.int .i64 p0.From, .int .i64 p0.To]) hk rfl rfl 1 fun bx4 w1 o2 st3 f5 => ?_
  replace hs := hs.loc0 st3 (by decide)
  have hk := hk.put 1 (.pointer (some ⟨bx4, 0, none⟩)) rfl
  refine x_op hk rfl ?_
  refine op_alloc (o := o2) tab (t := 45) (cs := [.int .i64 0, .int .i64 0]) rfl rfl 2 fun bx9 w6 o7 st8 f10 => ?_
  replace f5 := f5.st st8 (by decide)
  replace hs := hs.loc0 st8 (by decide)
  have hk := hk.put 2 (.pointer (some ⟨bx9, 0, none⟩)) rfl
  refine wpListIn_nil ?_
  refine then_n ?_
  refine x_seq ?_
  refine wpIn_region_lit ?_
  refine x_run tab hk (k := 9) (lv := [.int .i64 p0.From, .int .i64 p0.To]) (ks := [2, 11]) (e' := [(2, .pointer (some ⟨bx9, 0, none⟩)), (11, .agg #[.int .i64 (mxI (-1152921504606846976) (mnI p0.From 1152921504606846976)), .int .i64 (mxI (-1152921504606846976) (mnI p0.To 1152921504606846976))])]) rfl ⟨(load1 tab rfl ((Bx.cell f5.now 0).trans rfl)), (load1 tab rfl ((Bx.cell f5.now 1).trans rfl)), trivial⟩ fun a hk => ?_
  refine x_op hk rfl ?_
  refine op_store tab hk (t := 45) (v := .agg #[.int .i64 (mxI (-1152921504606846976) (mnI p0.From 1152921504606846976)), .int .i64 (mxI (-1152921504606846976) (mnI p0.To 1152921504606846976))]) (b := bx9) (k := 0) (cs' := [.int .i64 (mxI (-1152921504606846976) (mnI p0.From 1152921504606846976)), .int .i64 (mxI (-1152921504606846976) (mnI p0.To 1152921504606846976))]) rfl rfl rfl rfl rfl rfl f10 rfl rfl fun w11 o12 st13 f10_ => ?_
  replace hs := hs.loc0 st13 (by decide)
  replace f10 := f10_
  refine wpListIn_nil ?_
  refine then_n ?_
  refine wpIn_ret ?_
  obtain rfl := Option.some.inj H
  exact x_retG hk (rs := [.cell 2 45]) (vs := [.agg #[.int .i64 (mxI (-1152921504606846976) (mnI p0.From 1152921504606846976)), .int .i64 (mxI (-1152921504606846976) (mnI p0.To 1152921504606846976))]]) rfl ⟨⟨_, rfl, load_box tab rfl rfl f10.now (k := 0) rfl rfl⟩, trivial⟩ ⟨fun b_ => if b_ < w.heap.size then o b_ else (fun _ => 0) (o12 b_), rfl, hs.close0 o (fun _ => 0)⟩

/-! (tidewrack/spans.Span).empty -/
theorem spans_Span_empty_calls (p0 : T44) (w : World) (o : Nat → Nat)   (r : Bool) (H : spans_Span_empty p0 = some r) :
    Calls Try.prog 45 #[.agg #[.int .i64 p0.From, .int .i64 p0.To]] w (Ret fun v_ w' => ∃ o' : Nat → Nat, v_ = .bool r ∧ St [] w o w' o') := by
  refine x_enter (vs := [.agg #[.int .i64 p0.From, .int .i64 p0.To]]) Try.func45 rfl rfl rfl fun a hk => ?_
  obtain ⟨o0, hs, h0⟩ := St.start w o
  clear h0
  rw [spans_Span_empty] at H
  refine x_seq ?_
  refine wpIn_region_lit ?_
  refine x_op hk rfl ?_
  refine op_box (o := o0) (t := 45) (v := .agg #[.int .i64 p0.From, .int .i64 p0.To]) (cs := [.int .i64 p0.From, .int .i64 p0.To]) hk rfl rfl 1 fun bx4 w1 o2 st3 f5 => ?_
  replace hs := hs.loc0 st3 (by decide)
  have hk := hk.put 1 (.pointer (some ⟨bx4, 0, none⟩)) rfl
  refine x_run tab hk (k := 1) (lv := []) (ks := [1]) (e' := [(1, .pointer (some ⟨bx4, 0, none⟩))]) rfl trivial fun a hk => ?_
  refine wpListIn_nil ?_
  refine then_n ?_
  refine x_seq ?_
  refine wpIn_region_lit ?_
  refine x_run tab hk (k := 6) (lv := [.int .i64 p0.To, .int .i64 p0.From]) (ks := [2]) (e' := [(2, .bool (decide (p0.To ≤ p0.From)))]) rfl ⟨(load1 tab rfl ((Bx.cell f5.now 1).trans rfl)), (load1 tab rfl ((Bx.cell f5.now 0).trans rfl)), trivial⟩ fun a hk => ?_
  refine wpListIn_nil ?_
  refine then_n ?_
  refine wpIn_ret ?_
  obtain rfl := Option.some.inj H
  exact x_retG hk (rs := [.tmp 2]) (vs := [.bool (decide (p0.To ≤ p0.From))]) rfl ⟨rfl, trivial⟩ ⟨fun b_ => if b_ < w.heap.size then o b_ else (fun _ => 0) (o2 b_), rfl, hs.close0 o (fun _ => 0)⟩

/-! slices.Grow[[]tidewrack/spans.Span,tidewrack/spans.Span] -/
theorem slices_Grow_calls (p1 : Int) (w : World) (o : Nat → Nat)   (R0 : Nat) (r : List T44) (H : slices_Grow p1 = some r) :
    Calls Try.prog 52 #[.slice none 0 0, .int .i64 p1] w (Ret fun v_ w' => ∃ o' : Nat → Nat, ∃ A0 : Option Addr, ∃ c0 : Nat, v_ = .slice A0 (r).length c0 ∧ St [] w o w' o' ∧ Ft (Own ET44 45 (.slice A0 (r).length c0) r) w' o' R0 ∧ (r).length ≤ c0) := by
  refine x_enter (vs := [.slice none 0 0, .int .i64 p1]) Try.func52 rfl rfl rfl fun a hk => ?_
  obtain ⟨o0, hs, h0⟩ := St.start w o
  clear h0
  rw [slices_Grow] at H
  refine x_seq ?_
  refine wpIn_region_lit ?_
  refine x_run tab hk (k := 1) (lv := []) (ks := [0, 1]) (e' := [(0, .slice none 0 0), (1, .int .i64 p1)]) rfl trivial fun a hk => ?_
  refine wpListIn_nil ?_
  refine then_n ?_
  refine x_mid (fun a_ w_ => ∃ o5 : Nat → Nat, Kn 27 a_ [(0, .slice none 0 0), (1, .int .i64 p1)] ∧ St [] w (fun _ => 0) w_ o5 ∧ slices_Grow_j1 p1 = some r) ?_ ?_
  rotate_left
  · rintro a w6 ⟨o5, hk, hs, H⟩
    rw [slices_Grow_j1] at H
    refine x_seq ?_
    refine x_seq ?_
    refine wpIn_region_lit ?_
    refine x_run tab hk (k := 8) (lv := []) (ks := [0, 1]) (e' := [(0, .slice none 0 0), (1, .int .i64 (IntKind.wrap .i64 (p1 - (IntKind.wrap .i64 (0 - ((([] : List T44)).length : Int))))))]) rfl trivial fun a hk => ?_
    refine wpListIn_nil ?_
    refine then_n ?_
    refine x_seq ?_
    refine wpIn_region_lit ?_
    refine x_run tab hk (k := 2) (lv := []) (ks := [0, 1, 16]) (e' := [(0, .slice none 0 0), (1, .int .i64 (IntKind.wrap .i64 (p1 - (IntKind.wrap .i64 (0 - ((([] : List T44)).length : Int)))))), (16, .bool (decide ((IntKind.wrap .i64 (p1 - (IntKind.wrap .i64 (0 - ((([] : List T44)).length : Int))))) > (0 : Int))))]) rfl trivial fun a hk => ?_
    refine wpListIn_nil ?_
    refine then_n ?_
    cases b7 : (decide ((IntKind.wrap .i64 (p1 - (IntKind.wrap .i64 (0 - ((([] : List T44)).length : Int))))) > (0 : Int)))
    · rw [b7] at hk H
      replace H := bifF H
      refine x_if hk (b := false) rfl ?_
      refine (show Code.wpIn _ _ _ _ _ _ _ from ?_)
      refine wpIn_skip ?_
      refine then_n ?_
      refine x_seq ?_
      refine wpIn_region_lit ?_
      refine x_run tab hk (k := 2) (lv := []) (ks := [4]) (e' := [(4, .slice none 0 0)]) rfl trivial fun a hk => ?_
      refine wpListIn_nil ?_
      refine then_n ?_
      refine wpIn_ret ?_
      obtain rfl := Option.some.inj H
      exact x_retG hk (rs := [.tmp 4]) (vs := [.slice none 0 0]) rfl ⟨rfl, trivial⟩ ⟨fun b_ => if b_ < w.heap.size then o b_ else (fun _ => 0) (o5 b_), none, 0, rfl, hs.close0 o (fun _ => 0), (Ft.of_all (fun _ => Own.nil _ _ _) _ _ _), (by simp)⟩
    · rw [b7] at hk H
      replace H := bifT H
      refine x_if hk (b := true) rfl ?_
      refine (show Code.wpIn _ _ _ _ _ _ _ from ?_)
      refine wpIn_region_lit ?_
      refine x_run tab hk (k := 5) (lv := [.slice none 0 0]) (ks := [0, 20, 21]) (e' := [(0, .slice none 0 0), (20, .slice none 0 0), (21, .int .i64 (IntKind.wrap .i64 (p1 - (IntKind.wrap .i64 (0 - ((([] : List T44)).length : Int))))))]) rfl ⟨(ask_take0 tab rfl rfl rfl rfl), trivial⟩ fun a hk => ?_
      refine x_op hk rfl ?_
      obtain ⟨q11, H⟩ := ifS H
      obtain ⟨q12, H⟩ := ifS H
      refine op_appendZ (o := o5) ET44 tab hk rfl rfl rfl rfl rfl rfl rfl rfl q11 q12 1 fun A13 c14 w8 o9 st10 f15 => ?_
      replace hs := hs.loc0 st10 (by decide)
      have hk := hk.put 22 (.slice A13 (Int.toNat (IntKind.wrap .i64 (p1 - (IntKind.wrap .i64 (0 - ((([] : List T44)).length : Int)))))) c14) rfl
      refine x_run tab hk (k := 4) (lv := [.slice A13 (([] : List T44)).length c14]) (ks := [0]) (e' := [(0, .slice A13 (([] : List T44)).length c14)]) rfl ⟨(ask_take0 tab rfl rfl rfl rfl), trivial⟩ fun a hk => ?_
      refine wpListIn_nil ?_
      refine then_n ?_
      refine x_seq ?_
      refine wpIn_region_lit ?_
      refine x_run tab hk (k := 2) (lv := []) (ks := [4]) (e' := [(4, .slice A13 (([] : List T44)).length c14)]) rfl trivial fun a hk => ?_
      refine wpListIn_nil ?_
      refine then_n ?_
      refine wpIn_ret ?_
      obtain rfl := Option.some.inj H
      exact x_retG hk (rs := [.tmp 4]) (vs := [.slice A13 (([] : List T44)).length c14]) rfl ⟨rfl, trivial⟩ ⟨fun b_ => if b_ < w.heap.size then o b_ else (fun _ => R0) (o9 b_), A13, c14, rfl, hs.close0 o (fun _ => R0), hs.close_ft (o := o) (ρ := fun _ => R0) f15 (by decide) rfl, (Nat.zero_le _)⟩
  refine x_seq ?_
  refine wpIn_region_lit ?_
  refine x_run tab hk (k := 2) (lv := []) (ks := [0, 1, 6]) (e' := [(0, .slice none 0 0), (1, .int .i64 p1), (6, .bool (decide (p1 < (0 : Int))))]) rfl trivial fun a hk => ?_
  refine wpListIn_nil ?_
  refine then_n ?_
  cases b16 : (decide (p1 < (0 : Int)))
  · rw [b16] at hk H
    replace H := bifF H
    refine x_if hk (b := false) rfl ?_
    refine (show Code.wpIn _ _ _ _ _ _ _ from ?_)
    refine wpIn_skip ?_
    refine then_n ?_
    exact ⟨o0, (by exact Kn.pick (ks := [0, 1]) hk rfl), hs, H⟩
  · rw [b16] at hk H
    replace H := bifT H
    refine x_if hk (b := true) rfl ?_
    refine (show Code.wpIn _ _ _ _ _ _ _ from ?_)
    refine wpIn_region_lit ?_
    exact absurd H (by simp)

/-! slices.Concat[[]tidewrack/spans.Span,tidewrack/spans.Span] -/
theorem slices_Concat_calls (K : Nat) (Ap0 : Option Addr) (cp0 : Nat) (p0 : List (List T44)) (w : World) (o : Nat → Nat) (LF : Nat) (Lp0 : Nat) (hp0 : NRd (dRows ET44) Ap0 p0 w o Lp0 LF) (hcp0 : (p0).length ≤ cp0) (hd0 : ([LF] : List Nat).Nodup) (hd1 : Lp0 ∉ [LF]) (R0 : Nat) (r : List T44) (H : slices_Concat K p0 = some r) :
    Calls Try.prog 46 #[.slice Ap0 (p0).length cp0] w (Ret fun v_ w' => ∃ o' : Nat → Nat, ∃ A0 : Option Addr, ∃ c0 : Nat, v_ = .slice A0 (r).length c0 ∧ St [] w o w' o' ∧ Ft (Own ET44 45 (.slice A0 (r).length c0) r) w' o' R0 ∧ (r).length ≤ c0) := by
  refine x_enter (vs := [.slice Ap0 (p0).length cp0]) Try.func46 rfl rfl rfl fun a hk => ?_
  obtain ⟨oi, hs0, h0, h1, hob, hoz, hoa⟩ := St.startM2 w o (m := 1) hd0 rfl
  have hs := hs0 []
  have f900000 := hp0.conv (fun P_ => h0 P_ _ hd1) (fun _ h_ => h1 0 1 h_ rfl rfl)
  clear h0 h1 hs0
  rw [slices_Concat] at H
  refine x_seq ?_
  refine wpIn_region_lit ?_
  refine x_run tab hk (k := 1) (lv := []) (ks := [0]) (e' := [(0, .slice Ap0 (p0).length cp0)]) rfl trivial fun a hk => ?_
  refine wpListIn_nil ?_
  refine then_n ?_
  refine x_seq ?_
  refine wpIn_region_lit ?_
  refine x_run tab hk (k := 1) (lv := []) (ks := [0, 3]) (e' := [(0, .slice Ap0 (p0).length cp0), (3, .int .i64 0)]) rfl trivial fun a hk => ?_
  refine wpListIn_nil ?_
  refine then_n ?_
  refine x_mid (fun a_ w_ => ∃ o44 : Nat → Nat, ∃ x45 : Int, Kn 36 a_ [(0, .slice Ap0 (p0).length cp0), (3, .int .i64 x45)] ∧ St [] w oi w_ o44 ∧ NRd (dRows ET44) Ap0 p0 w_ o44 0 1 ∧ slices_Concat_j1 K p0 x45 = some r) ?_ ?_
  rotate_left
  · rintro a w46 ⟨o44, x45, hk, hs, f900000, H⟩
    rw [slices_Concat_j1] at H
    refine x_seq ?_
    refine wpIn_region_lit ?_
    refine x_run tab hk (k := 1) (lv := []) (ks := [0, 23]) (e' := [(0, .slice Ap0 (p0).length cp0), (23, .int .i64 x45)]) rfl trivial fun a hk => ?_
    refine x_op hk rfl ?_
    obtain ⟨t50, hc51, H⟩ := bindS H
    refine op_call hk ent_52 (vs := [.slice none 0 0, .int .i64 x45]) rfl (slices_Grow_calls x45 _ o44  2  _ hc51) ?_
    rintro _ w52 ⟨o53, A55, c56, rfl, st54, f57, hc58⟩
    replace f900000 := f900000.st st54 (by decide)
    replace hs := hs.locQ st54 hob rfl
    have hk := hk.put 24 (.slice A55 (t50).length c56) rfl
    refine x_run tab hk (k := 1) (lv := []) (ks := [0, 6]) (e' := [(0, .slice Ap0 (p0).length cp0), (6, .slice A55 (t50).length c56)]) rfl trivial fun a hk => ?_
    refine wpListIn_nil ?_
    refine then_n ?_
    refine x_mid (fun a_ w_ => ∃ o131 : Nat → Nat, ∃ A132 : Option Addr, ∃ c133 : Nat, ∃ l134 : List T44, Kn 36 a_ [(6, .slice A132 (l134).length c133)] ∧ St [] w oi w_ o131 ∧ Ft (Own ET44 45 (.slice A132 (l134).length c133) l134) w_ o131 5 ∧ (l134).length ≤ c133 ∧ slices_Concat_j2 l134 = some r) ?_ ?_
    rotate_left
    · rintro a w137 ⟨o131, A132, c133, l134, hk, hs, f135, hc136, H⟩
      rw [slices_Concat_j2] at H
      refine x_seq ?_
      refine wpIn_region_lit ?_
      refine x_run tab hk (k := 2) (lv := []) (ks := [2]) (e' := [(2, .slice A132 (l134).length c133)]) rfl trivial fun a hk => ?_
      refine wpListIn_nil ?_
      refine then_n ?_
      refine wpIn_ret ?_
      obtain rfl := Option.some.inj H
      exact x_retG hk (rs := [.tmp 2]) (vs := [.slice A132 (l134).length c133]) rfl ⟨rfl, trivial⟩ ⟨cl w oi o [] (fun l_ => if l_ = 1 then LF else if l_ = 5 then R0 else 0) o131, A132, c133, rfl, hs.closeF (Lm := []) (Sh := []) hoa rfl (fun l_ => if l_ = 1 then LF else if l_ = 5 then R0 else 0), hs.closeM_ft (o := o) (ρ := fun l_ => if l_ = 1 then LF else if l_ = 5 then R0 else 0) f135 (lab_none hob rfl) rfl, hc136⟩
    refine x_seq ?_
    refine wpIn_region_lit ?_
    refine x_run tab hk (k := 3) (lv := []) (ks := [6, 25, 26, 27]) (e' := [(6, .slice A55 (t50).length c56), (25, .slice Ap0 (p0).length cp0), (26, .int .i64 ((p0).length : Int)), (27, .int .i64 0)]) rfl trivial fun a hk => ?_
    refine wpListIn_nil ?_
    refine then_n ?_
    refine wpIn_block ?_
    refine x_loop (fun j_ a_ w_ => ∃ o157 : Nat → Nat, ∃ A158 : Option Addr, ∃ c159 : Nat, ∃ l160 : List T44, ∃ x163 : Int, Kn 36 a_ [(6, .slice A158 (l160).length c159), (25, .slice Ap0 (p0).length cp0), (26, .int .i64 ((p0).length : Int)), (27, .int .i64 x163)] ∧ St [] w oi w_ o157 ∧ Ft (Own ET44 45 (.slice A158 (l160).length c159) l160) w_ o157 7 ∧ NRd (dRows ET44) Ap0 p0 w_ o157 0 1 ∧ (l160).length ≤ c159 ∧ slices_Concat_l3 p0 j_ l160 x163 = some r) (k := K) ⟨(fun b_ => (fun l_ => if l_ = 2 then 7 else l_) (o53 b_)), A55, c56, t50, 0, (by exact Kn.pick (ks := [6, 25, 26, 27]) hk rfl), (hs.relabM hob (fun l_ => if l_ = 2 then 7 else l_) (by decide)), (f57.relab (fun l_ => if l_ = 2 then 7 else l_) rfl), (f900000.relab (fun l_ => if l_ = 2 then 7 else l_) rfl), hc58, H⟩ (by rintro _ _ ⟨_, _, _, _, _, _, _, _, _, _, H_⟩; exact absurd (show (none : Option (List T44)) = some r from H_) (by simp)) ?_
    rintro k181 a w180 ⟨o157, A158, c159, l160, x163, hk, hs, f161, f900000, hc162, H⟩
    rw [slices_Concat_l3] at H
    obtain ⟨lp182, hlp183⟩ : ∃ lp_, lp_ = slices_Concat_l3 p0 k181 := ⟨_, rfl⟩
    rw [← hlp183] at H
    refine x_seq ?_
    refine wpIn_region_lit ?_
    refine x_run tab hk (k := 1) (lv := []) (ks := [6, 25, 26, 27, 28]) (e' := [(6, .slice A158 (l160).length c159), (25, .slice Ap0 (p0).length cp0), (26, .int .i64 ((p0).length : Int)), (27, .int .i64 x163), (28, .bool (decide (x163 < ((p0).length : Int))))]) rfl trivial fun a hk => ?_
    refine wpListIn_nil ?_
    refine then_n ?_
    refine x_seq ?_
    cases b184 : (decide (x163 < ((p0).length : Int)))
    · rw [b184] at hk H
      replace H := bifF H
      refine x_if hk (b := false) rfl ?_
      refine (show Code.wpIn _ _ _ _ _ _ _ from ?_)
      refine wpIn_exit ?_
      refine then_x ?_
      refine then_x ?_
      refine blk_x ?_
      refine then_n ?_
      exact ⟨(fun b_ => (fun l_ => if l_ = 7 then 5 else l_) (o157 b_)), A158, c159, l160, (by exact Kn.pick (ks := [6]) hk rfl), (hs.relabM hob (fun l_ => if l_ = 7 then 5 else l_) (by decide)), (f161.relab (fun l_ => if l_ = 7 then 5 else l_) rfl), hc162, H⟩
    · rw [b184] at hk H
      replace H := bifT H
      refine x_if hk (b := true) rfl ?_
      refine (show Code.wpIn _ _ _ _ _ _ _ from ?_)
      refine wpIn_skip ?_
      refine then_n ?_
      refine x_seq ?_
      refine wpIn_block ?_
      refine x_seq ?_
      refine wpIn_region_lit ?_
      obtain ⟨q185, H⟩ := ifS H
      obtain ⟨ad186, hAad186⟩ := NRd.addr f900000 q185
      have hk_C := hk
      have f161_C := f161
      have f900000_C := f900000
      subst hAad186
      have hk := hk_C
      clear hk_C
      have f161 := f161_C
      clear f161_C
      have f900000 := f900000_C
      clear f900000_C
      obtain ⟨A187, c188, f189, f190, hc191⟩ := NRd.row f900000 (P := Try.prog) tab (t := 42) rfl (i := x163) q185
      refine x_run tab hk (k := 3) (lv := [.slice A187 ((rdD [] p0 x163)).length c188]) (ks := [6, 8, 25, 26, 27]) (e' := [(6, .slice A158 (l160).length c159), (8, .slice A187 ((rdD [] p0 x163)).length c188), (25, .slice (some ad186) (p0).length cp0), (26, .int .i64 ((p0).length : Int)), (27, .int .i64 x163)]) rfl ⟨q185, f189.now, trivial⟩ fun a hk => ?_
      refine wpListIn_nil ?_
      refine then_n ?_
      refine wpIn_region_lit ?_
      refine x_run tab hk (k := 2) (lv := []) (ks := [25, 26, 27, 31, 32]) (e' := [(25, .slice (some ad186) (p0).length cp0), (26, .int .i64 ((p0).length : Int)), (27, .int .i64 x163), (31, .slice A158 (l160).length c159), (32, .slice A187 ((rdD [] p0 x163)).length c188)]) rfl trivial fun a hk => ?_
      refine x_op hk rfl ?_
      obtain ⟨q195, H⟩ := ifS H
      refine op_append (o := o157) (E := ET44) (xs := l160) (ys := (rdD [] p0 x163)) tab hk rfl rfl rfl rfl rfl rfl rfl f161 f190.now q195 fun A196 c197 w192 o193 st194 f198 hc199 => ?_
      replace f190 := f190.st st194 (by decide)
      replace f900000 := f900000.st st194 (by decide)
      replace hs := hs.locQ st194 hob rfl
      have hk := hk.put 33 (.slice A196 ((l160 ++ (rdD [] p0 x163))).length c197) rfl
      refine x_run tab hk (k := 1) (lv := []) (ks := [6, 25, 26, 27]) (e' := [(6, .slice A196 ((l160 ++ (rdD [] p0 x163))).length c197), (25, .slice (some ad186) (p0).length cp0), (26, .int .i64 ((p0).length : Int)), (27, .int .i64 x163)]) rfl trivial fun a hk => ?_
      refine wpListIn_nil ?_
      refine blk_n ?_
      refine then_n ?_
      refine wpIn_region_lit ?_
      refine x_run tab hk (k := 2) (lv := []) (ks := [6, 25, 26, 27]) (e' := [(6, .slice A196 ((l160 ++ (rdD [] p0 x163))).length c197), (25, .slice (some ad186) (p0).length cp0), (26, .int .i64 ((p0).length : Int)), (27, .int .i64 (IntKind.wrap .i64 (x163 + 1)))]) rfl trivial fun a hk => ?_
      refine wpListIn_nil ?_
      refine then_n ?_
      exact ⟨k181, Nat.le_refl _, o193, A196, c197, (l160 ++ (rdD [] p0 x163)), (IntKind.wrap .i64 (x163 + 1)), (by exact Kn.pick (ks := [6, 25, 26, 27]) hk rfl), hs, f198, f900000, hc199, (hlp183 ▸ H)⟩
  refine x_seq ?_
  refine wpIn_region_lit ?_
  refine x_run tab hk (k := 3) (lv := []) (ks := [0, 3, 9, 10, 11]) (e' := [(0, .slice Ap0 (p0).length cp0), (3, .int .i64 0), (9, .slice Ap0 (p0).length cp0), (10, .int .i64 ((p0).length : Int)), (11, .int .i64 0)]) rfl trivial fun a hk => ?_
  refine wpListIn_nil ?_
  refine then_n ?_
  refine wpIn_block ?_
  refine x_loop (fun j_ a_ w_ => ∃ o212 : Nat → Nat, ∃ x213 : Int, ∃ x214 : Int, Kn 36 a_ [(0, .slice Ap0 (p0).length cp0), (3, .int .i64 x213), (9, .slice Ap0 (p0).length cp0), (10, .int .i64 ((p0).length : Int)), (11, .int .i64 x214)] ∧ St [] w oi w_ o212 ∧ NRd (dRows ET44) Ap0 p0 w_ o212 0 1 ∧ slices_Concat_l4 K p0 j_ x213 x214 = some r) (k := K) ⟨oi, 0, 0, (by exact Kn.pick (ks := [0, 3, 9, 10, 11]) hk rfl), hs, f900000, H⟩ (by rintro _ _ ⟨_, _, _, _, _, _, H_⟩; exact absurd (show (none : Option (List T44)) = some r from H_) (by simp)) ?_
  rintro k225 a w224 ⟨o212, x213, x214, hk, hs, f900000, H⟩
  rw [slices_Concat_l4] at H
  obtain ⟨lp226, hlp227⟩ : ∃ lp_, lp_ = slices_Concat_l4 K p0 k225 := ⟨_, rfl⟩
  rw [← hlp227] at H
  refine x_seq ?_
  refine wpIn_region_lit ?_
  refine x_run tab hk (k := 1) (lv := []) (ks := [0, 3, 9, 10, 11, 12]) (e' := [(0, .slice Ap0 (p0).length cp0), (3, .int .i64 x213), (9, .slice Ap0 (p0).length cp0), (10, .int .i64 ((p0).length : Int)), (11, .int .i64 x214), (12, .bool (decide (x214 < ((p0).length : Int))))]) rfl trivial fun a hk => ?_
  refine wpListIn_nil ?_
  refine then_n ?_
  refine x_seq ?_
  cases b228 : (decide (x214 < ((p0).length : Int)))
  · rw [b228] at hk H
    replace H := bifF H
    refine x_if hk (b := false) rfl ?_
    refine (show Code.wpIn _ _ _ _ _ _ _ from ?_)
    refine wpIn_exit ?_
    refine then_x ?_
    refine then_x ?_
    refine blk_x ?_
    refine then_n ?_
    exact ⟨o212, x213, (by exact Kn.pick (ks := [0, 3]) hk rfl), hs, f900000, H⟩
  · rw [b228] at hk H
    replace H := bifT H
    refine x_if hk (b := true) rfl ?_
    refine (show Code.wpIn _ _ _ _ _ _ _ from ?_)
    refine wpIn_skip ?_
    refine then_n ?_
    refine x_seq ?_
    refine wpIn_block ?_
    refine x_seq ?_
    refine wpIn_region_lit ?_
    obtain ⟨q229, H⟩ := ifS H
    obtain ⟨ad230, hAad230⟩ := NRd.addr f900000 q229
    have hk_C := hk
    have f900000_C := f900000
    subst hAad230
    have hk := hk_C
    clear hk_C
    have f900000 := f900000_C
    clear f900000_C
    obtain ⟨A231, c232, f233, f234, hc235⟩ := NRd.row f900000 (P := Try.prog) tab (t := 42) rfl (i := x214) q229
    refine x_run tab hk (k := 3) (lv := [.slice A231 ((rdD [] p0 x214)).length c232]) (ks := [0, 3, 5, 9, 10, 11]) (e' := [(0, .slice (some ad230) (p0).length cp0), (3, .int .i64 x213), (5, .slice A231 ((rdD [] p0 x214)).length c232), (9, .slice (some ad230) (p0).length cp0), (10, .int .i64 ((p0).length : Int)), (11, .int .i64 x214)]) rfl ⟨q229, f233.now, trivial⟩ fun a hk => ?_
    refine wpListIn_nil ?_
    refine then_n ?_
    refine x_seq ?_
    refine wpIn_region_lit ?_
    refine x_run tab hk (k := 5) (lv := []) (ks := [0, 3, 9, 10, 11]) (e' := [(0, .slice (some ad230) (p0).length cp0), (3, .int .i64 (IntKind.wrap .i64 (x213 + (((rdD [] p0 x214)).length : Int)))), (9, .slice (some ad230) (p0).length cp0), (10, .int .i64 ((p0).length : Int)), (11, .int .i64 x214)]) rfl trivial fun a hk => ?_
    refine wpListIn_nil ?_
    refine then_n ?_
    refine x_seq ?_
    refine wpIn_region_lit ?_
    refine x_run tab hk (k := 2) (lv := []) (ks := [0, 3, 9, 10, 11, 20]) (e' := [(0, .slice (some ad230) (p0).length cp0), (3, .int .i64 (IntKind.wrap .i64 (x213 + (((rdD [] p0 x214)).length : Int)))), (9, .slice (some ad230) (p0).length cp0), (10, .int .i64 ((p0).length : Int)), (11, .int .i64 x214), (20, .bool (decide ((IntKind.wrap .i64 (x213 + (((rdD [] p0 x214)).length : Int))) < (0 : Int))))]) rfl trivial fun a hk => ?_
    refine wpListIn_nil ?_
    refine then_n ?_
    cases b236 : (decide ((IntKind.wrap .i64 (x213 + (((rdD [] p0 x214)).length : Int))) < (0 : Int)))
    · rw [b236] at hk H
      replace H := bifF H
      refine x_if hk (b := false) rfl ?_
      refine (show Code.wpIn _ _ _ _ _ _ _ from ?_)
      refine wpIn_skip ?_
      refine blk_n ?_
      refine then_n ?_
      refine wpIn_region_lit ?_
      refine x_run tab hk (k := 2) (lv := []) (ks := [0, 3, 9, 10, 11]) (e' := [(0, .slice (some ad230) (p0).length cp0), (3, .int .i64 (IntKind.wrap .i64 (x213 + (((rdD [] p0 x214)).length : Int)))), (9, .slice (some ad230) (p0).length cp0), (10, .int .i64 ((p0).length : Int)), (11, .int .i64 (IntKind.wrap .i64 (x214 + 1)))]) rfl trivial fun a hk => ?_
      refine wpListIn_nil ?_
      refine then_n ?_
      exact ⟨k225, Nat.le_refl _, o212, (IntKind.wrap .i64 (x213 + (((rdD [] p0 x214)).length : Int))), (IntKind.wrap .i64 (x214 + 1)), (by exact Kn.pick (ks := [0, 3, 9, 10, 11]) hk rfl), hs, f900000, (hlp227 ▸ H)⟩
    · rw [b236] at hk H
      replace H := bifT H
      refine x_if hk (b := true) rfl ?_
      refine (show Code.wpIn _ _ _ _ _ _ _ from ?_)
      refine wpIn_region_lit ?_
      exact absurd H (by simp)

/-! (*tidewrack/spans.Set).Add -/
set_option maxHeartbeats 4000000 in
set_option maxRecDepth 20000 in
theorem spans_Set_Add_calls (K : Nat) (bp0 : Nat) (Ap0_0 : Option Addr) (cp0_0 : Nat) (p0 : T77) (Ap1 : Option Addr) (cp1 : Nat) (p1 : List T44) (w : World) (o : Nat → Nat) (Lp0 : Nat) (hp0 : Ft (Bx bp0 78 [.slice Ap0_0 (p0.l).length cp0_0]) w o Lp0) (Lp0_0 : Nat) (hp0_0 : Ft (Own ET44 45 (.slice Ap0_0 (p0.l).length cp0_0) p0.l) w o Lp0_0) (hcp0_0 : (p0.l).length ≤ cp0_0) (Lp1 : Nat) (hp1 : Ft (RdC ET44 Ap1 p1) w o Lp1) (hcp1 : (p1).length ≤ cp1) (hd0 : ([Lp0, Lp0_0] : List Nat).Nodup) (hd1 : Lp1 ∉ [Lp0, Lp0_0]) (r : T77) (H : spans_Set_Add K p0 p1 = some r) :
    Calls Try.prog 29 #[.pointer (some ⟨bp0, 0, none⟩), .slice Ap1 (p1).length cp1] w (Ret fun v_ w' => ∃ o' : Nat → Nat, ∃ A0 : Option Addr, ∃ c0 : Nat, v_ = .tuple #[] ∧ St [Lp0, Lp0_0] w o w' o' ∧ Ft (Bx bp0 78 [.slice A0 (r.l).length c0]) w' o' Lp0 ∧ Ft (Own ET44 45 (.slice A0 (r.l).length c0) r.l) w' o' Lp0_0 ∧ (r.l).length ≤ c0) := by
  refine x_enter (vs := [.pointer (some ⟨bp0, 0, none⟩), .slice Ap1 (p1).length cp1]) Try.func29 rfl rfl rfl fun a hk => ?_
  obtain ⟨oi, hs0, h0, h1, hob, hoz, hoa⟩ := St.startM2 w o (m := 2) hd0 rfl
  have hs := hs0 [1, 2]
  have hom := lab_in hob (MM := [1, 2]) (by decide)
  have f900000 := h1 1 2 hp0_0 rfl rfl
  have f900019 := h1 0 1 hp0 rfl rfl
  have f900020 := h0 _ _ hd1 hp1
  clear h0 h1 hs0
  rw [spans_Set_Add] at H
  refine x_scope ?_
  refine x_seq ?_
  refine wpIn_label ?_
  refine then_n ?_
  refine x_seq ?_
  refine wpIn_region_lit ?_
  refine x_run tab hk (k := 3) (lv := []) (ks := [0, 9, 10, 11]) (e' := [(0, .pointer (some ⟨bp0, 0, none⟩)), (9, .slice Ap1 (p1).length cp1), (10, .int .i64 ((p1).length : Int)), (11, .int .i64 0)]) rfl trivial fun a hk => ?_
  refine wpListIn_nil ?_
  refine then_n ?_
  refine wpIn_block ?_
  refine x_loop (fun j_ a_ w_ => ∃ o6574 : Nat → Nat, ∃ A6575 : Option Addr, ∃ c6576 : Nat, ∃ l6577 : List T44, ∃ A6580 : Option Addr, ∃ c6581 : Nat, ∃ x6584 : Int, Kn 79 a_ [(0, .pointer (some ⟨bp0, 0, none⟩)), (9, .slice A6580 (p1).length c6581), (10, .int .i64 ((p1).length : Int)), (11, .int .i64 x6584)] ∧ St [1, 2] w oi w_ o6574 ∧ Ft (Own ET44 45 (.slice A6575 (l6577).length c6576) l6577) w_ o6574 2 ∧ Ft (RdC ET44 A6580 p1) w_ o6574 0 ∧ Ft (Bx bp0 78 [.slice A6575 (l6577).length c6576]) w_ o6574 1 ∧ (l6577).length ≤ c6576 ∧ (p1).length ≤ c6581 ∧ spans_Set_Add_l1 K p1 j_ l6577 x6584 = some r) (k := K) ⟨oi, Ap0_0, cp0_0, p0.l, Ap1, cp1, 0, (by exact Kn.pick (ks := [0, 9, 10, 11]) hk rfl), hs, f900000, f900020, f900019, hcp0_0, hcp1, H⟩ (by rintro _ _ ⟨_, _, _, _, _, _, _, _, _, _, _, _, _, _, H_⟩; exact absurd (show (none : Option T77) = some r from H_) (by simp)) ?_
  rintro k13156 a w13155 ⟨o6574, A6575, c6576, l6577, A6580, c6581, x6584, hk, hs, f6578, f6582, f900019, hc6579, hc6583, H⟩
  rw [spans_Set_Add_l1] at H
  obtain ⟨lp13157, hlp13158⟩ : ∃ lp_, lp_ = spans_Set_Add_l1 K p1 k13156 := ⟨_, rfl⟩
  rw [← hlp13158] at H
  refine x_seq ?_
  refine wpIn_region_lit ?_
  refine x_run tab hk (k := 1) (lv := []) (ks := [0, 9, 10, 11, 12]) (e' := [(0, .pointer (some ⟨bp0, 0, none⟩)), (9, .slice A6580 (p1).length c6581), (10, .int .i64 ((p1).length : Int)), (11, .int .i64 x6584), (12, .bool (decide (x6584 < ((p1).length : Int))))]) rfl trivial fun a hk => ?_
  refine wpListIn_nil ?_
  refine then_n ?_
  refine x_seq ?_
  cases b13159 : (decide (x6584 < ((p1).length : Int)))
  · rw [b13159] at hk H
    replace H := bifF H
    refine x_if hk (b := false) rfl ?_
    refine (show Code.wpIn _ _ _ _ _ _ _ from ?_)
    refine wpIn_exit ?_
    refine then_x ?_
    refine then_x ?_
    refine blk_x ?_
    refine sc_n ?_
    obtain rfl := Option.some.inj H
    exact x_endG hk (rs := []) (vs := []) rfl trivial ⟨cl w oi o [1, 2] (fun l_ => if l_ = 1 then Lp0 else if l_ = 2 then Lp0_0 else 0) o6574, A6575, c6576, rfl, hs.closeM hoz (by decide) (fun l_ => if l_ = 1 then Lp0 else if l_ = 2 then Lp0_0 else 0), hs.closeM_ft (o := o) (ρ := fun l_ => if l_ = 1 then Lp0 else if l_ = 2 then Lp0_0 else 0) f900019 (lab_at hoa (i := 0) rfl) rfl, hs.closeM_ft (o := o) (ρ := fun l_ => if l_ = 1 then Lp0 else if l_ = 2 then Lp0_0 else 0) f6578 (lab_at hoa (i := 1) rfl) rfl, hc6579⟩
  · rw [b13159] at hk H
    replace H := bifT H
    refine x_if hk (b := true) rfl ?_
    refine (show Code.wpIn _ _ _ _ _ _ _ from ?_)
    refine wpIn_skip ?_
    refine then_n ?_
    refine x_mid (fun a_ w_ => ∃ o16446 : Nat → Nat, ∃ A16447 : Option Addr, ∃ c16448 : Nat, ∃ l16449 : List T44, ∃ A16452 : Option Addr, ∃ c16453 : Nat, Kn 79 a_ [(0, .pointer (some ⟨bp0, 0, none⟩)), (9, .slice A16452 (p1).length c16453), (10, .int .i64 ((p1).length : Int)), (11, .int .i64 x6584)] ∧ St [1, 2] w oi w_ o16446 ∧ Ft (Own ET44 45 (.slice A16447 (l16449).length c16448) l16449) w_ o16446 2 ∧ Ft (RdC ET44 A16452 p1) w_ o16446 0 ∧ Ft (Bx bp0 78 [.slice A16447 (l16449).length c16448]) w_ o16446 1 ∧ (l16449).length ≤ c16448 ∧ (p1).length ≤ c16453 ∧ spans_Set_Add_j2 x6584 lp13157 l16449 = some r) ?_ ?_
    rotate_left
    · rintro a w16456 ⟨o16446, A16447, c16448, l16449, A16452, c16453, hk, hs, f16450, f16454, f900019, hc16451, hc16455, H⟩
      rw [spans_Set_Add_j2] at H
      refine wpIn_region_lit ?_
      refine x_run tab hk (k := 2) (lv := []) (ks := [0, 9, 10, 11]) (e' := [(0, .pointer (some ⟨bp0, 0, none⟩)), (9, .slice A16452 (p1).length c16453), (10, .int .i64 ((p1).length : Int)), (11, .int .i64 (IntKind.wrap .i64 (x6584 + 1)))]) rfl trivial fun a hk => ?_
      refine wpListIn_nil ?_
      refine then_n ?_
      exact ⟨k13156, Nat.le_refl _, o16446, A16447, c16448, l16449, A16452, c16453, (IntKind.wrap .i64 (x6584 + 1)), (by exact Kn.pick (ks := [0, 9, 10, 11]) hk rfl), hs, f16450, f16454, f900019, hc16451, hc16455, (hlp13158 ▸ H)⟩
    refine wpIn_block ?_
    refine x_seq ?_
    refine wpIn_region_lit ?_
    obtain ⟨q16457, H⟩ := ifS H
    obtain ⟨ad16458, hAad16458⟩ := RdC.addr f6582.now q16457
    have hk_C := hk
    have f6578_C := f6578
    have f6582_C := f6582
    have f900019_C := f900019
    subst hAad16458
    have hk := hk_C
    clear hk_C
    have f6578 := f6578_C
    clear f6578_C
    have f6582 := f6582_C
    clear f6582_C
    have f900019 := f900019_C
    clear f900019_C
    refine x_run tab hk (k := 2) (lv := [.agg #[.int .i64 ((rdD zT44 p1 x6584).From), .int .i64 ((rdD zT44 p1 x6584).To)]]) (ks := [0, 9, 10, 11, 14]) (e' := [(0, .pointer (some ⟨bp0, 0, none⟩)), (9, .slice (some ad16458) (p1).length c6581), (10, .int .i64 ((p1).length : Int)), (11, .int .i64 x6584), (14, .agg #[.int .i64 ((rdD zT44 p1 x6584).From), .int .i64 ((rdD zT44 p1 x6584).To)])]) rfl ⟨q16457, (load_elem (E := ET44) (i := x6584) (dx := zT44) tab rfl rfl f6582.now q16457), trivial⟩ fun a hk => ?_
    refine x_op hk rfl ?_
    refine op_alloc (o := o6574) tab (t := 45) (cs := [.int .i64 0, .int .i64 0]) rfl rfl 1589 fun bx16462 w16459 o16460 st16461 f16463 => ?_
    replace f6578 := f6578.st st16461 (by decide)
    replace f6582 := f6582.st st16461 (by decide)
    replace f900019 := f900019.st st16461 (by decide)
    replace hs := hs.locM st16461 (by decide) hom
    have hk := hk.put 5 (.pointer (some ⟨bx16462, 0, none⟩)) rfl
    refine x_op hk rfl ?_
    refine op_store tab hk (t := 45) (v := .agg #[.int .i64 ((rdD zT44 p1 x6584).From), .int .i64 ((rdD zT44 p1 x6584).To)]) (b := bx16462) (k := 0) (cs' := [.int .i64 ((rdD zT44 p1 x6584).From), .int .i64 ((rdD zT44 p1 x6584).To)]) rfl rfl rfl rfl rfl rfl f16463 rfl rfl fun w16464 o16465 st16466 f16463_ => ?_
    replace f6578 := f6578.st st16466 (by decide)
    replace f6582 := f6582.st st16466 (by decide)
    replace f900019 := f900019.st st16466 (by decide)
    replace hs := hs.locM st16466 (by decide) hom
    replace f16463 := f16463_
    refine wpListIn_nil ?_
    refine then_n ?_
    refine x_seq ?_
    refine x_seq ?_
    refine wpIn_region_lit ?_
    refine x_run tab hk (k := 1) (lv := [.agg #[.int .i64 ((rdD zT44 p1 x6584).From), .int .i64 ((rdD zT44 p1 x6584).To)]]) (ks := [0, 5, 9, 10, 11, 15]) (e' := [(0, .pointer (some ⟨bp0, 0, none⟩)), (5, .pointer (some ⟨bx16462, 0, none⟩)), (9, .slice (some ad16458) (p1).length c6581), (10, .int .i64 ((p1).length : Int)), (11, .int .i64 x6584), (15, .agg #[.int .i64 ((rdD zT44 p1 x6584).From), .int .i64 ((rdD zT44 p1 x6584).To)])]) rfl ⟨(load_box tab rfl rfl f16463.now (k := 0) rfl rfl), trivial⟩ fun a hk => ?_
    refine x_op hk rfl ?_
    obtain ⟨t16470, hc16471, H⟩ := bindS H
    refine op_call hk ent_44 (vs := [.agg #[.int .i64 ((rdD zT44 p1 x6584).From), .int .i64 ((rdD zT44 p1 x6584).To)]]) rfl (spans_Span_fit_calls (rdD zT44 p1 x6584) _ o16465    _ hc16471) ?_
    rintro _ w16472 ⟨o16473, rfl, st16474⟩
    replace f16463 := f16463.st st16474 (by decide)
    replace f6578 := f6578.st st16474 (by decide)
    replace f6582 := f6582.st st16474 (by decide)
    replace f900019 := f900019.st st16474 (by decide)
    replace hs := hs.locM st16474 (by decide) hom
    have hk := hk.put 16 (.agg #[.int .i64 t16470.From, .int .i64 t16470.To]) rfl
    refine x_op hk rfl ?_
    refine op_store tab hk (t := 45) (v := .agg #[.int .i64 t16470.From, .int .i64 t16470.To]) (b := bx16462) (k := 0) (cs' := [.int .i64 t16470.From, .int .i64 t16470.To]) rfl rfl rfl rfl rfl rfl f16463 rfl rfl fun w16475 o16476 st16477 f16463_ => ?_
    replace f6578 := f6578.st st16477 (by decide)
    replace f6582 := f6582.st st16477 (by decide)
    replace f900019 := f900019.st st16477 (by decide)
    replace hs := hs.locM st16477 (by decide) hom
    replace f16463 := f16463_
    refine wpListIn_nil ?_
    refine then_n ?_
    refine x_seq ?_
    refine wpIn_region_lit ?_
    refine x_run tab hk (k := 1) (lv := [.agg #[.int .i64 t16470.From, .int .i64 t16470.To]]) (ks := [0, 5, 9, 10, 11, 17]) (e' := [(0, .pointer (some ⟨bp0, 0, none⟩)), (5, .pointer (some ⟨bx16462, 0, none⟩)), (9, .slice (some ad16458) (p1).length c6581), (10, .int .i64 ((p1).length : Int)), (11, .int .i64 x6584), (17, .agg #[.int .i64 t16470.From, .int .i64 t16470.To])]) rfl ⟨(load_box tab rfl rfl f16463.now (k := 0) rfl rfl), trivial⟩ fun a hk => ?_
    refine x_op hk rfl ?_
    obtain ⟨t16481, hc16482, H⟩ := bindS H
    refine op_call hk ent_45 (vs := [.agg #[.int .i64 t16470.From, .int .i64 t16470.To]]) rfl (spans_Span_empty_calls t16470 _ o16476    _ hc16482) ?_
    rintro _ w16483 ⟨o16484, rfl, st16485⟩
    replace f16463 := f16463.st st16485 (by decide)
    replace f6578 := f6578.st st16485 (by decide)
    replace f6582 := f6582.st st16485 (by decide)
    replace f900019 := f900019.st st16485 (by decide)
    replace hs := hs.locM st16485 (by decide) hom
    have hk := hk.put 18 (.bool t16481) rfl
    refine wpListIn_nil ?_
    refine then_n ?_
    cases b16486 : t16481
    · rw [b16486] at hk H
      replace H := bifF H
      refine x_if hk (b := false) rfl ?_
      refine (show Code.wpIn _ _ _ _ _ _ _ from ?_)
      refine wpIn_skip ?_
      refine then_n ?_
      refine x_seq ?_
      refine wpIn_region_lit ?_
      refine x_run tab hk (k := 1) (lv := []) (ks := [0, 5, 6, 9, 10, 11]) (e' := [(0, .pointer (some ⟨bp0, 0, none⟩)), (5, .pointer (some ⟨bx16462, 0, none⟩)), (6, .slice none 0 0), (9, .slice (some ad16458) (p1).length c6581), (10, .int .i64 ((p1).length : Int)), (11, .int .i64 x6584)]) rfl trivial fun a hk => ?_
      refine wpListIn_nil ?_
      refine then_n ?_
      refine x_mid (fun a_ w_ => ∃ o18101 : Nat → Nat, ∃ x18102 : T44, ∃ A18103 : Option Addr, ∃ c18104 : Nat, ∃ l18105 : List T44, Kn 79 a_ [(0, .pointer (some ⟨bp0, 0, none⟩)), (5, .pointer (some ⟨bx16462, 0, none⟩)), (6, .slice A18103 (l18105).length c18104), (9, .slice (some ad16458) (p1).length c6581), (10, .int .i64 ((p1).length : Int)), (11, .int .i64 x6584)] ∧ St [1, 2] w oi w_ o18101 ∧ Ft (Bx bx16462 45 [.int .i64 x18102.From, .int .i64 x18102.To]) w_ o18101 1747 ∧ Ft (Own ET44 45 (.slice A18103 (l18105).length c18104) l18105) w_ o18101 1748 ∧ Ft (Own ET44 45 (.slice A6575 (l6577).length c6576) l6577) w_ o18101 2 ∧ Ft (RdC ET44 (some ad16458) p1) w_ o18101 0 ∧ Ft (Bx bp0 78 [.slice A6575 (l6577).length c6576]) w_ o18101 1 ∧ (l18105).length ≤ c18104 ∧ spans_Set_Add_j3 x6584 lp13157 x18102 l18105 = some r) ?_ ?_
      rotate_left
      · rintro a w18108 ⟨o18101, x18102, A18103, c18104, l18105, hk, hs, f16463, f18106, f6578, f6582, f900019, hc18107, H⟩
        rw [spans_Set_Add_j3] at H
        refine wpIn_region_lit ?_
        refine x_run tab hk (k := 3) (lv := [.agg #[.int .i64 x18102.From, .int .i64 x18102.To]]) (ks := [0, 9, 10, 11, 71, 72, 73]) (e' := [(0, .pointer (some ⟨bp0, 0, none⟩)), (9, .slice (some ad16458) (p1).length c6581), (10, .int .i64 ((p1).length : Int)), (11, .int .i64 x6584), (71, .pointer (some ⟨bp0, 0, none⟩)), (72, .slice A18103 (l18105).length c18104), (73, .agg #[.int .i64 x18102.From, .int .i64 x18102.To])]) rfl ⟨(load_box tab rfl rfl f16463.now (k := 0) rfl rfl), trivial⟩ fun a hk => ?_
        refine x_op hk rfl ?_
        refine op_slice (o := o18101) tab hk (vs := [.agg #[.int .i64 x18102.From, .int .i64 x18102.To]]) (cs := [.int .i64 x18102.From, .int .i64 x18102.To]) rfl rfl rfl rfl rfl rfl rfl rfl rfl 1749 fun bx18112 w18109 o18110 st18111 f18113 => ?_
        replace f18106 := f18106.st st18111 (by decide)
        replace f6578 := f6578.st st18111 (by decide)
        replace f6582 := f6582.st st18111 (by decide)
        replace f900019 := f900019.st st18111 (by decide)
        replace hs := hs.locM st18111 (by decide) hom
        have f18114 : Ft (Own ET44 45 (.slice (some ⟨bx18112, 0, none⟩) (([x18102] : List T44)).length 1) ([x18102] : List T44)) w18109 o18110 1749 := f18113.imp fun _ h_ => Own.of_box h_ rfl (by simp)
        have hk := hk.put 74 (.slice (some ⟨bx18112, 0, none⟩) (([x18102] : List T44)).length 1) rfl
        refine x_op hk rfl ?_
        obtain ⟨q18118, H⟩ := ifS H
        refine op_append (o := o18110) (E := ET44) (xs := l18105) (ys := ([x18102] : List T44)) tab hk rfl rfl rfl rfl rfl rfl rfl f18106 (Own.rd f18114.now) q18118 fun A18119 c18120 w18115 o18116 st18117 f18121 hc18122 => ?_
        replace f18114 := f18114.st st18117 (by decide)
        replace f6578 := f6578.st st18117 (by decide)
        replace f6582 := f6582.st st18117 (by decide)
        replace f900019 := f900019.st st18117 (by decide)
        replace hs := hs.locM st18117 (by decide) hom
        have hk := hk.put 75 (.slice A18119 ((l18105 ++ ([x18102] : List T44))).length c18120) rfl
        refine x_run tab hk (k := 2) (lv := []) (ks := [0, 9, 10, 11, 75, 77]) (e' := [(0, .pointer (some ⟨bp0, 0, none⟩)), (9, .slice (some ad16458) (p1).length c6581), (10, .int .i64 ((p1).length : Int)), (11, .int .i64 x6584), (75, .slice A18119 ((l18105 ++ ([x18102] : List T44))).length c18120), (77, .pointer (some ⟨bp0, 0, none⟩))]) rfl trivial fun a hk => ?_
        refine x_op hk rfl ?_
        refine op_store tab hk (t := 42) (v := .slice A18119 ((l18105 ++ ([x18102] : List T44))).length c18120) (b := bp0) (k := 0) (cs' := [.slice A18119 ((l18105 ++ ([x18102] : List T44))).length c18120]) rfl rfl rfl rfl rfl rfl f900019 rfl rfl fun w18123 o18124 st18125 f900019_ => ?_
        replace f18121 := f18121.st st18125 (by decide)
        replace f6578 := f6578.st st18125 (by decide)
        replace f6582 := f6582.st st18125 (by decide)
        replace hs := hs.locM st18125 (by decide) hom
        replace f900019 := f900019_
        refine wpListIn_nil ?_
        refine blk_n ?_
        refine then_n ?_
        exact ⟨(fun b_ => (fun l_ => if l_ = 1748 then 2 else l_) (o18124 b_)), A18119, c18120, (l18105 ++ ([x18102] : List T44)), (some ad16458), c6581, (by exact Kn.pick (ks := [0, 9, 10, 11]) hk rfl), (hs.relabM hob (fun l_ => if l_ = 1748 then 2 else l_) (by decide)), (f18121.relab (fun l_ => if l_ = 1748 then 2 else l_) rfl), (f6582.relab (fun l_ => if l_ = 1748 then 2 else l_) rfl), (f900019.relab (fun l_ => if l_ = 1748 then 2 else l_) rfl), hc18122, hc6583, H⟩
      refine x_seq ?_
      refine wpIn_region_lit ?_
      refine x_run tab hk (k := 6) (lv := [.slice A6575 (l6577).length c6576]) (ks := [0, 5, 6, 9, 10, 11, 22, 23, 24]) (e' := [(0, .pointer (some ⟨bp0, 0, none⟩)), (5, .pointer (some ⟨bx16462, 0, none⟩)), (6, .slice none 0 0), (9, .slice (some ad16458) (p1).length c6581), (10, .int .i64 ((p1).length : Int)), (11, .int .i64 x6584), (22, .slice A6575 (l6577).length c6576), (23, .int .i64 ((l6577).length : Int)), (24, .int .i64 0)]) rfl ⟨(load1 tab rfl ((Bx.cell f900019.now 0).trans rfl)), trivial⟩ fun a hk => ?_
      refine wpListIn_nil ?_
      refine then_n ?_
      refine wpIn_block ?_
      refine x_loop (fun j_ a_ w_ => ∃ o18655 : Nat → Nat, ∃ x18656 : T44, ∃ A18657 : Option Addr, ∃ c18658 : Nat, ∃ l18659 : List T44, ∃ x18662 : Int, Kn 79 a_ [(0, .pointer (some ⟨bp0, 0, none⟩)), (5, .pointer (some ⟨bx16462, 0, none⟩)), (6, .slice A18657 (l18659).length c18658), (9, .slice (some ad16458) (p1).length c6581), (10, .int .i64 ((p1).length : Int)), (11, .int .i64 x6584), (22, .slice A6575 (l6577).length c6576), (23, .int .i64 ((l6577).length : Int)), (24, .int .i64 x18662)] ∧ St [1, 2] w oi w_ o18655 ∧ Ft (Bx bx16462 45 [.int .i64 x18656.From, .int .i64 x18656.To]) w_ o18655 1800 ∧ Ft (Own ET44 45 (.slice A18657 (l18659).length c18658) l18659) w_ o18655 1801 ∧ Ft (Own ET44 45 (.slice A6575 (l6577).length c6576) l6577) w_ o18655 2 ∧ Ft (RdC ET44 (some ad16458) p1) w_ o18655 0 ∧ Ft (Bx bp0 78 [.slice A6575 (l6577).length c6576]) w_ o18655 1 ∧ (l18659).length ≤ c18658 ∧ spans_Set_Add_l4 K l6577 x6584 lp13157 j_ x18656 l18659 x18662 = some r) (k := K) ⟨(fun b_ => (fun l_ => if l_ = 1589 then 1800 else l_) (o16484 b_)), t16470, none, 0, ([] : List T44), 0, (by exact Kn.pick (ks := [0, 5, 6, 9, 10, 11, 22, 23, 24]) hk rfl), (hs.relabM hob (fun l_ => if l_ = 1589 then 1800 else l_) (by decide)), (f16463.relab (fun l_ => if l_ = 1589 then 1800 else l_) rfl), (Ft.of_all (fun _ => Own.nil _ _ _) _ _ _), (f6578.relab (fun l_ => if l_ = 1589 then 1800 else l_) rfl), (f6582.relab (fun l_ => if l_ = 1589 then 1800 else l_) rfl), (f900019.relab (fun l_ => if l_ = 1589 then 1800 else l_) rfl), (by simp), H⟩ (by rintro _ _ ⟨_, _, _, _, _, _, _, _, _, _, _, _, _, _, H_⟩; exact absurd (show (none : Option T77) = some r from H_) (by simp)) ?_
      rintro k19195 a w19194 ⟨o18655, x18656, A18657, c18658, l18659, x18662, hk, hs, f16463, f18660, f6578, f6582, f900019, hc18661, H⟩
      rw [spans_Set_Add_l4] at H
      obtain ⟨lp19196, hlp19197⟩ : ∃ lp_, lp_ = spans_Set_Add_l4 K l6577 x6584 lp13157 k19195 := ⟨_, rfl⟩
      rw [← hlp19197] at H
      refine x_seq ?_
      refine wpIn_region_lit ?_
      refine x_run tab hk (k := 1) (lv := []) (ks := [0, 5, 6, 9, 10, 11, 22, 23, 24, 25]) (e' := [(0, .pointer (some ⟨bp0, 0, none⟩)), (5, .pointer (some ⟨bx16462, 0, none⟩)), (6, .slice A18657 (l18659).length c18658), (9, .slice (some ad16458) (p1).length c6581), (10, .int .i64 ((p1).length : Int)), (11, .int .i64 x6584), (22, .slice A6575 (l6577).length c6576), (23, .int .i64 ((l6577).length : Int)), (24, .int .i64 x18662), (25, .bool (decide (x18662 < ((l6577).length : Int))))]) rfl trivial fun a hk => ?_
      refine wpListIn_nil ?_
      refine then_n ?_
      refine x_seq ?_
      cases b19198 : (decide (x18662 < ((l6577).length : Int)))
      · rw [b19198] at hk H
        replace H := bifF H
        refine x_if hk (b := false) rfl ?_
        refine (show Code.wpIn _ _ _ _ _ _ _ from ?_)
        refine wpIn_exit ?_
        refine then_x ?_
        refine then_x ?_
        refine blk_x ?_
        refine then_n ?_
        exact ⟨(fun b_ => (fun l_ => if l_ = 1800 then 1747 else if l_ = 1801 then 1748 else l_) (o18655 b_)), x18656, A18657, c18658, l18659, (by exact Kn.pick (ks := [0, 5, 6, 9, 10, 11]) hk rfl), (hs.relabM hob (fun l_ => if l_ = 1800 then 1747 else if l_ = 1801 then 1748 else l_) (by decide)), (f16463.relab (fun l_ => if l_ = 1800 then 1747 else if l_ = 1801 then 1748 else l_) rfl), (f18660.relab (fun l_ => if l_ = 1800 then 1747 else if l_ = 1801 then 1748 else l_) rfl), (f6578.relab (fun l_ => if l_ = 1800 then 1747 else if l_ = 1801 then 1748 else l_) rfl), (f6582.relab (fun l_ => if l_ = 1800 then 1747 else if l_ = 1801 then 1748 else l_) rfl), (f900019.relab (fun l_ => if l_ = 1800 then 1747 else if l_ = 1801 then 1748 else l_) rfl), hc18661, H⟩
      · rw [b19198] at hk H
        replace H := bifT H
        refine x_if hk (b := true) rfl ?_
        refine (show Code.wpIn _ _ _ _ _ _ _ from ?_)
        refine wpIn_skip ?_
        refine then_n ?_
        refine x_seq ?_
        refine wpIn_block ?_
        refine x_seq ?_
        refine wpIn_region_lit ?_
        obtain ⟨q19199, H⟩ := ifS H
        obtain ⟨ad19200, hAad19200⟩ := RdC.addr (Own.rd f6578.now) q19199
        have hk_C := hk
        have f16463_C := f16463
        have f18660_C := f18660
        have f6578_C := f6578
        have f6582_C := f6582
        have f900019_C := f900019
        subst hAad19200
        have hk := hk_C
        clear hk_C
        have f16463 := f16463_C
        clear f16463_C
        have f18660 := f18660_C
        clear f18660_C
        have f6578 := f6578_C
        clear f6578_C
        have f6582 := f6582_C
        clear f6582_C
        have f900019 := f900019_C
        clear f900019_C
        refine x_run tab hk (k := 3) (lv := [.agg #[.int .i64 ((rdD zT44 l6577 x18662).From), .int .i64 ((rdD zT44 l6577 x18662).To)]]) (ks := [0, 5, 6, 9, 10, 11, 22, 23, 24, 26, 28]) (e' := [(0, .pointer (some ⟨bp0, 0, none⟩)), (5, .pointer (some ⟨bx16462, 0, none⟩)), (6, .slice A18657 (l18659).length c18658), (9, .slice (some ad16458) (p1).length c6581), (10, .int .i64 ((p1).length : Int)), (11, .int .i64 x6584), (22, .slice (some ad19200) (l6577).length c6576), (23, .int .i64 ((l6577).length : Int)), (24, .int .i64 x18662), (26, .int .i64 x18662), (28, .agg #[.int .i64 ((rdD zT44 l6577 x18662).From), .int .i64 ((rdD zT44 l6577 x18662).To)])]) rfl ⟨q19199, (load_elem (E := ET44) (i := x18662) (dx := zT44) tab rfl rfl (Own.rd f6578.now) q19199), trivial⟩ fun a hk => ?_
        refine x_op hk rfl ?_
        refine op_alloc (o := o18655) tab (t := 45) (cs := [.int .i64 0, .int .i64 0]) rfl rfl 1854 fun bx19204 w19201 o19202 st19203 f19205 => ?_
        replace f16463 := f16463.st st19203 (by decide)
        replace f18660 := f18660.st st19203 (by decide)
        replace f6578 := f6578.st st19203 (by decide)
        replace f6582 := f6582.st st19203 (by decide)
        replace f900019 := f900019.st st19203 (by decide)
        replace hs := hs.locM st19203 (by decide) hom
        have hk := hk.put 8 (.pointer (some ⟨bx19204, 0, none⟩)) rfl
        refine x_run tab hk (k := 1) (lv := []) (ks := [0, 5, 6, 7, 8, 9, 10, 11, 22, 23, 24, 28]) (e' := [(0, .pointer (some ⟨bp0, 0, none⟩)), (5, .pointer (some ⟨bx16462, 0, none⟩)), (6, .slice A18657 (l18659).length c18658), (7, .int .i64 x18662), (8, .pointer (some ⟨bx19204, 0, none⟩)), (9, .slice (some ad16458) (p1).length c6581), (10, .int .i64 ((p1).length : Int)), (11, .int .i64 x6584), (22, .slice (some ad19200) (l6577).length c6576), (23, .int .i64 ((l6577).length : Int)), (24, .int .i64 x18662), (28, .agg #[.int .i64 ((rdD zT44 l6577 x18662).From), .int .i64 ((rdD zT44 l6577 x18662).To)])]) rfl trivial fun a hk => ?_
        refine x_op hk rfl ?_
        refine op_store tab hk (t := 45) (v := .agg #[.int .i64 ((rdD zT44 l6577 x18662).From), .int .i64 ((rdD zT44 l6577 x18662).To)]) (b := bx19204) (k := 0) (cs' := [.int .i64 ((rdD zT44 l6577 x18662).From), .int .i64 ((rdD zT44 l6577 x18662).To)]) rfl rfl rfl rfl rfl rfl f19205 rfl rfl fun w19206 o19207 st19208 f19205_ => ?_
        replace f16463 := f16463.st st19208 (by decide)
        replace f18660 := f18660.st st19208 (by decide)
        replace f6578 := f6578.st st19208 (by decide)
        replace f6582 := f6582.st st19208 (by decide)
        replace f900019 := f900019.st st19208 (by decide)
        replace hs := hs.locM st19208 (by decide) hom
        replace f19205 := f19205_
        refine wpListIn_nil ?_
        refine then_n ?_
        refine wpIn_block ?_
        refine x_seq ?_
        refine wpIn_region_lit ?_
        refine x_run tab hk (k := 6) (lv := [.int .i64 ((rdD zT44 l6577 x18662).To), .int .i64 x18656.From]) (ks := [0, 5, 6, 7, 8, 9, 10, 11, 22, 23, 24, 40]) (e' := [(0, .pointer (some ⟨bp0, 0, none⟩)), (5, .pointer (some ⟨bx16462, 0, none⟩)), (6, .slice A18657 (l18659).length c18658), (7, .int .i64 x18662), (8, .pointer (some ⟨bx19204, 0, none⟩)), (9, .slice (some ad16458) (p1).length c6581), (10, .int .i64 ((p1).length : Int)), (11, .int .i64 x6584), (22, .slice (some ad19200) (l6577).length c6576), (23, .int .i64 ((l6577).length : Int)), (24, .int .i64 x18662), (40, .bool (decide (((rdD zT44 l6577 x18662).To) < x18656.From)))]) rfl ⟨(load1 tab rfl ((Bx.cell f19205.now 1).trans rfl)), (load1 tab rfl ((Bx.cell f16463.now 0).trans rfl)), trivial⟩ fun a hk => ?_
        refine wpListIn_nil ?_
        refine then_n ?_
        cases b19209 : (decide (((rdD zT44 l6577 x18662).To) < x18656.From))
        · rw [b19209] at hk H
          replace H := bifF H
          refine x_if hk (b := false) rfl ?_
          refine (show Code.wpIn _ _ _ _ _ _ _ from ?_)
          refine x_seq ?_
          refine wpIn_region_lit ?_
          refine x_run tab hk (k := 6) (lv := [.int .i64 ((rdD zT44 l6577 x18662).From), .int .i64 x18656.To]) (ks := [0, 5, 6, 7, 8, 9, 10, 11, 22, 23, 24, 50]) (e' := [(0, .pointer (some ⟨bp0, 0, none⟩)), (5, .pointer (some ⟨bx16462, 0, none⟩)), (6, .slice A18657 (l18659).length c18658), (7, .int .i64 x18662), (8, .pointer (some ⟨bx19204, 0, none⟩)), (9, .slice (some ad16458) (p1).length c6581), (10, .int .i64 ((p1).length : Int)), (11, .int .i64 x6584), (22, .slice (some ad19200) (l6577).length c6576), (23, .int .i64 ((l6577).length : Int)), (24, .int .i64 x18662), (50, .bool (decide (((rdD zT44 l6577 x18662).From) > x18656.To)))]) rfl ⟨(load1 tab rfl ((Bx.cell f19205.now 0).trans rfl)), (load1 tab rfl ((Bx.cell f16463.now 1).trans rfl)), trivial⟩ fun a hk => ?_
          refine wpListIn_nil ?_
          refine then_n ?_
          cases b19210 : (decide (((rdD zT44 l6577 x18662).From) > x18656.To))
          · rw [b19210] at hk H
            replace H := bifF H
            refine x_if hk (b := false) rfl ?_
            refine (show Code.wpIn _ _ _ _ _ _ _ from ?_)
            refine wpIn_region_lit ?_
            refine x_run tab hk (k := 10) (lv := [.int .i64 x18656.From, .int .i64 ((rdD zT44 l6577 x18662).From), .int .i64 x18656.To, .int .i64 ((rdD zT44 l6577 x18662).To)]) (ks := [0, 5, 6, 9, 10, 11, 22, 23, 24, 33, 38]) (e' := [(0, .pointer (some ⟨bp0, 0, none⟩)), (5, .pointer (some ⟨bx16462, 0, none⟩)), (6, .slice A18657 (l18659).length c18658), (9, .slice (some ad16458) (p1).length c6581), (10, .int .i64 ((p1).length : Int)), (11, .int .i64 x6584), (22, .slice (some ad19200) (l6577).length c6576), (23, .int .i64 ((l6577).length : Int)), (24, .int .i64 x18662), (33, .int .i64 (mnI x18656.From ((rdD zT44 l6577 x18662).From))), (38, .int .i64 (mxI x18656.To ((rdD zT44 l6577 x18662).To)))]) rfl ⟨(load1 tab rfl ((Bx.cell f16463.now 0).trans rfl)), (load1 tab rfl ((Bx.cell f19205.now 0).trans rfl)), (load1 tab rfl ((Bx.cell f16463.now 1).trans rfl)), (load1 tab rfl ((Bx.cell f19205.now 1).trans rfl)), trivial⟩ fun a hk => ?_
            refine x_run tab hk (k := 1) (lv := []) (ks := [0, 5, 6, 9, 10, 11, 22, 23, 24, 39]) (e' := [(0, .pointer (some ⟨bp0, 0, none⟩)), (5, .pointer (some ⟨bx16462, 0, none⟩)), (6, .slice A18657 (l18659).length c18658), (9, .slice (some ad16458) (p1).length c6581), (10, .int .i64 ((p1).length : Int)), (11, .int .i64 x6584), (22, .slice (some ad19200) (l6577).length c6576), (23, .int .i64 ((l6577).length : Int)), (24, .int .i64 x18662), (39, .agg #[.int .i64 (mnI x18656.From ((rdD zT44 l6577 x18662).From)), .int .i64 (mxI x18656.To ((rdD zT44 l6577 x18662).To))])]) rfl trivial fun a hk => ?_
            refine x_op hk rfl ?_
            refine op_store tab hk (t := 45) (v := .agg #[.int .i64 (mnI x18656.From ((rdD zT44 l6577 x18662).From)), .int .i64 (mxI x18656.To ((rdD zT44 l6577 x18662).To))]) (b := bx16462) (k := 0) (cs' := [.int .i64 (mnI x18656.From ((rdD zT44 l6577 x18662).From)), .int .i64 (mxI x18656.To ((rdD zT44 l6577 x18662).To))]) rfl rfl rfl rfl rfl rfl f16463 rfl rfl fun w19211 o19212 st19213 f16463_ => ?_
            replace f18660 := f18660.st st19213 (by decide)
            replace f6578 := f6578.st st19213 (by decide)
            replace f6582 := f6582.st st19213 (by decide)
            replace f900019 := f900019.st st19213 (by decide)
            replace hs := hs.locM st19213 (by decide) hom
            replace f16463 := f16463_
            refine wpListIn_nil ?_
            refine blk_n ?_
            refine blk_n ?_
            refine then_n ?_
            refine wpIn_region_lit ?_
            refine x_run tab hk (k := 2) (lv := []) (ks := [0, 5, 6, 9, 10, 11, 22, 23, 24]) (e' := [(0, .pointer (some ⟨bp0, 0, none⟩)), (5, .pointer (some ⟨bx16462, 0, none⟩)), (6, .slice A18657 (l18659).length c18658), (9, .slice (some ad16458) (p1).length c6581), (10, .int .i64 ((p1).length : Int)), (11, .int .i64 x6584), (22, .slice (some ad19200) (l6577).length c6576), (23, .int .i64 ((l6577).length : Int)), (24, .int .i64 (IntKind.wrap .i64 (x18662 + 1)))]) rfl trivial fun a hk => ?_
            refine wpListIn_nil ?_
            refine then_n ?_
            exact ⟨k19195, Nat.le_refl _, o19212, (⟨(mnI x18656.From ((rdD zT44 l6577 x18662).From)), (mxI x18656.To ((rdD zT44 l6577 x18662).To))⟩ : T44), A18657, c18658, l18659, (IntKind.wrap .i64 (x18662 + 1)), (by exact Kn.pick (ks := [0, 5, 6, 9, 10, 11, 22, 23, 24]) hk rfl), hs, f16463, f18660, f6578, f6582, f900019, hc18661, (hlp19197 ▸ H)⟩
          · rw [b19210] at hk H
            replace H := bifT H
            refine x_if hk (b := true) rfl ?_
            refine (show Code.wpIn _ _ _ _ _ _ _ from ?_)
            refine x_seq ?_
            refine x_cut (fun a_ w_ => ∃ o19484 : Nat → Nat, ∃ A19485 : Option Addr, ∃ c19486 : Nat, ∃ l19487 : List T44, Kn 79 a_ [(0, .pointer (some ⟨bp0, 0, none⟩)), (9, .slice (some ad16458) (p1).length c6581), (10, .int .i64 ((p1).length : Int)), (11, .int .i64 x6584)] ∧ St [1, 2] w oi w_ o19484 ∧ Ft (Own ET44 45 (.slice A19485 (l19487).length c19486) l19487) w_ o19484 1881 ∧ Ft (RdC ET44 (some ad16458) p1) w_ o19484 0 ∧ Ft (Bx bp0 78 [.slice A19485 (l19487).length c19486]) w_ o19484 1 ∧ (l19487).length ≤ c19486 ∧ spans_Set_Add_j5 x6584 lp13157 l19487 = some r) ?_ ?_
            rotate_left
            · rintro a w19490 ⟨o19484, A19485, c19486, l19487, hk, hs, f19488, f6582, f900019, hc19489, H⟩
              rw [spans_Set_Add_j5] at H
              refine then_n ?_
              refine wpIn_exit ?_
              refine blk_y rfl ?_
              refine blk_y rfl ?_
              refine then_x ?_
              refine then_x ?_
              refine blk_y rfl ?_
              refine then_x ?_
              refine blk_x ?_
              refine then_n ?_
              exact ⟨(fun b_ => (fun l_ => if l_ = 1881 then 2 else l_) (o19484 b_)), A19485, c19486, l19487, (some ad16458), c6581, (by exact Kn.pick (ks := [0, 9, 10, 11]) hk rfl), (hs.relabM hob (fun l_ => if l_ = 1881 then 2 else l_) (by decide)), (f19488.relab (fun l_ => if l_ = 1881 then 2 else l_) rfl), (f6582.relab (fun l_ => if l_ = 1881 then 2 else l_) rfl), (f900019.relab (fun l_ => if l_ = 1881 then 2 else l_) rfl), hc19489, hc6583, H⟩
            obtain ⟨q19533, H⟩ := ifS H
            obtain ⟨q19534, H⟩ := ifS H
            obtain ⟨t19549, hc19550, H⟩ := bindS H
            refine xd_begin (o := o19207) (fun W_ => (Bx bx16462 45 [.int .i64 x18656.From, .int .i64 x18656.To]) W_ ∧ True) mixed rfl rfl fun w19627 st19628 => ?_
            replace f16463 := f16463.st st19628 (by decide)
            replace f18660 := f18660.st st19628 (by decide)
            replace f19205 := f19205.st st19628 (by decide)
            replace f6578 := f6578.st st19628 (by decide)
            replace f6582 := f6582.st st19628 (by decide)
            replace f900019 := f900019.st st19628 (by decide)
            replace hs := hs.locM st19628 (by decide) hom
            refine xd_abs fun G hG => ?_
            have N19650 : ∀ (a_ : Act) (w_ : World), (∃ o19644 : Nat → Nat, ∃ A19645 : Option Addr, ∃ c19646 : Nat, Kn 79 a_ [(0, .pointer (some ⟨bp0, 0, none⟩)), (9, .slice (some ad16458) (p1).length c6581), (10, .int .i64 ((p1).length : Int)), (11, .int .i64 x6584), (56, .pointer (some ⟨bp0, 0, none⟩)), (57, .slice A18657 (l18659).length c18658), (59, .slice A19645 (([x18656] : List T44)).length c19646), (62, .pointer (some ⟨bp0, 0, none⟩)), (64, .int .i64 x18662)] ∧ St [1, 2] w oi w_ o19644 ∧ Ft (Bx bx16462 45 [.int .i64 x18656.From, .int .i64 x18656.To]) w_ o19644 1895 ∧ Ft (Own ET44 45 (.slice A18657 (l18659).length c18658) l18659) w_ o19644 1896 ∧ Ft (Own ET44 45 (.slice A19645 (([x18656] : List T44)).length c19646) ([x18656] : List T44)) w_ o19644 1897 ∧ Ft (Own ET44 45 (.slice (some ad19200) (l6577).length c6576) l6577) w_ o19644 2 ∧ Ft (RdC ET44 (some ad16458) p1) w_ o19644 0 ∧ Ft (Bx bp0 78 [.slice (some ad19200) (l6577).length c6576]) w_ o19644 1 ∧ (([x18656] : List T44)).length ≤ c19646) → G 7 #[true, true, true, true, true, true, true, false, true, false, false, false, false, false, false] a_ w_ := by
              rintro a w19649 ⟨o19644, A19645, c19646, hk, hs, f16463, f18660, f19647, f6578, f6582, f900019, hc19648⟩
              refine xd_of hG ?_
              refine xd_op hk (i := 7) (by kernel_rfl) rfl rfl ?_
              refine op_quiet tab hk (lv := [.slice (some ad19200) (l6577).length c6576]) (v := .slice (some ad19200) (l6577).length c6576) rfl ⟨(load1 tab rfl ((Bx.cell f900019.now 0).trans rfl)), trivial⟩ ?_
              have hk := hk.put 63 (.slice (some ad19200) (l6577).length c6576) rfl
              refine ⟨.inr ⟨f16463.now, trivial⟩, ?_⟩
              obtain ⟨A19651, c19652, ak19654, f19653, hc19655⟩ := ask_cut (P := Try.prog) tab (t := 42) rfl rfl (f6578.imp fun _ h_ => Own.rd h_) hc6579 (some (.int .i64 x18662)) none rfl ⟨q19533, (by have := q19534; omega), trivial⟩ (by have := q19533; have := q19534; omega) (Nat.le_refl _)
              refine xd_take tab hk (k := 5) (is := [9]) (ls' := #[true, true, true, true, true, true, true, true, true, true, false, false, false, false, false]) (lv := [.slice A19651 ((List.drop (Int.toNat x18662) (List.take (l6577).length l6577))).length c19652]) (ks := [0, 9, 10, 11, 56, 57, 59, 65]) (e' := [(0, .pointer (some ⟨bp0, 0, none⟩)), (9, .slice (some ad16458) (p1).length c6581), (10, .int .i64 ((p1).length : Int)), (11, .int .i64 x6584), (56, .pointer (some ⟨bp0, 0, none⟩)), (57, .slice A18657 (l18659).length c18658), (59, .slice A19645 (([x18656] : List T44)).length c19646), (65, .slice A19651 ((List.drop (Int.toNat x18662) (List.take (l6577).length l6577))).length c19652)]) (by kernel_rfl) rfl rfl (by kernel_rfl) (np_then (np_then (np_blk (np_blk (np_then (np_then (np_blk (np_then (np_blk (np_then (np_then (np_blk (np_sc np_body))))))))))))) ⟨f16463.now, trivial⟩ (fun W_ hS => ⟨(ak19654 rfl rfl rfl _), trivial⟩) fun a hk => ?_
              refine xd_op hk (i := 10) (by kernel_rfl) rfl rfl ?_
              refine op_slice (o := o19644) tab hk (vs := [.slice A18657 (l18659).length c18658, .slice A19645 (([x18656] : List T44)).length c19646, .slice A19651 ((List.drop (Int.toNat x18662) (List.take (l6577).length l6577))).length c19652]) (cs := [.slice A18657 (l18659).length c18658, .slice A19645 (([x18656] : List T44)).length c19646, .slice A19651 ((List.drop (Int.toNat x18662) (List.take (l6577).length l6577))).length c19652]) rfl rfl rfl rfl rfl rfl rfl rfl rfl 1898 fun bx19659 w19656 o19657 st19658 f19660 => ?_
              replace f16463 := f16463.st st19658 (by decide)
              replace f18660 := f18660.st st19658 (by decide)
              replace f19647 := f19647.st st19658 (by decide)
              replace f19653 := f19653.st st19658 (by decide)
              replace f6578 := f6578.st st19658 (by decide)
              replace f6582 := f6582.st st19658 (by decide)
              replace f900019 := f900019.st st19658 (by decide)
              replace hs := hs.locM st19658 (by decide) hom
              have hk := hk.put 66 (.slice (some ⟨bx19659, 0, none⟩) 3 3) rfl
              refine ⟨.inr ⟨f16463.now, trivial⟩, ?_⟩
              refine xd_op hk (i := 11) (by kernel_rfl) rfl rfl ?_
              have f19664 : NRd (dRows ET44) (some ⟨bx19659, 0, none⟩) ([l18659, ([x18656] : List T44), (List.drop (Int.toNat x18662) (List.take (l6577).length l6577))] : List (List T44)) w19656 (oneLab o19657 1898) 1 0 := (NOwn.lit f19660.lab1 [⟨A18657, c18658, l18659⟩, ⟨A19645, c19646, ([x18656] : List T44)⟩, ⟨A19651, c19652, (List.drop (Int.toNat x18662) (List.take (l6577).length l6577))⟩] rfl (Inn.consF ((f18660.imp fun _ h_ => Own.rd h_).lab0 rfl) hc18661 (Inn.consF ((f19647.imp fun _ h_ => Own.rd h_).lab0 rfl) hc19648 (Inn.consF (f19653.lab0 rfl) hc19655 (Inn.nilF _ _ _ _)))) rfl (Nat.le_of_ble_eq_true rfl)).rd
              refine op_call hk ent_46 (vs := [.slice (some ⟨bx19659, 0, none⟩) 3 3]) rfl (slices_Concat_calls K (some ⟨bx19659, 0, none⟩) 3 ([l18659, ([x18656] : List T44), (List.drop (Int.toNat x18662) (List.take (l6577).length l6577))] : List (List T44)) _ (oneLab o19657 1898) 0 1 f19664 (Nat.le_refl _) (by decide) (by decide) 1899 _ hc19550) ?_
              rintro _ w19665 ⟨o19666, A19670, c19671, rfl, st19668, f19672, hc19673⟩
              have st19669 := st19668.back o19657
              replace f19672 := f19672.back st19668 (oneLab_ne _ rfl) o19657
              obtain ⟨o19667, ho19667⟩ : ∃ x_, x_ = (fun b_ => if b_ < w19656.heap.size then o19657 b_ else o19666 b_) := ⟨_, rfl⟩
              rw [← ho19667] at st19669 f19672
              replace f16463 := f16463.st st19669 (by decide)
              replace f18660 := f18660.st st19669 (by decide)
              replace f19647 := f19647.st st19669 (by decide)
              replace f19653 := f19653.st st19669 (by decide)
              replace f19660 := f19660.st st19669 (by decide)
              replace f6578 := f6578.st st19669 (by decide)
              replace f6582 := f6582.st st19669 (by decide)
              replace f900019 := f900019.st st19669 (by decide)
              replace hs := hs.locM st19669 (by decide) hom
              have hk := hk.put 67 (.slice A19670 (t19549).length c19671) rfl
              refine ⟨.inr ⟨f16463.now, trivial⟩, ?_⟩
              refine xd_take tab hk (k := 1) (is := [12, 13]) (ls' := #[true, true, true, true, true, true, true, true, true, true, true, true, true, true, false]) (lv := []) (ks := [0, 9, 10, 11, 67, 69]) (e' := [(0, .pointer (some ⟨bp0, 0, none⟩)), (9, .slice (some ad16458) (p1).length c6581), (10, .int .i64 ((p1).length : Int)), (11, .int .i64 x6584), (67, .slice A19670 (t19549).length c19671), (69, .pointer (some ⟨bp0, 0, none⟩))]) (by kernel_rfl) rfl rfl (by kernel_rfl) (np_then (np_then (np_blk (np_blk (np_then (np_then (np_blk (np_then (np_blk (np_then (np_then (np_blk (np_sc np_body))))))))))))) ⟨f16463.now, trivial⟩ (fun W_ hS => trivial) fun a hk => ?_
              refine xd_op hk (i := 14) (by kernel_rfl) rfl rfl ?_
              refine op_store tab hk (t := 42) (v := .slice A19670 (t19549).length c19671) (b := bp0) (k := 0) (cs' := [.slice A19670 (t19549).length c19671]) rfl rfl rfl rfl rfl rfl f900019 rfl rfl fun w19674 o19675 st19676 f900019_ => ?_
              replace f16463 := f16463.st st19676 (by decide)
              replace f18660 := f18660.st st19676 (by decide)
              replace f19647 := f19647.st st19676 (by decide)
              replace f19653 := f19653.st st19676 (by decide)
              replace f19660 := f19660.st st19676 (by decide)
              replace f19672 := f19672.st st19676 (by decide)
              replace f6578 := f6578.st st19676 (by decide)
              replace f6582 := f6582.st st19676 (by decide)
              replace hs := hs.locM st19676 (by decide) hom
              replace f900019 := f900019_
              refine ⟨.inr ⟨f16463.now, trivial⟩, ?_⟩
              refine xd_done (by kernel_rfl) ?_
              refine then_n ?_
              exact ⟨(fun b_ => (fun l_ => if l_ = 1899 then 1881 else l_) (o19675 b_)), A19670, c19671, t19549, (by exact Kn.pick (ks := [0, 9, 10, 11]) hk rfl), (hs.relabM hob (fun l_ => if l_ = 1899 then 1881 else l_) (by decide)), (f19672.relab (fun l_ => if l_ = 1899 then 1881 else l_) rfl), (f6582.relab (fun l_ => if l_ = 1899 then 1881 else l_) rfl), (f900019.relab (fun l_ => if l_ = 1899 then 1881 else l_) rfl), hc19673, H⟩
            have N19682 : ∀ (a_ : Act) (w_ : World), (∃ o19680 : Nat → Nat, Kn 79 a_ [(0, .pointer (some ⟨bp0, 0, none⟩)), (9, .slice (some ad16458) (p1).length c6581), (10, .int .i64 ((p1).length : Int)), (11, .int .i64 x6584), (56, .pointer (some ⟨bp0, 0, none⟩)), (57, .slice A18657 (l18659).length c18658), (58, .agg #[.int .i64 x18656.From, .int .i64 x18656.To]), (63, .slice (some ad19200) (l6577).length c6576), (64, .int .i64 x18662)] ∧ St [1, 2] w oi w_ o19680 ∧ Ft (Bx bx16462 45 [.int .i64 x18656.From, .int .i64 x18656.To]) w_ o19680 1900 ∧ Ft (Own ET44 45 (.slice A18657 (l18659).length c18658) l18659) w_ o19680 1901 ∧ Ft (Own ET44 45 (.slice (some ad19200) (l6577).length c6576) l6577) w_ o19680 2 ∧ Ft (RdC ET44 (some ad16458) p1) w_ o19680 0 ∧ Ft (Bx bp0 78 [.slice (some ad19200) (l6577).length c6576]) w_ o19680 1) → G 7 #[true, true, true, false, true, true, true, true, true, false, false, false, false, false, false] a_ w_ := by
              rintro a w19681 ⟨o19680, hk, hs, f16463, f18660, f6578, f6582, f900019⟩
              refine xd_of hG ?_
              obtain ⟨A19683, c19684, ak19686, f19685, hc19687⟩ := ask_cut (P := Try.prog) tab (t := 42) rfl rfl (f6578.imp fun _ h_ => Own.rd h_) hc6579 (some (.int .i64 x18662)) none rfl ⟨q19533, (by have := q19534; omega), trivial⟩ (by have := q19533; have := q19534; omega) (Nat.le_refl _)
              refine xd_take tab hk (k := 6) (is := [9]) (ls' := #[true, true, true, false, true, true, true, true, true, true, false, false, false, false, false]) (lv := [.slice A19683 ((List.drop (Int.toNat x18662) (List.take (l6577).length l6577))).length c19684]) (ks := [0, 9, 10, 11, 56, 57, 58, 65]) (e' := [(0, .pointer (some ⟨bp0, 0, none⟩)), (9, .slice (some ad16458) (p1).length c6581), (10, .int .i64 ((p1).length : Int)), (11, .int .i64 x6584), (56, .pointer (some ⟨bp0, 0, none⟩)), (57, .slice A18657 (l18659).length c18658), (58, .agg #[.int .i64 x18656.From, .int .i64 x18656.To]), (65, .slice A19683 ((List.drop (Int.toNat x18662) (List.take (l6577).length l6577))).length c19684)]) (by kernel_rfl) rfl rfl (by kernel_rfl) (np_then (np_then (np_blk (np_blk (np_then (np_then (np_blk (np_then (np_blk (np_then (np_then (np_blk (np_sc np_body))))))))))))) ⟨f16463.now, trivial⟩ (fun W_ hS => ⟨(ak19686 rfl rfl rfl _), trivial⟩) fun a hk => ?_
              refine xd_op hk (i := 3) (by kernel_rfl) rfl rfl ?_
              refine op_slice (o := o19680) tab hk (vs := [.agg #[.int .i64 x18656.From, .int .i64 x18656.To]]) (cs := [.int .i64 x18656.From, .int .i64 x18656.To]) rfl rfl rfl rfl rfl rfl rfl rfl rfl 1902 fun bx19691 w19688 o19689 st19690 f19692 => ?_
              replace f16463 := f16463.st st19690 (by decide)
              replace f18660 := f18660.st st19690 (by decide)
              replace f19685 := f19685.st st19690 (by decide)
              replace f6578 := f6578.st st19690 (by decide)
              replace f6582 := f6582.st st19690 (by decide)
              replace f900019 := f900019.st st19690 (by decide)
              replace hs := hs.locM st19690 (by decide) hom
              have f19693 : Ft (Own ET44 45 (.slice (some ⟨bx19691, 0, none⟩) (([x18656] : List T44)).length 1) ([x18656] : List T44)) w19688 o19689 1902 := f19692.imp fun _ h_ => Own.of_box h_ rfl (by simp)
              have hk := hk.put 59 (.slice (some ⟨bx19691, 0, none⟩) (([x18656] : List T44)).length 1) rfl
              refine ⟨.inr ⟨f16463.now, trivial⟩, ?_⟩
              refine xd_op hk (i := 10) (by kernel_rfl) rfl rfl ?_
              refine op_slice (o := o19689) tab hk (vs := [.slice A18657 (l18659).length c18658, .slice (some ⟨bx19691, 0, none⟩) (([x18656] : List T44)).length 1, .slice A19683 ((List.drop (Int.toNat x18662) (List.take (l6577).length l6577))).length c19684]) (cs := [.slice A18657 (l18659).length c18658, .slice (some ⟨bx19691, 0, none⟩) (([x18656] : List T44)).length 1, .slice A19683 ((List.drop (Int.toNat x18662) (List.take (l6577).length l6577))).length c19684]) rfl rfl rfl rfl rfl rfl rfl rfl rfl 1903 fun bx19697 w19694 o19695 st19696 f19698 => ?_
              replace f16463 := f16463.st st19696 (by decide)
              replace f18660 := f18660.st st19696 (by decide)
              replace f19685 := f19685.st st19696 (by decide)
              replace f19693 := f19693.st st19696 (by decide)
              replace f6578 := f6578.st st19696 (by decide)
              replace f6582 := f6582.st st19696 (by decide)
              replace f900019 := f900019.st st19696 (by decide)
              replace hs := hs.locM st19696 (by decide) hom
              have hk := hk.put 66 (.slice (some ⟨bx19697, 0, none⟩) 3 3) rfl
              refine ⟨.inr ⟨f16463.now, trivial⟩, ?_⟩
              refine xd_op hk (i := 11) (by kernel_rfl) rfl rfl ?_
              have f19702 : NRd (dRows ET44) (some ⟨bx19697, 0, none⟩) ([l18659, ([x18656] : List T44), (List.drop (Int.toNat x18662) (List.take (l6577).length l6577))] : List (List T44)) w19694 (oneLab o19695 1903) 1 0 := (NOwn.lit f19698.lab1 [⟨A18657, c18658, l18659⟩, ⟨(some ⟨bx19691, 0, none⟩), 1, ([x18656] : List T44)⟩, ⟨A19683, c19684, (List.drop (Int.toNat x18662) (List.take (l6577).length l6577))⟩] rfl (Inn.consF ((f18660.imp fun _ h_ => Own.rd h_).lab0 rfl) hc18661 (Inn.consF ((f19693.imp fun _ h_ => Own.rd h_).lab0 rfl) (Nat.le_refl _) (Inn.consF (f19685.lab0 rfl) hc19687 (Inn.nilF _ _ _ _)))) rfl (Nat.le_of_ble_eq_true rfl)).rd
              refine op_call hk ent_46 (vs := [.slice (some ⟨bx19697, 0, none⟩) 3 3]) rfl (slices_Concat_calls K (some ⟨bx19697, 0, none⟩) 3 ([l18659, ([x18656] : List T44), (List.drop (Int.toNat x18662) (List.take (l6577).length l6577))] : List (List T44)) _ (oneLab o19695 1903) 0 1 f19702 (Nat.le_refl _) (by decide) (by decide) 1904 _ hc19550) ?_
              rintro _ w19703 ⟨o19704, A19708, c19709, rfl, st19706, f19710, hc19711⟩
              have st19707 := st19706.back o19695
              replace f19710 := f19710.back st19706 (oneLab_ne _ rfl) o19695
              obtain ⟨o19705, ho19705⟩ : ∃ x_, x_ = (fun b_ => if b_ < w19694.heap.size then o19695 b_ else o19704 b_) := ⟨_, rfl⟩
              rw [← ho19705] at st19707 f19710
              replace f16463 := f16463.st st19707 (by decide)
              replace f18660 := f18660.st st19707 (by decide)
              replace f19685 := f19685.st st19707 (by decide)
              replace f19693 := f19693.st st19707 (by decide)
              replace f19698 := f19698.st st19707 (by decide)
              replace f6578 := f6578.st st19707 (by decide)
              replace f6582 := f6582.st st19707 (by decide)
              replace f900019 := f900019.st st19707 (by decide)
              replace hs := hs.locM st19707 (by decide) hom
              have hk := hk.put 67 (.slice A19708 (t19549).length c19709) rfl
              refine ⟨.inr ⟨f16463.now, trivial⟩, ?_⟩
              refine xd_take tab hk (k := 1) (is := [12, 13]) (ls' := #[true, true, true, true, true, true, true, true, true, true, true, true, true, true, false]) (lv := []) (ks := [0, 9, 10, 11, 67, 69]) (e' := [(0, .pointer (some ⟨bp0, 0, none⟩)), (9, .slice (some ad16458) (p1).length c6581), (10, .int .i64 ((p1).length : Int)), (11, .int .i64 x6584), (67, .slice A19708 (t19549).length c19709), (69, .pointer (some ⟨bp0, 0, none⟩))]) (by kernel_rfl) rfl rfl (by kernel_rfl) (np_then (np_then (np_blk (np_blk (np_then (np_then (np_blk (np_then (np_blk (np_then (np_then (np_blk (np_sc np_body))))))))))))) ⟨f16463.now, trivial⟩ (fun W_ hS => trivial) fun a hk => ?_
              refine xd_op hk (i := 14) (by kernel_rfl) rfl rfl ?_
              refine op_store tab hk (t := 42) (v := .slice A19708 (t19549).length c19709) (b := bp0) (k := 0) (cs' := [.slice A19708 (t19549).length c19709]) rfl rfl rfl rfl rfl rfl f900019 rfl rfl fun w19712 o19713 st19714 f900019_ => ?_
              replace f16463 := f16463.st st19714 (by decide)
              replace f18660 := f18660.st st19714 (by decide)
              replace f19685 := f19685.st st19714 (by decide)
              replace f19693 := f19693.st st19714 (by decide)
              replace f19698 := f19698.st st19714 (by decide)
              replace f19710 := f19710.st st19714 (by decide)
              replace f6578 := f6578.st st19714 (by decide)
              replace f6582 := f6582.st st19714 (by decide)
              replace hs := hs.locM st19714 (by decide) hom
              replace f900019 := f900019_
              refine ⟨.inr ⟨f16463.now, trivial⟩, ?_⟩
              refine xd_done (by kernel_rfl) ?_
              refine then_n ?_
              exact ⟨(fun b_ => (fun l_ => if l_ = 1904 then 1881 else l_) (o19713 b_)), A19708, c19709, t19549, (by exact Kn.pick (ks := [0, 9, 10, 11]) hk rfl), (hs.relabM hob (fun l_ => if l_ = 1904 then 1881 else l_) (by decide)), (f19710.relab (fun l_ => if l_ = 1904 then 1881 else l_) rfl), (f6582.relab (fun l_ => if l_ = 1904 then 1881 else l_) rfl), (f900019.relab (fun l_ => if l_ = 1904 then 1881 else l_) rfl), hc19711, H⟩
            refine xd_of hG ?_
            refine xd_take tab hk (k := 8) (is := [0, 1, 2, 4, 5, 6, 8]) (ls' := #[true, true, true, false, true, true, true, false, true, false, false, false, false, false, false]) (lv := [.agg #[.int .i64 x18656.From, .int .i64 x18656.To]]) (ks := [0, 9, 10, 11, 56, 57, 58, 62, 64]) (e' := [(0, .pointer (some ⟨bp0, 0, none⟩)), (9, .slice (some ad16458) (p1).length c6581), (10, .int .i64 ((p1).length : Int)), (11, .int .i64 x6584), (56, .pointer (some ⟨bp0, 0, none⟩)), (57, .slice A18657 (l18659).length c18658), (58, .agg #[.int .i64 x18656.From, .int .i64 x18656.To]), (62, .pointer (some ⟨bp0, 0, none⟩)), (64, .int .i64 x18662)]) (by kernel_rfl) rfl rfl (by kernel_rfl) (np_then (np_then (np_blk (np_blk (np_then (np_then (np_blk (np_then (np_blk (np_then (np_then (np_blk (np_sc np_body))))))))))))) ⟨f16463.now, trivial⟩ (fun W_ hS => ⟨(load_box tab rfl rfl hS.1 (k := 0) rfl rfl), trivial⟩) fun a hk => ?_
            refine xd_each [3, 7] (by kernel_rfl) rfl ⟨?_, ?_, trivial⟩
            · refine xd_one hk rfl rfl ?_
              refine op_slice (o := o19207) tab hk (vs := [.agg #[.int .i64 x18656.From, .int .i64 x18656.To]]) (cs := [.int .i64 x18656.From, .int .i64 x18656.To]) rfl rfl rfl rfl rfl rfl rfl rfl rfl 1894 fun bx19632 w19629 o19630 st19631 f19633 => ?_
              replace f16463 := f16463.st st19631 (by decide)
              replace f18660 := f18660.st st19631 (by decide)
              replace f19205 := f19205.st st19631 (by decide)
              replace f6578 := f6578.st st19631 (by decide)
              replace f6582 := f6582.st st19631 (by decide)
              replace f900019 := f900019.st st19631 (by decide)
              replace hs := hs.locM st19631 (by decide) hom
              have f19634 : Ft (Own ET44 45 (.slice (some ⟨bx19632, 0, none⟩) (([x18656] : List T44)).length 1) ([x18656] : List T44)) w19629 o19630 1894 := f19633.imp fun _ h_ => Own.of_box h_ rfl (by simp)
              have hk := hk.put 59 (.slice (some ⟨bx19632, 0, none⟩) (([x18656] : List T44)).length 1) rfl
              refine ⟨.inr ⟨f16463.now, trivial⟩, ?_⟩
              exact xd_to hG rfl (N19650 _ _ ⟨(fun b_ => (fun l_ => if l_ = 1800 then 1895 else if l_ = 1801 then 1896 else if l_ = 1894 then 1897 else l_) (o19630 b_)), (some ⟨bx19632, 0, none⟩), 1, (by exact Kn.pick (ks := [0, 9, 10, 11, 56, 57, 59, 62, 64]) hk rfl), (hs.relabM hob (fun l_ => if l_ = 1800 then 1895 else if l_ = 1801 then 1896 else if l_ = 1894 then 1897 else l_) (by decide)), (f16463.relab (fun l_ => if l_ = 1800 then 1895 else if l_ = 1801 then 1896 else if l_ = 1894 then 1897 else l_) rfl), (f18660.relab (fun l_ => if l_ = 1800 then 1895 else if l_ = 1801 then 1896 else if l_ = 1894 then 1897 else l_) rfl), (f19634.relab (fun l_ => if l_ = 1800 then 1895 else if l_ = 1801 then 1896 else if l_ = 1894 then 1897 else l_) rfl), (f6578.relab (fun l_ => if l_ = 1800 then 1895 else if l_ = 1801 then 1896 else if l_ = 1894 then 1897 else l_) rfl), (f6582.relab (fun l_ => if l_ = 1800 then 1895 else if l_ = 1801 then 1896 else if l_ = 1894 then 1897 else l_) rfl), (f900019.relab (fun l_ => if l_ = 1800 then 1895 else if l_ = 1801 then 1896 else if l_ = 1894 then 1897 else l_) rfl), (Nat.le_refl _)⟩)
            · refine xd_one hk rfl rfl ?_
              refine op_quiet tab hk (lv := [.slice (some ad19200) (l6577).length c6576]) (v := .slice (some ad19200) (l6577).length c6576) rfl ⟨(load1 tab rfl ((Bx.cell f900019.now 0).trans rfl)), trivial⟩ ?_
              have hk := hk.put 63 (.slice (some ad19200) (l6577).length c6576) rfl
              refine ⟨.inr ⟨f16463.now, trivial⟩, ?_⟩
              exact xd_to hG rfl (N19682 _ _ ⟨(fun b_ => (fun l_ => if l_ = 1800 then 1900 else if l_ = 1801 then 1901 else l_) (o19207 b_)), (by exact Kn.pick (ks := [0, 9, 10, 11, 56, 57, 58, 63, 64]) hk rfl), (hs.relabM hob (fun l_ => if l_ = 1800 then 1900 else if l_ = 1801 then 1901 else l_) (by decide)), (f16463.relab (fun l_ => if l_ = 1800 then 1900 else if l_ = 1801 then 1901 else l_) rfl), (f18660.relab (fun l_ => if l_ = 1800 then 1900 else if l_ = 1801 then 1901 else l_) rfl), (f6578.relab (fun l_ => if l_ = 1800 then 1900 else if l_ = 1801 then 1901 else l_) rfl), (f6582.relab (fun l_ => if l_ = 1800 then 1900 else if l_ = 1801 then 1901 else l_) rfl), (f900019.relab (fun l_ => if l_ = 1800 then 1900 else if l_ = 1801 then 1901 else l_) rfl)⟩)
        · rw [b19209] at hk H
          replace H := bifT H
          refine x_if hk (b := true) rfl ?_
          refine (show Code.wpIn _ _ _ _ _ _ _ from ?_)
          refine wpIn_region_lit ?_
          refine x_run tab hk (k := 2) (lv := [.agg #[.int .i64 ((rdD zT44 l6577 x18662).From), .int .i64 ((rdD zT44 l6577 x18662).To)]]) (ks := [0, 5, 9, 10, 11, 22, 23, 24, 46, 47]) (e' := [(0, .pointer (some ⟨bp0, 0, none⟩)), (5, .pointer (some ⟨bx16462, 0, none⟩)), (9, .slice (some ad16458) (p1).length c6581), (10, .int .i64 ((p1).length : Int)), (11, .int .i64 x6584), (22, .slice (some ad19200) (l6577).length c6576), (23, .int .i64 ((l6577).length : Int)), (24, .int .i64 x18662), (46, .slice A18657 (l18659).length c18658), (47, .agg #[.int .i64 ((rdD zT44 l6577 x18662).From), .int .i64 ((rdD zT44 l6577 x18662).To)])]) rfl ⟨(load_box tab rfl rfl f19205.now (k := 0) rfl rfl), trivial⟩ fun a hk => ?_
          refine x_op hk rfl ?_
          refine op_slice (o := o19207) tab hk (vs := [.agg #[.int .i64 ((rdD zT44 l6577 x18662).From), .int .i64 ((rdD zT44 l6577 x18662).To)]]) (cs := [.int .i64 ((rdD zT44 l6577 x18662).From), .int .i64 ((rdD zT44 l6577 x18662).To)]) rfl rfl rfl rfl rfl rfl rfl rfl rfl 1905 fun bx19718 w19715 o19716 st19717 f19719 => ?_
          replace f16463 := f16463.st st19717 (by decide)
          replace f18660 := f18660.st st19717 (by decide)
          replace f6578 := f6578.st st19717 (by decide)
          replace f6582 := f6582.st st19717 (by decide)
          replace f900019 := f900019.st st19717 (by decide)
          replace hs := hs.locM st19717 (by decide) hom
          have f19720 : Ft (Own ET44 45 (.slice (some ⟨bx19718, 0, none⟩) (([(rdD zT44 l6577 x18662)] : List T44)).length 1) ([(rdD zT44 l6577 x18662)] : List T44)) w19715 o19716 1905 := f19719.imp fun _ h_ => Own.of_box h_ rfl (by simp)
          have hk := hk.put 48 (.slice (some ⟨bx19718, 0, none⟩) (([(rdD zT44 l6577 x18662)] : List T44)).length 1) rfl
          refine x_op hk rfl ?_
          obtain ⟨q19724, H⟩ := ifS H
          refine op_append (o := o19716) (E := ET44) (xs := l18659) (ys := ([(rdD zT44 l6577 x18662)] : List T44)) tab hk rfl rfl rfl rfl rfl rfl rfl f18660 (Own.rd f19720.now) q19724 fun A19725 c19726 w19721 o19722 st19723 f19727 hc19728 => ?_
          replace f16463 := f16463.st st19723 (by decide)
          replace f19720 := f19720.st st19723 (by decide)
          replace f6578 := f6578.st st19723 (by decide)
          replace f6582 := f6582.st st19723 (by decide)
          replace f900019 := f900019.st st19723 (by decide)
          replace hs := hs.locM st19723 (by decide) hom
          have hk := hk.put 49 (.slice A19725 ((l18659 ++ ([(rdD zT44 l6577 x18662)] : List T44))).length c19726) rfl
          refine x_run tab hk (k := 1) (lv := []) (ks := [0, 5, 6, 9, 10, 11, 22, 23, 24]) (e' := [(0, .pointer (some ⟨bp0, 0, none⟩)), (5, .pointer (some ⟨bx16462, 0, none⟩)), (6, .slice A19725 ((l18659 ++ ([(rdD zT44 l6577 x18662)] : List T44))).length c19726), (9, .slice (some ad16458) (p1).length c6581), (10, .int .i64 ((p1).length : Int)), (11, .int .i64 x6584), (22, .slice (some ad19200) (l6577).length c6576), (23, .int .i64 ((l6577).length : Int)), (24, .int .i64 x18662)]) rfl trivial fun a hk => ?_
          refine wpListIn_nil ?_
          refine blk_n ?_
          refine blk_n ?_
          refine then_n ?_
          refine wpIn_region_lit ?_
          refine x_run tab hk (k := 2) (lv := []) (ks := [0, 5, 6, 9, 10, 11, 22, 23, 24]) (e' := [(0, .pointer (some ⟨bp0, 0, none⟩)), (5, .pointer (some ⟨bx16462, 0, none⟩)), (6, .slice A19725 ((l18659 ++ ([(rdD zT44 l6577 x18662)] : List T44))).length c19726), (9, .slice (some ad16458) (p1).length c6581), (10, .int .i64 ((p1).length : Int)), (11, .int .i64 x6584), (22, .slice (some ad19200) (l6577).length c6576), (23, .int .i64 ((l6577).length : Int)), (24, .int .i64 (IntKind.wrap .i64 (x18662 + 1)))]) rfl trivial fun a hk => ?_
          refine wpListIn_nil ?_
          refine then_n ?_
          exact ⟨k19195, Nat.le_refl _, o19722, x18656, A19725, c19726, (l18659 ++ ([(rdD zT44 l6577 x18662)] : List T44)), (IntKind.wrap .i64 (x18662 + 1)), (by exact Kn.pick (ks := [0, 5, 6, 9, 10, 11, 22, 23, 24]) hk rfl), hs, f16463, f19727, f6578, f6582, f900019, hc19728, (hlp19197 ▸ H)⟩
    · rw [b16486] at hk H
      replace H := bifT H
      refine x_if hk (b := true) rfl ?_
      refine (show Code.wpIn _ _ _ _ _ _ _ from ?_)
      refine wpIn_exit ?_
      refine then_x ?_
      refine blk_x ?_
      refine then_n ?_
      exact ⟨o16484, A6575, c6576, l6577, (some ad16458), c6581, (by exact Kn.pick (ks := [0, 9, 10, 11]) hk rfl), hs, f6578, f6582, f900019, hc6579, hc6583, H⟩

/-! slices.Clone[[]tidewrack/spans.Span,tidewrack/spans.Span] -/
theorem slices_Clone'_calls (Ap0 : Option Addr) (cp0 : Nat) (p0 : List T44) (w : World) (o : Nat → Nat) (Lp0 : Nat) (hp0 : Ft (RdC ET44 Ap0 p0) w o Lp0) (hcp0 : (p0).length ≤ cp0)  (R0 : Nat) (r : List T44) (H : slices_Clone' p0 = some r) :
    Calls Try.prog 47 #[.slice Ap0 (p0).length cp0] w (Ret fun v_ w' => ∃ o' : Nat → Nat, ∃ A0 : Option Addr, ∃ c0 : Nat, v_ = .slice A0 (r).length c0 ∧ St [] w o w' o' ∧ Ft (Own ET44 45 (.slice A0 (r).length c0) r) w' o' R0 ∧ (r).length ≤ c0) := by
  refine x_enter (vs := [.slice Ap0 (p0).length cp0]) Try.func47 rfl rfl rfl fun a hk => ?_
  obtain ⟨o0, hs, h0⟩ := St.start w o
  have f900000 := h0 _ _ hp0
  clear h0
  rw [slices_Clone'] at H
  refine x_seq ?_
  refine wpIn_region_lit ?_
  refine x_run tab hk (k := 1) (lv := []) (ks := [0]) (e' := [(0, .slice Ap0 (p0).length cp0)]) rfl trivial fun a hk => ?_
  refine wpListIn_nil ?_
  refine then_n ?_
  refine x_seq ?_
  refine x_seq ?_
  refine wpIn_region_lit ?_
  refine x_run tab hk (k := 1) (lv := []) (ks := [0, 3]) (e' := [(0, .slice Ap0 (p0).length cp0), (3, .slice Ap0 (p0).length cp0)]) rfl trivial fun a hk => ?_
  rcases none_or Ap0 with hAad1 | ⟨ad1, hAad1⟩
  · have hk_C := hk
    have f900000_C := f900000
    subst hAad1
    have hk := hk_C
    clear hk_C
    have f900000 := f900000_C
    clear f900000_C
    have hz2 : p0 = [] := RdC.none f900000.now
    replace H : (some ([] : List T44)) = some r := by (try rw [hz2] at H); simpa using H
    refine x_run tab hk (k := 1) (lv := []) (ks := [0, 4]) (e' := [(0, .slice none (p0).length cp0), (4, .bool true)]) rfl trivial fun a hk => ?_
    refine wpListIn_nil ?_
    refine then_n ?_
    refine x_if hk (b := true) rfl ?_
    refine (show Code.wpIn _ _ _ _ _ _ _ from ?_)
    refine x_seq ?_
    refine wpIn_region_lit ?_
    refine x_run tab hk (k := 1) (lv := []) (ks := [2]) (e' := [(2, .slice none 0 0)]) rfl trivial fun a hk => ?_
    refine wpListIn_nil ?_
    refine then_n ?_
    refine wpIn_ret ?_
    refine then_r ?_
    obtain rfl := Option.some.inj H
    exact x_retG hk (rs := [.tmp 2]) (vs := [.slice none 0 0]) rfl ⟨rfl, trivial⟩ ⟨fun b_ => if b_ < w.heap.size then o b_ else (fun _ => 0) (o0 b_), none, 0, rfl, hs.close0 o (fun _ => 0), (Ft.of_all (fun _ => Own.nil _ _ _) _ _ _), (by simp)⟩
  · have hk_C := hk
    have f900000_C := f900000
    subst hAad1
    have hk := hk_C
    clear hk_C
    have f900000 := f900000_C
    clear f900000_C
    refine x_run tab hk (k := 1) (lv := []) (ks := [0, 4]) (e' := [(0, .slice (some ad1) (p0).length cp0), (4, .bool false)]) rfl trivial fun a hk => ?_
    refine wpListIn_nil ?_
    refine then_n ?_
    refine x_if hk (b := false) rfl ?_
    refine (show Code.wpIn _ _ _ _ _ _ _ from ?_)
    refine wpIn_skip ?_
    refine then_n ?_
    refine x_seq ?_
    refine wpIn_region_lit ?_
    refine x_op hk rfl ?_
    refine op_slice (o := o0) tab hk (vs := []) (cs := []) rfl rfl rfl rfl rfl rfl rfl rfl rfl 1 fun bx6 w3 o4 st5 f7 => ?_
    replace f900000 := f900000.st st5 (by decide)
    replace hs := hs.loc0 st5 (by decide)
    have f8 : Ft (Own ET44 45 (.slice (some ⟨bx6, 0, none⟩) (([] : List T44)).length 0) ([] : List T44)) w3 o4 1 := f7.imp fun _ h_ => Own.of_box h_ rfl (by simp)
    have hk := hk.put 5 (.slice (some ⟨bx6, 0, none⟩) (([] : List T44)).length 0) rfl
    refine x_run tab hk (k := 1) (lv := []) (ks := [5, 6]) (e' := [(5, .slice (some ⟨bx6, 0, none⟩) (([] : List T44)).length 0), (6, .slice (some ad1) (p0).length cp0)]) rfl trivial fun a hk => ?_
    refine x_op hk rfl ?_
    obtain ⟨q12, H⟩ := ifS H
    refine op_append (o := o4) (E := ET44) (xs := ([] : List T44)) (ys := p0) tab hk rfl rfl rfl rfl rfl rfl rfl f8 f900000.now q12 fun A13 c14 w9 o10 st11 f15 hc16 => ?_
    replace f900000 := f900000.st st11 (by decide)
    replace hs := hs.loc0 st11 (by decide)
    have hk := hk.put 7 (.slice A13 ((([] : List T44) ++ p0)).length c14) rfl
    refine x_run tab hk (k := 1) (lv := []) (ks := [2]) (e' := [(2, .slice A13 ((([] : List T44) ++ p0)).length c14)]) rfl trivial fun a hk => ?_
    refine wpListIn_nil ?_
    refine then_n ?_
    refine wpIn_ret ?_
    obtain rfl := Option.some.inj H
    exact x_retG hk (rs := [.tmp 2]) (vs := [.slice A13 ((([] : List T44) ++ p0)).length c14]) rfl ⟨rfl, trivial⟩ ⟨fun b_ => if b_ < w.heap.size then o b_ else (fun _ => R0) (o10 b_), A13, c14, rfl, hs.close0 o (fun _ => R0), hs.close_ft (o := o) (ρ := fun _ => R0) f15 (by decide) rfl, hc16⟩

/-! (*tidewrack/spans.Set).Spans -/
theorem spans_Set_Spans_calls (bp0 : Nat) (Ap0_0 : Option Addr) (cp0_0 : Nat) (p0 : T77) (w : World) (o : Nat → Nat) (Lp0 : Nat) (hp0 : Ft (Bx bp0 78 [.slice Ap0_0 (p0.l).length cp0_0]) w o Lp0) (Lp0_0 : Nat) (hp0_0 : Ft (RdC ET44 Ap0_0 p0.l) w o Lp0_0) (hcp0_0 : (p0.l).length ≤ cp0_0)  (R0 : Nat) (r : List T44) (H : spans_Set_Spans p0 = some r) :
    Calls Try.prog 30 #[.pointer (some ⟨bp0, 0, none⟩)] w (Ret fun v_ w' => ∃ o' : Nat → Nat, ∃ A0 : Option Addr, ∃ c0 : Nat, v_ = .slice A0 (r).length c0 ∧ St [] w o w' o' ∧ Ft (Own ET44 45 (.slice A0 (r).length c0) r) w' o' R0 ∧ (r).length ≤ c0) := by
  refine x_enter (vs := [.pointer (some ⟨bp0, 0, none⟩)]) Try.func30 rfl rfl rfl fun a hk => ?_
  obtain ⟨o0, hs, h0⟩ := St.start w o
  have f900000 := h0 _ _ hp0_0
  have f900019 := h0 _ _ hp0
  clear h0
  rw [spans_Set_Spans] at H
  refine x_seq ?_
  refine wpIn_region_lit ?_
  refine x_run tab hk (k := 1) (lv := []) (ks := [0]) (e' := [(0, .pointer (some ⟨bp0, 0, none⟩))]) rfl trivial fun a hk => ?_
  refine wpListIn_nil ?_
  refine then_n ?_
  refine x_seq ?_
  refine wpIn_region_lit ?_
  refine x_run tab hk (k := 4) (lv := [.slice Ap0_0 (p0.l).length cp0_0]) (ks := [6]) (e' := [(6, .slice Ap0_0 (p0.l).length cp0_0)]) rfl ⟨(load1 tab rfl ((Bx.cell f900019.now 0).trans rfl)), trivial⟩ fun a hk => ?_
  refine x_op hk rfl ?_
  obtain ⟨t4, hc5, H⟩ := bindS H
  refine op_call hk ent_47 (vs := [.slice Ap0_0 (p0.l).length cp0_0]) rfl (slices_Clone'_calls Ap0_0 cp0_0 p0.l _ o0 _ f900000 hcp0_0 1  _ hc5) ?_
  rintro _ w6 ⟨o7, A9, c10, rfl, st8, f11, hc12⟩
  replace f900000 := f900000.st st8 (by decide)
  replace f900019 := f900019.st st8 (by decide)
  replace hs := hs.loc0 st8 (by decide)
  have hk := hk.put 7 (.slice A9 (t4).length c10) rfl
  refine x_run tab hk (k := 1) (lv := []) (ks := [2]) (e' := [(2, .slice A9 (t4).length c10)]) rfl trivial fun a hk => ?_
  refine wpListIn_nil ?_
  refine then_n ?_
  refine wpIn_ret ?_
  obtain rfl := Option.some.inj H
  exact x_retG hk (rs := [.tmp 2]) (vs := [.slice A9 (t4).length c10]) rfl ⟨rfl, trivial⟩ ⟨fun b_ => if b_ < w.heap.size then o b_ else (fun _ => R0) (o7 b_), A9, c10, rfl, hs.close0 o (fun _ => R0), hs.close_ft (o := o) (ρ := fun _ => R0) f11 (by decide) rfl, hc12⟩

/-! (*tidewrack/cache.Cache).Spans -/
theorem cache_Cache_Spans_calls (K : Nat) (bp0 : Nat) (Ap0_0 : Option Addr) (cp0_0 : Nat) (p0 : T62) (w : World) (o : Nat → Nat) (LF : Nat) (Lp0 : Nat) (hp0 : Ft (Bx bp0 63 [.int .i64 p0.most, .int .i64 p0.now, mv Ap0_0]) w o Lp0) (Lp0_0 : Nat) (hp0_0 : MpN dT71 true Ap0_0 p0.l w o Lp0_0 LF) (hcp0_0 : (p0.l).length ≤ cp0_0) (hd0 : ([LF] : List Nat).Nodup) (hd1 : Lp0_0 ∉ [LF]) (hd2 : Lp0 ∉ [LF]) (R0 : Nat) (r : List T44) (H : cache_Cache_Spans K p0 = some r) :
    Calls Try.prog 15 #[.pointer (some ⟨bp0, 0, none⟩)] w (Ret fun v_ w' => ∃ o' : Nat → Nat, ∃ A0 : Option Addr, ∃ c0 : Nat, v_ = .slice A0 (r).length c0 ∧ St [] w o w' o' ∧ Ft (Own ET44 45 (.slice A0 (r).length c0) r) w' o' R0 ∧ (r).length ≤ c0) := by
  refine x_enter (vs := [.pointer (some ⟨bp0, 0, none⟩)]) Try.func15 rfl rfl rfl fun a hk => ?_
  obtain ⟨oi, hs0, h0, h1, hob, hoz, hoa⟩ := St.startM2 w o (m := 1) hd0 rfl
  have hs := hs0 []
  have f900000 := hp0_0.conv (fun P_ => h0 P_ _ hd1) (fun _ h_ => h1 0 1 h_ rfl rfl)
  have f900019 := h0 _ _ hd2 hp0
  clear h0 h1 hs0
  rw [cache_Cache_Spans] at H
  refine x_seq ?_
  refine wpIn_region_lit ?_
  refine x_run tab hk (k := 1) (lv := []) (ks := [0]) (e' := [(0, .pointer (some ⟨bp0, 0, none⟩))]) rfl trivial fun a hk => ?_
  refine wpListIn_nil ?_
  refine then_n ?_
  refine x_seq ?_
  refine wpIn_region_lit ?_
  refine x_op hk rfl ?_
  refine op_alloc (o := oi) tab (t := 78) (cs := [.slice none 0 0]) rfl rfl 2 fun bx4 w1 o2 st3 f5 => ?_
  replace f900000 := f900000.st st3 (by decide)
  replace f900019 := f900019.st st3 (by decide)
  replace hs := hs.locQ st3 hob rfl
  have hk := hk.put 3 (.pointer (some ⟨bx4, 0, none⟩)) rfl
  refine wpListIn_nil ?_
  refine then_n ?_
  refine x_mid (fun a_ w_ => ∃ o121 : Nat → Nat, ∃ A122 : Option Addr, ∃ c123 : Nat, ∃ l124 : List T44, Kn 21 a_ [(3, .pointer (some ⟨bx4, 0, none⟩))] ∧ St [] w oi w_ o121 ∧ Ft (Own ET44 45 (.slice A122 (l124).length c123) l124) w_ o121 14 ∧ Ft (Bx bx4 78 [.slice A122 (l124).length c123]) w_ o121 15 ∧ MpN dT71 true Ap0_0 p0.l w_ o121 0 1 ∧ Ft (Bx bp0 63 [.int .i64 p0.most, .int .i64 p0.now, mv Ap0_0]) w_ o121 0 ∧ (l124).length ≤ c123 ∧ cache_Cache_Spans_j1 l124 = some r) ?_ ?_
  rotate_left
  · rintro a w127 ⟨o121, A122, c123, l124, hk, hs, f125, f5, f900000, f900019, hc126, H⟩
    rw [cache_Cache_Spans_j1] at H
    refine x_seq ?_
    refine wpIn_region_lit ?_
    refine x_op hk rfl ?_
    obtain ⟨t131, hc132, H⟩ := bindS H
    refine op_call hk ent_30 (vs := [.pointer (some ⟨bx4, 0, none⟩)]) rfl (spans_Set_Spans_calls bx4 A122 c123 (⟨l124⟩ : T77) _ o121 15 f5 _ (f125.imp fun _ h_ => Own.rd h_) hc126 16  _ hc132) ?_
    rintro _ w133 ⟨o134, A136, c137, rfl, st135, f138, hc139⟩
    replace f125 := f125.st st135 (by decide)
    replace f5 := f5.st st135 (by decide)
    replace f900000 := f900000.st st135 (by decide)
    replace f900019 := f900019.st st135 (by decide)
    replace hs := hs.locQ st135 hob rfl
    have hk := hk.put 20 (.slice A136 (t131).length c137) rfl
    refine x_run tab hk (k := 1) (lv := []) (ks := [2]) (e' := [(2, .slice A136 (t131).length c137)]) rfl trivial fun a hk => ?_
    refine wpListIn_nil ?_
    refine then_n ?_
    refine wpIn_ret ?_
    obtain rfl := Option.some.inj H
    exact x_retG hk (rs := [.tmp 2]) (vs := [.slice A136 (t131).length c137]) rfl ⟨rfl, trivial⟩ ⟨cl w oi o [] (fun l_ => if l_ = 1 then LF else if l_ = 16 then R0 else 0) o134, A136, c137, rfl, hs.closeF (Lm := []) (Sh := []) hoa rfl (fun l_ => if l_ = 1 then LF else if l_ = 16 then R0 else 0), hs.closeM_ft (o := o) (ρ := fun l_ => if l_ = 1 then LF else if l_ = 16 then R0 else 0) f138 (lab_none hob rfl) rfl, hc139⟩
  refine x_seq ?_
  refine wpIn_region_lit ?_
  refine x_run tab hk (k := 4) (lv := [mv Ap0_0]) (ks := [3, 8]) (e' := [(3, .pointer (some ⟨bx4, 0, none⟩)), (8, mv Ap0_0)]) rfl ⟨(load1 tab rfl ((Bx.cell f900019.now 2).trans rfl)), trivial⟩ fun a hk => ?_
  refine x_op hk rfl ?_
  obtain ⟨q143, H⟩ := ifS H
  refine op_mrange (o := o2) tab hk rfl rfl rfl f900000 q143 17 fun r144 w140 o141 st142 f145 => ?_
  replace f5 := f5.st st142 (by decide)
  replace f900000 := f900000.st st142 (by decide)
  replace f900019 := f900019.st st142 (by decide)
  replace hs := hs.locQ st142 hob rfl
  have hk := hk.put 9 (.pointer (some ⟨r144, 0, none⟩)) rfl
  refine wpListIn_nil ?_
  refine then_n ?_
  refine wpIn_block ?_
  refine x_loop (fun j_ a_ w_ => ∃ o176 : Nat → Nat, ∃ A177 : Option Addr, ∃ c178 : Nat, ∃ l179 : List T44, ∃ A182 : Option Addr, ∃ c183 : Nat, ∃ l184 : List Int, Kn 21 a_ [(3, .pointer (some ⟨bx4, 0, none⟩)), (9, .pointer A182)] ∧ St [] w oi w_ o176 ∧ Ft (Own ET44 45 (.slice A177 (l179).length c178) l179) w_ o176 22 ∧ MRng Try.prog 3 A182 l184 w_ o176 24 0 ∧ Ft (Bx bx4 78 [.slice A177 (l179).length c178]) w_ o176 23 ∧ MpN dT71 true Ap0_0 p0.l w_ o176 0 1 ∧ Ft (Bx bp0 63 [.int .i64 p0.most, .int .i64 p0.now, mv Ap0_0]) w_ o176 0 ∧ (l179).length ≤ c178 ∧ (l184).length ≤ c183 ∧ cache_Cache_Spans_l2 K j_ l179 l184 = some r) (k := K) ⟨(fun b_ => (fun l_ => if l_ = 2 then 23 else if l_ = 17 then 24 else l_) (o141 b_)), none, 0, ([] : List T44), (some ⟨r144, 0, none⟩), ((M.keys p0.l).length), (M.keys p0.l), (by exact Kn.pick (ks := [3, 9]) hk rfl), (hs.relabM hob (fun l_ => if l_ = 2 then 23 else if l_ = 17 then 24 else l_) (by decide)), (Ft.of_all (fun _ => Own.nil _ _ _) _ _ _), (f145.relab (fun l_ => if l_ = 2 then 23 else if l_ = 17 then 24 else l_) rfl), (f5.relab (fun l_ => if l_ = 2 then 23 else if l_ = 17 then 24 else l_) rfl), (f900000.relab (fun l_ => if l_ = 2 then 23 else if l_ = 17 then 24 else l_) rfl), (f900019.relab (fun l_ => if l_ = 2 then 23 else if l_ = 17 then 24 else l_) rfl), (by simp), (Nat.le_refl _), H⟩ (by rintro _ _ ⟨_, _, _, _, _, _, _, _, _, _, _, _, _, _, _, _, H_⟩; exact absurd (show (none : Option (List T44)) = some r from H_) (by simp)) ?_
  rintro k215 a w214 ⟨o176, A177, c178, l179, A182, c183, l184, hk, hs, f180, f185, f5, f900000, f900019, hc181, hc186, H⟩
  rw [cache_Cache_Spans_l2] at H
  obtain ⟨lp216, hlp217⟩ : ∃ lp_, lp_ = cache_Cache_Spans_l2 K k215 := ⟨_, rfl⟩
  rw [← hlp217] at H
  refine x_seq ?_
  refine wpIn_region_lit ?_
  refine x_op hk rfl ?_
  refine op_mnext hk (tab.u (t := 3) rfl) rfl f185 (by decide) (fun hz222 => ?_) (fun kk218 v219 w223 hm220 st224 f225 hE221 => ?_)
  · replace H := none_left H hz222
    have hk := hk.put 10 (.tuple #[.bool false]) rfl
    refine x_run tab hk (k := 1) (lv := []) (ks := [3, 9, 11]) (e' := [(3, .pointer (some ⟨bx4, 0, none⟩)), (9, .pointer A182), (11, .bool false)]) rfl trivial fun a hk => ?_
    refine wpListIn_nil ?_
    refine then_n ?_
    refine x_seq ?_
    refine x_if hk (b := false) rfl ?_
    refine (show Code.wpIn _ _ _ _ _ _ _ from ?_)
    refine wpIn_exit ?_
    refine then_x ?_
    refine then_x ?_
    refine blk_x ?_
    refine then_n ?_
    exact ⟨(fun b_ => (fun l_ => if l_ = 22 then 14 else if l_ = 23 then 15 else l_) (o176 b_)), A177, c178, l179, (by exact Kn.pick (ks := [3]) hk rfl), (hs.relabM hob (fun l_ => if l_ = 22 then 14 else if l_ = 23 then 15 else l_) (by decide)), (f180.relab (fun l_ => if l_ = 22 then 14 else if l_ = 23 then 15 else l_) rfl), (f5.relab (fun l_ => if l_ = 22 then 14 else if l_ = 23 then 15 else l_) rfl), (f900000.relab (fun l_ => if l_ = 22 then 14 else if l_ = 23 then 15 else l_) rfl), (f900019.relab (fun l_ => if l_ = 22 then 14 else if l_ = 23 then 15 else l_) rfl), hc181, H⟩
  · replace H := more_left H hm220
    replace f180 := f180.st st224 (by decide)
    replace f5 := f5.st st224 (by decide)
    replace f900000 := f900000.st st224 (by decide)
    replace f900019 := f900019.st st224 (by decide)
    replace hs := hs.locQ st224 hob rfl
    have hk := hk.put 10 (.tuple #[.bool true, .int .i64 kk218, v219]) rfl
    refine x_run tab hk (k := 1) (lv := []) (ks := [3, 9, 11]) (e' := [(3, .pointer (some ⟨bx4, 0, none⟩)), (9, .pointer A182), (11, .bool true)]) rfl trivial fun a hk => ?_
    refine wpListIn_nil ?_
    refine then_n ?_
    refine x_seq ?_
    refine x_if hk (b := true) rfl ?_
    refine (show Code.wpIn _ _ _ _ _ _ _ from ?_)
    refine wpIn_skip ?_
    refine then_n ?_
    refine wpIn_block ?_
    refine x_seq ?_
    refine wpIn_region_lit ?_
    refine x_run tab hk (k := 3) (lv := [.tuple #[.int .i64 kk218, v219]]) (ks := [3, 4, 9]) (e' := [(3, .pointer (some ⟨bx4, 0, none⟩)), (4, .int .i64 kk218), (9, .pointer A182)]) rfl ⟨(ask_entry rfl hE221), trivial⟩ fun a hk => ?_
    refine wpListIn_nil ?_
    refine then_n ?_
    refine wpIn_region_lit ?_
    refine x_run tab hk (k := 4) (lv := []) (ks := [3, 9, 17]) (e' := [(3, .pointer (some ⟨bx4, 0, none⟩)), (9, .pointer A182), (17, .agg #[.int .i64 kk218, .int .i64 (IntKind.wrap .i64 (kk218 + 1))])]) rfl trivial fun a hk => ?_
    refine x_op hk rfl ?_
    refine op_slice (o := o176) tab hk (vs := [.agg #[.int .i64 kk218, .int .i64 (IntKind.wrap .i64 (kk218 + 1))]]) (cs := [.int .i64 kk218, .int .i64 (IntKind.wrap .i64 (kk218 + 1))]) rfl rfl rfl rfl rfl rfl rfl rfl rfl 26 fun bx229 w226 o227 st228 f230 => ?_
    replace f180 := f180.st st228 (by decide)
    replace f225 := f225.st st228 (by decide)
    replace f5 := f5.st st228 (by decide)
    replace f900000 := f900000.st st228 (by decide)
    replace f900019 := f900019.st st228 (by decide)
    replace hs := hs.locQ st228 hob rfl
    have f231 : Ft (Own ET44 45 (.slice (some ⟨bx229, 0, none⟩) (([(⟨kk218, (IntKind.wrap .i64 (kk218 + 1))⟩ : T44)] : List T44)).length 1) ([(⟨kk218, (IntKind.wrap .i64 (kk218 + 1))⟩ : T44)] : List T44)) w226 o227 26 := f230.imp fun _ h_ => Own.of_box h_ rfl (by simp)
    have hk := hk.put 18 (.slice (some ⟨bx229, 0, none⟩) (([(⟨kk218, (IntKind.wrap .i64 (kk218 + 1))⟩ : T44)] : List T44)).length 1) rfl
    refine x_op hk rfl ?_
    obtain ⟨t235, hc236, H⟩ := bindS H
    refine op_call hk ent_29 (vs := [.pointer (some ⟨bx4, 0, none⟩), .slice (some ⟨bx229, 0, none⟩) (([(⟨kk218, (IntKind.wrap .i64 (kk218 + 1))⟩ : T44)] : List T44)).length 1]) rfl (spans_Set_Add_calls K bx4 A177 c178 (⟨l179⟩ : T77) (some ⟨bx229, 0, none⟩) 1 ([(⟨kk218, (IntKind.wrap .i64 (kk218 + 1))⟩ : T44)] : List T44) _ o227 23 f5 22 f180 hc181 _ (f231.imp fun _ h_ => Own.rd h_) (Nat.le_refl _) (by decide) (by decide)   _ hc236) ?_
    rintro _ w237 ⟨o238, A241, c242, rfl, st239, f240, f243, hc244⟩
    replace f225 := f225.st st239 (by decide)
    replace f231 := f231.st st239 (by decide)
    replace f900000 := f900000.st st239 (by decide)
    replace f900019 := f900019.st st239 (by decide)
    replace hs := hs.locQ st239 hob rfl
    have hk := hk.put 19 (.tuple #[]) rfl
    refine wpListIn_nil ?_
    refine blk_n ?_
    refine then_n ?_
    exact ⟨k215, Nat.le_refl _, o238, A241, c242, t235.l, A182, c183, (List.erase l184 kk218), (by exact Kn.pick (ks := [3, 9]) hk rfl), hs, f243, f225, f240, f900000, f900019, hc244, (Nat.le_trans List.length_erase_le hc186), (hlp217 ▸ H)⟩

/-! tidewrack/tidewracklaw14.CacheSpans -/
set_option maxHeartbeats 4000000 in
set_option maxRecDepth 20000 in
theorem tidewracklaw14_CacheSpans_calls (K : Nat) (Ap0 : Option Addr) (cp0 : Nat) (p0 : List T29) (p1 : Int) (w : World) (o : Nat → Nat) (LF : Nat) (Lp0 : Nat) (Fp0 : Nat) (hp0 : NRd dT29 Ap0 p0 w o Lp0 Fp0) (hcp0 : (p0).length ≤ cp0) (hd0 : ([LF] : List Nat).Nodup) (hd1 : Lp0 ∉ [LF]) (hd2 : Fp0 ∉ [LF]) (r : Bool) (H : tidewracklaw14_CacheSpans K p0 p1 = some r) :
    Calls Try.prog 5 #[.slice Ap0 (p0).length cp0, .int .i64 p1] w (Ret fun v_ w' => ∃ o' : Nat → Nat, v_ = .bool r ∧ St [] w o w' o') := by
  refine x_enter (vs := [.slice Ap0 (p0).length cp0, .int .i64 p1]) Try.func5 rfl rfl rfl fun a hk => ?_
  obtain ⟨oi, hs0, h0, h1, hob, hoz, hoa⟩ := St.startM2 w o (m := 1) hd0 rfl
  have hs := hs0 []
  have f900000 := hp0.conv (fun P_ => h0 P_ _ hd1) (fun P_ => h0 P_ _ hd2)
  clear h0 h1 hs0
  rw [tidewracklaw14_CacheSpans] at H
  refine x_seq ?_
  refine wpIn_region_lit ?_
  refine x_run tab hk (k := 1) (lv := []) (ks := [0, 1]) (e' := [(0, .slice Ap0 (p0).length cp0), (1, .int .i64 p1)]) rfl trivial fun a hk => ?_
  refine wpListIn_nil ?_
  refine then_n ?_
  refine x_seq ?_
  refine x_seq ?_
  refine wpIn_region_lit ?_
  refine x_op hk rfl ?_
  obtain ⟨t4, hc5, H⟩ := bindS H
  refine op_call hk ent_8 (vs := []) rfl (tidewracklaw14_awake_calls K  _ oi    _ hc5) ?_
  rintro _ w6 ⟨o7, rfl, st8⟩
  replace f900000 := f900000.st st8 (by decide)
  replace hs := hs.locQ st8 hob rfl
  have hk := hk.put 19 (.bool t4) rfl
  refine x_run tab hk (k := 1) (lv := []) (ks := [0, 1, 20]) (e' := [(0, .slice Ap0 (p0).length cp0), (1, .int .i64 p1), (20, .bool (!t4))]) rfl trivial fun a hk => ?_
  refine wpListIn_nil ?_
  refine then_n ?_
  cases b9 : (!t4)
  · rw [b9] at hk H
    replace H := bifF H
    refine x_if hk (b := false) rfl ?_
    refine (show Code.wpIn _ _ _ _ _ _ _ from ?_)
    refine wpIn_skip ?_
    refine then_n ?_
    refine x_seq ?_
    refine wpIn_region_lit ?_
    refine x_run tab hk (k := 3) (lv := []) (ks := [0, 23]) (e' := [(0, .slice Ap0 (p0).length cp0), (23, .int .i64 (IntKind.wrap .i64 (1 + (bits .and .i64 p1 15))))]) rfl trivial fun a hk => ?_
    refine x_op hk rfl ?_
    obtain ⟨t13, hc14, H⟩ := bindS H
    refine op_call hk ent_9 (vs := [.int .i64 (IntKind.wrap .i64 (1 + (bits .and .i64 p1 15)))]) rfl (cache_New_calls (IntKind.wrap .i64 (1 + (bits .and .i64 p1 15))) _ o7 1 (by decide) 2 3  _ hc14) ?_
    rintro _ w15 ⟨o16, bx18, A20, c21, rfl, st17, f19, f22, hc23⟩
    replace f900000 := f900000.st st17 (by decide)
    replace hs := hs.locQ st17 hob rfl
    have hk := hk.put 24 (.pointer (some ⟨bx18, 0, none⟩)) rfl
    refine x_run tab hk (k := 1) (lv := []) (ks := [0, 5]) (e' := [(0, .slice Ap0 (p0).length cp0), (5, .pointer (some ⟨bx18, 0, none⟩))]) rfl trivial fun a hk => ?_
    refine wpListIn_nil ?_
    refine then_n ?_
    refine x_seq ?_
    refine x_seq ?_
    refine wpIn_region_lit ?_
    refine x_run tab hk (k := 2) (lv := []) (ks := [0, 5, 26]) (e' := [(0, .slice Ap0 (p0).length cp0), (5, .pointer (some ⟨bx18, 0, none⟩)), (26, .bool false)]) rfl trivial fun a hk => ?_
    refine wpListIn_nil ?_
    refine then_n ?_
    refine x_if hk (b := false) rfl ?_
    refine (show Code.wpIn _ _ _ _ _ _ _ from ?_)
    refine wpIn_skip ?_
    refine then_n ?_
    refine x_mid (fun a_ w_ => ∃ o6275 : Nat → Nat, Kn 118 a_ [] ∧ St [] w oi w_ o6275 ∧ tidewracklaw14_CacheSpans_j1 = some r) ?_ ?_
    rotate_left
    · rintro a w6276 ⟨o6275, hk, hs, H⟩
      rw [tidewracklaw14_CacheSpans_j1] at H
      refine x_seq ?_
      refine wpIn_region_lit ?_
      refine x_run tab hk (k := 1) (lv := []) (ks := [4]) (e' := [(4, .bool true)]) rfl trivial fun a hk => ?_
      refine wpListIn_nil ?_
      refine then_n ?_
      refine wpIn_ret ?_
      obtain rfl := Option.some.inj H
      exact x_retG hk (rs := [.tmp 4]) (vs := [.bool true]) rfl ⟨rfl, trivial⟩ ⟨cl w oi o [] (fun l_ => if l_ = 1 then LF else 0) o6275, rfl, hs.closeF (Lm := []) (Sh := []) hoa rfl (fun l_ => if l_ = 1 then LF else 0)⟩
    refine x_seq ?_
    refine wpIn_region_lit ?_
    refine x_run tab hk (k := 1) (lv := []) (ks := [0, 5, 6]) (e' := [(0, .slice Ap0 (p0).length cp0), (5, .pointer (some ⟨bx18, 0, none⟩)), (6, .int .i64 0)]) rfl trivial fun a hk => ?_
    refine wpListIn_nil ?_
    refine then_n ?_
    refine wpIn_block ?_
    refine x_loop (fun j_ a_ w_ => ∃ o8356 : Nat → Nat, ∃ A8357 : Option Addr, ∃ c8358 : Nat, ∃ x8361 : Int, ∃ x8362 : Int, ∃ A8363 : Option Addr, ∃ c8364 : Nat, ∃ l8365 : M T71, ∃ x8368 : Int, Kn 118 a_ [(0, .slice A8357 (p0).length c8358), (5, .pointer (some ⟨bx18, 0, none⟩)), (6, .int .i64 x8368)] ∧ St [] w oi w_ o8356 ∧ Ft (Bx bx18 63 [.int .i64 x8361, .int .i64 x8362, mv A8363]) w_ o8356 1779 ∧ NRd dT29 A8357 p0 w_ o8356 0 0 ∧ MpN dT71 true A8363 l8365 w_ o8356 1778 1 ∧ (p0).length ≤ c8358 ∧ (l8365).length ≤ c8364 ∧ tidewracklaw14_CacheSpans_l2 K p0 j_ x8361 x8362 l8365 x8368 = some r) (k := K) ⟨(fun b_ => (fun l_ => if l_ = 2 then 1779 else if l_ = 3 then 1778 else l_) (o16 b_)), Ap0, cp0, t13.most, t13.now, A20, c21, t13.l, 0, (by exact Kn.pick (ks := [0, 5, 6]) hk rfl), (hs.relabM hob (fun l_ => if l_ = 2 then 1779 else if l_ = 3 then 1778 else l_) (by decide)), (f19.relab (fun l_ => if l_ = 2 then 1779 else if l_ = 3 then 1778 else l_) rfl), (f900000.relab (fun l_ => if l_ = 2 then 1779 else if l_ = 3 then 1778 else l_) rfl), (f22.relab (fun l_ => if l_ = 2 then 1779 else if l_ = 3 then 1778 else l_) rfl), hcp0, hc23, H⟩ (by rintro _ _ ⟨_, _, _, _, _, _, _, _, _, _, _, _, _, _, _, _, H_⟩; exact absurd (show (none : Option Bool) = some r from H_) (by simp)) ?_
    rintro k10446 a w10445 ⟨o8356, A8357, c8358, x8361, x8362, A8363, c8364, l8365, x8368, hk, hs, f19, f8359, f8366, hc8360, hc8367, H⟩
    rw [tidewracklaw14_CacheSpans_l2] at H
    obtain ⟨lp10447, hlp10448⟩ : ∃ lp_, lp_ = tidewracklaw14_CacheSpans_l2 K p0 k10446 := ⟨_, rfl⟩
    rw [← hlp10448] at H
    refine x_mid (fun a_ w_ => ∃ o10454 : Nat → Nat, Kn 118 a_ [(0, .slice A8357 (p0).length c8358), (5, .pointer (some ⟨bx18, 0, none⟩)), (6, .int .i64 x8368)] ∧ St [] w oi w_ o10454 ∧ Ft (Bx bx18 63 [.int .i64 x8361, .int .i64 x8362, mv A8363]) w_ o10454 2223 ∧ NRd dT29 A8357 p0 w_ o10454 0 0 ∧ MpN dT71 true A8363 l8365 w_ o10454 2222 1 ∧ tidewracklaw14_CacheSpans_j3 K p0 x8361 x8362 l8365 x8368 lp10447 = some r) ?_ ?_
    rotate_left
    · rintro a w10455 ⟨o10454, hk, hs, f19, f8359, f8366, H⟩
      rw [tidewracklaw14_CacheSpans_j3] at H
      refine x_mid (fun a_ w_ => ∃ o11491 : Nat → Nat, ∃ A11492 : Option Addr, ∃ c11493 : Nat, ∃ x11496 : Int, ∃ x11497 : Int, ∃ A11498 : Option Addr, ∃ c11499 : Nat, ∃ l11500 : M T71, Kn 118 a_ [(0, .slice A11492 (p0).length c11493), (5, .pointer (some ⟨bx18, 0, none⟩)), (6, .int .i64 x8368)] ∧ St [] w oi w_ o11491 ∧ NRd dT29 A11492 p0 w_ o11491 0 0 ∧ MpN dT71 true A11498 l11500 w_ o11491 2443 1 ∧ Ft (Bx bx18 63 [.int .i64 x11496, .int .i64 x11497, mv A11498]) w_ o11491 2444 ∧ (p0).length ≤ c11493 ∧ (l11500).length ≤ c11499 ∧ tidewracklaw14_CacheSpans_j4 x8368 lp10447 x11496 x11497 l11500 = some r) ?_ ?_
      rotate_left
      · rintro a w11503 ⟨o11491, A11492, c11493, x11496, x11497, A11498, c11499, l11500, hk, hs, f11494, f11501, f19, hc11495, hc11502, H⟩
        rw [tidewracklaw14_CacheSpans_j4] at H
        refine wpIn_region_lit ?_
        refine x_run tab hk (k := 3) (lv := []) (ks := [0, 5, 6]) (e' := [(0, .slice A11492 (p0).length c11493), (5, .pointer (some ⟨bx18, 0, none⟩)), (6, .int .i64 (IntKind.wrap .i64 (x8368 + 1)))]) rfl trivial fun a hk => ?_
        refine wpListIn_nil ?_
        refine then_n ?_
        exact ⟨k10446, Nat.le_refl _, (fun b_ => (fun l_ => if l_ = 2443 then 1778 else if l_ = 2444 then 1779 else l_) (o11491 b_)), A11492, c11493, x11496, x11497, A11498, c11499, l11500, (IntKind.wrap .i64 (x8368 + 1)), (by exact Kn.pick (ks := [0, 5, 6]) hk rfl), (hs.relabM hob (fun l_ => if l_ = 2443 then 1778 else if l_ = 2444 then 1779 else l_) (by decide)), (f19.relab (fun l_ => if l_ = 2443 then 1778 else if l_ = 2444 then 1779 else l_) rfl), (f11494.relab (fun l_ => if l_ = 2443 then 1778 else if l_ = 2444 then 1779 else l_) rfl), (f11501.relab (fun l_ => if l_ = 2443 then 1778 else if l_ = 2444 then 1779 else l_) rfl), hc11495, hc11502, (hlp10448 ▸ H)⟩
      refine wpIn_block ?_
      refine x_seq ?_
      refine wpIn_region_lit ?_
      obtain ⟨q11504, H⟩ := ifS H
      obtain ⟨ad11505, hAad11505⟩ := NRd.addr f8359 q11504
      have hk_C := hk
      have f19_C := f19
      have f8359_C := f8359
      have f8366_C := f8366
      subst hAad11505
      have hk := hk_C
      clear hk_C
      have f19 := f19_C
      clear f19_C
      have f8359 := f8359_C
      clear f8359_C
      have f8366 := f8366_C
      clear f8366_C
      obtain ⟨A11506, c11507, f11508, f11509, hc11510⟩ := elT29 f8359 (i := x8368) q11504
      refine x_run tab hk (k := 4) (lv := [.agg #[.int .i64 ((rdD zT29 p0 x8368).Kind), .int .i64 ((rdD zT29 p0 x8368).I), .slice A11506 ((rdD zT29 p0 x8368).L).length c11507]]) (ks := [0, 5, 6, 40]) (e' := [(0, .slice (some ad11505) (p0).length c8358), (5, .pointer (some ⟨bx18, 0, none⟩)), (6, .int .i64 x8368), (40, .agg #[.int .i64 ((rdD zT29 p0 x8368).Kind), .int .i64 ((rdD zT29 p0 x8368).I), .slice A11506 ((rdD zT29 p0 x8368).L).length c11507])]) rfl ⟨q11504, (CellsAt.all f11508.now tab rfl rfl rfl), trivial⟩ fun a hk => ?_
      refine x_op hk rfl ?_
      refine op_alloc (o := o10454) tab (t := 30) (cs := [.int .i64 0, .int .i64 0, .slice none 0 0]) rfl rfl 2445 fun bx11514 w11511 o11512 st11513 f11515 => ?_
      replace f11509 := f11509.st st11513 (by decide)
      replace f19 := f19.st st11513 (by decide)
      replace f8359 := f8359.st st11513 (by decide)
      replace f8366 := f8366.st st11513 (by decide)
      replace hs := hs.locQ st11513 hob rfl
      have hk := hk.put 7 (.pointer (some ⟨bx11514, 0, none⟩)) rfl
      refine x_op hk rfl ?_
      refine op_store tab hk (t := 30) (v := .agg #[.int .i64 ((rdD zT29 p0 x8368).Kind), .int .i64 ((rdD zT29 p0 x8368).I), .slice A11506 ((rdD zT29 p0 x8368).L).length c11507]) (b := bx11514) (k := 0) (cs' := [.int .i64 ((rdD zT29 p0 x8368).Kind), .int .i64 ((rdD zT29 p0 x8368).I), .slice A11506 ((rdD zT29 p0 x8368).L).length c11507]) rfl rfl rfl rfl rfl rfl f11515 rfl rfl fun w11516 o11517 st11518 f11515_ => ?_
      replace f11509 := f11509.st st11518 (by decide)
      replace f19 := f19.st st11518 (by decide)
      replace f8359 := f8359.st st11518 (by decide)
      replace f8366 := f8366.st st11518 (by decide)
      replace hs := hs.locQ st11518 hob rfl
      replace f11515 := f11515_
      refine wpListIn_nil ?_
      refine then_n ?_
      refine x_seq ?_
      refine wpIn_region_lit ?_
      refine x_run tab hk (k := 4) (lv := [.int .i64 ((rdD zT29 p0 x8368).I)]) (ks := [0, 5, 6, 7, 8]) (e' := [(0, .slice (some ad11505) (p0).length c8358), (5, .pointer (some ⟨bx18, 0, none⟩)), (6, .int .i64 x8368), (7, .pointer (some ⟨bx11514, 0, none⟩)), (8, .int .i64 (bits .and .i64 ((rdD zT29 p0 x8368).I) 31))]) rfl ⟨(load1 tab rfl ((Bx.cell f11515.now 1).trans rfl)), trivial⟩ fun a hk => ?_
      refine wpListIn_nil ?_
      refine then_n ?_
      refine x_seq ?_
      refine wpIn_region_lit ?_
      refine x_run tab hk (k := 1) (lv := []) (ks := [0, 5, 6, 7, 8, 9]) (e' := [(0, .slice (some ad11505) (p0).length c8358), (5, .pointer (some ⟨bx18, 0, none⟩)), (6, .int .i64 x8368), (7, .pointer (some ⟨bx11514, 0, none⟩)), (8, .int .i64 (bits .and .i64 ((rdD zT29 p0 x8368).I) 31)), (9, .int .i64 (-1))]) rfl trivial fun a hk => ?_
      refine wpListIn_nil ?_
      refine then_n ?_
      refine x_mid (fun a_ w_ => ∃ o11565 : Nat → Nat, ∃ x11566 : Int, ∃ x11567 : Int, ∃ A11568 : Option Addr, ∃ c11569 : Nat, ∃ l11570 : M T71, ∃ x11573 : Int, Kn 118 a_ [(0, .slice (some ad11505) (p0).length c8358), (5, .pointer (some ⟨bx18, 0, none⟩)), (6, .int .i64 x8368), (9, .int .i64 x11573)] ∧ St [] w oi w_ o11565 ∧ MpN dT71 true A11568 l11570 w_ o11565 2447 1 ∧ Ft (Bx bx18 63 [.int .i64 x11566, .int .i64 x11567, mv A11568]) w_ o11565 2448 ∧ NRd dT29 (some ad11505) p0 w_ o11565 0 0 ∧ (l11570).length ≤ c11569 ∧ tidewracklaw14_CacheSpans_j5 K x8368 lp10447 x11566 x11567 l11570 x11573 = some r) ?_ ?_
      rotate_left
      · rintro a w11574 ⟨o11565, x11566, x11567, A11568, c11569, l11570, x11573, hk, hs, f11571, f19, f8359, hc11572, H⟩
        rw [tidewracklaw14_CacheSpans_j5] at H
        refine x_seq ?_
        refine wpIn_region_lit ?_
        refine x_run tab hk (k := 1) (lv := []) (ks := [0, 5, 6, 9, 62]) (e' := [(0, .slice (some ad11505) (p0).length c8358), (5, .pointer (some ⟨bx18, 0, none⟩)), (6, .int .i64 x8368), (9, .int .i64 x11573), (62, .pointer (some ⟨bx18, 0, none⟩))]) rfl trivial fun a hk => ?_
        refine x_op hk rfl ?_
        obtain ⟨t11578, hc11579, H⟩ := bindS H
        refine op_call hk ent_16 (vs := [.pointer (some ⟨bx18, 0, none⟩)]) rfl (cache_Cache_Order_calls bx18 A11568 c11569 (⟨x11566, x11567, l11570⟩ : T62) _ o11565 1 2448 f19 _ f11571 hc11572 (by decide) (by decide) (by decide) 2449  _ hc11579) ?_
        rintro _ w11580 ⟨o11581, A11583, c11584, rfl, st11582, f11585, hc11586⟩
        replace f11571 := f11571.st st11582 (by decide)
        replace f19 := f19.st st11582 (by decide)
        replace f8359 := f8359.st st11582 (by decide)
        replace hs := hs.locQ st11582 hob rfl
        have hk := hk.put 63 (.slice A11583 (t11578).length c11584) rfl
        refine x_run tab hk (k := 1) (lv := []) (ks := [0, 5, 6, 9, 12]) (e' := [(0, .slice (some ad11505) (p0).length c8358), (5, .pointer (some ⟨bx18, 0, none⟩)), (6, .int .i64 x8368), (9, .int .i64 x11573), (12, .slice A11583 (t11578).length c11584)]) rfl trivial fun a hk => ?_
        refine wpListIn_nil ?_
        refine then_n ?_
        refine x_seq ?_
        refine wpIn_region_lit ?_
        refine x_run tab hk (k := 1) (lv := []) (ks := [0, 5, 6, 9, 12, 13]) (e' := [(0, .slice (some ad11505) (p0).length c8358), (5, .pointer (some ⟨bx18, 0, none⟩)), (6, .int .i64 x8368), (9, .int .i64 x11573), (12, .slice A11583 (t11578).length c11584), (13, .int .i64 0)]) rfl trivial fun a hk => ?_
        refine wpListIn_nil ?_
        refine then_n ?_
        refine x_mid (fun a_ w_ => ∃ o12033 : Nat → Nat, ∃ x12034 : Int, Kn 118 a_ [(0, .slice (some ad11505) (p0).length c8358), (5, .pointer (some ⟨bx18, 0, none⟩)), (6, .int .i64 x8368), (9, .int .i64 x11573), (12, .slice A11583 (t11578).length c11584), (13, .int .i64 x12034)] ∧ St [] w oi w_ o12033 ∧ MpN dT71 true A11568 l11570 w_ o12033 2555 1 ∧ Ft (Own (encInt .i64) 3 (.slice A11583 (t11578).length c11584) t11578) w_ o12033 2557 ∧ Ft (Bx bx18 63 [.int .i64 x11566, .int .i64 x11567, mv A11568]) w_ o12033 2556 ∧ NRd dT29 (some ad11505) p0 w_ o12033 0 0 ∧ tidewracklaw14_CacheSpans_j6 x8368 lp10447 x11566 x11567 l11570 x11573 t11578 x12034 = some r) ?_ ?_
        rotate_left
        · rintro a w12035 ⟨o12033, x12034, hk, hs, f11571, f11585, f19, f8359, H⟩
          rw [tidewracklaw14_CacheSpans_j6] at H
          refine x_seq ?_
          refine wpIn_region_lit ?_
          refine x_run tab hk (k := 2) (lv := []) (ks := [0, 5, 6, 9, 12, 13, 95, 96]) (e' := [(0, .slice (some ad11505) (p0).length c8358), (5, .pointer (some ⟨bx18, 0, none⟩)), (6, .int .i64 x8368), (9, .int .i64 x11573), (12, .slice A11583 (t11578).length c11584), (13, .int .i64 x12034), (95, .int .i64 x12034), (96, .pointer (some ⟨bx18, 0, none⟩))]) rfl trivial fun a hk => ?_
          refine x_op hk rfl ?_
          obtain ⟨t12039, hc12040, H⟩ := bindS H
          refine op_call hk ent_17 (vs := [.pointer (some ⟨bx18, 0, none⟩)]) rfl (cache_Cache_Len_calls bx18 A11568 c11569 (⟨x11566, x11567, l11570⟩ : T62) _ o12033 1 2556 f19 _ f11571 hc11572 (by decide) (by decide) (by decide)   _ hc12040) ?_
          rintro _ w12041 ⟨o12042, rfl, st12043⟩
          replace f11571 := f11571.st st12043 (by decide)
          replace f11585 := f11585.st st12043 (by decide)
          replace f19 := f19.st st12043 (by decide)
          replace f8359 := f8359.st st12043 (by decide)
          replace hs := hs.locQ st12043 hob rfl
          have hk := hk.put 97 (.int .i64 t12039) rfl
          refine x_run tab hk (k := 2) (lv := []) (ks := [0, 5, 6, 9, 12, 13, 99]) (e' := [(0, .slice (some ad11505) (p0).length c8358), (5, .pointer (some ⟨bx18, 0, none⟩)), (6, .int .i64 x8368), (9, .int .i64 x11573), (12, .slice A11583 (t11578).length c11584), (13, .int .i64 x12034), (99, .bool (x12034 != t12039))]) rfl trivial fun a hk => ?_
          cases b12044 : (x12034 != t12039)
          · rw [b12044] at hk H
            replace H := bifF H
            refine x_run tab hk (k := 6) (lv := []) (ks := [0, 5, 6, 9, 12, 13, 105]) (e' := [(0, .slice (some ad11505) (p0).length c8358), (5, .pointer (some ⟨bx18, 0, none⟩)), (6, .int .i64 x8368), (9, .int .i64 x11573), (12, .slice A11583 (t11578).length c11584), (13, .int .i64 x12034), (105, .bool (((t11578).length : Int) != x12034))]) rfl trivial fun a hk => ?_
            cases b12045 : (((t11578).length : Int) != x12034)
            · rw [b12045] at hk H
              replace H := bifF H
              refine x_run tab hk (k := 3) (lv := []) (ks := [0, 5, 6, 9, 12, 13, 105, 108]) (e' := [(0, .slice (some ad11505) (p0).length c8358), (5, .pointer (some ⟨bx18, 0, none⟩)), (6, .int .i64 x8368), (9, .int .i64 x11573), (12, .slice A11583 (t11578).length c11584), (13, .int .i64 x12034), (105, .bool false), (108, .bool (decide (x11573 ≥ (0 : Int))))]) rfl trivial fun a hk => ?_
              cases b12046 : (decide (x11573 ≥ (0 : Int)))
              · rw [b12046] at hk H
                replace H := bifF H
                refine x_run tab hk (k := 9) (lv := []) (ks := [0, 5, 6, 117]) (e' := [(0, .slice (some ad11505) (p0).length c8358), (5, .pointer (some ⟨bx18, 0, none⟩)), (6, .int .i64 x8368), (117, .bool false)]) rfl trivial fun a hk => ?_
                refine wpListIn_nil ?_
                refine then_n ?_
                refine x_if hk (b := false) rfl ?_
                refine (show Code.wpIn _ _ _ _ _ _ _ from ?_)
                refine wpIn_skip ?_
                refine blk_n ?_
                refine then_n ?_
                exact ⟨(fun b_ => (fun l_ => if l_ = 2555 then 2443 else if l_ = 2556 then 2444 else l_) (o12042 b_)), (some ad11505), c8358, x11566, x11567, A11568, c11569, l11570, (by exact Kn.pick (ks := [0, 5, 6]) hk rfl), (hs.relabM hob (fun l_ => if l_ = 2555 then 2443 else if l_ = 2556 then 2444 else l_) (by decide)), (f8359.relab (fun l_ => if l_ = 2555 then 2443 else if l_ = 2556 then 2444 else l_) rfl), (f11571.relab (fun l_ => if l_ = 2555 then 2443 else if l_ = 2556 then 2444 else l_) rfl), (f19.relab (fun l_ => if l_ = 2555 then 2443 else if l_ = 2556 then 2444 else l_) rfl), hc8360, hc11572, H⟩
              · rw [b12046] at hk H
                replace H := bifT H
                obtain ⟨q12047, H⟩ := ifS H
                obtain ⟨ad12048, hAad12048⟩ := RdC.addr (Own.rd f11585.now) q12047
                have hk_C := hk
                have f11571_C := f11571
                have f11585_C := f11585
                have f19_C := f19
                have f8359_C := f8359
                subst hAad12048
                have hk := hk_C
                clear hk_C
                have f11571 := f11571_C
                clear f11571_C
                have f11585 := f11585_C
                clear f11585_C
                have f19 := f19_C
                clear f19_C
                have f8359 := f8359_C
                clear f8359_C
                refine x_run tab hk (k := 9) (lv := [.int .i64 (rdD 0 t11578 (IntKind.wrap .i64 (x12034 - 1)))]) (ks := [0, 5, 6, 117]) (e' := [(0, .slice (some ad11505) (p0).length c8358), (5, .pointer (some ⟨bx18, 0, none⟩)), (6, .int .i64 x8368), (117, .bool ((rdD 0 t11578 (IntKind.wrap .i64 (x12034 - 1))) != x11573))]) rfl ⟨q12047, (load1 tab rfl (RdC.at0 (E := (encInt .i64)) (d := 0) (i := (IntKind.wrap .i64 (x12034 - 1))) (Own.rd f11585.now) q12047 rfl)), trivial⟩ fun a hk => ?_
                refine wpListIn_nil ?_
                refine then_n ?_
                cases b12049 : ((rdD 0 t11578 (IntKind.wrap .i64 (x12034 - 1))) != x11573)
                · rw [b12049] at hk H
                  replace H := bifF H
                  refine x_if hk (b := false) rfl ?_
                  refine (show Code.wpIn _ _ _ _ _ _ _ from ?_)
                  refine wpIn_skip ?_
                  refine blk_n ?_
                  refine then_n ?_
                  exact ⟨(fun b_ => (fun l_ => if l_ = 2555 then 2443 else if l_ = 2556 then 2444 else l_) (o12042 b_)), (some ad11505), c8358, x11566, x11567, A11568, c11569, l11570, (by exact Kn.pick (ks := [0, 5, 6]) hk rfl), (hs.relabM hob (fun l_ => if l_ = 2555 then 2443 else if l_ = 2556 then 2444 else l_) (by decide)), (f8359.relab (fun l_ => if l_ = 2555 then 2443 else if l_ = 2556 then 2444 else l_) rfl), (f11571.relab (fun l_ => if l_ = 2555 then 2443 else if l_ = 2556 then 2444 else l_) rfl), (f19.relab (fun l_ => if l_ = 2555 then 2443 else if l_ = 2556 then 2444 else l_) rfl), hc8360, hc11572, H⟩
                · rw [b12049] at hk H
                  replace H := bifT H
                  refine x_if hk (b := true) rfl ?_
                  refine (show Code.wpIn _ _ _ _ _ _ _ from ?_)
                  refine x_seq ?_
                  refine wpIn_region_lit ?_
                  refine x_run tab hk (k := 1) (lv := []) (ks := [4]) (e' := [(4, .bool false)]) rfl trivial fun a hk => ?_
                  refine wpListIn_nil ?_
                  refine then_n ?_
                  refine wpIn_ret ?_
                  refine blk_r ?_
                  refine then_r ?_
                  refine then_r ?_
                  refine blk_r ?_
                  refine then_r ?_
                  obtain rfl := Option.some.inj H
                  exact x_retG hk (rs := [.tmp 4]) (vs := [.bool false]) rfl ⟨rfl, trivial⟩ ⟨cl w oi o [] (fun l_ => if l_ = 1 then LF else 0) o12042, rfl, hs.closeF (Lm := []) (Sh := []) hoa rfl (fun l_ => if l_ = 1 then LF else 0)⟩
            · rw [b12045] at hk H
              replace H := bifT H
              refine x_run tab hk (k := 11) (lv := []) (ks := [0, 5, 6, 105, 116]) (e' := [(0, .slice (some ad11505) (p0).length c8358), (5, .pointer (some ⟨bx18, 0, none⟩)), (6, .int .i64 x8368), (105, .bool true), (116, undef)]) rfl trivial fun a hk => ?_
              refine x_run tab hk (k := 1) (lv := []) (ks := [0, 5, 6, 117]) (e' := [(0, .slice (some ad11505) (p0).length c8358), (5, .pointer (some ⟨bx18, 0, none⟩)), (6, .int .i64 x8368), (117, .bool true)]) rfl trivial fun a hk => ?_
              refine wpListIn_nil ?_
              refine then_n ?_
              refine x_if hk (b := true) rfl ?_
              refine (show Code.wpIn _ _ _ _ _ _ _ from ?_)
              refine x_seq ?_
              refine wpIn_region_lit ?_
              refine x_run tab hk (k := 1) (lv := []) (ks := [4]) (e' := [(4, .bool false)]) rfl trivial fun a hk => ?_
              refine wpListIn_nil ?_
              refine then_n ?_
              refine wpIn_ret ?_
              refine blk_r ?_
              refine then_r ?_
              refine then_r ?_
              refine blk_r ?_
              refine then_r ?_
              obtain rfl := Option.some.inj H
              exact x_retG hk (rs := [.tmp 4]) (vs := [.bool false]) rfl ⟨rfl, trivial⟩ ⟨cl w oi o [] (fun l_ => if l_ = 1 then LF else 0) o12042, rfl, hs.closeF (Lm := []) (Sh := []) hoa rfl (fun l_ => if l_ = 1 then LF else 0)⟩
          · rw [b12044] at hk H
            replace H := bifT H
            refine x_run tab hk (k := 17) (lv := []) (ks := [0, 5, 6, 105, 116]) (e' := [(0, .slice (some ad11505) (p0).length c8358), (5, .pointer (some ⟨bx18, 0, none⟩)), (6, .int .i64 x8368), (105, .bool true), (116, undef)]) rfl trivial fun a hk => ?_
            refine x_run tab hk (k := 1) (lv := []) (ks := [0, 5, 6, 117]) (e' := [(0, .slice (some ad11505) (p0).length c8358), (5, .pointer (some ⟨bx18, 0, none⟩)), (6, .int .i64 x8368), (117, .bool true)]) rfl trivial fun a hk => ?_
            refine wpListIn_nil ?_
            refine then_n ?_
            refine x_if hk (b := true) rfl ?_
            refine (show Code.wpIn _ _ _ _ _ _ _ from ?_)
            refine x_seq ?_
            refine wpIn_region_lit ?_
            refine x_run tab hk (k := 1) (lv := []) (ks := [4]) (e' := [(4, .bool false)]) rfl trivial fun a hk => ?_
            refine wpListIn_nil ?_
            refine then_n ?_
            refine wpIn_ret ?_
            refine blk_r ?_
            refine then_r ?_
            refine then_r ?_
            refine blk_r ?_
            refine then_r ?_
            obtain rfl := Option.some.inj H
            exact x_retG hk (rs := [.tmp 4]) (vs := [.bool false]) rfl ⟨rfl, trivial⟩ ⟨cl w oi o [] (fun l_ => if l_ = 1 then LF else 0) o12042, rfl, hs.closeF (Lm := []) (Sh := []) hoa rfl (fun l_ => if l_ = 1 then LF else 0)⟩
        refine x_seq ?_
        refine wpIn_region_lit ?_
        refine x_run tab hk (k := 1) (lv := []) (ks := [0, 5, 6, 9, 12, 13, 64]) (e' := [(0, .slice (some ad11505) (p0).length c8358), (5, .pointer (some ⟨bx18, 0, none⟩)), (6, .int .i64 x8368), (9, .int .i64 x11573), (12, .slice A11583 (t11578).length c11584), (13, .int .i64 0), (64, .pointer (some ⟨bx18, 0, none⟩))]) rfl trivial fun a hk => ?_
        refine x_op hk rfl ?_
        obtain ⟨t12053, hc12054, H⟩ := bindS H
        refine op_call hk ent_15 (vs := [.pointer (some ⟨bx18, 0, none⟩)]) rfl (cache_Cache_Spans_calls K bx18 A11568 c11569 (⟨x11566, x11567, l11570⟩ : T62) _ o11581 1 2448 f19 _ f11571 hc11572 (by decide) (by decide) (by decide) 2558  _ hc12054) ?_
        rintro _ w12055 ⟨o12056, A12058, c12059, rfl, st12057, f12060, hc12061⟩
        replace f11571 := f11571.st st12057 (by decide)
        replace f11585 := f11585.st st12057 (by decide)
        replace f19 := f19.st st12057 (by decide)
        replace f8359 := f8359.st st12057 (by decide)
        replace hs := hs.locQ st12057 hob rfl
        have hk := hk.put 65 (.slice A12058 (t12053).length c12059) rfl
        refine x_run tab hk (k := 2) (lv := []) (ks := [0, 5, 6, 9, 12, 13, 65, 66, 67]) (e' := [(0, .slice (some ad11505) (p0).length c8358), (5, .pointer (some ⟨bx18, 0, none⟩)), (6, .int .i64 x8368), (9, .int .i64 x11573), (12, .slice A11583 (t11578).length c11584), (13, .int .i64 0), (65, .slice A12058 (t12053).length c12059), (66, .int .i64 ((t12053).length : Int)), (67, .int .i64 0)]) rfl trivial fun a hk => ?_
        refine wpListIn_nil ?_
        refine then_n ?_
        refine wpIn_block ?_
        refine x_loop (fun j_ a_ w_ => ∃ o12203 : Nat → Nat, ∃ x12204 : Int, ∃ A12205 : Option Addr, ∃ c12206 : Nat, ∃ x12209 : Int, Kn 118 a_ [(0, .slice (some ad11505) (p0).length c8358), (5, .pointer (some ⟨bx18, 0, none⟩)), (6, .int .i64 x8368), (9, .int .i64 x11573), (12, .slice A11583 (t11578).length c11584), (13, .int .i64 x12204), (65, .slice A12205 (t12053).length c12206), (66, .int .i64 ((t12053).length : Int)), (67, .int .i64 x12209)] ∧ St [] w oi w_ o12203 ∧ MpN dT71 true A11568 l11570 w_ o12203 2595 1 ∧ Ft (Own (encInt .i64) 3 (.slice A11583 (t11578).length c11584) t11578) w_ o12203 2597 ∧ Ft (Own ET44 45 (.slice A12205 (t12053).length c12206) t12053) w_ o12203 2598 ∧ Ft (Bx bx18 63 [.int .i64 x11566, .int .i64 x11567, mv A11568]) w_ o12203 2596 ∧ NRd dT29 (some ad11505) p0 w_ o12203 0 0 ∧ (t12053).length ≤ c12206 ∧ tidewracklaw14_CacheSpans_l7 K x8368 lp10447 x11566 x11567 l11570 x11573 t11578 t12053 j_ x12204 x12209 = some r) (k := K) ⟨(fun b_ => (fun l_ => if l_ = 2447 then 2595 else if l_ = 2448 then 2596 else if l_ = 2449 then 2597 else if l_ = 2558 then 2598 else l_) (o12056 b_)), 0, A12058, c12059, 0, (by exact Kn.pick (ks := [0, 5, 6, 9, 12, 13, 65, 66, 67]) hk rfl), (hs.relabM hob (fun l_ => if l_ = 2447 then 2595 else if l_ = 2448 then 2596 else if l_ = 2449 then 2597 else if l_ = 2558 then 2598 else l_) (by decide)), (f11571.relab (fun l_ => if l_ = 2447 then 2595 else if l_ = 2448 then 2596 else if l_ = 2449 then 2597 else if l_ = 2558 then 2598 else l_) rfl), (f11585.relab (fun l_ => if l_ = 2447 then 2595 else if l_ = 2448 then 2596 else if l_ = 2449 then 2597 else if l_ = 2558 then 2598 else l_) rfl), (f12060.relab (fun l_ => if l_ = 2447 then 2595 else if l_ = 2448 then 2596 else if l_ = 2449 then 2597 else if l_ = 2558 then 2598 else l_) rfl), (f19.relab (fun l_ => if l_ = 2447 then 2595 else if l_ = 2448 then 2596 else if l_ = 2449 then 2597 else if l_ = 2558 then 2598 else l_) rfl), (f8359.relab (fun l_ => if l_ = 2447 then 2595 else if l_ = 2448 then 2596 else if l_ = 2449 then 2597 else if l_ = 2558 then 2598 else l_) rfl), hc12061, H⟩ (by rintro _ _ ⟨_, _, _, _, _, _, _, _, _, _, _, _, _, H_⟩; exact absurd (show (none : Option Bool) = some r from H_) (by simp)) ?_
        rintro k12349 a w12348 ⟨o12203, x12204, A12205, c12206, x12209, hk, hs, f11571, f11585, f12207, f19, f8359, hc12208, H⟩
        rw [tidewracklaw14_CacheSpans_l7] at H
        obtain ⟨lp12350, hlp12351⟩ : ∃ lp_, lp_ = tidewracklaw14_CacheSpans_l7 K x8368 lp10447 x11566 x11567 l11570 x11573 t11578 t12053 k12349 := ⟨_, rfl⟩
        rw [← hlp12351] at H
        refine x_seq ?_
        refine wpIn_region_lit ?_
        refine x_run tab hk (k := 1) (lv := []) (ks := [0, 5, 6, 9, 12, 13, 65, 66, 67, 68]) (e' := [(0, .slice (some ad11505) (p0).length c8358), (5, .pointer (some ⟨bx18, 0, none⟩)), (6, .int .i64 x8368), (9, .int .i64 x11573), (12, .slice A11583 (t11578).length c11584), (13, .int .i64 x12204), (65, .slice A12205 (t12053).length c12206), (66, .int .i64 ((t12053).length : Int)), (67, .int .i64 x12209), (68, .bool (decide (x12209 < ((t12053).length : Int))))]) rfl trivial fun a hk => ?_
        refine wpListIn_nil ?_
        refine then_n ?_
        refine x_seq ?_
        cases b12352 : (decide (x12209 < ((t12053).length : Int)))
        · rw [b12352] at hk H
          replace H := bifF H
          refine x_if hk (b := false) rfl ?_
          refine (show Code.wpIn _ _ _ _ _ _ _ from ?_)
          refine wpIn_exit ?_
          refine then_x ?_
          refine then_x ?_
          refine blk_x ?_
          refine then_n ?_
          exact ⟨(fun b_ => (fun l_ => if l_ = 2595 then 2555 else if l_ = 2596 then 2556 else if l_ = 2597 then 2557 else l_) (o12203 b_)), x12204, (by exact Kn.pick (ks := [0, 5, 6, 9, 12, 13]) hk rfl), (hs.relabM hob (fun l_ => if l_ = 2595 then 2555 else if l_ = 2596 then 2556 else if l_ = 2597 then 2557 else l_) (by decide)), (f11571.relab (fun l_ => if l_ = 2595 then 2555 else if l_ = 2596 then 2556 else if l_ = 2597 then 2557 else l_) rfl), (f11585.relab (fun l_ => if l_ = 2595 then 2555 else if l_ = 2596 then 2556 else if l_ = 2597 then 2557 else l_) rfl), (f19.relab (fun l_ => if l_ = 2595 then 2555 else if l_ = 2596 then 2556 else if l_ = 2597 then 2557 else l_) rfl), (f8359.relab (fun l_ => if l_ = 2595 then 2555 else if l_ = 2596 then 2556 else if l_ = 2597 then 2557 else l_) rfl), H⟩
        · rw [b12352] at hk H
          replace H := bifT H
          refine x_if hk (b := true) rfl ?_
          refine (show Code.wpIn _ _ _ _ _ _ _ from ?_)
          refine wpIn_skip ?_
          refine then_n ?_
          refine x_mid (fun a_ w_ => ∃ o12423 : Nat → Nat, ∃ A12424 : Option Addr, ∃ c12425 : Nat, Kn 118 a_ [(0, .slice (some ad11505) (p0).length c8358), (5, .pointer (some ⟨bx18, 0, none⟩)), (6, .int .i64 x8368), (9, .int .i64 x11573), (12, .slice A11583 (t11578).length c11584), (13, .int .i64 (IntKind.wrap .i64 (x12204 + (IntKind.wrap .i64 (((rdD zT44 t12053 x12209).To) - ((rdD zT44 t12053 x12209).From)))))), (65, .slice A12424 (t12053).length c12425), (66, .int .i64 ((t12053).length : Int)), (67, .int .i64 x12209)] ∧ St [] w oi w_ o12423 ∧ MpN dT71 true A11568 l11570 w_ o12423 2645 1 ∧ Ft (Own (encInt .i64) 3 (.slice A11583 (t11578).length c11584) t11578) w_ o12423 2647 ∧ Ft (Own ET44 45 (.slice A12424 (t12053).length c12425) t12053) w_ o12423 2648 ∧ Ft (Bx bx18 63 [.int .i64 x11566, .int .i64 x11567, mv A11568]) w_ o12423 2646 ∧ NRd dT29 (some ad11505) p0 w_ o12423 0 0 ∧ (t12053).length ≤ c12425 ∧ tidewracklaw14_CacheSpans_j8 t12053 x12204 x12209 lp12350 = some r) ?_ ?_
          rotate_left
          · rintro a w12428 ⟨o12423, A12424, c12425, hk, hs, f11571, f11585, f12426, f19, f8359, hc12427, H⟩
            rw [tidewracklaw14_CacheSpans_j8] at H
            refine wpIn_region_lit ?_
            refine x_run tab hk (k := 2) (lv := []) (ks := [0, 5, 6, 9, 12, 13, 65, 66, 67]) (e' := [(0, .slice (some ad11505) (p0).length c8358), (5, .pointer (some ⟨bx18, 0, none⟩)), (6, .int .i64 x8368), (9, .int .i64 x11573), (12, .slice A11583 (t11578).length c11584), (13, .int .i64 (IntKind.wrap .i64 (x12204 + (IntKind.wrap .i64 (((rdD zT44 t12053 x12209).To) - ((rdD zT44 t12053 x12209).From)))))), (65, .slice A12424 (t12053).length c12425), (66, .int .i64 ((t12053).length : Int)), (67, .int .i64 (IntKind.wrap .i64 (x12209 + 1)))]) rfl trivial fun a hk => ?_
            refine wpListIn_nil ?_
            refine then_n ?_
            exact ⟨k12349, Nat.le_refl _, (fun b_ => (fun l_ => if l_ = 2645 then 2595 else if l_ = 2646 then 2596 else if l_ = 2647 then 2597 else if l_ = 2648 then 2598 else l_) (o12423 b_)), (IntKind.wrap .i64 (x12204 + (IntKind.wrap .i64 (((rdD zT44 t12053 x12209).To) - ((rdD zT44 t12053 x12209).From))))), A12424, c12425, (IntKind.wrap .i64 (x12209 + 1)), (by exact Kn.pick (ks := [0, 5, 6, 9, 12, 13, 65, 66, 67]) hk rfl), (hs.relabM hob (fun l_ => if l_ = 2645 then 2595 else if l_ = 2646 then 2596 else if l_ = 2647 then 2597 else if l_ = 2648 then 2598 else l_) (by decide)), (f11571.relab (fun l_ => if l_ = 2645 then 2595 else if l_ = 2646 then 2596 else if l_ = 2647 then 2597 else if l_ = 2648 then 2598 else l_) rfl), (f11585.relab (fun l_ => if l_ = 2645 then 2595 else if l_ = 2646 then 2596 else if l_ = 2647 then 2597 else if l_ = 2648 then 2598 else l_) rfl), (f12426.relab (fun l_ => if l_ = 2645 then 2595 else if l_ = 2646 then 2596 else if l_ = 2647 then 2597 else if l_ = 2648 then 2598 else l_) rfl), (f19.relab (fun l_ => if l_ = 2645 then 2595 else if l_ = 2646 then 2596 else if l_ = 2647 then 2597 else if l_ = 2648 then 2598 else l_) rfl), (f8359.relab (fun l_ => if l_ = 2645 then 2595 else if l_ = 2646 then 2596 else if l_ = 2647 then 2597 else if l_ = 2648 then 2598 else l_) rfl), hc12427, (hlp12351 ▸ H)⟩
          refine wpIn_block ?_
          refine x_seq ?_
          refine wpIn_region_lit ?_
          obtain ⟨q12429, H⟩ := ifS H
          obtain ⟨ad12430, hAad12430⟩ := RdC.addr (Own.rd f12207.now) q12429
          have hk_C := hk
          have f11571_C := f11571
          have f11585_C := f11585
          have f12207_C := f12207
          have f19_C := f19
          have f8359_C := f8359
          subst hAad12430
          have hk := hk_C
          clear hk_C
          have f11571 := f11571_C
          clear f11571_C
          have f11585 := f11585_C
          clear f11585_C
          have f12207 := f12207_C
          clear f12207_C
          have f19 := f19_C
          clear f19_C
          have f8359 := f8359_C
          clear f8359_C
          refine x_run tab hk (k := 2) (lv := [.agg #[.int .i64 ((rdD zT44 t12053 x12209).From), .int .i64 ((rdD zT44 t12053 x12209).To)]]) (ks := [0, 5, 6, 9, 12, 13, 65, 66, 67, 70]) (e' := [(0, .slice (some ad11505) (p0).length c8358), (5, .pointer (some ⟨bx18, 0, none⟩)), (6, .int .i64 x8368), (9, .int .i64 x11573), (12, .slice A11583 (t11578).length c11584), (13, .int .i64 x12204), (65, .slice (some ad12430) (t12053).length c12206), (66, .int .i64 ((t12053).length : Int)), (67, .int .i64 x12209), (70, .agg #[.int .i64 ((rdD zT44 t12053 x12209).From), .int .i64 ((rdD zT44 t12053 x12209).To)])]) rfl ⟨q12429, (load_elem (E := ET44) (i := x12209) (dx := zT44) tab rfl rfl (Own.rd f12207.now) q12429), trivial⟩ fun a hk => ?_
          refine x_op hk rfl ?_
          refine op_alloc (o := o12203) tab (t := 45) (cs := [.int .i64 0, .int .i64 0]) rfl rfl 2649 fun bx12434 w12431 o12432 st12433 f12435 => ?_
          replace f11571 := f11571.st st12433 (by decide)
          replace f11585 := f11585.st st12433 (by decide)
          replace f12207 := f12207.st st12433 (by decide)
          replace f19 := f19.st st12433 (by decide)
          replace f8359 := f8359.st st12433 (by decide)
          replace hs := hs.locQ st12433 hob rfl
          have hk := hk.put 15 (.pointer (some ⟨bx12434, 0, none⟩)) rfl
          refine x_op hk rfl ?_
          refine op_store tab hk (t := 45) (v := .agg #[.int .i64 ((rdD zT44 t12053 x12209).From), .int .i64 ((rdD zT44 t12053 x12209).To)]) (b := bx12434) (k := 0) (cs' := [.int .i64 ((rdD zT44 t12053 x12209).From), .int .i64 ((rdD zT44 t12053 x12209).To)]) rfl rfl rfl rfl rfl rfl f12435 rfl rfl fun w12436 o12437 st12438 f12435_ => ?_
          replace f11571 := f11571.st st12438 (by decide)
          replace f11585 := f11585.st st12438 (by decide)
          replace f12207 := f12207.st st12438 (by decide)
          replace f19 := f19.st st12438 (by decide)
          replace f8359 := f8359.st st12438 (by decide)
          replace hs := hs.locQ st12438 hob rfl
          replace f12435 := f12435_
          refine wpListIn_nil ?_
          refine then_n ?_
          refine x_seq ?_
          refine wpIn_region_lit ?_
          refine x_run tab hk (k := 8) (lv := [.int .i64 ((rdD zT44 t12053 x12209).To), .int .i64 ((rdD zT44 t12053 x12209).From)]) (ks := [0, 5, 6, 9, 12, 13, 15, 65, 66, 67]) (e' := [(0, .slice (some ad11505) (p0).length c8358), (5, .pointer (some ⟨bx18, 0, none⟩)), (6, .int .i64 x8368), (9, .int .i64 x11573), (12, .slice A11583 (t11578).length c11584), (13, .int .i64 (IntKind.wrap .i64 (x12204 + (IntKind.wrap .i64 (((rdD zT44 t12053 x12209).To) - ((rdD zT44 t12053 x12209).From)))))), (15, .pointer (some ⟨bx12434, 0, none⟩)), (65, .slice (some ad12430) (t12053).length c12206), (66, .int .i64 ((t12053).length : Int)), (67, .int .i64 x12209)]) rfl ⟨(load1 tab rfl ((Bx.cell f12435.now 1).trans rfl)), (load1 tab rfl ((Bx.cell f12435.now 0).trans rfl)), trivial⟩ fun a hk => ?_
          refine wpListIn_nil ?_
          refine then_n ?_
          refine x_seq ?_
          refine wpIn_region_lit ?_
          refine x_run tab hk (k := 3) (lv := [.int .i64 ((rdD zT44 t12053 x12209).From)]) (ks := [0, 5, 6, 9, 12, 13, 15, 16, 65, 66, 67]) (e' := [(0, .slice (some ad11505) (p0).length c8358), (5, .pointer (some ⟨bx18, 0, none⟩)), (6, .int .i64 x8368), (9, .int .i64 x11573), (12, .slice A11583 (t11578).length c11584), (13, .int .i64 (IntKind.wrap .i64 (x12204 + (IntKind.wrap .i64 (((rdD zT44 t12053 x12209).To) - ((rdD zT44 t12053 x12209).From)))))), (15, .pointer (some ⟨bx12434, 0, none⟩)), (16, .int .i64 ((rdD zT44 t12053 x12209).From)), (65, .slice (some ad12430) (t12053).length c12206), (66, .int .i64 ((t12053).length : Int)), (67, .int .i64 x12209)]) rfl ⟨(load1 tab rfl ((Bx.cell f12435.now 0).trans rfl)), trivial⟩ fun a hk => ?_
          refine wpListIn_nil ?_
          refine then_n ?_
          refine wpIn_block ?_
          refine x_loop (fun j_ a_ w_ => ∃ o12456 : Nat → Nat, ∃ x12457 : Int, Kn 118 a_ [(0, .slice (some ad11505) (p0).length c8358), (5, .pointer (some ⟨bx18, 0, none⟩)), (6, .int .i64 x8368), (9, .int .i64 x11573), (12, .slice A11583 (t11578).length c11584), (13, .int .i64 (IntKind.wrap .i64 (x12204 + (IntKind.wrap .i64 (((rdD zT44 t12053 x12209).To) - ((rdD zT44 t12053 x12209).From)))))), (15, .pointer (some ⟨bx12434, 0, none⟩)), (16, .int .i64 x12457), (65, .slice (some ad12430) (t12053).length c12206), (66, .int .i64 ((t12053).length : Int)), (67, .int .i64 x12209)] ∧ St [] w oi w_ o12456 ∧ MpN dT71 true A11568 l11570 w_ o12456 2656 1 ∧ Ft (Own (encInt .i64) 3 (.slice A11583 (t11578).length c11584) t11578) w_ o12456 2658 ∧ Ft (Own ET44 45 (.slice (some ad12430) (t12053).length c12206) t12053) w_ o12456 2660 ∧ Ft (Bx bx12434 45 [.int .i64 ((rdD zT44 t12053 x12209).From), .int .i64 ((rdD zT44 t12053 x12209).To)]) w_ o12456 2659 ∧ Ft (Bx bx18 63 [.int .i64 x11566, .int .i64 x11567, mv A11568]) w_ o12456 2657 ∧ NRd dT29 (some ad11505) p0 w_ o12456 0 0 ∧ tidewracklaw14_CacheSpans_l9 x11566 x11567 l11570 t12053 x12204 x12209 lp12350 j_ x12457 = some r) (k := K) ⟨(fun b_ => (fun l_ => if l_ = 2595 then 2656 else if l_ = 2596 then 2657 else if l_ = 2597 then 2658 else if l_ = 2598 then 2660 else if l_ = 2649 then 2659 else l_) (o12437 b_)), (rdD zT44 t12053 x12209).From, (by exact Kn.pick (ks := [0, 5, 6, 9, 12, 13, 15, 16, 65, 66, 67]) hk rfl), (hs.relabM hob (fun l_ => if l_ = 2595 then 2656 else if l_ = 2596 then 2657 else if l_ = 2597 then 2658 else if l_ = 2598 then 2660 else if l_ = 2649 then 2659 else l_) (by decide)), (f11571.relab (fun l_ => if l_ = 2595 then 2656 else if l_ = 2596 then 2657 else if l_ = 2597 then 2658 else if l_ = 2598 then 2660 else if l_ = 2649 then 2659 else l_) rfl), (f11585.relab (fun l_ => if l_ = 2595 then 2656 else if l_ = 2596 then 2657 else if l_ = 2597 then 2658 else if l_ = 2598 then 2660 else if l_ = 2649 then 2659 else l_) rfl), (f12207.relab (fun l_ => if l_ = 2595 then 2656 else if l_ = 2596 then 2657 else if l_ = 2597 then 2658 else if l_ = 2598 then 2660 else if l_ = 2649 then 2659 else l_) rfl), (f12435.relab (fun l_ => if l_ = 2595 then 2656 else if l_ = 2596 then 2657 else if l_ = 2597 then 2658 else if l_ = 2598 then 2660 else if l_ = 2649 then 2659 else l_) rfl), (f19.relab (fun l_ => if l_ = 2595 then 2656 else if l_ = 2596 then 2657 else if l_ = 2597 then 2658 else if l_ = 2598 then 2660 else if l_ = 2649 then 2659 else l_) rfl), (f8359.relab (fun l_ => if l_ = 2595 then 2656 else if l_ = 2596 then 2657 else if l_ = 2597 then 2658 else if l_ = 2598 then 2660 else if l_ = 2649 then 2659 else l_) rfl), H⟩ (by rintro _ _ ⟨_, _, _, _, _, _, _, _, _, _, H_⟩; exact absurd (show (none : Option Bool) = some r from H_) (by simp)) ?_
          rintro k12473 a w12472 ⟨o12456, x12457, hk, hs, f11571, f11585, f12207, f12435, f19, f8359, H⟩
          rw [tidewracklaw14_CacheSpans_l9] at H
          obtain ⟨lp12474, hlp12475⟩ : ∃ lp_, lp_ = tidewracklaw14_CacheSpans_l9 x11566 x11567 l11570 t12053 x12204 x12209 lp12350 k12473 := ⟨_, rfl⟩
          rw [← hlp12475] at H
          refine x_seq ?_
          refine x_seq ?_
          refine wpIn_region_lit ?_
          refine x_run tab hk (k := 4) (lv := [.int .i64 ((rdD zT44 t12053 x12209).To)]) (ks := [0, 5, 6, 9, 12, 13, 15, 16, 65, 66, 67, 83]) (e' := [(0, .slice (some ad11505) (p0).length c8358), (5, .pointer (some ⟨bx18, 0, none⟩)), (6, .int .i64 x8368), (9, .int .i64 x11573), (12, .slice A11583 (t11578).length c11584), (13, .int .i64 (IntKind.wrap .i64 (x12204 + (IntKind.wrap .i64 (((rdD zT44 t12053 x12209).To) - ((rdD zT44 t12053 x12209).From)))))), (15, .pointer (some ⟨bx12434, 0, none⟩)), (16, .int .i64 x12457), (65, .slice (some ad12430) (t12053).length c12206), (66, .int .i64 ((t12053).length : Int)), (67, .int .i64 x12209), (83, .bool (decide (x12457 < ((rdD zT44 t12053 x12209).To))))]) rfl ⟨(load1 tab rfl ((Bx.cell f12435.now 1).trans rfl)), trivial⟩ fun a hk => ?_
          refine wpListIn_nil ?_
          refine then_n ?_
          cases b12476 : (decide (x12457 < ((rdD zT44 t12053 x12209).To)))
          · rw [b12476] at hk H
            replace H := bifF H
            refine x_if hk (b := false) rfl ?_
            refine (show Code.wpIn _ _ _ _ _ _ _ from ?_)
            refine wpIn_exit ?_
            refine then_x ?_
            refine then_x ?_
            refine blk_x ?_
            refine blk_n ?_
            refine then_n ?_
            exact ⟨(fun b_ => (fun l_ => if l_ = 2656 then 2645 else if l_ = 2657 then 2646 else if l_ = 2658 then 2647 else if l_ = 2660 then 2648 else l_) (o12456 b_)), (some ad12430), c12206, (by exact Kn.pick (ks := [0, 5, 6, 9, 12, 13, 65, 66, 67]) hk rfl), (hs.relabM hob (fun l_ => if l_ = 2656 then 2645 else if l_ = 2657 then 2646 else if l_ = 2658 then 2647 else if l_ = 2660 then 2648 else l_) (by decide)), (f11571.relab (fun l_ => if l_ = 2656 then 2645 else if l_ = 2657 then 2646 else if l_ = 2658 then 2647 else if l_ = 2660 then 2648 else l_) rfl), (f11585.relab (fun l_ => if l_ = 2656 then 2645 else if l_ = 2657 then 2646 else if l_ = 2658 then 2647 else if l_ = 2660 then 2648 else l_) rfl), (f12207.relab (fun l_ => if l_ = 2656 then 2645 else if l_ = 2657 then 2646 else if l_ = 2658 then 2647 else if l_ = 2660 then 2648 else l_) rfl), (f19.relab (fun l_ => if l_ = 2656 then 2645 else if l_ = 2657 then 2646 else if l_ = 2658 then 2647 else if l_ = 2660 then 2648 else l_) rfl), (f8359.relab (fun l_ => if l_ = 2656 then 2645 else if l_ = 2657 then 2646 else if l_ = 2658 then 2647 else if l_ = 2660 then 2648 else l_) rfl), hc12208, H⟩
          · rw [b12476] at hk H
            replace H := bifT H
            refine x_if hk (b := true) rfl ?_
            refine (show Code.wpIn _ _ _ _ _ _ _ from ?_)
            refine wpIn_skip ?_
            refine then_n ?_
            refine x_seq ?_
            refine wpIn_block ?_
            refine x_seq ?_
            refine wpIn_region_lit ?_
            refine x_run tab hk (k := 2) (lv := []) (ks := [0, 5, 6, 9, 12, 13, 15, 16, 65, 66, 67, 87, 88]) (e' := [(0, .slice (some ad11505) (p0).length c8358), (5, .pointer (some ⟨bx18, 0, none⟩)), (6, .int .i64 x8368), (9, .int .i64 x11573), (12, .slice A11583 (t11578).length c11584), (13, .int .i64 (IntKind.wrap .i64 (x12204 + (IntKind.wrap .i64 (((rdD zT44 t12053 x12209).To) - ((rdD zT44 t12053 x12209).From)))))), (15, .pointer (some ⟨bx12434, 0, none⟩)), (16, .int .i64 x12457), (65, .slice (some ad12430) (t12053).length c12206), (66, .int .i64 ((t12053).length : Int)), (67, .int .i64 x12209), (87, .pointer (some ⟨bx18, 0, none⟩)), (88, .int .i64 x12457)]) rfl trivial fun a hk => ?_
            refine x_op hk rfl ?_
            obtain ⟨t12480, hc12481, H⟩ := bindS H
            refine op_call hk ent_11 (vs := [.pointer (some ⟨bx18, 0, none⟩), .int .i64 x12457]) rfl (cache_Cache_Peek_calls bx18 A11568 c11569 (⟨x11566, x11567, l11570⟩ : T62) x12457 _ o12456 1 2657 f19 _ f11571 hc11572 (by decide) (by decide) (by decide) 2662  _ hc12481) ?_
            rintro _ w12482 ⟨o12483, A12485, c12486, rfl, st12484, f12487, hc12488⟩
            replace f11571 := f11571.st st12484 (by decide)
            replace f11585 := f11585.st st12484 (by decide)
            replace f12207 := f12207.st st12484 (by decide)
            replace f12435 := f12435.st st12484 (by decide)
            replace f19 := f19.st st12484 (by decide)
            replace f8359 := f8359.st st12484 (by decide)
            replace hs := hs.locQ st12484 hob rfl
            have hk := hk.put 89 (.tuple #[.slice A12485 (t12480.1).length c12486, .bool t12480.2]) rfl
            refine x_run tab hk (k := 5) (lv := []) (ks := [0, 5, 6, 9, 12, 13, 15, 16, 18, 65, 66, 67]) (e' := [(0, .slice (some ad11505) (p0).length c8358), (5, .pointer (some ⟨bx18, 0, none⟩)), (6, .int .i64 x8368), (9, .int .i64 x11573), (12, .slice A11583 (t11578).length c11584), (13, .int .i64 (IntKind.wrap .i64 (x12204 + (IntKind.wrap .i64 (((rdD zT44 t12053 x12209).To) - ((rdD zT44 t12053 x12209).From)))))), (15, .pointer (some ⟨bx12434, 0, none⟩)), (16, .int .i64 x12457), (18, .bool t12480.2), (65, .slice (some ad12430) (t12053).length c12206), (66, .int .i64 ((t12053).length : Int)), (67, .int .i64 x12209)]) rfl trivial fun a hk => ?_
            refine wpListIn_nil ?_
            refine then_n ?_
            refine x_seq ?_
            refine wpIn_region_lit ?_
            refine x_run tab hk (k := 2) (lv := []) (ks := [0, 5, 6, 9, 12, 13, 15, 16, 65, 66, 67, 93]) (e' := [(0, .slice (some ad11505) (p0).length c8358), (5, .pointer (some ⟨bx18, 0, none⟩)), (6, .int .i64 x8368), (9, .int .i64 x11573), (12, .slice A11583 (t11578).length c11584), (13, .int .i64 (IntKind.wrap .i64 (x12204 + (IntKind.wrap .i64 (((rdD zT44 t12053 x12209).To) - ((rdD zT44 t12053 x12209).From)))))), (15, .pointer (some ⟨bx12434, 0, none⟩)), (16, .int .i64 x12457), (65, .slice (some ad12430) (t12053).length c12206), (66, .int .i64 ((t12053).length : Int)), (67, .int .i64 x12209), (93, .bool (!t12480.2))]) rfl trivial fun a hk => ?_
            refine wpListIn_nil ?_
            refine then_n ?_
            cases b12489 : (!t12480.2)
            · rw [b12489] at hk H
              replace H := bifF H
              refine x_if hk (b := false) rfl ?_
              refine (show Code.wpIn _ _ _ _ _ _ _ from ?_)
              refine wpIn_skip ?_
              refine blk_n ?_
              refine then_n ?_
              refine wpIn_region_lit ?_
              refine x_run tab hk (k := 3) (lv := []) (ks := [0, 5, 6, 9, 12, 13, 15, 16, 65, 66, 67]) (e' := [(0, .slice (some ad11505) (p0).length c8358), (5, .pointer (some ⟨bx18, 0, none⟩)), (6, .int .i64 x8368), (9, .int .i64 x11573), (12, .slice A11583 (t11578).length c11584), (13, .int .i64 (IntKind.wrap .i64 (x12204 + (IntKind.wrap .i64 (((rdD zT44 t12053 x12209).To) - ((rdD zT44 t12053 x12209).From)))))), (15, .pointer (some ⟨bx12434, 0, none⟩)), (16, .int .i64 (IntKind.wrap .i64 (x12457 + 1))), (65, .slice (some ad12430) (t12053).length c12206), (66, .int .i64 ((t12053).length : Int)), (67, .int .i64 x12209)]) rfl trivial fun a hk => ?_
              refine wpListIn_nil ?_
              refine then_n ?_
              exact ⟨k12473, Nat.le_refl _, o12483, (IntKind.wrap .i64 (x12457 + 1)), (by exact Kn.pick (ks := [0, 5, 6, 9, 12, 13, 15, 16, 65, 66, 67]) hk rfl), hs, f11571, f11585, f12207, f12435, f19, f8359, (hlp12475 ▸ H)⟩
            · rw [b12489] at hk H
              replace H := bifT H
              refine x_if hk (b := true) rfl ?_
              refine (show Code.wpIn _ _ _ _ _ _ _ from ?_)
              refine x_seq ?_
              refine wpIn_region_lit ?_
              refine x_run tab hk (k := 1) (lv := []) (ks := [4]) (e' := [(4, .bool false)]) rfl trivial fun a hk => ?_
              refine wpListIn_nil ?_
              refine then_n ?_
              refine wpIn_ret ?_
              refine blk_r ?_
              refine then_r ?_
              refine then_r ?_
              refine blk_r ?_
              refine blk_r ?_
              refine then_r ?_
              refine then_r ?_
              refine blk_r ?_
              refine then_r ?_
              refine blk_r ?_
              refine then_r ?_
              refine then_r ?_
              refine blk_r ?_
              refine then_r ?_
              obtain rfl := Option.some.inj H
              exact x_retG hk (rs := [.tmp 4]) (vs := [.bool false]) rfl ⟨rfl, trivial⟩ ⟨cl w oi o [] (fun l_ => if l_ = 1 then LF else 0) o12483, rfl, hs.closeF (Lm := []) (Sh := []) hoa rfl (fun l_ => if l_ = 1 then LF else 0)⟩
      refine x_seq ?_
      refine wpIn_region_lit ?_
      refine x_run tab hk (k := 2) (lv := [.int .i64 ((rdD zT29 p0 x8368).Kind)]) (ks := [0, 5, 6, 8, 9, 45]) (e' := [(0, .slice (some ad11505) (p0).length c8358), (5, .pointer (some ⟨bx18, 0, none⟩)), (6, .int .i64 x8368), (8, .int .i64 (bits .and .i64 ((rdD zT29 p0 x8368).I) 31)), (9, .int .i64 (-1)), (45, .int .i64 ((rdD zT29 p0 x8368).Kind))]) rfl ⟨(load1 tab rfl ((Bx.cell f11515.now 0).trans rfl)), trivial⟩ fun a hk => ?_
      refine wpListIn_nil ?_
      refine then_n ?_
      refine wpIn_block ?_
      refine x_seq ?_
      refine wpIn_region_lit ?_
      refine x_run tab hk (k := 2) (lv := []) (ks := [0, 5, 6, 8, 9, 45, 46]) (e' := [(0, .slice (some ad11505) (p0).length c8358), (5, .pointer (some ⟨bx18, 0, none⟩)), (6, .int .i64 x8368), (8, .int .i64 (bits .and .i64 ((rdD zT29 p0 x8368).I) 31)), (9, .int .i64 (-1)), (45, .int .i64 ((rdD zT29 p0 x8368).Kind)), (46, .bool (((rdD zT29 p0 x8368).Kind) == (0 : Int)))]) rfl trivial fun a hk => ?_
      refine wpListIn_nil ?_
      refine then_n ?_
      cases b12490 : (((rdD zT29 p0 x8368).Kind) == (0 : Int))
      · rw [b12490] at hk H
        replace H := bifF H
        refine x_if hk (b := false) rfl ?_
        refine (show Code.wpIn _ _ _ _ _ _ _ from ?_)
        refine x_seq ?_
        refine wpIn_region_lit ?_
        refine x_run tab hk (k := 2) (lv := []) (ks := [0, 5, 6, 8, 9, 52]) (e' := [(0, .slice (some ad11505) (p0).length c8358), (5, .pointer (some ⟨bx18, 0, none⟩)), (6, .int .i64 x8368), (8, .int .i64 (bits .and .i64 ((rdD zT29 p0 x8368).I) 31)), (9, .int .i64 (-1)), (52, .bool (((rdD zT29 p0 x8368).Kind) == (1 : Int)))]) rfl trivial fun a hk => ?_
        refine wpListIn_nil ?_
        refine then_n ?_
        cases b12491 : (((rdD zT29 p0 x8368).Kind) == (1 : Int))
        · rw [b12491] at hk H
          replace H := bifF H
          refine x_if hk (b := false) rfl ?_
          refine (show Code.wpIn _ _ _ _ _ _ _ from ?_)
          refine wpIn_skip ?_
          refine blk_n ?_
          refine then_n ?_
          exact ⟨(fun b_ => (fun l_ => if l_ = 2222 then 2447 else if l_ = 2223 then 2448 else l_) (o11517 b_)), x8361, x8362, A8363, c8364, l8365, (-1), (by exact Kn.pick (ks := [0, 5, 6, 9]) hk rfl), (hs.relabM hob (fun l_ => if l_ = 2222 then 2447 else if l_ = 2223 then 2448 else l_) (by decide)), (f8366.relab (fun l_ => if l_ = 2222 then 2447 else if l_ = 2223 then 2448 else l_) rfl), (f19.relab (fun l_ => if l_ = 2222 then 2447 else if l_ = 2223 then 2448 else l_) rfl), (f8359.relab (fun l_ => if l_ = 2222 then 2447 else if l_ = 2223 then 2448 else l_) rfl), hc8367, H⟩
        · rw [b12491] at hk H
          replace H := bifT H
          refine x_if hk (b := true) rfl ?_
          refine (show Code.wpIn _ _ _ _ _ _ _ from ?_)
          refine x_seq ?_
          refine wpIn_region_lit ?_
          refine x_run tab hk (k := 2) (lv := []) (ks := [0, 5, 6, 8, 9, 55, 56]) (e' := [(0, .slice (some ad11505) (p0).length c8358), (5, .pointer (some ⟨bx18, 0, none⟩)), (6, .int .i64 x8368), (8, .int .i64 (bits .and .i64 ((rdD zT29 p0 x8368).I) 31)), (9, .int .i64 (-1)), (55, .pointer (some ⟨bx18, 0, none⟩)), (56, .int .i64 (bits .and .i64 ((rdD zT29 p0 x8368).I) 31))]) rfl trivial fun a hk => ?_
          refine x_op hk rfl ?_
          obtain ⟨t12495, hc12496, H⟩ := bindS H
          refine op_call hk ent_14 (vs := [.pointer (some ⟨bx18, 0, none⟩), .int .i64 (bits .and .i64 ((rdD zT29 p0 x8368).I) 31)]) rfl (cache_Cache_Get_calls bx18 A8363 c8364 (⟨x8361, x8362, l8365⟩ : T62) (bits .and .i64 ((rdD zT29 p0 x8368).I) 31) _ o11517 1 2223 f19 2222 f8366 hc8367 (by decide) 2663  _ hc12496) ?_
          rintro _ w12497 ⟨o12498, A12500, c12501, A12505, c12506, rfl, st12499, f12502, hc12503, f12504, f12507, hc12508⟩
          replace f8359 := f8359.st st12499 (by decide)
          replace hs := hs.locQ st12499 hob rfl
          have hk := hk.put 57 (.tuple #[.slice A12500 (t12495.1).length c12501, .bool t12495.2.1]) rfl
          refine x_run tab hk (k := 5) (lv := []) (ks := [0, 5, 6, 8, 9, 11]) (e' := [(0, .slice (some ad11505) (p0).length c8358), (5, .pointer (some ⟨bx18, 0, none⟩)), (6, .int .i64 x8368), (8, .int .i64 (bits .and .i64 ((rdD zT29 p0 x8368).I) 31)), (9, .int .i64 (-1)), (11, .bool t12495.2.1)]) rfl trivial fun a hk => ?_
          refine wpListIn_nil ?_
          refine then_n ?_
          refine x_seq ?_
          refine wpIn_region_lit ?_
          refine x_run tab hk (k := 1) (lv := []) (ks := [0, 5, 6, 8, 9, 60]) (e' := [(0, .slice (some ad11505) (p0).length c8358), (5, .pointer (some ⟨bx18, 0, none⟩)), (6, .int .i64 x8368), (8, .int .i64 (bits .and .i64 ((rdD zT29 p0 x8368).I) 31)), (9, .int .i64 (-1)), (60, .bool t12495.2.1)]) rfl trivial fun a hk => ?_
          refine wpListIn_nil ?_
          refine then_n ?_
          cases b12509 : t12495.2.1
          · rw [b12509] at hk H
            replace H := bifF H
            refine x_if hk (b := false) rfl ?_
            refine (show Code.wpIn _ _ _ _ _ _ _ from ?_)
            refine wpIn_skip ?_
            refine blk_n ?_
            refine then_n ?_
            exact ⟨(fun b_ => (fun l_ => if l_ = 2222 then 2447 else if l_ = 2223 then 2448 else l_) (o12498 b_)), t12495.2.2.most, t12495.2.2.now, A12505, c12506, t12495.2.2.l, (-1), (by exact Kn.pick (ks := [0, 5, 6, 9]) hk rfl), (hs.relabM hob (fun l_ => if l_ = 2222 then 2447 else if l_ = 2223 then 2448 else l_) (by decide)), (f12507.relab (fun l_ => if l_ = 2222 then 2447 else if l_ = 2223 then 2448 else l_) rfl), (f12504.relab (fun l_ => if l_ = 2222 then 2447 else if l_ = 2223 then 2448 else l_) rfl), (f8359.relab (fun l_ => if l_ = 2222 then 2447 else if l_ = 2223 then 2448 else l_) rfl), hc12508, H⟩
          · rw [b12509] at hk H
            replace H := bifT H
            refine x_if hk (b := true) rfl ?_
            refine (show Code.wpIn _ _ _ _ _ _ _ from ?_)
            refine wpIn_region_lit ?_
            refine x_run tab hk (k := 2) (lv := []) (ks := [0, 5, 6, 9]) (e' := [(0, .slice (some ad11505) (p0).length c8358), (5, .pointer (some ⟨bx18, 0, none⟩)), (6, .int .i64 x8368), (9, .int .i64 (bits .and .i64 ((rdD zT29 p0 x8368).I) 31))]) rfl trivial fun a hk => ?_
            refine wpListIn_nil ?_
            refine blk_n ?_
            refine then_n ?_
            exact ⟨(fun b_ => (fun l_ => if l_ = 2222 then 2447 else if l_ = 2223 then 2448 else l_) (o12498 b_)), t12495.2.2.most, t12495.2.2.now, A12505, c12506, t12495.2.2.l, (bits .and .i64 ((rdD zT29 p0 x8368).I) 31), (by exact Kn.pick (ks := [0, 5, 6, 9]) hk rfl), (hs.relabM hob (fun l_ => if l_ = 2222 then 2447 else if l_ = 2223 then 2448 else l_) (by decide)), (f12507.relab (fun l_ => if l_ = 2222 then 2447 else if l_ = 2223 then 2448 else l_) rfl), (f12504.relab (fun l_ => if l_ = 2222 then 2447 else if l_ = 2223 then 2448 else l_) rfl), (f8359.relab (fun l_ => if l_ = 2222 then 2447 else if l_ = 2223 then 2448 else l_) rfl), hc12508, H⟩
      · rw [b12490] at hk H
        replace H := bifT H
        refine x_if hk (b := true) rfl ?_
        refine (show Code.wpIn _ _ _ _ _ _ _ from ?_)
        refine x_seq ?_
        refine wpIn_region_lit ?_
        refine x_run tab hk (k := 2) (lv := []) (ks := [0, 5, 6, 8, 48, 49]) (e' := [(0, .slice (some ad11505) (p0).length c8358), (5, .pointer (some ⟨bx18, 0, none⟩)), (6, .int .i64 x8368), (8, .int .i64 (bits .and .i64 ((rdD zT29 p0 x8368).I) 31)), (48, .pointer (some ⟨bx18, 0, none⟩)), (49, .int .i64 (bits .and .i64 ((rdD zT29 p0 x8368).I) 31))]) rfl trivial fun a hk => ?_
        refine x_op hk rfl ?_
        obtain ⟨t12513, hc12514, H⟩ := bindS H
        refine op_call hk ent_10 (vs := [.pointer (some ⟨bx18, 0, none⟩), .int .i64 (bits .and .i64 ((rdD zT29 p0 x8368).I) 31), .slice none 0 0]) rfl (cache_Cache_Put_calls K bx18 A8363 c8364 (⟨x8361, x8362, l8365⟩ : T62) (bits .and .i64 ((rdD zT29 p0 x8368).I) 31) none 0 ([] : List T59) _ o11517 1 2223 f19 2222 f8366 hc8367 _ (Ft.of_all (fun _ h_ => absurd h_ (by simp)) _ _ 0) (by simp) (by decide) (by decide)   _ hc12514) ?_
        rintro _ w12515 ⟨o12516, A12519, c12520, rfl, st12517, f12518, f12521, hc12522⟩
        replace f8359 := f8359.st st12517 (by decide)
        replace hs := hs.locQ st12517 hob rfl
        have hk := hk.put 50 (.tuple #[.int .i64 t12513.1, .bool t12513.2.1]) rfl
        refine wpListIn_nil ?_
        refine then_n ?_
        refine wpIn_region_lit ?_
        refine x_run tab hk (k := 2) (lv := []) (ks := [0, 5, 6, 9]) (e' := [(0, .slice (some ad11505) (p0).length c8358), (5, .pointer (some ⟨bx18, 0, none⟩)), (6, .int .i64 x8368), (9, .int .i64 (bits .and .i64 ((rdD zT29 p0 x8368).I) 31))]) rfl trivial fun a hk => ?_
        refine wpListIn_nil ?_
        refine blk_n ?_
        refine then_n ?_
        exact ⟨(fun b_ => (fun l_ => if l_ = 2222 then 2447 else if l_ = 2223 then 2448 else l_) (o12516 b_)), t12513.2.2.most, t12513.2.2.now, A12519, c12520, t12513.2.2.l, (bits .and .i64 ((rdD zT29 p0 x8368).I) 31), (by exact Kn.pick (ks := [0, 5, 6, 9]) hk rfl), (hs.relabM hob (fun l_ => if l_ = 2222 then 2447 else if l_ = 2223 then 2448 else l_) (by decide)), (f12521.relab (fun l_ => if l_ = 2222 then 2447 else if l_ = 2223 then 2448 else l_) rfl), (f12518.relab (fun l_ => if l_ = 2222 then 2447 else if l_ = 2223 then 2448 else l_) rfl), (f8359.relab (fun l_ => if l_ = 2222 then 2447 else if l_ = 2223 then 2448 else l_) rfl), hc12522, H⟩
    refine x_seq ?_
    refine wpIn_region_lit ?_
    refine x_run tab hk (k := 5) (lv := []) (ks := [0, 5, 6, 31]) (e' := [(0, .slice A8357 (p0).length c8358), (5, .pointer (some ⟨bx18, 0, none⟩)), (6, .int .i64 x8368), (31, .bool (decide (x8368 < ((p0).length : Int))))]) rfl trivial fun a hk => ?_
    cases b12523 : (decide (x8368 < ((p0).length : Int)))
    · rw [b12523] at hk H
      replace H := bifF H
      refine x_run tab hk (k := 3) (lv := []) (ks := [0, 5, 6, 34]) (e' := [(0, .slice A8357 (p0).length c8358), (5, .pointer (some ⟨bx18, 0, none⟩)), (6, .int .i64 x8368), (34, .bool false)]) rfl trivial fun a hk => ?_
      refine wpListIn_nil ?_
      refine then_n ?_
      refine x_if hk (b := false) rfl ?_
      refine (show Code.wpIn _ _ _ _ _ _ _ from ?_)
      refine wpIn_exit ?_
      refine then_x ?_
      refine then_x ?_
      refine blk_x ?_
      refine then_n ?_
      exact ⟨o8356, (by exact Kn.pick (ks := []) hk rfl), hs, H⟩
    · rw [b12523] at hk H
      replace H := bifT H
      refine x_run tab hk (k := 3) (lv := []) (ks := [0, 5, 6, 34]) (e' := [(0, .slice A8357 (p0).length c8358), (5, .pointer (some ⟨bx18, 0, none⟩)), (6, .int .i64 x8368), (34, .bool (decide (x8368 < (30 : Int))))]) rfl trivial fun a hk => ?_
      refine wpListIn_nil ?_
      refine then_n ?_
      cases b12524 : (decide (x8368 < (30 : Int)))
      · rw [b12524] at hk H
        replace H := bifF H
        refine x_if hk (b := false) rfl ?_
        refine (show Code.wpIn _ _ _ _ _ _ _ from ?_)
        refine wpIn_exit ?_
        refine then_x ?_
        refine then_x ?_
        refine blk_x ?_
        refine then_n ?_
        exact ⟨o8356, (by exact Kn.pick (ks := []) hk rfl), hs, H⟩
      · rw [b12524] at hk H
        replace H := bifT H
        refine x_if hk (b := true) rfl ?_
        refine (show Code.wpIn _ _ _ _ _ _ _ from ?_)
        refine wpIn_skip ?_
        refine then_n ?_
        exact ⟨(fun b_ => (fun l_ => if l_ = 1778 then 2222 else if l_ = 1779 then 2223 else l_) (o8356 b_)), (by exact Kn.pick (ks := [0, 5, 6]) hk rfl), (hs.relabM hob (fun l_ => if l_ = 1778 then 2222 else if l_ = 1779 then 2223 else l_) (by decide)), (f19.relab (fun l_ => if l_ = 1778 then 2222 else if l_ = 1779 then 2223 else l_) rfl), (f8359.relab (fun l_ => if l_ = 1778 then 2222 else if l_ = 1779 then 2223 else l_) rfl), (f8366.relab (fun l_ => if l_ = 1778 then 2222 else if l_ = 1779 then 2223 else l_) rfl), H⟩
  · rw [b9] at hk H
    replace H := bifT H
    refine x_if hk (b := true) rfl ?_
    refine (show Code.wpIn _ _ _ _ _ _ _ from ?_)
    refine x_seq ?_
    refine wpIn_region_lit ?_
    refine x_run tab hk (k := 1) (lv := []) (ks := [4]) (e' := [(4, .bool false)]) rfl trivial fun a hk => ?_
    refine wpListIn_nil ?_
    refine then_n ?_
    refine wpIn_ret ?_
    refine then_r ?_
    obtain rfl := Option.some.inj H
    exact x_retG hk (rs := [.tmp 4]) (vs := [.bool false]) rfl ⟨rfl, trivial⟩ ⟨cl w oi o [] (fun l_ => if l_ = 1 then LF else 0) o7, rfl, hs.closeF (Lm := []) (Sh := []) hoa rfl (fun l_ => if l_ = 1 then LF else 0)⟩

end Go.Proofs.Ythmlldkmgdjeoaa
