/- Walks, printed by an own program: the machine's calls compute the plain functions. -/
import Derived.Test.YtpciioffkjpieaaW1
set_option linter.unusedVariables false
set_option linter.unusedSimpArgs false
namespace Go.Proofs.Ytpciioffkjpieaa
open Go Go.Proofs.XC
/-! (*tidewrack/spans.Set).Missing -/
theorem spans_Set_Missing_calls (K : Nat) (bp0 : Nat) (Ap0_0 : Option Addr) (cp0_0 : Nat) (p0 : T30) (p1 : T27) (w : World) (o : Nat → Nat) (Lp0 : Nat) (hp0 : Ft (Bx bp0 31 [.slice Ap0_0 (p0.l).length cp0_0]) w o Lp0) (Lp0_0 : Nat) (hp0_0 : Ft (RdC ET27 Ap0_0 p0.l) w o Lp0_0) (hcp0_0 : (p0.l).length ≤ cp0_0)  (R0 : Nat) (r : List T27) (H : spans_Set_Missing K p0 p1 = some r) :
    Calls Try.prog 8 #[.pointer (some ⟨bp0, 0, none⟩), .agg #[.int .i64 p1.From, .int .i64 p1.To]] w (Ret fun v_ w' => ∃ o' : Nat → Nat, ∃ A0 : Option Addr, ∃ c0 : Nat, v_ = .slice A0 (r).length c0 ∧ St [] w o w' o' ∧ Ft (Own ET27 28 (.slice A0 (r).length c0) r) w' o' R0 ∧ (r).length ≤ c0) := by
  refine x_enter (vs := [.pointer (some ⟨bp0, 0, none⟩), .agg #[.int .i64 p1.From, .int .i64 p1.To]]) Try.func8 rfl rfl rfl fun a hk => ?_
  obtain ⟨o0, hs, h0⟩ := St.start w o
  have f900000 := h0 _ _ hp0_0
  have f900019 := h0 _ _ hp0
  clear h0
  rw [spans_Set_Missing] at H
  refine x_seq ?_
  refine wpIn_region_lit ?_
  refine x_op hk rfl ?_
  refine op_box (o := o0) (t := 28) (v := .agg #[.int .i64 p1.From, .int .i64 p1.To]) (cs := [.int .i64 p1.From, .int .i64 p1.To]) hk rfl rfl 1 fun bx4 w1 o2 st3 f5 => ?_
  replace f900000 := f900000.st st3 (by decide)
  replace f900019 := f900019.st st3 (by decide)
  replace hs := hs.loc0 st3 (by decide)
  have hk := hk.put 3 (.pointer (some ⟨bx4, 0, none⟩)) rfl
  refine x_run tab hk (k := 1) (lv := []) (ks := [0, 3]) (e' := [(0, .pointer (some ⟨bp0, 0, none⟩)), (3, .pointer (some ⟨bx4, 0, none⟩))]) rfl trivial fun a hk => ?_
  refine wpListIn_nil ?_
  refine then_n ?_
  refine x_seq ?_
  refine wpIn_region_lit ?_
  refine x_op hk rfl ?_
  refine op_alloc (o := o2) tab (t := 31) (cs := [.slice none 0 0]) rfl rfl 2 fun bx9 w6 o7 st8 f10 => ?_
  replace f5 := f5.st st8 (by decide)
  replace f900000 := f900000.st st8 (by decide)
  replace f900019 := f900019.st st8 (by decide)
  replace hs := hs.loc0 st8 (by decide)
  have hk := hk.put 5 (.pointer (some ⟨bx9, 0, none⟩)) rfl
  refine wpListIn_nil ?_
  refine then_n ?_
  refine x_seq ?_
  refine wpIn_region_lit ?_
  refine x_run tab hk (k := 1) (lv := [.agg #[.int .i64 p1.From, .int .i64 p1.To]]) (ks := [0, 5, 6]) (e' := [(0, .pointer (some ⟨bp0, 0, none⟩)), (5, .pointer (some ⟨bx9, 0, none⟩)), (6, .agg #[.int .i64 p1.From, .int .i64 p1.To])]) rfl ⟨(load_box tab rfl rfl f5.now (k := 0) rfl rfl), trivial⟩ fun a hk => ?_
  refine x_op hk rfl ?_
  refine op_slice (o := o7) tab hk (vs := [.agg #[.int .i64 p1.From, .int .i64 p1.To]]) (cs := [.int .i64 p1.From, .int .i64 p1.To]) rfl rfl rfl rfl rfl rfl rfl rfl rfl 3 fun bx14 w11 o12 st13 f15 => ?_
  replace f10 := f10.st st13 (by decide)
  replace f900000 := f900000.st st13 (by decide)
  replace f900019 := f900019.st st13 (by decide)
  replace hs := hs.loc0 st13 (by decide)
  have f16 : Ft (Own ET27 28 (.slice (some ⟨bx14, 0, none⟩) (([p1] : List T27)).length 1) ([p1] : List T27)) w11 o12 3 := f15.imp fun _ h_ => Own.of_box h_ rfl (by simp)
  have hk := hk.put 7 (.slice (some ⟨bx14, 0, none⟩) (([p1] : List T27)).length 1) rfl
  refine x_op hk rfl ?_
  obtain ⟨t20, hc21, H⟩ := bindS H
  refine op_call hk ent_6 (vs := [.pointer (some ⟨bx9, 0, none⟩), .slice (some ⟨bx14, 0, none⟩) (([p1] : List T27)).length 1]) rfl (spans_Set_Add_calls K bx9 none 0 (⟨([] : List T27)⟩ : T30) (some ⟨bx14, 0, none⟩) 1 ([p1] : List T27) _ o12 2 f10 4 (Ft.of_all (fun _ => Own.nil _ _ _) _ _ 4) (by simp) _ (f16.imp fun _ h_ => Own.rd h_) (Nat.le_refl _) (by decide) (by decide)   _ hc21) ?_
  rintro _ w22 ⟨o23, A26, c27, rfl, st24, f25, f28, hc29⟩
  replace f16 := f16.st st24 (by decide)
  replace f900000 := f900000.st st24 (by decide)
  replace f900019 := f900019.st st24 (by decide)
  replace hs := hs.loc0 st24 (by decide)
  have hk := hk.put 8 (.tuple #[]) rfl
  refine wpListIn_nil ?_
  refine then_n ?_
  refine x_seq ?_
  refine wpIn_region_lit ?_
  refine x_run tab hk (k := 4) (lv := [.slice Ap0_0 (p0.l).length cp0_0]) (ks := [5, 12]) (e' := [(5, .pointer (some ⟨bx9, 0, none⟩)), (12, .slice Ap0_0 (p0.l).length cp0_0)]) rfl ⟨(load1 tab rfl ((Bx.cell f900019.now 0).trans rfl)), trivial⟩ fun a hk => ?_
  refine x_op hk rfl ?_
  obtain ⟨t33, hc34, H⟩ := bindS H
  refine op_call hk ent_24 (vs := [.pointer (some ⟨bx9, 0, none⟩), .slice Ap0_0 (p0.l).length cp0_0]) rfl (spans_Set_Cut_calls K bx9 A26 c27 t20 Ap0_0 cp0_0 p0.l _ o23 2 f25 4 f28 hc29 _ f900000 hcp0_0 (by decide) (by decide)   _ hc34) ?_
  rintro _ w35 ⟨o36, A39, c40, rfl, st37, f38, f41, hc42⟩
  replace f900000 := f900000.st st37 (by decide)
  replace f900019 := f900019.st st37 (by decide)
  replace hs := hs.loc0 st37 (by decide)
  have hk := hk.put 13 (.tuple #[]) rfl
  refine wpListIn_nil ?_
  refine then_n ?_
  refine x_seq ?_
  refine wpIn_region_lit ?_
  refine x_run tab hk (k := 3) (lv := [.slice A39 (t33.l).length c40]) (ks := [4]) (e' := [(4, .slice A39 (t33.l).length c40)]) rfl ⟨(load1 tab rfl ((Bx.cell f38.now 0).trans rfl)), trivial⟩ fun a hk => ?_
  refine wpListIn_nil ?_
  refine then_n ?_
  refine wpIn_ret ?_
  obtain rfl := Option.some.inj H
  exact x_retG hk (rs := [.tmp 4]) (vs := [.slice A39 (t33.l).length c40]) rfl ⟨rfl, trivial⟩ ⟨fun b_ => if b_ < w.heap.size then o b_ else (fun _ => R0) (o36 b_), A39, c40, rfl, hs.close0 o (fun _ => R0), hs.close_ft (o := o) (ρ := fun _ => R0) f41 (by decide) rfl, hc42⟩

/-! (*tidewrack/cache.Cache).Peek -/
theorem cache_Cache_Peek_calls (bp0 : Nat) (Ap0_0 : Option Addr) (cp0_0 : Nat) (p0 : T41) (p1 : Int) (w : World) (o : Nat → Nat) (LF : Nat) (Lp0 : Nat) (hp0 : Ft (Bx bp0 42 [.int .i64 p0.most, .int .i64 p0.now, mv Ap0_0]) w o Lp0) (Lp0_0 : Nat) (hp0_0 : MpN dT52 true Ap0_0 p0.l w o Lp0_0 LF) (hcp0_0 : (p0.l).length ≤ cp0_0) (hd0 : ([LF] : List Nat).Nodup) (hd1 : Lp0_0 ∉ [LF]) (hd2 : Lp0 ∉ [LF]) (R0 : Nat) (r : (List T45) × Bool) (H : cache_Cache_Peek p0 p1 = some r) :
    Calls Try.prog 9 #[.pointer (some ⟨bp0, 0, none⟩), .int .i64 p1] w (Ret fun v_ w' => ∃ o' : Nat → Nat, ∃ A0 : Option Addr, ∃ c0 : Nat, v_ = .tuple #[.slice A0 (r.1).length c0, .bool r.2] ∧ St [] w o w' o' ∧ Ft (Own ET45 46 (.slice A0 (r.1).length c0) r.1) w' o' R0 ∧ (r.1).length ≤ c0) := by
  refine x_enter (vs := [.pointer (some ⟨bp0, 0, none⟩), .int .i64 p1]) Try.func9 rfl rfl rfl fun a hk => ?_
  obtain ⟨oi, hs0, h0, h1, hob, hoz, hoa⟩ := St.startM2 w o (m := 1) hd0 rfl
  have hs := hs0 []
  have f900000 := hp0_0.conv (fun P_ => h0 P_ _ hd1) (fun _ h_ => h1 0 1 h_ rfl rfl)
  have f900019 := h0 _ _ hd2 hp0
  clear h0 h1 hs0
  rw [cache_Cache_Peek] at H
  refine x_seq ?_
  refine wpIn_region_lit ?_
  refine x_run tab hk (k := 2) (lv := []) (ks := [0, 1]) (e' := [(0, .pointer (some ⟨bp0, 0, none⟩)), (1, .int .i64 p1)]) rfl trivial fun a hk => ?_
  refine wpListIn_nil ?_
  refine then_n ?_
  refine x_seq ?_
  refine wpIn_region_lit ?_
  obtain ⟨A1, c2, f3, f4, hc5⟩ := lkT52 f900000 (P := Try.prog) tab (mt := 40) rfl rfl rfl rfl p1
  refine x_run tab hk (k := 9) (lv := [mv Ap0_0, .tuple #[.agg #[.slice A1 ((M.get zT52 p0.l p1).l).length c2, .int .i64 ((M.get zT52 p0.l p1).at_)], .bool (M.has p0.l p1)]]) (ks := [15, 16]) (e' := [(15, .agg #[.slice A1 ((M.get zT52 p0.l p1).l).length c2, .int .i64 ((M.get zT52 p0.l p1).at_)]), (16, .bool (M.has p0.l p1))]) rfl ⟨(load1 tab rfl ((Bx.cell f900019.now 2).trans rfl)), (ask_look2 f3.now rfl rfl), trivial⟩ fun a hk => ?_
  refine x_op hk rfl ?_
  refine op_alloc (o := oi) tab (t := 53) (cs := [.slice none 0 0, .int .i64 0]) rfl rfl 2 fun bx9 w6 o7 st8 f10 => ?_
  replace f4 := f4.st st8 (by decide)
  replace f900000 := f900000.st st8 (by decide)
  replace f900019 := f900019.st st8 (by decide)
  replace hs := hs.locQ st8 hob rfl
  have hk := hk.put 6 (.pointer (some ⟨bx9, 0, none⟩)) rfl
  refine x_op hk rfl ?_
  refine op_store tab hk (t := 53) (v := .agg #[.slice A1 ((M.get zT52 p0.l p1).l).length c2, .int .i64 ((M.get zT52 p0.l p1).at_)]) (b := bx9) (k := 0) (cs' := [.slice A1 ((M.get zT52 p0.l p1).l).length c2, .int .i64 ((M.get zT52 p0.l p1).at_)]) rfl rfl rfl rfl rfl rfl f10 rfl rfl fun w11 o12 st13 f10_ => ?_
  replace f4 := f4.st st13 (by decide)
  replace f900000 := f900000.st st13 (by decide)
  replace f900019 := f900019.st st13 (by decide)
  replace hs := hs.locQ st13 hob rfl
  replace f10 := f10_
  refine x_run tab hk (k := 1) (lv := []) (ks := [6, 7]) (e' := [(6, .pointer (some ⟨bx9, 0, none⟩)), (7, .bool (M.has p0.l p1))]) rfl trivial fun a hk => ?_
  refine wpListIn_nil ?_
  refine then_n ?_
  refine x_seq ?_
  refine wpIn_region_lit ?_
  refine x_run tab hk (k := 2) (lv := [.slice A1 ((M.get zT52 p0.l p1).l).length c2]) (ks := [7, 18]) (e' := [(7, .bool (M.has p0.l p1)), (18, .slice A1 ((M.get zT52 p0.l p1).l).length c2)]) rfl ⟨(load1 tab rfl ((Bx.cell f10.now 0).trans rfl)), trivial⟩ fun a hk => ?_
  refine x_op hk rfl ?_
  obtain ⟨t17, hc18, H⟩ := bindS H
  refine op_call hk ent_14 (vs := [.slice A1 ((M.get zT52 p0.l p1).l).length c2]) rfl (slices_Clone_calls A1 c2 ((M.get zT52 p0.l p1).l) _ o12 _ f4 hc5 3  _ hc18) ?_
  rintro _ w19 ⟨o20, A22, c23, rfl, st21, f24, hc25⟩
  replace f4 := f4.st st21 (by decide)
  replace f900000 := f900000.st st21 (by decide)
  replace f900019 := f900019.st st21 (by decide)
  replace hs := hs.locQ st21 hob rfl
  have hk := hk.put 19 (.slice A22 (t17).length c23) rfl
  refine x_run tab hk (k := 3) (lv := []) (ks := [4, 5]) (e' := [(4, .slice A22 (t17).length c23), (5, .bool (M.has p0.l p1))]) rfl trivial fun a hk => ?_
  refine wpListIn_nil ?_
  refine then_n ?_
  refine wpIn_ret ?_
  obtain rfl := Option.some.inj H
  exact x_retG hk (rs := [.tmp 4, .tmp 5]) (vs := [.slice A22 (t17).length c23, .bool (M.has p0.l p1)]) rfl ⟨rfl, rfl, trivial⟩ ⟨cl w oi o [] (fun l_ => if l_ = 1 then LF else if l_ = 3 then R0 else 0) o20, A22, c23, rfl, hs.closeF (Lm := []) (Sh := []) hoa rfl (fun l_ => if l_ = 1 then LF else if l_ = 3 then R0 else 0), hs.closeM_ft (o := o) (ρ := fun l_ => if l_ = 1 then LF else if l_ = 3 then R0 else 0) f24 (lab_none hob rfl) rfl, hc25⟩

/-! (tidewrack/spans.Span).both -/
theorem spans_Span_both_calls (p0 : T27) (p1 : T27) (w : World) (o : Nat → Nat)   (r : T27) (H : spans_Span_both p0 p1 = some r) :
    Calls Try.prog 25 #[.agg #[.int .i64 p0.From, .int .i64 p0.To], .agg #[.int .i64 p1.From, .int .i64 p1.To]] w (Ret fun v_ w' => ∃ o' : Nat → Nat, v_ = .agg #[.int .i64 r.From, .int .i64 r.To] ∧ St [] w o w' o') := by
  refine x_enter (vs := [.agg #[.int .i64 p0.From, .int .i64 p0.To], .agg #[.int .i64 p1.From, .int .i64 p1.To]]) Try.func25 rfl rfl rfl fun a hk => ?_
  obtain ⟨o0, hs, h0⟩ := St.start w o
  clear h0
  rw [spans_Span_both] at H
  refine x_seq ?_
  refine wpIn_region_lit ?_
  refine x_op hk rfl ?_
  refine op_box (o := o0) (t := 28) (v := .agg #[.int .i64 p0.From, .int .i64 p0.To]) (cs := [.int .i64 p0.From, .int .i64 p0.To]) hk rfl rfl 1 fun bx4 w1 o2 st3 f5 => ?_
  replace hs := hs.loc0 st3 (by decide)
  have hk := hk.put 2 (.pointer (some ⟨bx4, 0, none⟩)) rfl
  refine x_op hk rfl ?_
  refine op_box (o := o2) (t := 28) (v := .agg #[.int .i64 p1.From, .int .i64 p1.To]) (cs := [.int .i64 p1.From, .int .i64 p1.To]) hk rfl rfl 2 fun bx9 w6 o7 st8 f10 => ?_
  replace f5 := f5.st st8 (by decide)
  replace hs := hs.loc0 st8 (by decide)
  have hk := hk.put 3 (.pointer (some ⟨bx9, 0, none⟩)) rfl
  refine x_op hk rfl ?_
  refine op_alloc (o := o7) tab (t := 28) (cs := [.int .i64 0, .int .i64 0]) rfl rfl 3 fun bx14 w11 o12 st13 f15 => ?_
  replace f10 := f10.st st13 (by decide)
  replace f5 := f5.st st13 (by decide)
  replace hs := hs.loc0 st13 (by decide)
  have hk := hk.put 4 (.pointer (some ⟨bx14, 0, none⟩)) rfl
  refine wpListIn_nil ?_
  refine then_n ?_
  refine x_seq ?_
  refine wpIn_region_lit ?_
  refine x_run tab hk (k := 10) (lv := [.int .i64 p0.From, .int .i64 p1.From, .int .i64 p0.To, .int .i64 p1.To]) (ks := [4, 9, 14]) (e' := [(4, .pointer (some ⟨bx14, 0, none⟩)), (9, .int .i64 (mxI p0.From p1.From)), (14, .int .i64 (mnI p0.To p1.To))]) rfl ⟨(load1 tab rfl ((Bx.cell f5.now 0).trans rfl)), (load1 tab rfl ((Bx.cell f10.now 0).trans rfl)), (load1 tab rfl ((Bx.cell f5.now 1).trans rfl)), (load1 tab rfl ((Bx.cell f10.now 1).trans rfl)), trivial⟩ fun a hk => ?_
  refine x_run tab hk (k := 1) (lv := []) (ks := [4, 15]) (e' := [(4, .pointer (some ⟨bx14, 0, none⟩)), (15, .agg #[.int .i64 (mxI p0.From p1.From), .int .i64 (mnI p0.To p1.To)])]) rfl trivial fun a hk => ?_
  refine x_op hk rfl ?_
  refine op_store tab hk (t := 28) (v := .agg #[.int .i64 (mxI p0.From p1.From), .int .i64 (mnI p0.To p1.To)]) (b := bx14) (k := 0) (cs' := [.int .i64 (mxI p0.From p1.From), .int .i64 (mnI p0.To p1.To)]) rfl rfl rfl rfl rfl rfl f15 rfl rfl fun w16 o17 st18 f15_ => ?_
  replace hs := hs.loc0 st18 (by decide)
  replace f15 := f15_
  refine wpListIn_nil ?_
  refine then_n ?_
  refine wpIn_ret ?_
  obtain rfl := Option.some.inj H
  exact x_retG hk (rs := [.cell 4 28]) (vs := [.agg #[.int .i64 (mxI p0.From p1.From), .int .i64 (mnI p0.To p1.To)]]) rfl ⟨⟨_, rfl, load_box tab rfl rfl f15.now (k := 0) rfl rfl⟩, trivial⟩ ⟨fun b_ => if b_ < w.heap.size then o b_ else (fun _ => 0) (o17 b_), rfl, hs.close0 o (fun _ => 0)⟩

/-! (*tidewrack/spans.Set).In -/
theorem spans_Set_In_calls (K : Nat) (bp0 : Nat) (Ap0_0 : Option Addr) (cp0_0 : Nat) (p0 : T30) (p1 : T27) (w : World) (o : Nat → Nat) (Lp0 : Nat) (hp0 : Ft (Bx bp0 31 [.slice Ap0_0 (p0.l).length cp0_0]) w o Lp0) (Lp0_0 : Nat) (hp0_0 : Ft (RdC ET27 Ap0_0 p0.l) w o Lp0_0) (hcp0_0 : (p0.l).length ≤ cp0_0)  (R0 : Nat) (r : List T27) (H : spans_Set_In K p0 p1 = some r) :
    Calls Try.prog 10 #[.pointer (some ⟨bp0, 0, none⟩), .agg #[.int .i64 p1.From, .int .i64 p1.To]] w (Ret fun v_ w' => ∃ o' : Nat → Nat, ∃ A0 : Option Addr, ∃ c0 : Nat, v_ = .slice A0 (r).length c0 ∧ St [] w o w' o' ∧ Ft (Own ET27 28 (.slice A0 (r).length c0) r) w' o' R0 ∧ (r).length ≤ c0) := by
  refine x_enter (vs := [.pointer (some ⟨bp0, 0, none⟩), .agg #[.int .i64 p1.From, .int .i64 p1.To]]) Try.func10 rfl rfl rfl fun a hk => ?_
  obtain ⟨o0, hs, h0⟩ := St.start w o
  have f900000 := h0 _ _ hp0_0
  have f900019 := h0 _ _ hp0
  clear h0
  rw [spans_Set_In] at H
  refine x_seq ?_
  refine wpIn_region_lit ?_
  refine x_op hk rfl ?_
  refine op_box (o := o0) (t := 28) (v := .agg #[.int .i64 p1.From, .int .i64 p1.To]) (cs := [.int .i64 p1.From, .int .i64 p1.To]) hk rfl rfl 1 fun bx4 w1 o2 st3 f5 => ?_
  replace f900000 := f900000.st st3 (by decide)
  replace f900019 := f900019.st st3 (by decide)
  replace hs := hs.loc0 st3 (by decide)
  have hk := hk.put 3 (.pointer (some ⟨bx4, 0, none⟩)) rfl
  refine x_run tab hk (k := 1) (lv := []) (ks := [0, 3]) (e' := [(0, .pointer (some ⟨bp0, 0, none⟩)), (3, .pointer (some ⟨bx4, 0, none⟩))]) rfl trivial fun a hk => ?_
  refine wpListIn_nil ?_
  refine then_n ?_
  refine x_seq ?_
  refine wpIn_region_lit ?_
  refine x_run tab hk (k := 1) (lv := []) (ks := [0, 3, 5]) (e' := [(0, .pointer (some ⟨bp0, 0, none⟩)), (3, .pointer (some ⟨bx4, 0, none⟩)), (5, .slice none 0 0)]) rfl trivial fun a hk => ?_
  refine wpListIn_nil ?_
  refine then_n ?_
  refine x_mid (fun a_ w_ => ∃ o1380 : Nat → Nat, ∃ A1381 : Option Addr, ∃ c1382 : Nat, ∃ l1383 : List T27, Kn 31 a_ [(5, .slice A1381 (l1383).length c1382)] ∧ St [] w (fun _ => 0) w_ o1380 ∧ Ft (Own ET27 28 (.slice A1381 (l1383).length c1382) l1383) w_ o1380 148 ∧ Ft (RdC ET27 Ap0_0 p0.l) w_ o1380 0 ∧ Ft (Bx bp0 31 [.slice Ap0_0 (p0.l).length cp0_0]) w_ o1380 0 ∧ (l1383).length ≤ c1382 ∧ spans_Set_In_j1 l1383 = some r) ?_ ?_
  rotate_left
  · rintro a w1386 ⟨o1380, A1381, c1382, l1383, hk, hs, f1384, f900000, f900019, hc1385, H⟩
    rw [spans_Set_In_j1] at H
    refine x_seq ?_
    refine wpIn_region_lit ?_
    refine x_run tab hk (k := 2) (lv := []) (ks := [4]) (e' := [(4, .slice A1381 (l1383).length c1382)]) rfl trivial fun a hk => ?_
    refine wpListIn_nil ?_
    refine then_n ?_
    refine wpIn_ret ?_
    obtain rfl := Option.some.inj H
    exact x_retG hk (rs := [.tmp 4]) (vs := [.slice A1381 (l1383).length c1382]) rfl ⟨rfl, trivial⟩ ⟨fun b_ => if b_ < w.heap.size then o b_ else (fun _ => R0) (o1380 b_), A1381, c1382, rfl, hs.close0 o (fun _ => R0), hs.close_ft (o := o) (ρ := fun _ => R0) f1384 (by decide) rfl, hc1385⟩
  refine x_seq ?_
  refine wpIn_region_lit ?_
  refine x_run tab hk (k := 6) (lv := [.slice Ap0_0 (p0.l).length cp0_0]) (ks := [3, 5, 12, 13, 14]) (e' := [(3, .pointer (some ⟨bx4, 0, none⟩)), (5, .slice none 0 0), (12, .slice Ap0_0 (p0.l).length cp0_0), (13, .int .i64 ((p0.l).length : Int)), (14, .int .i64 0)]) rfl ⟨(load1 tab rfl ((Bx.cell f900019.now 0).trans rfl)), trivial⟩ fun a hk => ?_
  refine wpListIn_nil ?_
  refine then_n ?_
  refine wpIn_block ?_
  refine x_loop (fun j_ a_ w_ => ∃ o1840 : Nat → Nat, ∃ A1841 : Option Addr, ∃ c1842 : Nat, ∃ l1843 : List T27, ∃ x1846 : Int, Kn 31 a_ [(3, .pointer (some ⟨bx4, 0, none⟩)), (5, .slice A1841 (l1843).length c1842), (12, .slice Ap0_0 (p0.l).length cp0_0), (13, .int .i64 ((p0.l).length : Int)), (14, .int .i64 x1846)] ∧ St [] w (fun _ => 0) w_ o1840 ∧ Ft (Own ET27 28 (.slice A1841 (l1843).length c1842) l1843) w_ o1840 193 ∧ Ft (Bx bx4 28 [.int .i64 p1.From, .int .i64 p1.To]) w_ o1840 192 ∧ Ft (RdC ET27 Ap0_0 p0.l) w_ o1840 0 ∧ Ft (Bx bp0 31 [.slice Ap0_0 (p0.l).length cp0_0]) w_ o1840 0 ∧ (l1843).length ≤ c1842 ∧ spans_Set_In_l2 p0 p1 j_ l1843 x1846 = some r) (k := K) ⟨(fun b_ => (fun l_ => if l_ = 1 then 192 else l_) (o2 b_)), none, 0, ([] : List T27), 0, (by exact Kn.pick (ks := [3, 5, 12, 13, 14]) hk rfl), (hs.relab0 (fun l_ => if l_ = 1 then 192 else l_) rfl), (Ft.of_all (fun _ => Own.nil _ _ _) _ _ _), (f5.relab (fun l_ => if l_ = 1 then 192 else l_) rfl), (f900000.relab (fun l_ => if l_ = 1 then 192 else l_) rfl), (f900019.relab (fun l_ => if l_ = 1 then 192 else l_) rfl), (by simp), H⟩ (by rintro _ _ ⟨_, _, _, _, _, _, _, _, _, _, _, _, H_⟩; exact absurd (show (none : Option (List T27)) = some r from H_) (by simp)) ?_
  rintro k2298 a w2297 ⟨o1840, A1841, c1842, l1843, x1846, hk, hs, f1844, f5, f900000, f900019, hc1845, H⟩
  rw [spans_Set_In_l2] at H
  obtain ⟨lp2299, hlp2300⟩ : ∃ lp_, lp_ = spans_Set_In_l2 p0 p1 k2298 := ⟨_, rfl⟩
  rw [← hlp2300] at H
  refine x_seq ?_
  refine wpIn_region_lit ?_
  refine x_run tab hk (k := 1) (lv := []) (ks := [3, 5, 12, 13, 14, 15]) (e' := [(3, .pointer (some ⟨bx4, 0, none⟩)), (5, .slice A1841 (l1843).length c1842), (12, .slice Ap0_0 (p0.l).length cp0_0), (13, .int .i64 ((p0.l).length : Int)), (14, .int .i64 x1846), (15, .bool (decide (x1846 < ((p0.l).length : Int))))]) rfl trivial fun a hk => ?_
  refine wpListIn_nil ?_
  refine then_n ?_
  refine x_seq ?_
  cases b2301 : (decide (x1846 < ((p0.l).length : Int)))
  · rw [b2301] at hk H
    replace H := bifF H
    refine x_if hk (b := false) rfl ?_
    refine (show Code.wpIn _ _ _ _ _ _ _ from ?_)
    refine wpIn_exit ?_
    refine then_x ?_
    refine then_x ?_
    refine blk_x ?_
    refine then_n ?_
    exact ⟨(fun b_ => (fun l_ => if l_ = 193 then 148 else l_) (o1840 b_)), A1841, c1842, l1843, (by exact Kn.pick (ks := [5]) hk rfl), (hs.relab0 (fun l_ => if l_ = 193 then 148 else l_) rfl), (f1844.relab (fun l_ => if l_ = 193 then 148 else l_) rfl), (f900000.relab (fun l_ => if l_ = 193 then 148 else l_) rfl), (f900019.relab (fun l_ => if l_ = 193 then 148 else l_) rfl), hc1845, H⟩
  · rw [b2301] at hk H
    replace H := bifT H
    refine x_if hk (b := true) rfl ?_
    refine (show Code.wpIn _ _ _ _ _ _ _ from ?_)
    refine wpIn_skip ?_
    refine then_n ?_
    refine x_seq ?_
    refine wpIn_block ?_
    refine x_seq ?_
    refine wpIn_region_lit ?_
    obtain ⟨q2302, H⟩ := ifS H
    obtain ⟨ad2303, hAad2303⟩ := RdC.addr f900000.now q2302
    have hk_C := hk
    have f1844_C := f1844
    have f5_C := f5
    have f900000_C := f900000
    have f900019_C := f900019
    subst hAad2303
    have hk := hk_C
    clear hk_C
    have f1844 := f1844_C
    clear f1844_C
    have f5 := f5_C
    clear f5_C
    have f900000 := f900000_C
    clear f900000_C
    have f900019 := f900019_C
    clear f900019_C
    refine x_run tab hk (k := 2) (lv := [.agg #[.int .i64 ((rdD zT27 p0.l x1846).From), .int .i64 ((rdD zT27 p0.l x1846).To)]]) (ks := [3, 5, 12, 13, 14, 17]) (e' := [(3, .pointer (some ⟨bx4, 0, none⟩)), (5, .slice A1841 (l1843).length c1842), (12, .slice (some ad2303) (p0.l).length cp0_0), (13, .int .i64 ((p0.l).length : Int)), (14, .int .i64 x1846), (17, .agg #[.int .i64 ((rdD zT27 p0.l x1846).From), .int .i64 ((rdD zT27 p0.l x1846).To)])]) rfl ⟨q2302, (load_elem (E := ET27) (i := x1846) (dx := zT27) tab rfl rfl f900000.now q2302), trivial⟩ fun a hk => ?_
    refine x_op hk rfl ?_
    refine op_alloc (o := o1840) tab (t := 28) (cs := [.int .i64 0, .int .i64 0]) rfl rfl 244 fun bx2307 w2304 o2305 st2306 f2308 => ?_
    replace f1844 := f1844.st st2306 (by decide)
    replace f5 := f5.st st2306 (by decide)
    replace f900000 := f900000.st st2306 (by decide)
    replace f900019 := f900019.st st2306 (by decide)
    replace hs := hs.loc0 st2306 (by decide)
    have hk := hk.put 7 (.pointer (some ⟨bx2307, 0, none⟩)) rfl
    refine x_op hk rfl ?_
    refine op_store tab hk (t := 28) (v := .agg #[.int .i64 ((rdD zT27 p0.l x1846).From), .int .i64 ((rdD zT27 p0.l x1846).To)]) (b := bx2307) (k := 0) (cs' := [.int .i64 ((rdD zT27 p0.l x1846).From), .int .i64 ((rdD zT27 p0.l x1846).To)]) rfl rfl rfl rfl rfl rfl f2308 rfl rfl fun w2309 o2310 st2311 f2308_ => ?_
    replace f1844 := f1844.st st2311 (by decide)
    replace f5 := f5.st st2311 (by decide)
    replace f900000 := f900000.st st2311 (by decide)
    replace f900019 := f900019.st st2311 (by decide)
    replace hs := hs.loc0 st2311 (by decide)
    replace f2308 := f2308_
    refine wpListIn_nil ?_
    refine then_n ?_
    refine x_seq ?_
    refine x_cut (fun a_ w_ => ∃ o2532 : Nat → Nat, ∃ bx2533 : Nat, ∃ x2535 : T27, Kn 31 a_ [(3, .pointer (some ⟨bx4, 0, none⟩)), (5, .slice A1841 (l1843).length c1842), (8, .pointer (some ⟨bx2533, 0, none⟩)), (12, .slice (some ad2303) (p0.l).length cp0_0), (13, .int .i64 ((p0.l).length : Int)), (14, .int .i64 x1846)] ∧ St [] w (fun _ => 0) w_ o2532 ∧ Ft (Own ET27 28 (.slice A1841 (l1843).length c1842) l1843) w_ o2532 269 ∧ Ft (Bx bx2533 28 [.int .i64 x2535.From, .int .i64 x2535.To]) w_ o2532 270 ∧ Ft (Bx bx4 28 [.int .i64 p1.From, .int .i64 p1.To]) w_ o2532 268 ∧ Ft (RdC ET27 (some ad2303) p0.l) w_ o2532 0 ∧ Ft (Bx bp0 31 [.slice (some ad2303) (p0.l).length cp0_0]) w_ o2532 0 ∧ spans_Set_In_j3 l1843 x1846 lp2299 x2535 = some r) ?_ ?_
    rotate_left
    · rintro a w2536 ⟨o2532, bx2533, x2535, hk, hs, f1844, f2534, f5, f900000, f900019, H⟩
      rw [spans_Set_In_j3] at H
      refine then_n ?_
      refine x_seq ?_
      refine wpIn_region_lit ?_
      refine x_run tab hk (k := 1) (lv := [.agg #[.int .i64 x2535.From, .int .i64 x2535.To]]) (ks := [3, 5, 8, 12, 13, 14, 22]) (e' := [(3, .pointer (some ⟨bx4, 0, none⟩)), (5, .slice A1841 (l1843).length c1842), (8, .pointer (some ⟨bx2533, 0, none⟩)), (12, .slice (some ad2303) (p0.l).length cp0_0), (13, .int .i64 ((p0.l).length : Int)), (14, .int .i64 x1846), (22, .agg #[.int .i64 x2535.From, .int .i64 x2535.To])]) rfl ⟨(load_box tab rfl rfl f2534.now (k := 0) rfl rfl), trivial⟩ fun a hk => ?_
      refine x_op hk rfl ?_
      obtain ⟨t2540, hc2541, H⟩ := bindS H
      refine op_call hk ent_21 (vs := [.agg #[.int .i64 x2535.From, .int .i64 x2535.To]]) rfl (spans_Span_empty_calls x2535 _ o2532    _ hc2541) ?_
      rintro _ w2542 ⟨o2543, rfl, st2544⟩
      replace f1844 := f1844.st st2544 (by decide)
      replace f2534 := f2534.st st2544 (by decide)
      replace f5 := f5.st st2544 (by decide)
      replace f900000 := f900000.st st2544 (by decide)
      replace f900019 := f900019.st st2544 (by decide)
      replace hs := hs.loc0 st2544 (by decide)
      have hk := hk.put 23 (.bool t2540) rfl
      refine x_run tab hk (k := 1) (lv := []) (ks := [3, 5, 8, 12, 13, 14, 24]) (e' := [(3, .pointer (some ⟨bx4, 0, none⟩)), (5, .slice A1841 (l1843).length c1842), (8, .pointer (some ⟨bx2533, 0, none⟩)), (12, .slice (some ad2303) (p0.l).length cp0_0), (13, .int .i64 ((p0.l).length : Int)), (14, .int .i64 x1846), (24, .bool (!t2540))]) rfl trivial fun a hk => ?_
      refine wpListIn_nil ?_
      refine then_n ?_
      cases b2545 : (!t2540)
      · rw [b2545] at hk H
        replace H := bifF H
        refine x_if hk (b := false) rfl ?_
        refine (show Code.wpIn _ _ _ _ _ _ _ from ?_)
        refine wpIn_skip ?_
        refine blk_n ?_
        refine then_n ?_
        refine wpIn_region_lit ?_
        refine x_run tab hk (k := 2) (lv := []) (ks := [3, 5, 12, 13, 14]) (e' := [(3, .pointer (some ⟨bx4, 0, none⟩)), (5, .slice A1841 (l1843).length c1842), (12, .slice (some ad2303) (p0.l).length cp0_0), (13, .int .i64 ((p0.l).length : Int)), (14, .int .i64 (IntKind.wrap .i64 (x1846 + 1)))]) rfl trivial fun a hk => ?_
        refine wpListIn_nil ?_
        refine then_n ?_
        exact ⟨k2298, Nat.le_refl _, (fun b_ => (fun l_ => if l_ = 268 then 192 else if l_ = 269 then 193 else l_) (o2543 b_)), A1841, c1842, l1843, (IntKind.wrap .i64 (x1846 + 1)), (by exact Kn.pick (ks := [3, 5, 12, 13, 14]) hk rfl), (hs.relab0 (fun l_ => if l_ = 268 then 192 else if l_ = 269 then 193 else l_) rfl), (f1844.relab (fun l_ => if l_ = 268 then 192 else if l_ = 269 then 193 else l_) rfl), (f5.relab (fun l_ => if l_ = 268 then 192 else if l_ = 269 then 193 else l_) rfl), (f900000.relab (fun l_ => if l_ = 268 then 192 else if l_ = 269 then 193 else l_) rfl), (f900019.relab (fun l_ => if l_ = 268 then 192 else if l_ = 269 then 193 else l_) rfl), hc1845, (hlp2300 ▸ H)⟩
      · rw [b2545] at hk H
        replace H := bifT H
        refine x_if hk (b := true) rfl ?_
        refine (show Code.wpIn _ _ _ _ _ _ _ from ?_)
        refine wpIn_region_lit ?_
        refine x_run tab hk (k := 2) (lv := [.agg #[.int .i64 x2535.From, .int .i64 x2535.To]]) (ks := [3, 12, 13, 14, 25, 26]) (e' := [(3, .pointer (some ⟨bx4, 0, none⟩)), (12, .slice (some ad2303) (p0.l).length cp0_0), (13, .int .i64 ((p0.l).length : Int)), (14, .int .i64 x1846), (25, .slice A1841 (l1843).length c1842), (26, .agg #[.int .i64 x2535.From, .int .i64 x2535.To])]) rfl ⟨(load_box tab rfl rfl f2534.now (k := 0) rfl rfl), trivial⟩ fun a hk => ?_
        refine x_op hk rfl ?_
        refine op_slice (o := o2543) tab hk (vs := [.agg #[.int .i64 x2535.From, .int .i64 x2535.To]]) (cs := [.int .i64 x2535.From, .int .i64 x2535.To]) rfl rfl rfl rfl rfl rfl rfl rfl rfl 271 fun bx2549 w2546 o2547 st2548 f2550 => ?_
        replace f1844 := f1844.st st2548 (by decide)
        replace f5 := f5.st st2548 (by decide)
        replace f900000 := f900000.st st2548 (by decide)
        replace f900019 := f900019.st st2548 (by decide)
        replace hs := hs.loc0 st2548 (by decide)
        have f2551 : Ft (Own ET27 28 (.slice (some ⟨bx2549, 0, none⟩) (([x2535] : List T27)).length 1) ([x2535] : List T27)) w2546 o2547 271 := f2550.imp fun _ h_ => Own.of_box h_ rfl (by simp)
        have hk := hk.put 27 (.slice (some ⟨bx2549, 0, none⟩) (([x2535] : List T27)).length 1) rfl
        refine x_op hk rfl ?_
        obtain ⟨q2555, H⟩ := ifS H
        refine op_append (o := o2547) (E := ET27) (xs := l1843) (ys := ([x2535] : List T27)) tab hk rfl rfl rfl rfl rfl rfl rfl f1844 (Own.rd f2551.now) q2555 fun A2556 c2557 w2552 o2553 st2554 f2558 hc2559 => ?_
        replace f2551 := f2551.st st2554 (by decide)
        replace f5 := f5.st st2554 (by decide)
        replace f900000 := f900000.st st2554 (by decide)
        replace f900019 := f900019.st st2554 (by decide)
        replace hs := hs.loc0 st2554 (by decide)
        have hk := hk.put 28 (.slice A2556 ((l1843 ++ ([x2535] : List T27))).length c2557) rfl
        refine x_run tab hk (k := 1) (lv := []) (ks := [3, 5, 12, 13, 14]) (e' := [(3, .pointer (some ⟨bx4, 0, none⟩)), (5, .slice A2556 ((l1843 ++ ([x2535] : List T27))).length c2557), (12, .slice (some ad2303) (p0.l).length cp0_0), (13, .int .i64 ((p0.l).length : Int)), (14, .int .i64 x1846)]) rfl trivial fun a hk => ?_
        refine wpListIn_nil ?_
        refine blk_n ?_
        refine then_n ?_
        refine wpIn_region_lit ?_
        refine x_run tab hk (k := 2) (lv := []) (ks := [3, 5, 12, 13, 14]) (e' := [(3, .pointer (some ⟨bx4, 0, none⟩)), (5, .slice A2556 ((l1843 ++ ([x2535] : List T27))).length c2557), (12, .slice (some ad2303) (p0.l).length cp0_0), (13, .int .i64 ((p0.l).length : Int)), (14, .int .i64 (IntKind.wrap .i64 (x1846 + 1)))]) rfl trivial fun a hk => ?_
        refine wpListIn_nil ?_
        refine then_n ?_
        exact ⟨k2298, Nat.le_refl _, (fun b_ => (fun l_ => if l_ = 268 then 192 else if l_ = 269 then 193 else l_) (o2553 b_)), A2556, c2557, (l1843 ++ ([x2535] : List T27)), (IntKind.wrap .i64 (x1846 + 1)), (by exact Kn.pick (ks := [3, 5, 12, 13, 14]) hk rfl), (hs.relab0 (fun l_ => if l_ = 268 then 192 else if l_ = 269 then 193 else l_) rfl), (f2558.relab (fun l_ => if l_ = 268 then 192 else if l_ = 269 then 193 else l_) rfl), (f5.relab (fun l_ => if l_ = 268 then 192 else if l_ = 269 then 193 else l_) rfl), (f900000.relab (fun l_ => if l_ = 268 then 192 else if l_ = 269 then 193 else l_) rfl), (f900019.relab (fun l_ => if l_ = 268 then 192 else if l_ = 269 then 193 else l_) rfl), hc2559, (hlp2300 ▸ H)⟩
    obtain ⟨t2584, hc2585, H⟩ := bindS H
    obtain ⟨t2592, hc2593, H⟩ := bindS H
    refine xd_begin (o := o2310) (fun W_ => (Bx bx2307 28 [.int .i64 ((rdD zT27 p0.l x1846).From), .int .i64 ((rdD zT27 p0.l x1846).To)]) W_ ∧ (Bx bx4 28 [.int .i64 p1.From, .int .i64 p1.To]) W_ ∧ True) mixed rfl rfl fun w2659 st2660 => ?_
    replace f1844 := f1844.st st2660 (by decide)
    replace f2308 := f2308.st st2660 (by decide)
    replace f5 := f5.st st2660 (by decide)
    replace f900000 := f900000.st st2660 (by decide)
    replace f900019 := f900019.st st2660 (by decide)
    replace hs := hs.loc0 st2660 (by decide)
    refine xd_abs fun G hG => ?_
    have N2684 : ∀ (a_ : Act) (w_ : World), (∃ o2682 : Nat → Nat, Kn 31 a_ [(3, .pointer (some ⟨bx4, 0, none⟩)), (5, .slice A1841 (l1843).length c1842), (12, .slice (some ad2303) (p0.l).length cp0_0), (13, .int .i64 ((p0.l).length : Int)), (14, .int .i64 x1846), (21, .agg #[.int .i64 t2592.From, .int .i64 t2592.To])] ∧ St [] w (fun _ => 0) w_ o2682 ∧ Ft (Own ET27 28 (.slice A1841 (l1843).length c1842) l1843) w_ o2682 282 ∧ Ft (Bx bx2307 28 [.int .i64 ((rdD zT27 p0.l x1846).From), .int .i64 ((rdD zT27 p0.l x1846).To)]) w_ o2682 281 ∧ Ft (Bx bx4 28 [.int .i64 p1.From, .int .i64 p1.To]) w_ o2682 280 ∧ Ft (RdC ET27 (some ad2303) p0.l) w_ o2682 0 ∧ Ft (Bx bp0 31 [.slice (some ad2303) (p0.l).length cp0_0]) w_ o2682 0) → G 2 #[true, true, true, true, false, false] a_ w_ := by
      rintro a w2683 ⟨o2682, hk, hs, f1844, f2308, f5, f900000, f900019⟩
      refine xd_of hG ?_
      refine xd_op hk (i := 4) (by kernel_rfl) rfl rfl ?_
      refine op_alloc (o := o2682) tab (t := 28) (cs := [.int .i64 0, .int .i64 0]) rfl rfl 283 fun bx2688 w2685 o2686 st2687 f2689 => ?_
      replace f1844 := f1844.st st2687 (by decide)
      replace f2308 := f2308.st st2687 (by decide)
      replace f5 := f5.st st2687 (by decide)
      replace f900000 := f900000.st st2687 (by decide)
      replace f900019 := f900019.st st2687 (by decide)
      replace hs := hs.loc0 st2687 (by decide)
      have hk := hk.put 8 (.pointer (some ⟨bx2688, 0, none⟩)) rfl
      refine ⟨.inr ⟨f2308.now, f5.now, trivial⟩, ?_⟩
      refine xd_op hk (i := 5) (by kernel_rfl) rfl rfl ?_
      refine op_store tab hk (t := 28) (v := .agg #[.int .i64 t2592.From, .int .i64 t2592.To]) (b := bx2688) (k := 0) (cs' := [.int .i64 t2592.From, .int .i64 t2592.To]) rfl rfl rfl rfl rfl rfl f2689 rfl rfl fun w2690 o2691 st2692 f2689_ => ?_
      replace f1844 := f1844.st st2692 (by decide)
      replace f2308 := f2308.st st2692 (by decide)
      replace f5 := f5.st st2692 (by decide)
      replace f900000 := f900000.st st2692 (by decide)
      replace f900019 := f900019.st st2692 (by decide)
      replace hs := hs.loc0 st2692 (by decide)
      replace f2689 := f2689_
      refine ⟨.inl (by kernel_rfl), ?_⟩
      refine xd_done (by kernel_rfl) ?_
      refine then_n ?_
      exact ⟨(fun b_ => (fun l_ => if l_ = 280 then 268 else if l_ = 282 then 269 else if l_ = 283 then 270 else l_) (o2691 b_)), bx2688, t2592, (by exact Kn.pick (ks := [3, 5, 8, 12, 13, 14]) hk rfl), (hs.relab0 (fun l_ => if l_ = 280 then 268 else if l_ = 282 then 269 else if l_ = 283 then 270 else l_) rfl), (f1844.relab (fun l_ => if l_ = 280 then 268 else if l_ = 282 then 269 else if l_ = 283 then 270 else l_) rfl), (f2689.relab (fun l_ => if l_ = 280 then 268 else if l_ = 282 then 269 else if l_ = 283 then 270 else l_) rfl), (f5.relab (fun l_ => if l_ = 280 then 268 else if l_ = 282 then 269 else if l_ = 283 then 270 else l_) rfl), (f900000.relab (fun l_ => if l_ = 280 then 268 else if l_ = 282 then 269 else if l_ = 283 then 270 else l_) rfl), (f900019.relab (fun l_ => if l_ = 280 then 268 else if l_ = 282 then 269 else if l_ = 283 then 270 else l_) rfl), H⟩
    have N2709 : ∀ (a_ : Act) (w_ : World), (∃ o2705 : Nat → Nat, ∃ bx2706 : Nat, Kn 31 a_ [(3, .pointer (some ⟨bx4, 0, none⟩)), (5, .slice A1841 (l1843).length c1842), (8, .pointer (some ⟨bx2706, 0, none⟩)), (12, .slice (some ad2303) (p0.l).length cp0_0), (13, .int .i64 ((p0.l).length : Int)), (14, .int .i64 x1846), (18, .agg #[.int .i64 ((rdD zT27 p0.l x1846).From), .int .i64 ((rdD zT27 p0.l x1846).To)]), (20, .agg #[.int .i64 t2584.From, .int .i64 t2584.To])] ∧ St [] w (fun _ => 0) w_ o2705 ∧ Ft (Own ET27 28 (.slice A1841 (l1843).length c1842) l1843) w_ o2705 287 ∧ Ft (Bx bx2307 28 [.int .i64 ((rdD zT27 p0.l x1846).From), .int .i64 ((rdD zT27 p0.l x1846).To)]) w_ o2705 286 ∧ Ft (Bx bx2706 28 [.int .i64 0, .int .i64 0]) w_ o2705 288 ∧ Ft (Bx bx4 28 [.int .i64 p1.From, .int .i64 p1.To]) w_ o2705 285 ∧ Ft (RdC ET27 (some ad2303) p0.l) w_ o2705 0 ∧ Ft (Bx bp0 31 [.slice (some ad2303) (p0.l).length cp0_0]) w_ o2705 0) → G 2 #[true, true, true, false, true, false] a_ w_ := by
      rintro a w2708 ⟨o2705, bx2706, hk, hs, f1844, f2308, f2707, f5, f900000, f900019⟩
      refine xd_of hG ?_
      refine xd_op hk (i := 3) (by kernel_rfl) rfl rfl ?_
      refine op_call hk ent_25 (vs := [.agg #[.int .i64 ((rdD zT27 p0.l x1846).From), .int .i64 ((rdD zT27 p0.l x1846).To)], .agg #[.int .i64 t2584.From, .int .i64 t2584.To]]) rfl (spans_Span_both_calls (rdD zT27 p0.l x1846) t2584 _ o2705    _ hc2593) ?_
      rintro _ w2713 ⟨o2714, rfl, st2715⟩
      replace f1844 := f1844.st st2715 (by decide)
      replace f2308 := f2308.st st2715 (by decide)
      replace f2707 := f2707.st st2715 (by decide)
      replace f5 := f5.st st2715 (by decide)
      replace f900000 := f900000.st st2715 (by decide)
      replace f900019 := f900019.st st2715 (by decide)
      replace hs := hs.loc0 st2715 (by decide)
      have hk := hk.put 21 (.agg #[.int .i64 t2592.From, .int .i64 t2592.To]) rfl
      refine ⟨.inr ⟨f2308.now, f5.now, trivial⟩, ?_⟩
      refine xd_op hk (i := 5) (by kernel_rfl) rfl rfl ?_
      refine op_store tab hk (t := 28) (v := .agg #[.int .i64 t2592.From, .int .i64 t2592.To]) (b := bx2706) (k := 0) (cs' := [.int .i64 t2592.From, .int .i64 t2592.To]) rfl rfl rfl rfl rfl rfl f2707 rfl rfl fun w2716 o2717 st2718 f2707_ => ?_
      replace f1844 := f1844.st st2718 (by decide)
      replace f2308 := f2308.st st2718 (by decide)
      replace f5 := f5.st st2718 (by decide)
      replace f900000 := f900000.st st2718 (by decide)
      replace f900019 := f900019.st st2718 (by decide)
      replace hs := hs.loc0 st2718 (by decide)
      replace f2707 := f2707_
      refine ⟨.inl (by kernel_rfl), ?_⟩
      refine xd_done (by kernel_rfl) ?_
      refine then_n ?_
      exact ⟨(fun b_ => (fun l_ => if l_ = 285 then 268 else if l_ = 287 then 269 else if l_ = 288 then 270 else l_) (o2717 b_)), bx2706, t2592, (by exact Kn.pick (ks := [3, 5, 8, 12, 13, 14]) hk rfl), (hs.relab0 (fun l_ => if l_ = 285 then 268 else if l_ = 287 then 269 else if l_ = 288 then 270 else l_) rfl), (f1844.relab (fun l_ => if l_ = 285 then 268 else if l_ = 287 then 269 else if l_ = 288 then 270 else l_) rfl), (f2707.relab (fun l_ => if l_ = 285 then 268 else if l_ = 287 then 269 else if l_ = 288 then 270 else l_) rfl), (f5.relab (fun l_ => if l_ = 285 then 268 else if l_ = 287 then 269 else if l_ = 288 then 270 else l_) rfl), (f900000.relab (fun l_ => if l_ = 285 then 268 else if l_ = 287 then 269 else if l_ = 288 then 270 else l_) rfl), (f900019.relab (fun l_ => if l_ = 285 then 268 else if l_ = 287 then 269 else if l_ = 288 then 270 else l_) rfl), H⟩
    have N2672 : ∀ (a_ : Act) (w_ : World), (∃ o2670 : Nat → Nat, Kn 31 a_ [(3, .pointer (some ⟨bx4, 0, none⟩)), (5, .slice A1841 (l1843).length c1842), (12, .slice (some ad2303) (p0.l).length cp0_0), (13, .int .i64 ((p0.l).length : Int)), (14, .int .i64 x1846), (18, .agg #[.int .i64 ((rdD zT27 p0.l x1846).From), .int .i64 ((rdD zT27 p0.l x1846).To)]), (20, .agg #[.int .i64 t2584.From, .int .i64 t2584.To])] ∧ St [] w (fun _ => 0) w_ o2670 ∧ Ft (Own ET27 28 (.slice A1841 (l1843).length c1842) l1843) w_ o2670 279 ∧ Ft (Bx bx2307 28 [.int .i64 ((rdD zT27 p0.l x1846).From), .int .i64 ((rdD zT27 p0.l x1846).To)]) w_ o2670 278 ∧ Ft (Bx bx4 28 [.int .i64 p1.From, .int .i64 p1.To]) w_ o2670 277 ∧ Ft (RdC ET27 (some ad2303) p0.l) w_ o2670 0 ∧ Ft (Bx bp0 31 [.slice (some ad2303) (p0.l).length cp0_0]) w_ o2670 0) → G 3 #[true, true, true, false, false, false] a_ w_ := by
      rintro a w2671 ⟨o2670, hk, hs, f1844, f2308, f5, f900000, f900019⟩
      refine xd_of hG ?_
      refine xd_each [3, 4] (by kernel_rfl) rfl ⟨?_, ?_, trivial⟩
      · refine xd_one hk rfl rfl ?_
        refine op_call hk ent_25 (vs := [.agg #[.int .i64 ((rdD zT27 p0.l x1846).From), .int .i64 ((rdD zT27 p0.l x1846).To)], .agg #[.int .i64 t2584.From, .int .i64 t2584.To]]) rfl (spans_Span_both_calls (rdD zT27 p0.l x1846) t2584 _ o2670    _ hc2593) ?_
        rintro _ w2676 ⟨o2677, rfl, st2678⟩
        replace f1844 := f1844.st st2678 (by decide)
        replace f2308 := f2308.st st2678 (by decide)
        replace f5 := f5.st st2678 (by decide)
        replace f900000 := f900000.st st2678 (by decide)
        replace f900019 := f900019.st st2678 (by decide)
        replace hs := hs.loc0 st2678 (by decide)
        have hk := hk.put 21 (.agg #[.int .i64 t2592.From, .int .i64 t2592.To]) rfl
        refine ⟨.inr ⟨f2308.now, f5.now, trivial⟩, ?_⟩
        exact xd_to hG rfl (N2684 _ _ ⟨(fun b_ => (fun l_ => if l_ = 277 then 280 else if l_ = 278 then 281 else if l_ = 279 then 282 else l_) (o2677 b_)), (by exact Kn.pick (ks := [3, 5, 12, 13, 14, 21]) hk rfl), (hs.relab0 (fun l_ => if l_ = 277 then 280 else if l_ = 278 then 281 else if l_ = 279 then 282 else l_) rfl), (f1844.relab (fun l_ => if l_ = 277 then 280 else if l_ = 278 then 281 else if l_ = 279 then 282 else l_) rfl), (f2308.relab (fun l_ => if l_ = 277 then 280 else if l_ = 278 then 281 else if l_ = 279 then 282 else l_) rfl), (f5.relab (fun l_ => if l_ = 277 then 280 else if l_ = 278 then 281 else if l_ = 279 then 282 else l_) rfl), (f900000.relab (fun l_ => if l_ = 277 then 280 else if l_ = 278 then 281 else if l_ = 279 then 282 else l_) rfl), (f900019.relab (fun l_ => if l_ = 277 then 280 else if l_ = 278 then 281 else if l_ = 279 then 282 else l_) rfl)⟩)
      · refine xd_one hk rfl rfl ?_
        refine op_alloc (o := o2670) tab (t := 28) (cs := [.int .i64 0, .int .i64 0]) rfl rfl 284 fun bx2696 w2693 o2694 st2695 f2697 => ?_
        replace f1844 := f1844.st st2695 (by decide)
        replace f2308 := f2308.st st2695 (by decide)
        replace f5 := f5.st st2695 (by decide)
        replace f900000 := f900000.st st2695 (by decide)
        replace f900019 := f900019.st st2695 (by decide)
        replace hs := hs.loc0 st2695 (by decide)
        have hk := hk.put 8 (.pointer (some ⟨bx2696, 0, none⟩)) rfl
        refine ⟨.inr ⟨f2308.now, f5.now, trivial⟩, ?_⟩
        exact xd_to hG rfl (N2709 _ _ ⟨(fun b_ => (fun l_ => if l_ = 277 then 285 else if l_ = 278 then 286 else if l_ = 279 then 287 else if l_ = 284 then 288 else l_) (o2694 b_)), bx2696, (by exact Kn.pick (ks := [3, 5, 8, 12, 13, 14, 18, 20]) hk rfl), (hs.relab0 (fun l_ => if l_ = 277 then 285 else if l_ = 278 then 286 else if l_ = 279 then 287 else if l_ = 284 then 288 else l_) rfl), (f1844.relab (fun l_ => if l_ = 277 then 285 else if l_ = 278 then 286 else if l_ = 279 then 287 else if l_ = 284 then 288 else l_) rfl), (f2308.relab (fun l_ => if l_ = 277 then 285 else if l_ = 278 then 286 else if l_ = 279 then 287 else if l_ = 284 then 288 else l_) rfl), (f2697.relab (fun l_ => if l_ = 277 then 285 else if l_ = 278 then 286 else if l_ = 279 then 287 else if l_ = 284 then 288 else l_) rfl), (f5.relab (fun l_ => if l_ = 277 then 285 else if l_ = 278 then 286 else if l_ = 279 then 287 else if l_ = 284 then 288 else l_) rfl), (f900000.relab (fun l_ => if l_ = 277 then 285 else if l_ = 278 then 286 else if l_ = 279 then 287 else if l_ = 284 then 288 else l_) rfl), (f900019.relab (fun l_ => if l_ = 277 then 285 else if l_ = 278 then 286 else if l_ = 279 then 287 else if l_ = 284 then 288 else l_) rfl)⟩)
    have N2735 : ∀ (a_ : Act) (w_ : World), (∃ o2731 : Nat → Nat, ∃ bx2732 : Nat, Kn 31 a_ [(3, .pointer (some ⟨bx4, 0, none⟩)), (5, .slice A1841 (l1843).length c1842), (8, .pointer (some ⟨bx2732, 0, none⟩)), (12, .slice (some ad2303) (p0.l).length cp0_0), (13, .int .i64 ((p0.l).length : Int)), (14, .int .i64 x1846), (18, .agg #[.int .i64 ((rdD zT27 p0.l x1846).From), .int .i64 ((rdD zT27 p0.l x1846).To)]), (19, .agg #[.int .i64 p1.From, .int .i64 p1.To])] ∧ St [] w (fun _ => 0) w_ o2731 ∧ Ft (Own ET27 28 (.slice A1841 (l1843).length c1842) l1843) w_ o2731 292 ∧ Ft (Bx bx2307 28 [.int .i64 ((rdD zT27 p0.l x1846).From), .int .i64 ((rdD zT27 p0.l x1846).To)]) w_ o2731 291 ∧ Ft (Bx bx2732 28 [.int .i64 0, .int .i64 0]) w_ o2731 293 ∧ Ft (Bx bx4 28 [.int .i64 p1.From, .int .i64 p1.To]) w_ o2731 290 ∧ Ft (RdC ET27 (some ad2303) p0.l) w_ o2731 0 ∧ Ft (Bx bp0 31 [.slice (some ad2303) (p0.l).length cp0_0]) w_ o2731 0) → G 3 #[true, true, false, false, true, false] a_ w_ := by
      rintro a w2734 ⟨o2731, bx2732, hk, hs, f1844, f2308, f2733, f5, f900000, f900019⟩
      refine xd_of hG ?_
      refine xd_op hk (i := 2) (by kernel_rfl) rfl rfl ?_
      refine op_call hk ent_20 (vs := [.agg #[.int .i64 p1.From, .int .i64 p1.To]]) rfl (spans_Span_fit_calls p1 _ o2731    _ hc2585) ?_
      rintro _ w2739 ⟨o2740, rfl, st2741⟩
      replace f1844 := f1844.st st2741 (by decide)
      replace f2308 := f2308.st st2741 (by decide)
      replace f2733 := f2733.st st2741 (by decide)
      replace f5 := f5.st st2741 (by decide)
      replace f900000 := f900000.st st2741 (by decide)
      replace f900019 := f900019.st st2741 (by decide)
      replace hs := hs.loc0 st2741 (by decide)
      have hk := hk.put 20 (.agg #[.int .i64 t2584.From, .int .i64 t2584.To]) rfl
      refine ⟨.inr ⟨f2308.now, f5.now, trivial⟩, ?_⟩
      refine xd_op hk (i := 3) (by kernel_rfl) rfl rfl ?_
      refine op_call hk ent_25 (vs := [.agg #[.int .i64 ((rdD zT27 p0.l x1846).From), .int .i64 ((rdD zT27 p0.l x1846).To)], .agg #[.int .i64 t2584.From, .int .i64 t2584.To]]) rfl (spans_Span_both_calls (rdD zT27 p0.l x1846) t2584 _ o2740    _ hc2593) ?_
      rintro _ w2745 ⟨o2746, rfl, st2747⟩
      replace f1844 := f1844.st st2747 (by decide)
      replace f2308 := f2308.st st2747 (by decide)
      replace f2733 := f2733.st st2747 (by decide)
      replace f5 := f5.st st2747 (by decide)
      replace f900000 := f900000.st st2747 (by decide)
      replace f900019 := f900019.st st2747 (by decide)
      replace hs := hs.loc0 st2747 (by decide)
      have hk := hk.put 21 (.agg #[.int .i64 t2592.From, .int .i64 t2592.To]) rfl
      refine ⟨.inr ⟨f2308.now, f5.now, trivial⟩, ?_⟩
      refine xd_op hk (i := 5) (by kernel_rfl) rfl rfl ?_
      refine op_store tab hk (t := 28) (v := .agg #[.int .i64 t2592.From, .int .i64 t2592.To]) (b := bx2732) (k := 0) (cs' := [.int .i64 t2592.From, .int .i64 t2592.To]) rfl rfl rfl rfl rfl rfl f2733 rfl rfl fun w2748 o2749 st2750 f2733_ => ?_
      replace f1844 := f1844.st st2750 (by decide)
      replace f2308 := f2308.st st2750 (by decide)
      replace f5 := f5.st st2750 (by decide)
      replace f900000 := f900000.st st2750 (by decide)
      replace f900019 := f900019.st st2750 (by decide)
      replace hs := hs.loc0 st2750 (by decide)
      replace f2733 := f2733_
      refine ⟨.inl (by kernel_rfl), ?_⟩
      refine xd_done (by kernel_rfl) ?_
      refine then_n ?_
      exact ⟨(fun b_ => (fun l_ => if l_ = 290 then 268 else if l_ = 292 then 269 else if l_ = 293 then 270 else l_) (o2749 b_)), bx2732, t2592, (by exact Kn.pick (ks := [3, 5, 8, 12, 13, 14]) hk rfl), (hs.relab0 (fun l_ => if l_ = 290 then 268 else if l_ = 292 then 269 else if l_ = 293 then 270 else l_) rfl), (f1844.relab (fun l_ => if l_ = 290 then 268 else if l_ = 292 then 269 else if l_ = 293 then 270 else l_) rfl), (f2733.relab (fun l_ => if l_ = 290 then 268 else if l_ = 292 then 269 else if l_ = 293 then 270 else l_) rfl), (f5.relab (fun l_ => if l_ = 290 then 268 else if l_ = 292 then 269 else if l_ = 293 then 270 else l_) rfl), (f900000.relab (fun l_ => if l_ = 290 then 268 else if l_ = 292 then 269 else if l_ = 293 then 270 else l_) rfl), (f900019.relab (fun l_ => if l_ = 290 then 268 else if l_ = 292 then 269 else if l_ = 293 then 270 else l_) rfl), H⟩
    refine xd_of hG ?_
    refine xd_take tab hk (k := 4) (is := [0, 1]) (ls' := #[true, true, false, false, false, false]) (lv := [.agg #[.int .i64 ((rdD zT27 p0.l x1846).From), .int .i64 ((rdD zT27 p0.l x1846).To)], .agg #[.int .i64 p1.From, .int .i64 p1.To]]) (ks := [3, 5, 12, 13, 14, 18, 19]) (e' := [(3, .pointer (some ⟨bx4, 0, none⟩)), (5, .slice A1841 (l1843).length c1842), (12, .slice (some ad2303) (p0.l).length cp0_0), (13, .int .i64 ((p0.l).length : Int)), (14, .int .i64 x1846), (18, .agg #[.int .i64 ((rdD zT27 p0.l x1846).From), .int .i64 ((rdD zT27 p0.l x1846).To)]), (19, .agg #[.int .i64 p1.From, .int .i64 p1.To])]) (by kernel_rfl) rfl rfl (by kernel_rfl) (np_then (np_then (np_blk (np_then (np_then (np_blk (np_then np_body))))))) ⟨f2308.now, f5.now, trivial⟩ (fun W_ hS => ⟨(load_box tab rfl rfl hS.1 (k := 0) rfl rfl), (load_box tab rfl rfl hS.2.1 (k := 0) rfl rfl), trivial⟩) fun a hk => ?_
    refine xd_each [2, 4] (by kernel_rfl) rfl ⟨?_, ?_, trivial⟩
    · refine xd_one hk rfl rfl ?_
      refine op_call hk ent_20 (vs := [.agg #[.int .i64 p1.From, .int .i64 p1.To]]) rfl (spans_Span_fit_calls p1 _ o2310    _ hc2585) ?_
      rintro _ w2664 ⟨o2665, rfl, st2666⟩
      replace f1844 := f1844.st st2666 (by decide)
      replace f2308 := f2308.st st2666 (by decide)
      replace f5 := f5.st st2666 (by decide)
      replace f900000 := f900000.st st2666 (by decide)
      replace f900019 := f900019.st st2666 (by decide)
      replace hs := hs.loc0 st2666 (by decide)
      have hk := hk.put 20 (.agg #[.int .i64 t2584.From, .int .i64 t2584.To]) rfl
      refine ⟨.inr ⟨f2308.now, f5.now, trivial⟩, ?_⟩
      exact xd_to hG rfl (N2672 _ _ ⟨(fun b_ => (fun l_ => if l_ = 192 then 277 else if l_ = 193 then 279 else if l_ = 244 then 278 else l_) (o2665 b_)), (by exact Kn.pick (ks := [3, 5, 12, 13, 14, 18, 20]) hk rfl), (hs.relab0 (fun l_ => if l_ = 192 then 277 else if l_ = 193 then 279 else if l_ = 244 then 278 else l_) rfl), (f1844.relab (fun l_ => if l_ = 192 then 277 else if l_ = 193 then 279 else if l_ = 244 then 278 else l_) rfl), (f2308.relab (fun l_ => if l_ = 192 then 277 else if l_ = 193 then 279 else if l_ = 244 then 278 else l_) rfl), (f5.relab (fun l_ => if l_ = 192 then 277 else if l_ = 193 then 279 else if l_ = 244 then 278 else l_) rfl), (f900000.relab (fun l_ => if l_ = 192 then 277 else if l_ = 193 then 279 else if l_ = 244 then 278 else l_) rfl), (f900019.relab (fun l_ => if l_ = 192 then 277 else if l_ = 193 then 279 else if l_ = 244 then 278 else l_) rfl)⟩)
    · refine xd_one hk rfl rfl ?_
      refine op_alloc (o := o2310) tab (t := 28) (cs := [.int .i64 0, .int .i64 0]) rfl rfl 289 fun bx2722 w2719 o2720 st2721 f2723 => ?_
      replace f1844 := f1844.st st2721 (by decide)
      replace f2308 := f2308.st st2721 (by decide)
      replace f5 := f5.st st2721 (by decide)
      replace f900000 := f900000.st st2721 (by decide)
      replace f900019 := f900019.st st2721 (by decide)
      replace hs := hs.loc0 st2721 (by decide)
      have hk := hk.put 8 (.pointer (some ⟨bx2722, 0, none⟩)) rfl
      refine ⟨.inr ⟨f2308.now, f5.now, trivial⟩, ?_⟩
      exact xd_to hG rfl (N2735 _ _ ⟨(fun b_ => (fun l_ => if l_ = 192 then 290 else if l_ = 193 then 292 else if l_ = 244 then 291 else if l_ = 289 then 293 else l_) (o2720 b_)), bx2722, (by exact Kn.pick (ks := [3, 5, 8, 12, 13, 14, 18, 19]) hk rfl), (hs.relab0 (fun l_ => if l_ = 192 then 290 else if l_ = 193 then 292 else if l_ = 244 then 291 else if l_ = 289 then 293 else l_) rfl), (f1844.relab (fun l_ => if l_ = 192 then 290 else if l_ = 193 then 292 else if l_ = 244 then 291 else if l_ = 289 then 293 else l_) rfl), (f2308.relab (fun l_ => if l_ = 192 then 290 else if l_ = 193 then 292 else if l_ = 244 then 291 else if l_ = 289 then 293 else l_) rfl), (f2723.relab (fun l_ => if l_ = 192 then 290 else if l_ = 193 then 292 else if l_ = 244 then 291 else if l_ = 289 then 293 else l_) rfl), (f5.relab (fun l_ => if l_ = 192 then 290 else if l_ = 193 then 292 else if l_ = 244 then 291 else if l_ = 289 then 293 else l_) rfl), (f900000.relab (fun l_ => if l_ = 192 then 290 else if l_ = 193 then 292 else if l_ = 244 then 291 else if l_ = 289 then 293 else l_) rfl), (f900019.relab (fun l_ => if l_ = 192 then 290 else if l_ = 193 then 292 else if l_ = 244 then 291 else if l_ = 289 then 293 else l_) rfl)⟩)

/-! (*tidewrack/cache.Cache).Len -/
theorem cache_Cache_Len_calls (bp0 : Nat) (Ap0_0 : Option Addr) (cp0_0 : Nat) (p0 : T41) (w : World) (o : Nat → Nat) (LF : Nat) (Lp0 : Nat) (hp0 : Ft (Bx bp0 42 [.int .i64 p0.most, .int .i64 p0.now, mv Ap0_0]) w o Lp0) (Lp0_0 : Nat) (hp0_0 : MpN dT52 true Ap0_0 p0.l w o Lp0_0 LF) (hcp0_0 : (p0.l).length ≤ cp0_0) (hd0 : ([LF] : List Nat).Nodup) (hd1 : Lp0_0 ∉ [LF]) (hd2 : Lp0 ∉ [LF]) (r : Int) (H : cache_Cache_Len p0 = some r) :
    Calls Try.prog 11 #[.pointer (some ⟨bp0, 0, none⟩)] w (Ret fun v_ w' => ∃ o' : Nat → Nat, v_ = .int .i64 r ∧ St [] w o w' o') := by
  refine x_enter (vs := [.pointer (some ⟨bp0, 0, none⟩)]) Try.func11 rfl rfl rfl fun a hk => ?_
  obtain ⟨oi, hs0, h0, h1, hob, hoz, hoa⟩ := St.startM2 w o (m := 1) hd0 rfl
  have hs := hs0 []
  have f900000 := hp0_0.conv (fun P_ => h0 P_ _ hd1) (fun _ h_ => h1 0 1 h_ rfl rfl)
  have f900019 := h0 _ _ hd2 hp0
  clear h0 h1 hs0
  rw [cache_Cache_Len] at H
  refine x_seq ?_
  refine wpIn_region_lit ?_
  refine x_run tab hk (k := 1) (lv := []) (ks := [0]) (e' := [(0, .pointer (some ⟨bp0, 0, none⟩))]) rfl trivial fun a hk => ?_
  refine wpListIn_nil ?_
  refine then_n ?_
  refine x_seq ?_
  refine wpIn_region_lit ?_
  have f1 := MpN.size f900000
  refine x_run tab hk (k := 6) (lv := [mv Ap0_0, .int .i64 ((p0.l).length : Int)]) (ks := [2]) (e' := [(2, .int .i64 ((p0.l).length : Int))]) rfl ⟨(load1 tab rfl ((Bx.cell f900019.now 2).trans rfl)), (ask_mlenS tab rfl f1.now rfl), trivial⟩ fun a hk => ?_
  refine wpListIn_nil ?_
  refine then_n ?_
  refine wpIn_ret ?_
  obtain rfl := Option.some.inj H
  exact x_retG hk (rs := [.tmp 2]) (vs := [.int .i64 ((p0.l).length : Int)]) rfl ⟨rfl, trivial⟩ ⟨cl w oi o [] (fun l_ => if l_ = 1 then LF else 0) oi, rfl, hs.closeF (Lm := []) (Sh := []) hoa rfl (fun l_ => if l_ = 1 then LF else 0)⟩

/-! (*tidewrack/spans.Set).Len -/
theorem spans_Set_Len_calls (K : Nat) (bp0 : Nat) (Ap0_0 : Option Addr) (cp0_0 : Nat) (p0 : T30) (w : World) (o : Nat → Nat) (Lp0 : Nat) (hp0 : Ft (Bx bp0 31 [.slice Ap0_0 (p0.l).length cp0_0]) w o Lp0) (Lp0_0 : Nat) (hp0_0 : Ft (RdC ET27 Ap0_0 p0.l) w o Lp0_0) (hcp0_0 : (p0.l).length ≤ cp0_0)  (r : Int) (H : spans_Set_Len K p0 = some r) :
    Calls Try.prog 12 #[.pointer (some ⟨bp0, 0, none⟩)] w (Ret fun v_ w' => ∃ o' : Nat → Nat, v_ = .int .i64 r ∧ St [] w o w' o') := by
  refine x_enter (vs := [.pointer (some ⟨bp0, 0, none⟩)]) Try.func12 rfl rfl rfl fun a hk => ?_
  obtain ⟨o0, hs, h0⟩ := St.start w o
  have f900000 := h0 _ _ hp0_0
  have f900019 := h0 _ _ hp0
  clear h0
  rw [spans_Set_Len] at H
  refine x_seq ?_
  refine wpIn_region_lit ?_
  refine x_run tab hk (k := 1) (lv := []) (ks := [0]) (e' := [(0, .pointer (some ⟨bp0, 0, none⟩))]) rfl trivial fun a hk => ?_
  refine wpListIn_nil ?_
  refine then_n ?_
  refine x_seq ?_
  refine wpIn_region_lit ?_
  refine x_run tab hk (k := 1) (lv := []) (ks := [0, 3]) (e' := [(0, .pointer (some ⟨bp0, 0, none⟩)), (3, .int .i64 0)]) rfl trivial fun a hk => ?_
  refine wpListIn_nil ?_
  refine then_n ?_
  refine x_mid (fun a_ w_ => ∃ o50 : Nat → Nat, ∃ x51 : Int, Kn 24 a_ [(3, .int .i64 x51)] ∧ St [] w (fun _ => 0) w_ o50 ∧ Ft (RdC ET27 Ap0_0 p0.l) w_ o50 0 ∧ Ft (Bx bp0 31 [.slice Ap0_0 (p0.l).length cp0_0]) w_ o50 0 ∧ spans_Set_Len_j1 x51 = some r) ?_ ?_
  rotate_left
  · rintro a w52 ⟨o50, x51, hk, hs, f900000, f900019, H⟩
    rw [spans_Set_Len_j1] at H
    refine x_seq ?_
    refine wpIn_region_lit ?_
    refine x_run tab hk (k := 2) (lv := []) (ks := [2]) (e' := [(2, .int .i64 x51)]) rfl trivial fun a hk => ?_
    refine wpListIn_nil ?_
    refine then_n ?_
    refine wpIn_ret ?_
    obtain rfl := Option.some.inj H
    exact x_retG hk (rs := [.tmp 2]) (vs := [.int .i64 x51]) rfl ⟨rfl, trivial⟩ ⟨fun b_ => if b_ < w.heap.size then o b_ else (fun _ => 0) (o50 b_), rfl, hs.close0 o (fun _ => 0)⟩
  refine x_seq ?_
  refine wpIn_region_lit ?_
  refine x_run tab hk (k := 6) (lv := [.slice Ap0_0 (p0.l).length cp0_0]) (ks := [3, 9, 10, 11]) (e' := [(3, .int .i64 0), (9, .slice Ap0_0 (p0.l).length cp0_0), (10, .int .i64 ((p0.l).length : Int)), (11, .int .i64 0)]) rfl ⟨(load1 tab rfl ((Bx.cell f900019.now 0).trans rfl)), trivial⟩ fun a hk => ?_
  refine wpListIn_nil ?_
  refine then_n ?_
  refine wpIn_block ?_
  refine x_loop (fun j_ a_ w_ => ∃ o67 : Nat → Nat, ∃ x68 : Int, ∃ x69 : Int, Kn 24 a_ [(3, .int .i64 x68), (9, .slice Ap0_0 (p0.l).length cp0_0), (10, .int .i64 ((p0.l).length : Int)), (11, .int .i64 x69)] ∧ St [] w (fun _ => 0) w_ o67 ∧ Ft (RdC ET27 Ap0_0 p0.l) w_ o67 0 ∧ Ft (Bx bp0 31 [.slice Ap0_0 (p0.l).length cp0_0]) w_ o67 0 ∧ spans_Set_Len_l2 p0 j_ x68 x69 = some r) (k := K) ⟨o0, 0, 0, (by exact Kn.pick (ks := [3, 9, 10, 11]) hk rfl), hs, f900000, f900019, H⟩ (by rintro _ _ ⟨_, _, _, _, _, _, _, H_⟩; exact absurd (show (none : Option Int) = some r from H_) (by simp)) ?_
  rintro k82 a w81 ⟨o67, x68, x69, hk, hs, f900000, f900019, H⟩
  rw [spans_Set_Len_l2] at H
  obtain ⟨lp83, hlp84⟩ : ∃ lp_, lp_ = spans_Set_Len_l2 p0 k82 := ⟨_, rfl⟩
  rw [← hlp84] at H
  refine x_seq ?_
  refine wpIn_region_lit ?_
  refine x_run tab hk (k := 1) (lv := []) (ks := [3, 9, 10, 11, 12]) (e' := [(3, .int .i64 x68), (9, .slice Ap0_0 (p0.l).length cp0_0), (10, .int .i64 ((p0.l).length : Int)), (11, .int .i64 x69), (12, .bool (decide (x69 < ((p0.l).length : Int))))]) rfl trivial fun a hk => ?_
  refine wpListIn_nil ?_
  refine then_n ?_
  refine x_seq ?_
  cases b85 : (decide (x69 < ((p0.l).length : Int)))
  · rw [b85] at hk H
    replace H := bifF H
    refine x_if hk (b := false) rfl ?_
    refine (show Code.wpIn _ _ _ _ _ _ _ from ?_)
    refine wpIn_exit ?_
    refine then_x ?_
    refine then_x ?_
    refine blk_x ?_
    refine then_n ?_
    exact ⟨o67, x68, (by exact Kn.pick (ks := [3]) hk rfl), hs, f900000, f900019, H⟩
  · rw [b85] at hk H
    replace H := bifT H
    refine x_if hk (b := true) rfl ?_
    refine (show Code.wpIn _ _ _ _ _ _ _ from ?_)
    refine wpIn_skip ?_
    refine then_n ?_
    refine x_seq ?_
    refine wpIn_block ?_
    refine x_seq ?_
    refine wpIn_region_lit ?_
    obtain ⟨q86, H⟩ := ifS H
    obtain ⟨ad87, hAad87⟩ := RdC.addr f900000.now q86
    have hk_C := hk
    have f900000_C := f900000
    have f900019_C := f900019
    subst hAad87
    have hk := hk_C
    clear hk_C
    have f900000 := f900000_C
    clear f900000_C
    have f900019 := f900019_C
    clear f900019_C
    refine x_run tab hk (k := 2) (lv := [.agg #[.int .i64 ((rdD zT27 p0.l x69).From), .int .i64 ((rdD zT27 p0.l x69).To)]]) (ks := [3, 9, 10, 11, 14]) (e' := [(3, .int .i64 x68), (9, .slice (some ad87) (p0.l).length cp0_0), (10, .int .i64 ((p0.l).length : Int)), (11, .int .i64 x69), (14, .agg #[.int .i64 ((rdD zT27 p0.l x69).From), .int .i64 ((rdD zT27 p0.l x69).To)])]) rfl ⟨q86, (load_elem (E := ET27) (i := x69) (dx := zT27) tab rfl rfl f900000.now q86), trivial⟩ fun a hk => ?_
    refine x_op hk rfl ?_
    refine op_alloc (o := o67) tab (t := 28) (cs := [.int .i64 0, .int .i64 0]) rfl rfl 6 fun bx91 w88 o89 st90 f92 => ?_
    replace f900000 := f900000.st st90 (by decide)
    replace f900019 := f900019.st st90 (by decide)
    replace hs := hs.loc0 st90 (by decide)
    have hk := hk.put 5 (.pointer (some ⟨bx91, 0, none⟩)) rfl
    refine x_op hk rfl ?_
    refine op_store tab hk (t := 28) (v := .agg #[.int .i64 ((rdD zT27 p0.l x69).From), .int .i64 ((rdD zT27 p0.l x69).To)]) (b := bx91) (k := 0) (cs' := [.int .i64 ((rdD zT27 p0.l x69).From), .int .i64 ((rdD zT27 p0.l x69).To)]) rfl rfl rfl rfl rfl rfl f92 rfl rfl fun w93 o94 st95 f92_ => ?_
    replace f900000 := f900000.st st95 (by decide)
    replace f900019 := f900019.st st95 (by decide)
    replace hs := hs.loc0 st95 (by decide)
    replace f92 := f92_
    refine wpListIn_nil ?_
    refine then_n ?_
    refine wpIn_region_lit ?_
    refine x_run tab hk (k := 8) (lv := [.int .i64 ((rdD zT27 p0.l x69).To), .int .i64 ((rdD zT27 p0.l x69).From)]) (ks := [3, 9, 10, 11]) (e' := [(3, .int .i64 (IntKind.wrap .i64 (x68 + (IntKind.wrap .i64 (((rdD zT27 p0.l x69).To) - ((rdD zT27 p0.l x69).From)))))), (9, .slice (some ad87) (p0.l).length cp0_0), (10, .int .i64 ((p0.l).length : Int)), (11, .int .i64 x69)]) rfl ⟨(load1 tab rfl ((Bx.cell f92.now 1).trans rfl)), (load1 tab rfl ((Bx.cell f92.now 0).trans rfl)), trivial⟩ fun a hk => ?_
    refine wpListIn_nil ?_
    refine blk_n ?_
    refine then_n ?_
    refine wpIn_region_lit ?_
    refine x_run tab hk (k := 2) (lv := []) (ks := [3, 9, 10, 11]) (e' := [(3, .int .i64 (IntKind.wrap .i64 (x68 + (IntKind.wrap .i64 (((rdD zT27 p0.l x69).To) - ((rdD zT27 p0.l x69).From)))))), (9, .slice (some ad87) (p0.l).length cp0_0), (10, .int .i64 ((p0.l).length : Int)), (11, .int .i64 (IntKind.wrap .i64 (x69 + 1)))]) rfl trivial fun a hk => ?_
    refine wpListIn_nil ?_
    refine then_n ?_
    exact ⟨k82, Nat.le_refl _, o94, (IntKind.wrap .i64 (x68 + (IntKind.wrap .i64 (((rdD zT27 p0.l x69).To) - ((rdD zT27 p0.l x69).From))))), (IntKind.wrap .i64 (x69 + 1)), (by exact Kn.pick (ks := [3, 9, 10, 11]) hk rfl), hs, f900000, f900019, (hlp84 ▸ H)⟩

/-! tidewrack/tidewracktop.TidewrackMissing -/
set_option maxHeartbeats 4000000 in
set_option maxRecDepth 20000 in
theorem tidewracktop_TidewrackMissing_calls (K : Nat) (Ap0 : Option Addr) (cp0 : Nat) (p0 : List Int) (p1 : Int) (p2 : Int) (w : World) (o : Nat → Nat) (Lp0 : Nat) (hp0 : Ft (RdC (encInt .i64) Ap0 p0) w o Lp0) (hcp0 : (p0).length ≤ cp0)  (r : Bool) (H : tidewracktop_TidewrackMissing K p0 p1 p2 = some r) :
    Calls Try.prog 3 #[.slice Ap0 (p0).length cp0, .int .i64 p1, .int .i64 p2] w (Ret fun v_ w' => ∃ o' : Nat → Nat, v_ = .bool r ∧ St [] w o w' o') := by
  refine x_enter (vs := [.slice Ap0 (p0).length cp0, .int .i64 p1, .int .i64 p2]) Try.func3 rfl rfl rfl fun a hk => ?_
  obtain ⟨o0, hs, h0⟩ := St.start w o
  have f900000 := h0 _ _ hp0
  clear h0
  rw [tidewracktop_TidewrackMissing] at H
  refine x_seq ?_
  refine wpIn_region_lit ?_
  refine x_run tab hk (k := 1) (lv := []) (ks := [0, 1, 2]) (e' := [(0, .slice Ap0 (p0).length cp0), (1, .int .i64 p1), (2, .int .i64 p2)]) rfl trivial fun a hk => ?_
  refine wpListIn_nil ?_
  refine then_n ?_
  refine x_seq ?_
  refine wpIn_region_lit ?_
  refine x_run tab hk (k := 6) (lv := []) (ks := [0, 1, 2]) (e' := [(0, .slice Ap0 (p0).length cp0), (1, .int .i64 (bits .and .i64 p1 31)), (2, .int .i64 (bits .and .i64 p2 15))]) rfl trivial fun a hk => ?_
  refine wpListIn_nil ?_
  refine then_n ?_
  refine x_seq ?_
  refine wpIn_region_lit ?_
  refine x_op hk rfl ?_
  obtain ⟨t4, hc5, H⟩ := bindS H
  refine op_call hk ent_4 (vs := [.int .i64 64]) rfl (cache_New_calls 64 _ o0 1 (by decide) 2 3  _ hc5) ?_
  rintro _ w6 ⟨o7, bx9, A11, c12, rfl, st8, f10, f13, hc14⟩
  replace f900000 := f900000.st st8 (by decide)
  replace hs := hs.loc0 st8 (by decide)
  have hk := hk.put 27 (.pointer (some ⟨bx9, 0, none⟩)) rfl
  refine x_run tab hk (k := 1) (lv := []) (ks := [0, 1, 2, 7]) (e' := [(0, .slice Ap0 (p0).length cp0), (1, .int .i64 (bits .and .i64 p1 31)), (2, .int .i64 (bits .and .i64 p2 15)), (7, .pointer (some ⟨bx9, 0, none⟩))]) rfl trivial fun a hk => ?_
  refine wpListIn_nil ?_
  refine then_n ?_
  refine x_seq ?_
  refine x_seq ?_
  refine wpIn_region_lit ?_
  refine x_run tab hk (k := 2) (lv := []) (ks := [0, 1, 2, 7, 29]) (e' := [(0, .slice Ap0 (p0).length cp0), (1, .int .i64 (bits .and .i64 p1 31)), (2, .int .i64 (bits .and .i64 p2 15)), (7, .pointer (some ⟨bx9, 0, none⟩)), (29, .bool false)]) rfl trivial fun a hk => ?_
  refine wpListIn_nil ?_
  refine then_n ?_
  refine x_if hk (b := false) rfl ?_
  refine (show Code.wpIn _ _ _ _ _ _ _ from ?_)
  refine wpIn_skip ?_
  refine then_n ?_
  refine x_mid (fun a_ w_ => ∃ o115 : Nat → Nat, ∃ x116 : Int, ∃ x117 : Int, ∃ A118 : Option Addr, ∃ c119 : Nat, ∃ l120 : M T52, Kn 134 a_ [(1, .int .i64 (bits .and .i64 p1 31)), (2, .int .i64 (bits .and .i64 p2 15)), (7, .pointer (some ⟨bx9, 0, none⟩))] ∧ St [] w (fun _ => 0) w_ o115 ∧ Ft (Bx bx9 42 [.int .i64 x116, .int .i64 x117, mv A118]) w_ o115 15 ∧ MpN dT52 true A118 l120 w_ o115 14 1 ∧ (l120).length ≤ c119 ∧ tidewracktop_TidewrackMissing_j1 K p1 p2 x116 x117 l120 = some r) ?_ ?_
  rotate_left
  · rintro a w123 ⟨o115, x116, x117, A118, c119, l120, hk, hs, f10, f121, hc122, H⟩
    rw [tidewracktop_TidewrackMissing_j1] at H
    refine x_seq ?_
    refine wpIn_region_lit ?_
    refine x_run tab hk (k := 5) (lv := []) (ks := [1, 2, 7, 51]) (e' := [(1, .int .i64 (bits .and .i64 p1 31)), (2, .int .i64 (bits .and .i64 p2 15)), (7, .pointer (some ⟨bx9, 0, none⟩)), (51, .agg #[.int .i64 (bits .and .i64 p1 31), .int .i64 (IntKind.wrap .i64 ((bits .and .i64 p1 31) + (bits .and .i64 p2 15)))])]) rfl trivial fun a hk => ?_
    refine x_op hk rfl ?_
    refine op_alloc (o := o115) tab (t := 28) (cs := [.int .i64 0, .int .i64 0]) rfl rfl 16 fun bx127 w124 o125 st126 f128 => ?_
    replace f10 := f10.st st126 (by decide)
    replace f121 := f121.st st126 (by decide)
    replace hs := hs.loc0 st126 (by decide)
    have hk := hk.put 9 (.pointer (some ⟨bx127, 0, none⟩)) rfl
    refine x_op hk rfl ?_
    refine op_store tab hk (t := 28) (v := .agg #[.int .i64 (bits .and .i64 p1 31), .int .i64 (IntKind.wrap .i64 ((bits .and .i64 p1 31) + (bits .and .i64 p2 15)))]) (b := bx127) (k := 0) (cs' := [.int .i64 (bits .and .i64 p1 31), .int .i64 (IntKind.wrap .i64 ((bits .and .i64 p1 31) + (bits .and .i64 p2 15)))]) rfl rfl rfl rfl rfl rfl f128 rfl rfl fun w129 o130 st131 f128_ => ?_
    replace f10 := f10.st st131 (by decide)
    replace f121 := f121.st st131 (by decide)
    replace hs := hs.loc0 st131 (by decide)
    replace f128 := f128_
    refine wpListIn_nil ?_
    refine then_n ?_
    refine x_seq ?_
    refine wpIn_region_lit ?_
    refine x_op hk rfl ?_
    refine op_alloc (o := o130) tab (t := 31) (cs := [.slice none 0 0]) rfl rfl 17 fun bx135 w132 o133 st134 f136 => ?_
    replace f10 := f10.st st134 (by decide)
    replace f121 := f121.st st134 (by decide)
    replace f128 := f128.st st134 (by decide)
    replace hs := hs.loc0 st134 (by decide)
    have hk := hk.put 10 (.pointer (some ⟨bx135, 0, none⟩)) rfl
    refine wpListIn_nil ?_
    refine then_n ?_
    refine x_seq ?_
    refine wpIn_region_lit ?_
    refine x_run tab hk (k := 1) (lv := []) (ks := [1, 2, 7, 9, 10, 52]) (e' := [(1, .int .i64 (bits .and .i64 p1 31)), (2, .int .i64 (bits .and .i64 p2 15)), (7, .pointer (some ⟨bx9, 0, none⟩)), (9, .pointer (some ⟨bx127, 0, none⟩)), (10, .pointer (some ⟨bx135, 0, none⟩)), (52, .pointer (some ⟨bx9, 0, none⟩))]) rfl trivial fun a hk => ?_
    refine x_op hk rfl ?_
    obtain ⟨t140, hc141, H⟩ := bindS H
    refine op_call hk ent_7 (vs := [.pointer (some ⟨bx9, 0, none⟩)]) rfl (cache_Cache_Spans_calls K bx9 A118 c119 (⟨x116, x117, l120⟩ : T41) _ o133 1 15 f10 _ f121 hc122 (by decide) (by decide) (by decide) 18  _ hc141) ?_
    rintro _ w142 ⟨o143, A145, c146, rfl, st144, f147, hc148⟩
    replace f10 := f10.st st144 (by decide)
    replace f121 := f121.st st144 (by decide)
    replace f128 := f128.st st144 (by decide)
    replace f136 := f136.st st144 (by decide)
    replace hs := hs.loc0 st144 (by decide)
    have hk := hk.put 53 (.slice A145 (t140).length c146) rfl
    refine x_op hk rfl ?_
    obtain ⟨t152, hc153, H⟩ := bindS H
    refine op_call hk ent_6 (vs := [.pointer (some ⟨bx135, 0, none⟩), .slice A145 (t140).length c146]) rfl (spans_Set_Add_calls K bx135 none 0 (⟨([] : List T27)⟩ : T30) A145 c146 t140 _ o143 17 f136 19 (Ft.of_all (fun _ => Own.nil _ _ _) _ _ 19) (by simp) _ (f147.imp fun _ h_ => Own.rd h_) hc148 (by decide) (by decide)   _ hc153) ?_
    rintro _ w154 ⟨o155, A158, c159, rfl, st156, f157, f160, hc161⟩
    replace f10 := f10.st st156 (by decide)
    replace f121 := f121.st st156 (by decide)
    replace f128 := f128.st st156 (by decide)
    replace f147 := f147.st st156 (by decide)
    replace hs := hs.loc0 st156 (by decide)
    have hk := hk.put 54 (.tuple #[]) rfl
    refine wpListIn_nil ?_
    refine then_n ?_
    refine x_seq ?_
    refine wpIn_region_lit ?_
    refine x_run tab hk (k := 1) (lv := []) (ks := [1, 2, 7, 9, 10, 11]) (e' := [(1, .int .i64 (bits .and .i64 p1 31)), (2, .int .i64 (bits .and .i64 p2 15)), (7, .pointer (some ⟨bx9, 0, none⟩)), (9, .pointer (some ⟨bx127, 0, none⟩)), (10, .pointer (some ⟨bx135, 0, none⟩)), (11, .int .i64 0)]) rfl trivial fun a hk => ?_
    refine wpListIn_nil ?_
    refine then_n ?_
    refine x_mid (fun a_ w_ => ∃ o1366 : Nat → Nat, ∃ x1367 : Int, ∃ x1368 : Int, ∃ A1369 : Option Addr, ∃ c1370 : Nat, ∃ l1371 : M T52, ∃ x1374 : Int, Kn 134 a_ [(2, .int .i64 (bits .and .i64 p2 15)), (7, .pointer (some ⟨bx9, 0, none⟩)), (9, .pointer (some ⟨bx127, 0, none⟩)), (10, .pointer (some ⟨bx135, 0, none⟩)), (11, .int .i64 x1374)] ∧ St [] w (fun _ => 0) w_ o1366 ∧ Ft (Bx bx9 42 [.int .i64 x1367, .int .i64 x1368, mv A1369]) w_ o1366 304 ∧ Ft (Bx bx127 28 [.int .i64 (bits .and .i64 p1 31), .int .i64 (IntKind.wrap .i64 ((bits .and .i64 p1 31) + (bits .and .i64 p2 15)))]) w_ o1366 305 ∧ MpN dT52 true A1369 l1371 w_ o1366 303 1 ∧ Ft (Bx bx135 31 [.slice A158 (t152.l).length c159]) w_ o1366 307 ∧ Ft (Own ET27 28 (.slice A158 (t152.l).length c159) t152.l) w_ o1366 306 ∧ (l1371).length ≤ c1370 ∧ tidewracktop_TidewrackMissing_j2 K p1 p2 t152 x1367 x1368 l1371 x1374 = some r) ?_ ?_
    rotate_left
    · rintro a w1375 ⟨o1366, x1367, x1368, A1369, c1370, l1371, x1374, hk, hs, f10, f128, f1372, f157, f160, hc1373, H⟩
      rw [tidewracktop_TidewrackMissing_j2] at H
      refine x_seq ?_
      refine wpIn_region_lit ?_
      refine x_op hk rfl ?_
      refine op_alloc (o := o1366) tab (t := 31) (cs := [.slice none 0 0]) rfl rfl 308 fun bx1379 w1376 o1377 st1378 f1380 => ?_
      replace f10 := f10.st st1378 (by decide)
      replace f128 := f128.st st1378 (by decide)
      replace f1372 := f1372.st st1378 (by decide)
      replace f157 := f157.st st1378 (by decide)
      replace f160 := f160.st st1378 (by decide)
      replace hs := hs.loc0 st1378 (by decide)
      have hk := hk.put 19 (.pointer (some ⟨bx1379, 0, none⟩)) rfl
      refine wpListIn_nil ?_
      refine then_n ?_
      refine x_seq ?_
      refine wpIn_region_lit ?_
      refine x_run tab hk (k := 1) (lv := []) (ks := [2, 7, 9, 10, 11, 19, 99]) (e' := [(2, .int .i64 (bits .and .i64 p2 15)), (7, .pointer (some ⟨bx9, 0, none⟩)), (9, .pointer (some ⟨bx127, 0, none⟩)), (10, .pointer (some ⟨bx135, 0, none⟩)), (11, .int .i64 x1374), (19, .pointer (some ⟨bx1379, 0, none⟩)), (99, .pointer (some ⟨bx9, 0, none⟩))]) rfl trivial fun a hk => ?_
      refine x_op hk rfl ?_
      obtain ⟨t1384, hc1385, H⟩ := bindS H
      refine op_call hk ent_7 (vs := [.pointer (some ⟨bx9, 0, none⟩)]) rfl (cache_Cache_Spans_calls K bx9 A1369 c1370 (⟨x1367, x1368, l1371⟩ : T41) _ o1377 1 304 f10 _ f1372 hc1373 (by decide) (by decide) (by decide) 309  _ hc1385) ?_
      rintro _ w1386 ⟨o1387, A1389, c1390, rfl, st1388, f1391, hc1392⟩
      replace f10 := f10.st st1388 (by decide)
      replace f128 := f128.st st1388 (by decide)
      replace f1372 := f1372.st st1388 (by decide)
      replace f1380 := f1380.st st1388 (by decide)
      replace f157 := f157.st st1388 (by decide)
      replace f160 := f160.st st1388 (by decide)
      replace hs := hs.loc0 st1388 (by decide)
      have hk := hk.put 100 (.slice A1389 (t1384).length c1390) rfl
      refine x_op hk rfl ?_
      obtain ⟨t1396, hc1397, H⟩ := bindS H
      refine op_call hk ent_6 (vs := [.pointer (some ⟨bx1379, 0, none⟩), .slice A1389 (t1384).length c1390]) rfl (spans_Set_Add_calls K bx1379 none 0 (⟨([] : List T27)⟩ : T30) A1389 c1390 t1384 _ o1387 308 f1380 310 (Ft.of_all (fun _ => Own.nil _ _ _) _ _ 310) (by simp) _ (f1391.imp fun _ h_ => Own.rd h_) hc1392 (by decide) (by decide)   _ hc1397) ?_
      rintro _ w1398 ⟨o1399, A1402, c1403, rfl, st1400, f1401, f1404, hc1405⟩
      replace f10 := f10.st st1400 (by decide)
      replace f128 := f128.st st1400 (by decide)
      replace f1372 := f1372.st st1400 (by decide)
      replace f1391 := f1391.st st1400 (by decide)
      replace f157 := f157.st st1400 (by decide)
      replace f160 := f160.st st1400 (by decide)
      replace hs := hs.loc0 st1400 (by decide)
      have hk := hk.put 101 (.tuple #[]) rfl
      refine wpListIn_nil ?_
      refine then_n ?_
      refine x_seq ?_
      refine wpIn_region_lit ?_
      refine x_run tab hk (k := 1) (lv := []) (ks := [2, 7, 9, 10, 11, 19, 20]) (e' := [(2, .int .i64 (bits .and .i64 p2 15)), (7, .pointer (some ⟨bx9, 0, none⟩)), (9, .pointer (some ⟨bx127, 0, none⟩)), (10, .pointer (some ⟨bx135, 0, none⟩)), (11, .int .i64 x1374), (19, .pointer (some ⟨bx1379, 0, none⟩)), (20, .int .i64 0)]) rfl trivial fun a hk => ?_
      refine wpListIn_nil ?_
      refine then_n ?_
      refine x_mid (fun a_ w_ => ∃ o1467 : Nat → Nat, ∃ x1468 : Int, Kn 134 a_ [(2, .int .i64 (bits .and .i64 p2 15)), (7, .pointer (some ⟨bx9, 0, none⟩)), (9, .pointer (some ⟨bx127, 0, none⟩)), (11, .int .i64 x1374), (19, .pointer (some ⟨bx1379, 0, none⟩)), (20, .int .i64 x1468)] ∧ St [] w (fun _ => 0) w_ o1467 ∧ Ft (Bx bx9 42 [.int .i64 x1367, .int .i64 x1368, mv A1369]) w_ o1467 328 ∧ Ft (Bx bx127 28 [.int .i64 (bits .and .i64 p1 31), .int .i64 (IntKind.wrap .i64 ((bits .and .i64 p1 31) + (bits .and .i64 p2 15)))]) w_ o1467 329 ∧ MpN dT52 true A1369 l1371 w_ o1467 327 1 ∧ Ft (Bx bx1379 31 [.slice A1402 (t1396.l).length c1403]) w_ o1467 331 ∧ Ft (Own ET27 28 (.slice A1402 (t1396.l).length c1403) t1396.l) w_ o1467 330 ∧ tidewracktop_TidewrackMissing_j3 K p1 p2 x1367 x1368 l1371 x1374 t1396 x1468 = some r) ?_ ?_
      rotate_left
      · rintro a w1469 ⟨o1467, x1468, hk, hs, f10, f128, f1372, f1401, f1404, H⟩
        rw [tidewracktop_TidewrackMissing_j3] at H
        refine x_seq ?_
        refine wpIn_region_lit ?_
        refine x_run tab hk (k := 6) (lv := []) (ks := [7, 9, 19, 122]) (e' := [(7, .pointer (some ⟨bx9, 0, none⟩)), (9, .pointer (some ⟨bx127, 0, none⟩)), (19, .pointer (some ⟨bx1379, 0, none⟩)), (122, .bool ((IntKind.wrap .i64 (x1374 + x1468)) == (bits .and .i64 p2 15)))]) rfl trivial fun a hk => ?_
        cases b1470 : ((IntKind.wrap .i64 (x1374 + x1468)) == (bits .and .i64 p2 15))
        · rw [b1470] at hk H
          replace H := bifF H
          refine x_run tab hk (k := 10) (lv := []) (ks := [128, 132]) (e' := [(128, .bool false), (132, undef)]) rfl trivial fun a hk => ?_
          refine x_run tab hk (k := 2) (lv := []) (ks := [6]) (e' := [(6, .bool false)]) rfl trivial fun a hk => ?_
          refine wpListIn_nil ?_
          refine then_n ?_
          refine wpIn_ret ?_
          obtain rfl := Option.some.inj H
          exact x_retG hk (rs := [.tmp 6]) (vs := [.bool false]) rfl ⟨rfl, trivial⟩ ⟨fun b_ => if b_ < w.heap.size then o b_ else (fun _ => 0) (o1467 b_), rfl, hs.close0 o (fun _ => 0)⟩
        · rw [b1470] at hk H
          replace H := bifT H
          refine x_run tab hk (k := 1) (lv := [.agg #[.int .i64 (bits .and .i64 p1 31), .int .i64 (IntKind.wrap .i64 ((bits .and .i64 p1 31) + (bits .and .i64 p2 15)))]]) (ks := [7, 19, 122, 123]) (e' := [(7, .pointer (some ⟨bx9, 0, none⟩)), (19, .pointer (some ⟨bx1379, 0, none⟩)), (122, .bool true), (123, .agg #[.int .i64 (bits .and .i64 p1 31), .int .i64 (IntKind.wrap .i64 ((bits .and .i64 p1 31) + (bits .and .i64 p2 15)))])]) rfl ⟨(load_box tab rfl rfl f128.now (k := 0) rfl rfl), trivial⟩ fun a hk => ?_
          refine x_op hk rfl ?_
          obtain ⟨t1474, hc1475, H⟩ := bindS H
          refine op_call hk ent_8 (vs := [.pointer (some ⟨bx1379, 0, none⟩), .agg #[.int .i64 (bits .and .i64 p1 31), .int .i64 (IntKind.wrap .i64 ((bits .and .i64 p1 31) + (bits .and .i64 p2 15)))]]) rfl (spans_Set_Missing_calls K bx1379 A1402 c1403 t1396 (⟨(bits .and .i64 p1 31), (IntKind.wrap .i64 ((bits .and .i64 p1 31) + (bits .and .i64 p2 15)))⟩ : T27) _ o1467 331 f1401 _ (f1404.imp fun _ h_ => Own.rd h_) hc1405 332  _ hc1475) ?_
          rintro _ w1476 ⟨o1477, A1479, c1480, rfl, st1478, f1481, hc1482⟩
          replace f10 := f10.st st1478 (by decide)
          replace f1372 := f1372.st st1478 (by decide)
          replace f1401 := f1401.st st1478 (by decide)
          replace f1404 := f1404.st st1478 (by decide)
          replace hs := hs.loc0 st1478 (by decide)
          have hk := hk.put 124 (.slice A1479 (t1474).length c1480) rfl
          refine x_run tab hk (k := 4) (lv := []) (ks := [7, 19, 128]) (e' := [(7, .pointer (some ⟨bx9, 0, none⟩)), (19, .pointer (some ⟨bx1379, 0, none⟩)), (128, .bool (((t1474).length : Int) == (0 : Int)))]) rfl trivial fun a hk => ?_
          cases b1483 : (((t1474).length : Int) == (0 : Int))
          · rw [b1483] at hk H
            replace H := bifF H
            refine x_run tab hk (k := 6) (lv := []) (ks := [6]) (e' := [(6, .bool false)]) rfl trivial fun a hk => ?_
            refine wpListIn_nil ?_
            refine then_n ?_
            refine wpIn_ret ?_
            obtain rfl := Option.some.inj H
            exact x_retG hk (rs := [.tmp 6]) (vs := [.bool false]) rfl ⟨rfl, trivial⟩ ⟨fun b_ => if b_ < w.heap.size then o b_ else (fun _ => 0) (o1477 b_), rfl, hs.close0 o (fun _ => 0)⟩
          · rw [b1483] at hk H
            replace H := bifT H
            refine x_run tab hk (k := 1) (lv := []) (ks := [19, 128, 129]) (e' := [(19, .pointer (some ⟨bx1379, 0, none⟩)), (128, .bool true), (129, .pointer (some ⟨bx9, 0, none⟩))]) rfl trivial fun a hk => ?_
            refine x_op hk rfl ?_
            obtain ⟨t1487, hc1488, H⟩ := bindS H
            refine op_call hk ent_11 (vs := [.pointer (some ⟨bx9, 0, none⟩)]) rfl (cache_Cache_Len_calls bx9 A1369 c1370 (⟨x1367, x1368, l1371⟩ : T41) _ o1477 1 328 f10 _ f1372 hc1373 (by decide) (by decide) (by decide)   _ hc1488) ?_
            rintro _ w1489 ⟨o1490, rfl, st1491⟩
            replace f10 := f10.st st1491 (by decide)
            replace f1372 := f1372.st st1491 (by decide)
            replace f1401 := f1401.st st1491 (by decide)
            replace f1404 := f1404.st st1491 (by decide)
            replace hs := hs.loc0 st1491 (by decide)
            have hk := hk.put 130 (.int .i64 t1487) rfl
            refine x_op hk rfl ?_
            obtain ⟨t1495, hc1496, H⟩ := bindS H
            refine op_call hk ent_12 (vs := [.pointer (some ⟨bx1379, 0, none⟩)]) rfl (spans_Set_Len_calls K bx1379 A1402 c1403 t1396 _ o1490 331 f1401 _ (f1404.imp fun _ h_ => Own.rd h_) hc1405   _ hc1496) ?_
            rintro _ w1497 ⟨o1498, rfl, st1499⟩
            replace f10 := f10.st st1499 (by decide)
            replace f1372 := f1372.st st1499 (by decide)
            replace f1401 := f1401.st st1499 (by decide)
            replace f1404 := f1404.st st1499 (by decide)
            replace hs := hs.loc0 st1499 (by decide)
            have hk := hk.put 131 (.int .i64 t1495) rfl
            refine x_run tab hk (k := 3) (lv := []) (ks := [6]) (e' := [(6, .bool (t1487 == t1495))]) rfl trivial fun a hk => ?_
            refine wpListIn_nil ?_
            refine then_n ?_
            refine wpIn_ret ?_
            obtain rfl := Option.some.inj H
            exact x_retG hk (rs := [.tmp 6]) (vs := [.bool (t1487 == t1495)]) rfl ⟨rfl, trivial⟩ ⟨fun b_ => if b_ < w.heap.size then o b_ else (fun _ => 0) (o1498 b_), rfl, hs.close0 o (fun _ => 0)⟩
      refine x_seq ?_
      refine wpIn_region_lit ?_
      refine x_run tab hk (k := 1) (lv := [.agg #[.int .i64 (bits .and .i64 p1 31), .int .i64 (IntKind.wrap .i64 ((bits .and .i64 p1 31) + (bits .and .i64 p2 15)))]]) (ks := [2, 7, 9, 10, 11, 19, 20, 102]) (e' := [(2, .int .i64 (bits .and .i64 p2 15)), (7, .pointer (some ⟨bx9, 0, none⟩)), (9, .pointer (some ⟨bx127, 0, none⟩)), (10, .pointer (some ⟨bx135, 0, none⟩)), (11, .int .i64 x1374), (19, .pointer (some ⟨bx1379, 0, none⟩)), (20, .int .i64 0), (102, .agg #[.int .i64 (bits .and .i64 p1 31), .int .i64 (IntKind.wrap .i64 ((bits .and .i64 p1 31) + (bits .and .i64 p2 15)))])]) rfl ⟨(load_box tab rfl rfl f128.now (k := 0) rfl rfl), trivial⟩ fun a hk => ?_
      refine x_op hk rfl ?_
      obtain ⟨t1503, hc1504, H⟩ := bindS H
      refine op_call hk ent_10 (vs := [.pointer (some ⟨bx135, 0, none⟩), .agg #[.int .i64 (bits .and .i64 p1 31), .int .i64 (IntKind.wrap .i64 ((bits .and .i64 p1 31) + (bits .and .i64 p2 15)))]]) rfl (spans_Set_In_calls K bx135 A158 c159 t152 (⟨(bits .and .i64 p1 31), (IntKind.wrap .i64 ((bits .and .i64 p1 31) + (bits .and .i64 p2 15)))⟩ : T27) _ o1399 307 f157 _ (f160.imp fun _ h_ => Own.rd h_) hc161 333  _ hc1504) ?_
      rintro _ w1505 ⟨o1506, A1508, c1509, rfl, st1507, f1510, hc1511⟩
      replace f10 := f10.st st1507 (by decide)
      replace f128 := f128.st st1507 (by decide)
      replace f1372 := f1372.st st1507 (by decide)
      replace f1401 := f1401.st st1507 (by decide)
      replace f1404 := f1404.st st1507 (by decide)
      replace f157 := f157.st st1507 (by decide)
      replace f160 := f160.st st1507 (by decide)
      replace hs := hs.loc0 st1507 (by decide)
      have hk := hk.put 103 (.slice A1508 (t1503).length c1509) rfl
      refine x_run tab hk (k := 2) (lv := []) (ks := [2, 7, 9, 11, 19, 20, 103, 104, 105]) (e' := [(2, .int .i64 (bits .and .i64 p2 15)), (7, .pointer (some ⟨bx9, 0, none⟩)), (9, .pointer (some ⟨bx127, 0, none⟩)), (11, .int .i64 x1374), (19, .pointer (some ⟨bx1379, 0, none⟩)), (20, .int .i64 0), (103, .slice A1508 (t1503).length c1509), (104, .int .i64 ((t1503).length : Int)), (105, .int .i64 0)]) rfl trivial fun a hk => ?_
      refine wpListIn_nil ?_
      refine then_n ?_
      refine wpIn_block ?_
      refine x_loop (fun j_ a_ w_ => ∃ o1526 : Nat → Nat, ∃ x1527 : Int, ∃ x1528 : Int, Kn 134 a_ [(2, .int .i64 (bits .and .i64 p2 15)), (7, .pointer (some ⟨bx9, 0, none⟩)), (9, .pointer (some ⟨bx127, 0, none⟩)), (11, .int .i64 x1374), (19, .pointer (some ⟨bx1379, 0, none⟩)), (20, .int .i64 x1527), (103, .slice A1508 (t1503).length c1509), (104, .int .i64 ((t1503).length : Int)), (105, .int .i64 x1528)] ∧ St [] w (fun _ => 0) w_ o1526 ∧ Ft (Bx bx9 42 [.int .i64 x1367, .int .i64 x1368, mv A1369]) w_ o1526 342 ∧ Ft (Bx bx127 28 [.int .i64 (bits .and .i64 p1 31), .int .i64 (IntKind.wrap .i64 ((bits .and .i64 p1 31) + (bits .and .i64 p2 15)))]) w_ o1526 343 ∧ MpN dT52 true A1369 l1371 w_ o1526 341 1 ∧ Ft (Bx bx1379 31 [.slice A1402 (t1396.l).length c1403]) w_ o1526 345 ∧ Ft (Own ET27 28 (.slice A1402 (t1396.l).length c1403) t1396.l) w_ o1526 344 ∧ Ft (Own ET27 28 (.slice A1508 (t1503).length c1509) t1503) w_ o1526 346 ∧ tidewracktop_TidewrackMissing_l4 K p1 p2 x1367 x1368 l1371 x1374 t1396 t1503 j_ x1527 x1528 = some r) (k := K) ⟨(fun b_ => (fun l_ => if l_ = 303 then 341 else if l_ = 304 then 342 else if l_ = 305 then 343 else if l_ = 308 then 345 else if l_ = 310 then 344 else if l_ = 333 then 346 else l_) (o1506 b_)), 0, 0, (by exact Kn.pick (ks := [2, 7, 9, 11, 19, 20, 103, 104, 105]) hk rfl), (hs.relab0 (fun l_ => if l_ = 303 then 341 else if l_ = 304 then 342 else if l_ = 305 then 343 else if l_ = 308 then 345 else if l_ = 310 then 344 else if l_ = 333 then 346 else l_) rfl), (f10.relab (fun l_ => if l_ = 303 then 341 else if l_ = 304 then 342 else if l_ = 305 then 343 else if l_ = 308 then 345 else if l_ = 310 then 344 else if l_ = 333 then 346 else l_) rfl), (f128.relab (fun l_ => if l_ = 303 then 341 else if l_ = 304 then 342 else if l_ = 305 then 343 else if l_ = 308 then 345 else if l_ = 310 then 344 else if l_ = 333 then 346 else l_) rfl), (f1372.relab (fun l_ => if l_ = 303 then 341 else if l_ = 304 then 342 else if l_ = 305 then 343 else if l_ = 308 then 345 else if l_ = 310 then 344 else if l_ = 333 then 346 else l_) rfl), (f1401.relab (fun l_ => if l_ = 303 then 341 else if l_ = 304 then 342 else if l_ = 305 then 343 else if l_ = 308 then 345 else if l_ = 310 then 344 else if l_ = 333 then 346 else l_) rfl), (f1404.relab (fun l_ => if l_ = 303 then 341 else if l_ = 304 then 342 else if l_ = 305 then 343 else if l_ = 308 then 345 else if l_ = 310 then 344 else if l_ = 333 then 346 else l_) rfl), (f1510.relab (fun l_ => if l_ = 303 then 341 else if l_ = 304 then 342 else if l_ = 305 then 343 else if l_ = 308 then 345 else if l_ = 310 then 344 else if l_ = 333 then 346 else l_) rfl), H⟩ (by rintro _ _ ⟨_, _, _, _, _, _, _, _, _, _, _, H_⟩; exact absurd (show (none : Option Bool) = some r from H_) (by simp)) ?_
      rintro k1541 a w1540 ⟨o1526, x1527, x1528, hk, hs, f10, f128, f1372, f1401, f1404, f1510, H⟩
      rw [tidewracktop_TidewrackMissing_l4] at H
      obtain ⟨lp1542, hlp1543⟩ : ∃ lp_, lp_ = tidewracktop_TidewrackMissing_l4 K p1 p2 x1367 x1368 l1371 x1374 t1396 t1503 k1541 := ⟨_, rfl⟩
      rw [← hlp1543] at H
      refine x_seq ?_
      refine wpIn_region_lit ?_
      refine x_run tab hk (k := 1) (lv := []) (ks := [2, 7, 9, 11, 19, 20, 103, 104, 105, 106]) (e' := [(2, .int .i64 (bits .and .i64 p2 15)), (7, .pointer (some ⟨bx9, 0, none⟩)), (9, .pointer (some ⟨bx127, 0, none⟩)), (11, .int .i64 x1374), (19, .pointer (some ⟨bx1379, 0, none⟩)), (20, .int .i64 x1527), (103, .slice A1508 (t1503).length c1509), (104, .int .i64 ((t1503).length : Int)), (105, .int .i64 x1528), (106, .bool (decide (x1528 < ((t1503).length : Int))))]) rfl trivial fun a hk => ?_
      refine wpListIn_nil ?_
      refine then_n ?_
      refine x_seq ?_
      cases b1544 : (decide (x1528 < ((t1503).length : Int)))
      · rw [b1544] at hk H
        replace H := bifF H
        refine x_if hk (b := false) rfl ?_
        refine (show Code.wpIn _ _ _ _ _ _ _ from ?_)
        refine wpIn_exit ?_
        refine then_x ?_
        refine then_x ?_
        refine blk_x ?_
        refine then_n ?_
        exact ⟨(fun b_ => (fun l_ => if l_ = 341 then 327 else if l_ = 342 then 328 else if l_ = 343 then 329 else if l_ = 344 then 330 else if l_ = 345 then 331 else l_) (o1526 b_)), x1527, (by exact Kn.pick (ks := [2, 7, 9, 11, 19, 20]) hk rfl), (hs.relab0 (fun l_ => if l_ = 341 then 327 else if l_ = 342 then 328 else if l_ = 343 then 329 else if l_ = 344 then 330 else if l_ = 345 then 331 else l_) rfl), (f10.relab (fun l_ => if l_ = 341 then 327 else if l_ = 342 then 328 else if l_ = 343 then 329 else if l_ = 344 then 330 else if l_ = 345 then 331 else l_) rfl), (f128.relab (fun l_ => if l_ = 341 then 327 else if l_ = 342 then 328 else if l_ = 343 then 329 else if l_ = 344 then 330 else if l_ = 345 then 331 else l_) rfl), (f1372.relab (fun l_ => if l_ = 341 then 327 else if l_ = 342 then 328 else if l_ = 343 then 329 else if l_ = 344 then 330 else if l_ = 345 then 331 else l_) rfl), (f1401.relab (fun l_ => if l_ = 341 then 327 else if l_ = 342 then 328 else if l_ = 343 then 329 else if l_ = 344 then 330 else if l_ = 345 then 331 else l_) rfl), (f1404.relab (fun l_ => if l_ = 341 then 327 else if l_ = 342 then 328 else if l_ = 343 then 329 else if l_ = 344 then 330 else if l_ = 345 then 331 else l_) rfl), H⟩
      · rw [b1544] at hk H
        replace H := bifT H
        refine x_if hk (b := true) rfl ?_
        refine (show Code.wpIn _ _ _ _ _ _ _ from ?_)
        refine wpIn_skip ?_
        refine then_n ?_
        refine x_seq ?_
        refine wpIn_block ?_
        refine x_seq ?_
        refine wpIn_region_lit ?_
        obtain ⟨q1545, H⟩ := ifS H
        obtain ⟨ad1546, hAad1546⟩ := RdC.addr (Own.rd f1510.now) q1545
        have hk_C := hk
        have f10_C := f10
        have f128_C := f128
        have f1372_C := f1372
        have f1401_C := f1401
        have f1404_C := f1404
        have f1510_C := f1510
        subst hAad1546
        have hk := hk_C
        clear hk_C
        have f10 := f10_C
        clear f10_C
        have f128 := f128_C
        clear f128_C
        have f1372 := f1372_C
        clear f1372_C
        have f1401 := f1401_C
        clear f1401_C
        have f1404 := f1404_C
        clear f1404_C
        have f1510 := f1510_C
        clear f1510_C
        refine x_run tab hk (k := 2) (lv := [.agg #[.int .i64 ((rdD zT27 t1503 x1528).From), .int .i64 ((rdD zT27 t1503 x1528).To)]]) (ks := [2, 7, 9, 11, 19, 20, 103, 104, 105, 108]) (e' := [(2, .int .i64 (bits .and .i64 p2 15)), (7, .pointer (some ⟨bx9, 0, none⟩)), (9, .pointer (some ⟨bx127, 0, none⟩)), (11, .int .i64 x1374), (19, .pointer (some ⟨bx1379, 0, none⟩)), (20, .int .i64 x1527), (103, .slice (some ad1546) (t1503).length c1509), (104, .int .i64 ((t1503).length : Int)), (105, .int .i64 x1528), (108, .agg #[.int .i64 ((rdD zT27 t1503 x1528).From), .int .i64 ((rdD zT27 t1503 x1528).To)])]) rfl ⟨q1545, (load_elem (E := ET27) (i := x1528) (dx := zT27) tab rfl rfl (Own.rd f1510.now) q1545), trivial⟩ fun a hk => ?_
        refine x_op hk rfl ?_
        refine op_alloc (o := o1526) tab (t := 28) (cs := [.int .i64 0, .int .i64 0]) rfl rfl 348 fun bx1550 w1547 o1548 st1549 f1551 => ?_
        replace f10 := f10.st st1549 (by decide)
        replace f128 := f128.st st1549 (by decide)
        replace f1372 := f1372.st st1549 (by decide)
        replace f1401 := f1401.st st1549 (by decide)
        replace f1404 := f1404.st st1549 (by decide)
        replace f1510 := f1510.st st1549 (by decide)
        replace hs := hs.loc0 st1549 (by decide)
        have hk := hk.put 22 (.pointer (some ⟨bx1550, 0, none⟩)) rfl
        refine x_op hk rfl ?_
        refine op_store tab hk (t := 28) (v := .agg #[.int .i64 ((rdD zT27 t1503 x1528).From), .int .i64 ((rdD zT27 t1503 x1528).To)]) (b := bx1550) (k := 0) (cs' := [.int .i64 ((rdD zT27 t1503 x1528).From), .int .i64 ((rdD zT27 t1503 x1528).To)]) rfl rfl rfl rfl rfl rfl f1551 rfl rfl fun w1552 o1553 st1554 f1551_ => ?_
        replace f10 := f10.st st1554 (by decide)
        replace f128 := f128.st st1554 (by decide)
        replace f1372 := f1372.st st1554 (by decide)
        replace f1401 := f1401.st st1554 (by decide)
        replace f1404 := f1404.st st1554 (by decide)
        replace f1510 := f1510.st st1554 (by decide)
        replace hs := hs.loc0 st1554 (by decide)
        replace f1551 := f1551_
        refine wpListIn_nil ?_
        refine then_n ?_
        refine wpIn_region_lit ?_
        refine x_run tab hk (k := 8) (lv := [.int .i64 ((rdD zT27 t1503 x1528).To), .int .i64 ((rdD zT27 t1503 x1528).From)]) (ks := [2, 7, 9, 11, 19, 20, 103, 104, 105]) (e' := [(2, .int .i64 (bits .and .i64 p2 15)), (7, .pointer (some ⟨bx9, 0, none⟩)), (9, .pointer (some ⟨bx127, 0, none⟩)), (11, .int .i64 x1374), (19, .pointer (some ⟨bx1379, 0, none⟩)), (20, .int .i64 (IntKind.wrap .i64 (x1527 + (IntKind.wrap .i64 (((rdD zT27 t1503 x1528).To) - ((rdD zT27 t1503 x1528).From)))))), (103, .slice (some ad1546) (t1503).length c1509), (104, .int .i64 ((t1503).length : Int)), (105, .int .i64 x1528)]) rfl ⟨(load1 tab rfl ((Bx.cell f1551.now 1).trans rfl)), (load1 tab rfl ((Bx.cell f1551.now 0).trans rfl)), trivial⟩ fun a hk => ?_
        refine wpListIn_nil ?_
        refine blk_n ?_
        refine then_n ?_
        refine wpIn_region_lit ?_
        refine x_run tab hk (k := 2) (lv := []) (ks := [2, 7, 9, 11, 19, 20, 103, 104, 105]) (e' := [(2, .int .i64 (bits .and .i64 p2 15)), (7, .pointer (some ⟨bx9, 0, none⟩)), (9, .pointer (some ⟨bx127, 0, none⟩)), (11, .int .i64 x1374), (19, .pointer (some ⟨bx1379, 0, none⟩)), (20, .int .i64 (IntKind.wrap .i64 (x1527 + (IntKind.wrap .i64 (((rdD zT27 t1503 x1528).To) - ((rdD zT27 t1503 x1528).From)))))), (103, .slice (some ad1546) (t1503).length c1509), (104, .int .i64 ((t1503).length : Int)), (105, .int .i64 (IntKind.wrap .i64 (x1528 + 1)))]) rfl trivial fun a hk => ?_
        refine wpListIn_nil ?_
        refine then_n ?_
        exact ⟨k1541, Nat.le_refl _, o1553, (IntKind.wrap .i64 (x1527 + (IntKind.wrap .i64 (((rdD zT27 t1503 x1528).To) - ((rdD zT27 t1503 x1528).From))))), (IntKind.wrap .i64 (x1528 + 1)), (by exact Kn.pick (ks := [2, 7, 9, 11, 19, 20, 103, 104, 105]) hk rfl), hs, f10, f128, f1372, f1401, f1404, f1510, (hlp1543 ▸ H)⟩
    refine x_seq ?_
    refine wpIn_region_lit ?_
    refine x_run tab hk (k := 1) (lv := [.agg #[.int .i64 (bits .and .i64 p1 31), .int .i64 (IntKind.wrap .i64 ((bits .and .i64 p1 31) + (bits .and .i64 p2 15)))]]) (ks := [1, 2, 7, 9, 10, 11, 55]) (e' := [(1, .int .i64 (bits .and .i64 p1 31)), (2, .int .i64 (bits .and .i64 p2 15)), (7, .pointer (some ⟨bx9, 0, none⟩)), (9, .pointer (some ⟨bx127, 0, none⟩)), (10, .pointer (some ⟨bx135, 0, none⟩)), (11, .int .i64 0), (55, .agg #[.int .i64 (bits .and .i64 p1 31), .int .i64 (IntKind.wrap .i64 ((bits .and .i64 p1 31) + (bits .and .i64 p2 15)))])]) rfl ⟨(load_box tab rfl rfl f128.now (k := 0) rfl rfl), trivial⟩ fun a hk => ?_
    refine x_op hk rfl ?_
    obtain ⟨t1558, hc1559, H⟩ := bindS H
    refine op_call hk ent_8 (vs := [.pointer (some ⟨bx135, 0, none⟩), .agg #[.int .i64 (bits .and .i64 p1 31), .int .i64 (IntKind.wrap .i64 ((bits .and .i64 p1 31) + (bits .and .i64 p2 15)))]]) rfl (spans_Set_Missing_calls K bx135 A158 c159 t152 (⟨(bits .and .i64 p1 31), (IntKind.wrap .i64 ((bits .and .i64 p1 31) + (bits .and .i64 p2 15)))⟩ : T27) _ o155 17 f157 _ (f160.imp fun _ h_ => Own.rd h_) hc161 349  _ hc1559) ?_
    rintro _ w1560 ⟨o1561, A1563, c1564, rfl, st1562, f1565, hc1566⟩
    replace f10 := f10.st st1562 (by decide)
    replace f121 := f121.st st1562 (by decide)
    replace f128 := f128.st st1562 (by decide)
    replace f157 := f157.st st1562 (by decide)
    replace f160 := f160.st st1562 (by decide)
    replace hs := hs.loc0 st1562 (by decide)
    have hk := hk.put 56 (.slice A1563 (t1558).length c1564) rfl
    refine x_run tab hk (k := 2) (lv := []) (ks := [1, 2, 7, 9, 10, 11, 56, 57, 58]) (e' := [(1, .int .i64 (bits .and .i64 p1 31)), (2, .int .i64 (bits .and .i64 p2 15)), (7, .pointer (some ⟨bx9, 0, none⟩)), (9, .pointer (some ⟨bx127, 0, none⟩)), (10, .pointer (some ⟨bx135, 0, none⟩)), (11, .int .i64 0), (56, .slice A1563 (t1558).length c1564), (57, .int .i64 ((t1558).length : Int)), (58, .int .i64 0)]) rfl trivial fun a hk => ?_
    refine wpListIn_nil ?_
    refine then_n ?_
    refine wpIn_block ?_
    refine x_loop (fun j_ a_ w_ => ∃ o1956 : Nat → Nat, ∃ x1957 : Int, ∃ x1958 : Int, ∃ A1959 : Option Addr, ∃ c1960 : Nat, ∃ l1961 : M T52, ∃ x1964 : Int, ∃ A1965 : Option Addr, ∃ c1966 : Nat, ∃ x1969 : Int, Kn 134 a_ [(1, .int .i64 (bits .and .i64 p1 31)), (2, .int .i64 (bits .and .i64 p2 15)), (7, .pointer (some ⟨bx9, 0, none⟩)), (9, .pointer (some ⟨bx127, 0, none⟩)), (10, .pointer (some ⟨bx135, 0, none⟩)), (11, .int .i64 x1964), (56, .slice A1965 (t1558).length c1966), (57, .int .i64 ((t1558).length : Int)), (58, .int .i64 x1969)] ∧ St [] w (fun _ => 0) w_ o1956 ∧ Ft (Bx bx9 42 [.int .i64 x1957, .int .i64 x1958, mv A1959]) w_ o1956 447 ∧ Ft (Bx bx127 28 [.int .i64 (bits .and .i64 p1 31), .int .i64 (IntKind.wrap .i64 ((bits .and .i64 p1 31) + (bits .and .i64 p2 15)))]) w_ o1956 448 ∧ Ft (Bx bx135 31 [.slice A158 (t152.l).length c159]) w_ o1956 450 ∧ Ft (Own ET27 28 (.slice A158 (t152.l).length c159) t152.l) w_ o1956 449 ∧ MpN dT52 true A1959 l1961 w_ o1956 446 1 ∧ Ft (Own ET27 28 (.slice A1965 (t1558).length c1966) t1558) w_ o1956 451 ∧ (l1961).length ≤ c1960 ∧ (t1558).length ≤ c1966 ∧ tidewracktop_TidewrackMissing_l5 K p1 p2 t152 t1558 j_ x1957 x1958 l1961 x1964 x1969 = some r) (k := K) ⟨(fun b_ => (fun l_ => if l_ = 14 then 446 else if l_ = 15 then 447 else if l_ = 16 then 448 else if l_ = 17 then 450 else if l_ = 19 then 449 else if l_ = 349 then 451 else l_) (o1561 b_)), x116, x117, A118, c119, l120, 0, A1563, c1564, 0, (by exact Kn.pick (ks := [1, 2, 7, 9, 10, 11, 56, 57, 58]) hk rfl), (hs.relab0 (fun l_ => if l_ = 14 then 446 else if l_ = 15 then 447 else if l_ = 16 then 448 else if l_ = 17 then 450 else if l_ = 19 then 449 else if l_ = 349 then 451 else l_) rfl), (f10.relab (fun l_ => if l_ = 14 then 446 else if l_ = 15 then 447 else if l_ = 16 then 448 else if l_ = 17 then 450 else if l_ = 19 then 449 else if l_ = 349 then 451 else l_) rfl), (f128.relab (fun l_ => if l_ = 14 then 446 else if l_ = 15 then 447 else if l_ = 16 then 448 else if l_ = 17 then 450 else if l_ = 19 then 449 else if l_ = 349 then 451 else l_) rfl), (f157.relab (fun l_ => if l_ = 14 then 446 else if l_ = 15 then 447 else if l_ = 16 then 448 else if l_ = 17 then 450 else if l_ = 19 then 449 else if l_ = 349 then 451 else l_) rfl), (f160.relab (fun l_ => if l_ = 14 then 446 else if l_ = 15 then 447 else if l_ = 16 then 448 else if l_ = 17 then 450 else if l_ = 19 then 449 else if l_ = 349 then 451 else l_) rfl), (f121.relab (fun l_ => if l_ = 14 then 446 else if l_ = 15 then 447 else if l_ = 16 then 448 else if l_ = 17 then 450 else if l_ = 19 then 449 else if l_ = 349 then 451 else l_) rfl), (f1565.relab (fun l_ => if l_ = 14 then 446 else if l_ = 15 then 447 else if l_ = 16 then 448 else if l_ = 17 then 450 else if l_ = 19 then 449 else if l_ = 349 then 451 else l_) rfl), hc122, hc1566, H⟩ (by rintro _ _ ⟨_, _, _, _, _, _, _, _, _, _, _, _, _, _, _, _, _, _, _, _, H_⟩; exact absurd (show (none : Option Bool) = some r from H_) (by simp)) ?_
    rintro k2357 a w2356 ⟨o1956, x1957, x1958, A1959, c1960, l1961, x1964, A1965, c1966, x1969, hk, hs, f10, f128, f157, f160, f1962, f1967, hc1963, hc1968, H⟩
    rw [tidewracktop_TidewrackMissing_l5] at H
    obtain ⟨lp2358, hlp2359⟩ : ∃ lp_, lp_ = tidewracktop_TidewrackMissing_l5 K p1 p2 t152 t1558 k2357 := ⟨_, rfl⟩
    rw [← hlp2359] at H
    refine x_seq ?_
    refine wpIn_region_lit ?_
    refine x_run tab hk (k := 1) (lv := []) (ks := [1, 2, 7, 9, 10, 11, 56, 57, 58, 59]) (e' := [(1, .int .i64 (bits .and .i64 p1 31)), (2, .int .i64 (bits .and .i64 p2 15)), (7, .pointer (some ⟨bx9, 0, none⟩)), (9, .pointer (some ⟨bx127, 0, none⟩)), (10, .pointer (some ⟨bx135, 0, none⟩)), (11, .int .i64 x1964), (56, .slice A1965 (t1558).length c1966), (57, .int .i64 ((t1558).length : Int)), (58, .int .i64 x1969), (59, .bool (decide (x1969 < ((t1558).length : Int))))]) rfl trivial fun a hk => ?_
    refine wpListIn_nil ?_
    refine then_n ?_
    refine x_seq ?_
    cases b2360 : (decide (x1969 < ((t1558).length : Int)))
    · rw [b2360] at hk H
      replace H := bifF H
      refine x_if hk (b := false) rfl ?_
      refine (show Code.wpIn _ _ _ _ _ _ _ from ?_)
      refine wpIn_exit ?_
      refine then_x ?_
      refine then_x ?_
      refine blk_x ?_
      refine then_n ?_
      exact ⟨(fun b_ => (fun l_ => if l_ = 446 then 303 else if l_ = 447 then 304 else if l_ = 448 then 305 else if l_ = 449 then 306 else if l_ = 450 then 307 else l_) (o1956 b_)), x1957, x1958, A1959, c1960, l1961, x1964, (by exact Kn.pick (ks := [2, 7, 9, 10, 11]) hk rfl), (hs.relab0 (fun l_ => if l_ = 446 then 303 else if l_ = 447 then 304 else if l_ = 448 then 305 else if l_ = 449 then 306 else if l_ = 450 then 307 else l_) rfl), (f10.relab (fun l_ => if l_ = 446 then 303 else if l_ = 447 then 304 else if l_ = 448 then 305 else if l_ = 449 then 306 else if l_ = 450 then 307 else l_) rfl), (f128.relab (fun l_ => if l_ = 446 then 303 else if l_ = 447 then 304 else if l_ = 448 then 305 else if l_ = 449 then 306 else if l_ = 450 then 307 else l_) rfl), (f1962.relab (fun l_ => if l_ = 446 then 303 else if l_ = 447 then 304 else if l_ = 448 then 305 else if l_ = 449 then 306 else if l_ = 450 then 307 else l_) rfl), (f157.relab (fun l_ => if l_ = 446 then 303 else if l_ = 447 then 304 else if l_ = 448 then 305 else if l_ = 449 then 306 else if l_ = 450 then 307 else l_) rfl), (f160.relab (fun l_ => if l_ = 446 then 303 else if l_ = 447 then 304 else if l_ = 448 then 305 else if l_ = 449 then 306 else if l_ = 450 then 307 else l_) rfl), hc1963, H⟩
    · rw [b2360] at hk H
      replace H := bifT H
      refine x_if hk (b := true) rfl ?_
      refine (show Code.wpIn _ _ _ _ _ _ _ from ?_)
      refine wpIn_skip ?_
      refine then_n ?_
      refine x_mid (fun a_ w_ => ∃ o2555 : Nat → Nat, ∃ x2556 : Int, ∃ x2557 : Int, ∃ A2558 : Option Addr, ∃ c2559 : Nat, ∃ l2560 : M T52, ∃ x2563 : Int, ∃ A2564 : Option Addr, ∃ c2565 : Nat, Kn 134 a_ [(1, .int .i64 (bits .and .i64 p1 31)), (2, .int .i64 (bits .and .i64 p2 15)), (7, .pointer (some ⟨bx9, 0, none⟩)), (9, .pointer (some ⟨bx127, 0, none⟩)), (10, .pointer (some ⟨bx135, 0, none⟩)), (11, .int .i64 x2563), (56, .slice A2564 (t1558).length c2565), (57, .int .i64 ((t1558).length : Int)), (58, .int .i64 x1969)] ∧ St [] w (fun _ => 0) w_ o2555 ∧ Ft (Bx bx9 42 [.int .i64 x2556, .int .i64 x2557, mv A2558]) w_ o2555 585 ∧ Ft (Bx bx127 28 [.int .i64 (bits .and .i64 p1 31), .int .i64 (IntKind.wrap .i64 ((bits .and .i64 p1 31) + (bits .and .i64 p2 15)))]) w_ o2555 586 ∧ Ft (Bx bx135 31 [.slice A158 (t152.l).length c159]) w_ o2555 588 ∧ Ft (Own ET27 28 (.slice A158 (t152.l).length c159) t152.l) w_ o2555 587 ∧ MpN dT52 true A2558 l2560 w_ o2555 584 1 ∧ Ft (Own ET27 28 (.slice A2564 (t1558).length c2565) t1558) w_ o2555 589 ∧ (l2560).length ≤ c2559 ∧ (t1558).length ≤ c2565 ∧ tidewracktop_TidewrackMissing_j6 x1969 lp2358 x2556 x2557 l2560 x2563 = some r) ?_ ?_
      rotate_left
      · rintro a w2568 ⟨o2555, x2556, x2557, A2558, c2559, l2560, x2563, A2564, c2565, hk, hs, f10, f128, f157, f160, f2561, f2566, hc2562, hc2567, H⟩
        rw [tidewracktop_TidewrackMissing_j6] at H
        refine wpIn_region_lit ?_
        refine x_run tab hk (k := 2) (lv := []) (ks := [1, 2, 7, 9, 10, 11, 56, 57, 58]) (e' := [(1, .int .i64 (bits .and .i64 p1 31)), (2, .int .i64 (bits .and .i64 p2 15)), (7, .pointer (some ⟨bx9, 0, none⟩)), (9, .pointer (some ⟨bx127, 0, none⟩)), (10, .pointer (some ⟨bx135, 0, none⟩)), (11, .int .i64 x2563), (56, .slice A2564 (t1558).length c2565), (57, .int .i64 ((t1558).length : Int)), (58, .int .i64 (IntKind.wrap .i64 (x1969 + 1)))]) rfl trivial fun a hk => ?_
        refine wpListIn_nil ?_
        refine then_n ?_
        exact ⟨k2357, Nat.le_refl _, (fun b_ => (fun l_ => if l_ = 584 then 446 else if l_ = 585 then 447 else if l_ = 586 then 448 else if l_ = 587 then 449 else if l_ = 588 then 450 else if l_ = 589 then 451 else l_) (o2555 b_)), x2556, x2557, A2558, c2559, l2560, x2563, A2564, c2565, (IntKind.wrap .i64 (x1969 + 1)), (by exact Kn.pick (ks := [1, 2, 7, 9, 10, 11, 56, 57, 58]) hk rfl), (hs.relab0 (fun l_ => if l_ = 584 then 446 else if l_ = 585 then 447 else if l_ = 586 then 448 else if l_ = 587 then 449 else if l_ = 588 then 450 else if l_ = 589 then 451 else l_) rfl), (f10.relab (fun l_ => if l_ = 584 then 446 else if l_ = 585 then 447 else if l_ = 586 then 448 else if l_ = 587 then 449 else if l_ = 588 then 450 else if l_ = 589 then 451 else l_) rfl), (f128.relab (fun l_ => if l_ = 584 then 446 else if l_ = 585 then 447 else if l_ = 586 then 448 else if l_ = 587 then 449 else if l_ = 588 then 450 else if l_ = 589 then 451 else l_) rfl), (f157.relab (fun l_ => if l_ = 584 then 446 else if l_ = 585 then 447 else if l_ = 586 then 448 else if l_ = 587 then 449 else if l_ = 588 then 450 else if l_ = 589 then 451 else l_) rfl), (f160.relab (fun l_ => if l_ = 584 then 446 else if l_ = 585 then 447 else if l_ = 586 then 448 else if l_ = 587 then 449 else if l_ = 588 then 450 else if l_ = 589 then 451 else l_) rfl), (f2561.relab (fun l_ => if l_ = 584 then 446 else if l_ = 585 then 447 else if l_ = 586 then 448 else if l_ = 587 then 449 else if l_ = 588 then 450 else if l_ = 589 then 451 else l_) rfl), (f2566.relab (fun l_ => if l_ = 584 then 446 else if l_ = 585 then 447 else if l_ = 586 then 448 else if l_ = 587 then 449 else if l_ = 588 then 450 else if l_ = 589 then 451 else l_) rfl), hc2562, hc2567, (hlp2359 ▸ H)⟩
      refine wpIn_block ?_
      refine x_seq ?_
      refine wpIn_region_lit ?_
      obtain ⟨q2569, H⟩ := ifS H
      obtain ⟨ad2570, hAad2570⟩ := RdC.addr (Own.rd f1967.now) q2569
      have hk_C := hk
      have f10_C := f10
      have f128_C := f128
      have f157_C := f157
      have f160_C := f160
      have f1962_C := f1962
      have f1967_C := f1967
      subst hAad2570
      have hk := hk_C
      clear hk_C
      have f10 := f10_C
      clear f10_C
      have f128 := f128_C
      clear f128_C
      have f157 := f157_C
      clear f157_C
      have f160 := f160_C
      clear f160_C
      have f1962 := f1962_C
      clear f1962_C
      have f1967 := f1967_C
      clear f1967_C
      refine x_run tab hk (k := 2) (lv := [.agg #[.int .i64 ((rdD zT27 t1558 x1969).From), .int .i64 ((rdD zT27 t1558 x1969).To)]]) (ks := [1, 2, 7, 9, 10, 11, 56, 57, 58, 61]) (e' := [(1, .int .i64 (bits .and .i64 p1 31)), (2, .int .i64 (bits .and .i64 p2 15)), (7, .pointer (some ⟨bx9, 0, none⟩)), (9, .pointer (some ⟨bx127, 0, none⟩)), (10, .pointer (some ⟨bx135, 0, none⟩)), (11, .int .i64 x1964), (56, .slice (some ad2570) (t1558).length c1966), (57, .int .i64 ((t1558).length : Int)), (58, .int .i64 x1969), (61, .agg #[.int .i64 ((rdD zT27 t1558 x1969).From), .int .i64 ((rdD zT27 t1558 x1969).To)])]) rfl ⟨q2569, (load_elem (E := ET27) (i := x1969) (dx := zT27) tab rfl rfl (Own.rd f1967.now) q2569), trivial⟩ fun a hk => ?_
      refine x_op hk rfl ?_
      refine op_alloc (o := o1956) tab (t := 28) (cs := [.int .i64 0, .int .i64 0]) rfl rfl 590 fun bx2574 w2571 o2572 st2573 f2575 => ?_
      replace f10 := f10.st st2573 (by decide)
      replace f128 := f128.st st2573 (by decide)
      replace f157 := f157.st st2573 (by decide)
      replace f160 := f160.st st2573 (by decide)
      replace f1962 := f1962.st st2573 (by decide)
      replace f1967 := f1967.st st2573 (by decide)
      replace hs := hs.loc0 st2573 (by decide)
      have hk := hk.put 13 (.pointer (some ⟨bx2574, 0, none⟩)) rfl
      refine x_op hk rfl ?_
      refine op_store tab hk (t := 28) (v := .agg #[.int .i64 ((rdD zT27 t1558 x1969).From), .int .i64 ((rdD zT27 t1558 x1969).To)]) (b := bx2574) (k := 0) (cs' := [.int .i64 ((rdD zT27 t1558 x1969).From), .int .i64 ((rdD zT27 t1558 x1969).To)]) rfl rfl rfl rfl rfl rfl f2575 rfl rfl fun w2576 o2577 st2578 f2575_ => ?_
      replace f10 := f10.st st2578 (by decide)
      replace f128 := f128.st st2578 (by decide)
      replace f157 := f157.st st2578 (by decide)
      replace f160 := f160.st st2578 (by decide)
      replace f1962 := f1962.st st2578 (by decide)
      replace f1967 := f1967.st st2578 (by decide)
      replace hs := hs.loc0 st2578 (by decide)
      replace f2575 := f2575_
      refine wpListIn_nil ?_
      refine then_n ?_
      refine x_seq ?_
      refine wpIn_region_lit ?_
      refine x_run tab hk (k := 3) (lv := [.int .i64 ((rdD zT27 t1558 x1969).From)]) (ks := [1, 2, 7, 9, 10, 11, 13, 14, 56, 57, 58]) (e' := [(1, .int .i64 (bits .and .i64 p1 31)), (2, .int .i64 (bits .and .i64 p2 15)), (7, .pointer (some ⟨bx9, 0, none⟩)), (9, .pointer (some ⟨bx127, 0, none⟩)), (10, .pointer (some ⟨bx135, 0, none⟩)), (11, .int .i64 x1964), (13, .pointer (some ⟨bx2574, 0, none⟩)), (14, .int .i64 ((rdD zT27 t1558 x1969).From)), (56, .slice (some ad2570) (t1558).length c1966), (57, .int .i64 ((t1558).length : Int)), (58, .int .i64 x1969)]) rfl ⟨(load1 tab rfl ((Bx.cell f2575.now 0).trans rfl)), trivial⟩ fun a hk => ?_
      refine wpListIn_nil ?_
      refine then_n ?_
      refine wpIn_block ?_
      refine x_loop (fun j_ a_ w_ => ∃ o2632 : Nat → Nat, ∃ x2633 : Int, ∃ x2634 : Int, ∃ A2635 : Option Addr, ∃ c2636 : Nat, ∃ l2637 : M T52, ∃ x2640 : Int, ∃ x2641 : Int, Kn 134 a_ [(1, .int .i64 (bits .and .i64 p1 31)), (2, .int .i64 (bits .and .i64 p2 15)), (7, .pointer (some ⟨bx9, 0, none⟩)), (9, .pointer (some ⟨bx127, 0, none⟩)), (10, .pointer (some ⟨bx135, 0, none⟩)), (11, .int .i64 x2640), (13, .pointer (some ⟨bx2574, 0, none⟩)), (14, .int .i64 x2641), (56, .slice (some ad2570) (t1558).length c1966), (57, .int .i64 ((t1558).length : Int)), (58, .int .i64 x1969)] ∧ St [] w (fun _ => 0) w_ o2632 ∧ Ft (Bx bx9 42 [.int .i64 x2633, .int .i64 x2634, mv A2635]) w_ o2632 608 ∧ Ft (Bx bx127 28 [.int .i64 (bits .and .i64 p1 31), .int .i64 (IntKind.wrap .i64 ((bits .and .i64 p1 31) + (bits .and .i64 p2 15)))]) w_ o2632 609 ∧ Ft (Bx bx135 31 [.slice A158 (t152.l).length c159]) w_ o2632 611 ∧ Ft (Own ET27 28 (.slice A158 (t152.l).length c159) t152.l) w_ o2632 610 ∧ Ft (Own ET27 28 (.slice (some ad2570) (t1558).length c1966) t1558) w_ o2632 613 ∧ Ft (Bx bx2574 28 [.int .i64 ((rdD zT27 t1558 x1969).From), .int .i64 ((rdD zT27 t1558 x1969).To)]) w_ o2632 612 ∧ MpN dT52 true A2635 l2637 w_ o2632 607 1 ∧ (l2637).length ≤ c2636 ∧ tidewracktop_TidewrackMissing_l7 K p1 p2 t1558 x1969 lp2358 j_ x2633 x2634 l2637 x2640 x2641 = some r) (k := K) ⟨(fun b_ => (fun l_ => if l_ = 446 then 607 else if l_ = 447 then 608 else if l_ = 448 then 609 else if l_ = 449 then 610 else if l_ = 450 then 611 else if l_ = 451 then 613 else if l_ = 590 then 612 else l_) (o2577 b_)), x1957, x1958, A1959, c1960, l1961, x1964, (rdD zT27 t1558 x1969).From, (by exact Kn.pick (ks := [1, 2, 7, 9, 10, 11, 13, 14, 56, 57, 58]) hk rfl), (hs.relab0 (fun l_ => if l_ = 446 then 607 else if l_ = 447 then 608 else if l_ = 448 then 609 else if l_ = 449 then 610 else if l_ = 450 then 611 else if l_ = 451 then 613 else if l_ = 590 then 612 else l_) rfl), (f10.relab (fun l_ => if l_ = 446 then 607 else if l_ = 447 then 608 else if l_ = 448 then 609 else if l_ = 449 then 610 else if l_ = 450 then 611 else if l_ = 451 then 613 else if l_ = 590 then 612 else l_) rfl), (f128.relab (fun l_ => if l_ = 446 then 607 else if l_ = 447 then 608 else if l_ = 448 then 609 else if l_ = 449 then 610 else if l_ = 450 then 611 else if l_ = 451 then 613 else if l_ = 590 then 612 else l_) rfl), (f157.relab (fun l_ => if l_ = 446 then 607 else if l_ = 447 then 608 else if l_ = 448 then 609 else if l_ = 449 then 610 else if l_ = 450 then 611 else if l_ = 451 then 613 else if l_ = 590 then 612 else l_) rfl), (f160.relab (fun l_ => if l_ = 446 then 607 else if l_ = 447 then 608 else if l_ = 448 then 609 else if l_ = 449 then 610 else if l_ = 450 then 611 else if l_ = 451 then 613 else if l_ = 590 then 612 else l_) rfl), (f1967.relab (fun l_ => if l_ = 446 then 607 else if l_ = 447 then 608 else if l_ = 448 then 609 else if l_ = 449 then 610 else if l_ = 450 then 611 else if l_ = 451 then 613 else if l_ = 590 then 612 else l_) rfl), (f2575.relab (fun l_ => if l_ = 446 then 607 else if l_ = 447 then 608 else if l_ = 448 then 609 else if l_ = 449 then 610 else if l_ = 450 then 611 else if l_ = 451 then 613 else if l_ = 590 then 612 else l_) rfl), (f1962.relab (fun l_ => if l_ = 446 then 607 else if l_ = 447 then 608 else if l_ = 448 then 609 else if l_ = 449 then 610 else if l_ = 450 then 611 else if l_ = 451 then 613 else if l_ = 590 then 612 else l_) rfl), hc1963, H⟩ (by rintro _ _ ⟨_, _, _, _, _, _, _, _, _, _, _, _, _, _, _, _, _, _, H_⟩; exact absurd (show (none : Option Bool) = some r from H_) (by simp)) ?_
      rintro k2693 a w2692 ⟨o2632, x2633, x2634, A2635, c2636, l2637, x2640, x2641, hk, hs, f10, f128, f157, f160, f1967, f2575, f2638, hc2639, H⟩
      rw [tidewracktop_TidewrackMissing_l7] at H
      obtain ⟨lp2694, hlp2695⟩ : ∃ lp_, lp_ = tidewracktop_TidewrackMissing_l7 K p1 p2 t1558 x1969 lp2358 k2693 := ⟨_, rfl⟩
      rw [← hlp2695] at H
      refine x_seq ?_
      refine x_seq ?_
      refine wpIn_region_lit ?_
      refine x_run tab hk (k := 4) (lv := [.int .i64 ((rdD zT27 t1558 x1969).To)]) (ks := [1, 2, 7, 9, 10, 11, 13, 14, 56, 57, 58, 67]) (e' := [(1, .int .i64 (bits .and .i64 p1 31)), (2, .int .i64 (bits .and .i64 p2 15)), (7, .pointer (some ⟨bx9, 0, none⟩)), (9, .pointer (some ⟨bx127, 0, none⟩)), (10, .pointer (some ⟨bx135, 0, none⟩)), (11, .int .i64 x2640), (13, .pointer (some ⟨bx2574, 0, none⟩)), (14, .int .i64 x2641), (56, .slice (some ad2570) (t1558).length c1966), (57, .int .i64 ((t1558).length : Int)), (58, .int .i64 x1969), (67, .bool (decide (x2641 < ((rdD zT27 t1558 x1969).To))))]) rfl ⟨(load1 tab rfl ((Bx.cell f2575.now 1).trans rfl)), trivial⟩ fun a hk => ?_
      refine wpListIn_nil ?_
      refine then_n ?_
      cases b2696 : (decide (x2641 < ((rdD zT27 t1558 x1969).To)))
      · rw [b2696] at hk H
        replace H := bifF H
        refine x_if hk (b := false) rfl ?_
        refine (show Code.wpIn _ _ _ _ _ _ _ from ?_)
        refine wpIn_exit ?_
        refine then_x ?_
        refine then_x ?_
        refine blk_x ?_
        refine blk_n ?_
        refine then_n ?_
        exact ⟨(fun b_ => (fun l_ => if l_ = 607 then 584 else if l_ = 608 then 585 else if l_ = 609 then 586 else if l_ = 610 then 587 else if l_ = 611 then 588 else if l_ = 613 then 589 else l_) (o2632 b_)), x2633, x2634, A2635, c2636, l2637, x2640, (some ad2570), c1966, (by exact Kn.pick (ks := [1, 2, 7, 9, 10, 11, 56, 57, 58]) hk rfl), (hs.relab0 (fun l_ => if l_ = 607 then 584 else if l_ = 608 then 585 else if l_ = 609 then 586 else if l_ = 610 then 587 else if l_ = 611 then 588 else if l_ = 613 then 589 else l_) rfl), (f10.relab (fun l_ => if l_ = 607 then 584 else if l_ = 608 then 585 else if l_ = 609 then 586 else if l_ = 610 then 587 else if l_ = 611 then 588 else if l_ = 613 then 589 else l_) rfl), (f128.relab (fun l_ => if l_ = 607 then 584 else if l_ = 608 then 585 else if l_ = 609 then 586 else if l_ = 610 then 587 else if l_ = 611 then 588 else if l_ = 613 then 589 else l_) rfl), (f157.relab (fun l_ => if l_ = 607 then 584 else if l_ = 608 then 585 else if l_ = 609 then 586 else if l_ = 610 then 587 else if l_ = 611 then 588 else if l_ = 613 then 589 else l_) rfl), (f160.relab (fun l_ => if l_ = 607 then 584 else if l_ = 608 then 585 else if l_ = 609 then 586 else if l_ = 610 then 587 else if l_ = 611 then 588 else if l_ = 613 then 589 else l_) rfl), (f2638.relab (fun l_ => if l_ = 607 then 584 else if l_ = 608 then 585 else if l_ = 609 then 586 else if l_ = 610 then 587 else if l_ = 611 then 588 else if l_ = 613 then 589 else l_) rfl), (f1967.relab (fun l_ => if l_ = 607 then 584 else if l_ = 608 then 585 else if l_ = 609 then 586 else if l_ = 610 then 587 else if l_ = 611 then 588 else if l_ = 613 then 589 else l_) rfl), hc2639, hc1968, H⟩
      · rw [b2696] at hk H
        replace H := bifT H
        refine x_if hk (b := true) rfl ?_
        refine (show Code.wpIn _ _ _ _ _ _ _ from ?_)
        refine wpIn_skip ?_
        refine then_n ?_
        refine x_seq ?_
        refine wpIn_block ?_
        refine x_mid (fun a_ w_ => ∃ o2715 : Nat → Nat, Kn 134 a_ [(1, .int .i64 (bits .and .i64 p1 31)), (2, .int .i64 (bits .and .i64 p2 15)), (7, .pointer (some ⟨bx9, 0, none⟩)), (9, .pointer (some ⟨bx127, 0, none⟩)), (10, .pointer (some ⟨bx135, 0, none⟩)), (11, .int .i64 x2640), (13, .pointer (some ⟨bx2574, 0, none⟩)), (14, .int .i64 x2641), (56, .slice (some ad2570) (t1558).length c1966), (57, .int .i64 ((t1558).length : Int)), (58, .int .i64 x1969)] ∧ St [] w (fun _ => 0) w_ o2715 ∧ Ft (Bx bx9 42 [.int .i64 x2633, .int .i64 x2634, mv A2635]) w_ o2715 625 ∧ Ft (Bx bx127 28 [.int .i64 (bits .and .i64 p1 31), .int .i64 (IntKind.wrap .i64 ((bits .and .i64 p1 31) + (bits .and .i64 p2 15)))]) w_ o2715 626 ∧ Ft (Bx bx135 31 [.slice A158 (t152.l).length c159]) w_ o2715 628 ∧ Ft (Own ET27 28 (.slice A158 (t152.l).length c159) t152.l) w_ o2715 627 ∧ Ft (Own ET27 28 (.slice (some ad2570) (t1558).length c1966) t1558) w_ o2715 630 ∧ Ft (Bx bx2574 28 [.int .i64 ((rdD zT27 t1558 x1969).From), .int .i64 ((rdD zT27 t1558 x1969).To)]) w_ o2715 629 ∧ MpN dT52 true A2635 l2637 w_ o2715 624 1 ∧ tidewracktop_TidewrackMissing_j8 K x2633 x2634 l2637 x2640 x2641 lp2694 = some r) ?_ ?_
        rotate_left
        · rintro a w2716 ⟨o2715, hk, hs, f10, f128, f157, f160, f1967, f2575, f2638, H⟩
          rw [tidewracktop_TidewrackMissing_j8] at H
          refine x_seq ?_
          refine x_seq ?_
          refine wpIn_region_lit ?_
          refine x_run tab hk (k := 2) (lv := []) (ks := [1, 2, 7, 9, 10, 11, 13, 14, 56, 57, 58, 90, 91]) (e' := [(1, .int .i64 (bits .and .i64 p1 31)), (2, .int .i64 (bits .and .i64 p2 15)), (7, .pointer (some ⟨bx9, 0, none⟩)), (9, .pointer (some ⟨bx127, 0, none⟩)), (10, .pointer (some ⟨bx135, 0, none⟩)), (11, .int .i64 x2640), (13, .pointer (some ⟨bx2574, 0, none⟩)), (14, .int .i64 x2641), (56, .slice (some ad2570) (t1558).length c1966), (57, .int .i64 ((t1558).length : Int)), (58, .int .i64 x1969), (90, .pointer (some ⟨bx9, 0, none⟩)), (91, .int .i64 x2641)]) rfl trivial fun a hk => ?_
          refine x_op hk rfl ?_
          obtain ⟨t2720, hc2721, H⟩ := bindS H
          refine op_call hk ent_5 (vs := [.pointer (some ⟨bx9, 0, none⟩), .int .i64 x2641, .slice none 0 0]) rfl (cache_Cache_Put_calls K bx9 A2635 c2636 (⟨x2633, x2634, l2637⟩ : T41) x2641 none 0 ([] : List T45) _ o2715 1 625 f10 624 f2638 hc2639 _ (Ft.of_all (fun _ h_ => absurd h_ (by simp)) _ _ 0) (by simp) (by decide) (by decide)   _ hc2721) ?_
          rintro _ w2722 ⟨o2723, A2726, c2727, rfl, st2724, f2725, f2728, hc2729⟩
          replace f128 := f128.st st2724 (by decide)
          replace f157 := f157.st st2724 (by decide)
          replace f160 := f160.st st2724 (by decide)
          replace f1967 := f1967.st st2724 (by decide)
          replace f2575 := f2575.st st2724 (by decide)
          replace hs := hs.loc0 st2724 (by decide)
          have hk := hk.put 92 (.tuple #[.int .i64 t2720.1, .bool t2720.2.1]) rfl
          refine x_run tab hk (k := 5) (lv := []) (ks := [1, 2, 7, 9, 10, 11, 13, 14, 18, 56, 57, 58]) (e' := [(1, .int .i64 (bits .and .i64 p1 31)), (2, .int .i64 (bits .and .i64 p2 15)), (7, .pointer (some ⟨bx9, 0, none⟩)), (9, .pointer (some ⟨bx127, 0, none⟩)), (10, .pointer (some ⟨bx135, 0, none⟩)), (11, .int .i64 x2640), (13, .pointer (some ⟨bx2574, 0, none⟩)), (14, .int .i64 x2641), (18, .bool t2720.2.1), (56, .slice (some ad2570) (t1558).length c1966), (57, .int .i64 ((t1558).length : Int)), (58, .int .i64 x1969)]) rfl trivial fun a hk => ?_
          refine wpListIn_nil ?_
          refine then_n ?_
          refine x_seq ?_
          refine wpIn_region_lit ?_
          refine x_run tab hk (k := 1) (lv := []) (ks := [1, 2, 7, 9, 10, 11, 13, 14, 56, 57, 58, 95]) (e' := [(1, .int .i64 (bits .and .i64 p1 31)), (2, .int .i64 (bits .and .i64 p2 15)), (7, .pointer (some ⟨bx9, 0, none⟩)), (9, .pointer (some ⟨bx127, 0, none⟩)), (10, .pointer (some ⟨bx135, 0, none⟩)), (11, .int .i64 x2640), (13, .pointer (some ⟨bx2574, 0, none⟩)), (14, .int .i64 x2641), (56, .slice (some ad2570) (t1558).length c1966), (57, .int .i64 ((t1558).length : Int)), (58, .int .i64 x1969), (95, .bool t2720.2.1)]) rfl trivial fun a hk => ?_
          refine wpListIn_nil ?_
          refine then_n ?_
          cases b2730 : t2720.2.1
          · rw [b2730] at hk H
            replace H := bifF H
            refine x_if hk (b := false) rfl ?_
            refine (show Code.wpIn _ _ _ _ _ _ _ from ?_)
            refine wpIn_skip ?_
            refine then_n ?_
            refine wpIn_region_lit ?_
            refine x_run tab hk (k := 3) (lv := []) (ks := [1, 2, 7, 9, 10, 11, 13, 14, 56, 57, 58]) (e' := [(1, .int .i64 (bits .and .i64 p1 31)), (2, .int .i64 (bits .and .i64 p2 15)), (7, .pointer (some ⟨bx9, 0, none⟩)), (9, .pointer (some ⟨bx127, 0, none⟩)), (10, .pointer (some ⟨bx135, 0, none⟩)), (11, .int .i64 (IntKind.wrap .i64 (x2640 + 1))), (13, .pointer (some ⟨bx2574, 0, none⟩)), (14, .int .i64 x2641), (56, .slice (some ad2570) (t1558).length c1966), (57, .int .i64 ((t1558).length : Int)), (58, .int .i64 x1969)]) rfl trivial fun a hk => ?_
            refine wpListIn_nil ?_
            refine blk_n ?_
            refine then_n ?_
            refine wpIn_region_lit ?_
            refine x_run tab hk (k := 3) (lv := []) (ks := [1, 2, 7, 9, 10, 11, 13, 14, 56, 57, 58]) (e' := [(1, .int .i64 (bits .and .i64 p1 31)), (2, .int .i64 (bits .and .i64 p2 15)), (7, .pointer (some ⟨bx9, 0, none⟩)), (9, .pointer (some ⟨bx127, 0, none⟩)), (10, .pointer (some ⟨bx135, 0, none⟩)), (11, .int .i64 (IntKind.wrap .i64 (x2640 + 1))), (13, .pointer (some ⟨bx2574, 0, none⟩)), (14, .int .i64 (IntKind.wrap .i64 (x2641 + 1))), (56, .slice (some ad2570) (t1558).length c1966), (57, .int .i64 ((t1558).length : Int)), (58, .int .i64 x1969)]) rfl trivial fun a hk => ?_
            refine wpListIn_nil ?_
            refine then_n ?_
            exact ⟨k2693, Nat.le_refl _, (fun b_ => (fun l_ => if l_ = 624 then 607 else if l_ = 625 then 608 else if l_ = 626 then 609 else if l_ = 627 then 610 else if l_ = 628 then 611 else if l_ = 629 then 612 else if l_ = 630 then 613 else l_) (o2723 b_)), t2720.2.2.most, t2720.2.2.now, A2726, c2727, t2720.2.2.l, (IntKind.wrap .i64 (x2640 + 1)), (IntKind.wrap .i64 (x2641 + 1)), (by exact Kn.pick (ks := [1, 2, 7, 9, 10, 11, 13, 14, 56, 57, 58]) hk rfl), (hs.relab0 (fun l_ => if l_ = 624 then 607 else if l_ = 625 then 608 else if l_ = 626 then 609 else if l_ = 627 then 610 else if l_ = 628 then 611 else if l_ = 629 then 612 else if l_ = 630 then 613 else l_) rfl), (f2725.relab (fun l_ => if l_ = 624 then 607 else if l_ = 625 then 608 else if l_ = 626 then 609 else if l_ = 627 then 610 else if l_ = 628 then 611 else if l_ = 629 then 612 else if l_ = 630 then 613 else l_) rfl), (f128.relab (fun l_ => if l_ = 624 then 607 else if l_ = 625 then 608 else if l_ = 626 then 609 else if l_ = 627 then 610 else if l_ = 628 then 611 else if l_ = 629 then 612 else if l_ = 630 then 613 else l_) rfl), (f157.relab (fun l_ => if l_ = 624 then 607 else if l_ = 625 then 608 else if l_ = 626 then 609 else if l_ = 627 then 610 else if l_ = 628 then 611 else if l_ = 629 then 612 else if l_ = 630 then 613 else l_) rfl), (f160.relab (fun l_ => if l_ = 624 then 607 else if l_ = 625 then 608 else if l_ = 626 then 609 else if l_ = 627 then 610 else if l_ = 628 then 611 else if l_ = 629 then 612 else if l_ = 630 then 613 else l_) rfl), (f1967.relab (fun l_ => if l_ = 624 then 607 else if l_ = 625 then 608 else if l_ = 626 then 609 else if l_ = 627 then 610 else if l_ = 628 then 611 else if l_ = 629 then 612 else if l_ = 630 then 613 else l_) rfl), (f2575.relab (fun l_ => if l_ = 624 then 607 else if l_ = 625 then 608 else if l_ = 626 then 609 else if l_ = 627 then 610 else if l_ = 628 then 611 else if l_ = 629 then 612 else if l_ = 630 then 613 else l_) rfl), (f2728.relab (fun l_ => if l_ = 624 then 607 else if l_ = 625 then 608 else if l_ = 626 then 609 else if l_ = 627 then 610 else if l_ = 628 then 611 else if l_ = 629 then 612 else if l_ = 630 then 613 else l_) rfl), hc2729, (hlp2695 ▸ H)⟩
          · rw [b2730] at hk H
            replace H := bifT H
            refine x_if hk (b := true) rfl ?_
            refine (show Code.wpIn _ _ _ _ _ _ _ from ?_)
            refine x_seq ?_
            refine wpIn_region_lit ?_
            refine x_run tab hk (k := 1) (lv := []) (ks := [6]) (e' := [(6, .bool false)]) rfl trivial fun a hk => ?_
            refine wpListIn_nil ?_
            refine then_n ?_
            refine wpIn_ret ?_
            refine then_r ?_
            refine blk_r ?_
            refine then_r ?_
            refine then_r ?_
            refine blk_r ?_
            refine blk_r ?_
            refine then_r ?_
            refine then_r ?_
            refine blk_r ?_
            refine then_r ?_
            obtain rfl := Option.some.inj H
            exact x_retG hk (rs := [.tmp 6]) (vs := [.bool false]) rfl ⟨rfl, trivial⟩ ⟨fun b_ => if b_ < w.heap.size then o b_ else (fun _ => 0) (o2723 b_), rfl, hs.close0 o (fun _ => 0)⟩
        refine x_seq ?_
        refine wpIn_region_lit ?_
        refine x_run tab hk (k := 2) (lv := []) (ks := [1, 2, 7, 9, 10, 11, 13, 14, 56, 57, 58, 71, 72]) (e' := [(1, .int .i64 (bits .and .i64 p1 31)), (2, .int .i64 (bits .and .i64 p2 15)), (7, .pointer (some ⟨bx9, 0, none⟩)), (9, .pointer (some ⟨bx127, 0, none⟩)), (10, .pointer (some ⟨bx135, 0, none⟩)), (11, .int .i64 x2640), (13, .pointer (some ⟨bx2574, 0, none⟩)), (14, .int .i64 x2641), (56, .slice (some ad2570) (t1558).length c1966), (57, .int .i64 ((t1558).length : Int)), (58, .int .i64 x1969), (71, .pointer (some ⟨bx9, 0, none⟩)), (72, .int .i64 x2641)]) rfl trivial fun a hk => ?_
        refine x_op hk rfl ?_
        obtain ⟨t2734, hc2735, H⟩ := bindS H
        refine op_call hk ent_9 (vs := [.pointer (some ⟨bx9, 0, none⟩), .int .i64 x2641]) rfl (cache_Cache_Peek_calls bx9 A2635 c2636 (⟨x2633, x2634, l2637⟩ : T41) x2641 _ o2632 1 608 f10 _ f2638 hc2639 (by decide) (by decide) (by decide) 631  _ hc2735) ?_
        rintro _ w2736 ⟨o2737, A2739, c2740, rfl, st2738, f2741, hc2742⟩
        replace f10 := f10.st st2738 (by decide)
        replace f128 := f128.st st2738 (by decide)
        replace f157 := f157.st st2738 (by decide)
        replace f160 := f160.st st2738 (by decide)
        replace f1967 := f1967.st st2738 (by decide)
        replace f2575 := f2575.st st2738 (by decide)
        replace f2638 := f2638.st st2738 (by decide)
        replace hs := hs.loc0 st2738 (by decide)
        have hk := hk.put 73 (.tuple #[.slice A2739 (t2734.1).length c2740, .bool t2734.2]) rfl
        refine x_run tab hk (k := 5) (lv := []) (ks := [1, 2, 7, 9, 10, 11, 13, 14, 16, 56, 57, 58]) (e' := [(1, .int .i64 (bits .and .i64 p1 31)), (2, .int .i64 (bits .and .i64 p2 15)), (7, .pointer (some ⟨bx9, 0, none⟩)), (9, .pointer (some ⟨bx127, 0, none⟩)), (10, .pointer (some ⟨bx135, 0, none⟩)), (11, .int .i64 x2640), (13, .pointer (some ⟨bx2574, 0, none⟩)), (14, .int .i64 x2641), (16, .bool t2734.2), (56, .slice (some ad2570) (t1558).length c1966), (57, .int .i64 ((t1558).length : Int)), (58, .int .i64 x1969)]) rfl trivial fun a hk => ?_
        refine wpListIn_nil ?_
        refine then_n ?_
        refine x_seq ?_
        refine wpIn_region_lit ?_
        refine x_run tab hk (k := 2) (lv := []) (ks := [1, 2, 7, 9, 10, 11, 13, 14, 56, 57, 58, 77]) (e' := [(1, .int .i64 (bits .and .i64 p1 31)), (2, .int .i64 (bits .and .i64 p2 15)), (7, .pointer (some ⟨bx9, 0, none⟩)), (9, .pointer (some ⟨bx127, 0, none⟩)), (10, .pointer (some ⟨bx135, 0, none⟩)), (11, .int .i64 x2640), (13, .pointer (some ⟨bx2574, 0, none⟩)), (14, .int .i64 x2641), (56, .slice (some ad2570) (t1558).length c1966), (57, .int .i64 ((t1558).length : Int)), (58, .int .i64 x1969), (77, .bool t2734.2)]) rfl trivial fun a hk => ?_
        cases b2743 : t2734.2
        · rw [b2743] at hk H
          replace H := bifF H
          refine x_run tab hk (k := 5) (lv := []) (ks := [1, 2, 7, 9, 10, 11, 13, 14, 56, 57, 58, 82]) (e' := [(1, .int .i64 (bits .and .i64 p1 31)), (2, .int .i64 (bits .and .i64 p2 15)), (7, .pointer (some ⟨bx9, 0, none⟩)), (9, .pointer (some ⟨bx127, 0, none⟩)), (10, .pointer (some ⟨bx135, 0, none⟩)), (11, .int .i64 x2640), (13, .pointer (some ⟨bx2574, 0, none⟩)), (14, .int .i64 x2641), (56, .slice (some ad2570) (t1558).length c1966), (57, .int .i64 ((t1558).length : Int)), (58, .int .i64 x1969), (82, .bool (decide (x2641 < (bits .and .i64 p1 31))))]) rfl trivial fun a hk => ?_
          cases b2744 : (decide (x2641 < (bits .and .i64 p1 31)))
          · rw [b2744] at hk H
            replace H := bifF H
            refine x_run tab hk (k := 6) (lv := []) (ks := [1, 2, 7, 9, 10, 11, 13, 14, 56, 57, 58, 88]) (e' := [(1, .int .i64 (bits .and .i64 p1 31)), (2, .int .i64 (bits .and .i64 p2 15)), (7, .pointer (some ⟨bx9, 0, none⟩)), (9, .pointer (some ⟨bx127, 0, none⟩)), (10, .pointer (some ⟨bx135, 0, none⟩)), (11, .int .i64 x2640), (13, .pointer (some ⟨bx2574, 0, none⟩)), (14, .int .i64 x2641), (56, .slice (some ad2570) (t1558).length c1966), (57, .int .i64 ((t1558).length : Int)), (58, .int .i64 x1969), (88, .bool (decide (x2641 ≥ (IntKind.wrap .i64 ((bits .and .i64 p1 31) + (bits .and .i64 p2 15))))))]) rfl trivial fun a hk => ?_
            refine wpListIn_nil ?_
            refine then_n ?_
            cases b2745 : (decide (x2641 ≥ (IntKind.wrap .i64 ((bits .and .i64 p1 31) + (bits .and .i64 p2 15)))))
            · rw [b2745] at hk H
              replace H := bifF H
              refine x_if hk (b := false) rfl ?_
              refine (show Code.wpIn _ _ _ _ _ _ _ from ?_)
              refine wpIn_skip ?_
              refine then_n ?_
              exact ⟨(fun b_ => (fun l_ => if l_ = 607 then 624 else if l_ = 608 then 625 else if l_ = 609 then 626 else if l_ = 610 then 627 else if l_ = 611 then 628 else if l_ = 612 then 629 else if l_ = 613 then 630 else l_) (o2737 b_)), (by exact Kn.pick (ks := [1, 2, 7, 9, 10, 11, 13, 14, 56, 57, 58]) hk rfl), (hs.relab0 (fun l_ => if l_ = 607 then 624 else if l_ = 608 then 625 else if l_ = 609 then 626 else if l_ = 610 then 627 else if l_ = 611 then 628 else if l_ = 612 then 629 else if l_ = 613 then 630 else l_) rfl), (f10.relab (fun l_ => if l_ = 607 then 624 else if l_ = 608 then 625 else if l_ = 609 then 626 else if l_ = 610 then 627 else if l_ = 611 then 628 else if l_ = 612 then 629 else if l_ = 613 then 630 else l_) rfl), (f128.relab (fun l_ => if l_ = 607 then 624 else if l_ = 608 then 625 else if l_ = 609 then 626 else if l_ = 610 then 627 else if l_ = 611 then 628 else if l_ = 612 then 629 else if l_ = 613 then 630 else l_) rfl), (f157.relab (fun l_ => if l_ = 607 then 624 else if l_ = 608 then 625 else if l_ = 609 then 626 else if l_ = 610 then 627 else if l_ = 611 then 628 else if l_ = 612 then 629 else if l_ = 613 then 630 else l_) rfl), (f160.relab (fun l_ => if l_ = 607 then 624 else if l_ = 608 then 625 else if l_ = 609 then 626 else if l_ = 610 then 627 else if l_ = 611 then 628 else if l_ = 612 then 629 else if l_ = 613 then 630 else l_) rfl), (f1967.relab (fun l_ => if l_ = 607 then 624 else if l_ = 608 then 625 else if l_ = 609 then 626 else if l_ = 610 then 627 else if l_ = 611 then 628 else if l_ = 612 then 629 else if l_ = 613 then 630 else l_) rfl), (f2575.relab (fun l_ => if l_ = 607 then 624 else if l_ = 608 then 625 else if l_ = 609 then 626 else if l_ = 610 then 627 else if l_ = 611 then 628 else if l_ = 612 then 629 else if l_ = 613 then 630 else l_) rfl), (f2638.relab (fun l_ => if l_ = 607 then 624 else if l_ = 608 then 625 else if l_ = 609 then 626 else if l_ = 610 then 627 else if l_ = 611 then 628 else if l_ = 612 then 629 else if l_ = 613 then 630 else l_) rfl), H⟩
            · rw [b2745] at hk H
              replace H := bifT H
              refine x_if hk (b := true) rfl ?_
              refine (show Code.wpIn _ _ _ _ _ _ _ from ?_)
              refine x_seq ?_
              refine wpIn_region_lit ?_
              refine x_run tab hk (k := 1) (lv := []) (ks := [6]) (e' := [(6, .bool false)]) rfl trivial fun a hk => ?_
              refine wpListIn_nil ?_
              refine then_n ?_
              refine wpIn_ret ?_
              refine then_r ?_
              refine blk_r ?_
              refine then_r ?_
              refine then_r ?_
              refine blk_r ?_
              refine blk_r ?_
              refine then_r ?_
              refine then_r ?_
              refine blk_r ?_
              refine then_r ?_
              obtain rfl := Option.some.inj H
              exact x_retG hk (rs := [.tmp 6]) (vs := [.bool false]) rfl ⟨rfl, trivial⟩ ⟨fun b_ => if b_ < w.heap.size then o b_ else (fun _ => 0) (o2737 b_), rfl, hs.close0 o (fun _ => 0)⟩
          · rw [b2744] at hk H
            replace H := bifT H
            refine x_run tab hk (k := 6) (lv := []) (ks := [1, 2, 7, 9, 10, 11, 13, 14, 56, 57, 58, 88]) (e' := [(1, .int .i64 (bits .and .i64 p1 31)), (2, .int .i64 (bits .and .i64 p2 15)), (7, .pointer (some ⟨bx9, 0, none⟩)), (9, .pointer (some ⟨bx127, 0, none⟩)), (10, .pointer (some ⟨bx135, 0, none⟩)), (11, .int .i64 x2640), (13, .pointer (some ⟨bx2574, 0, none⟩)), (14, .int .i64 x2641), (56, .slice (some ad2570) (t1558).length c1966), (57, .int .i64 ((t1558).length : Int)), (58, .int .i64 x1969), (88, .bool true)]) rfl trivial fun a hk => ?_
            refine wpListIn_nil ?_
            refine then_n ?_
            refine x_if hk (b := true) rfl ?_
            refine (show Code.wpIn _ _ _ _ _ _ _ from ?_)
            refine x_seq ?_
            refine wpIn_region_lit ?_
            refine x_run tab hk (k := 1) (lv := []) (ks := [6]) (e' := [(6, .bool false)]) rfl trivial fun a hk => ?_
            refine wpListIn_nil ?_
            refine then_n ?_
            refine wpIn_ret ?_
            refine then_r ?_
            refine blk_r ?_
            refine then_r ?_
            refine then_r ?_
            refine blk_r ?_
            refine blk_r ?_
            refine then_r ?_
            refine then_r ?_
            refine blk_r ?_
            refine then_r ?_
            obtain rfl := Option.some.inj H
            exact x_retG hk (rs := [.tmp 6]) (vs := [.bool false]) rfl ⟨rfl, trivial⟩ ⟨fun b_ => if b_ < w.heap.size then o b_ else (fun _ => 0) (o2737 b_), rfl, hs.close0 o (fun _ => 0)⟩
        · rw [b2743] at hk H
          replace H := bifT H
          refine x_run tab hk (k := 10) (lv := []) (ks := [1, 2, 7, 9, 10, 11, 13, 14, 56, 57, 58, 82, 87]) (e' := [(1, .int .i64 (bits .and .i64 p1 31)), (2, .int .i64 (bits .and .i64 p2 15)), (7, .pointer (some ⟨bx9, 0, none⟩)), (9, .pointer (some ⟨bx127, 0, none⟩)), (10, .pointer (some ⟨bx135, 0, none⟩)), (11, .int .i64 x2640), (13, .pointer (some ⟨bx2574, 0, none⟩)), (14, .int .i64 x2641), (56, .slice (some ad2570) (t1558).length c1966), (57, .int .i64 ((t1558).length : Int)), (58, .int .i64 x1969), (82, .bool true), (87, undef)]) rfl trivial fun a hk => ?_
          refine x_run tab hk (k := 1) (lv := []) (ks := [1, 2, 7, 9, 10, 11, 13, 14, 56, 57, 58, 88]) (e' := [(1, .int .i64 (bits .and .i64 p1 31)), (2, .int .i64 (bits .and .i64 p2 15)), (7, .pointer (some ⟨bx9, 0, none⟩)), (9, .pointer (some ⟨bx127, 0, none⟩)), (10, .pointer (some ⟨bx135, 0, none⟩)), (11, .int .i64 x2640), (13, .pointer (some ⟨bx2574, 0, none⟩)), (14, .int .i64 x2641), (56, .slice (some ad2570) (t1558).length c1966), (57, .int .i64 ((t1558).length : Int)), (58, .int .i64 x1969), (88, .bool true)]) rfl trivial fun a hk => ?_
          refine wpListIn_nil ?_
          refine then_n ?_
          refine x_if hk (b := true) rfl ?_
          refine (show Code.wpIn _ _ _ _ _ _ _ from ?_)
          refine x_seq ?_
          refine wpIn_region_lit ?_
          refine x_run tab hk (k := 1) (lv := []) (ks := [6]) (e' := [(6, .bool false)]) rfl trivial fun a hk => ?_
          refine wpListIn_nil ?_
          refine then_n ?_
          refine wpIn_ret ?_
          refine then_r ?_
          refine blk_r ?_
          refine then_r ?_
          refine then_r ?_
          refine blk_r ?_
          refine blk_r ?_
          refine then_r ?_
          refine then_r ?_
          refine blk_r ?_
          refine then_r ?_
          obtain rfl := Option.some.inj H
          exact x_retG hk (rs := [.tmp 6]) (vs := [.bool false]) rfl ⟨rfl, trivial⟩ ⟨fun b_ => if b_ < w.heap.size then o b_ else (fun _ => 0) (o2737 b_), rfl, hs.close0 o (fun _ => 0)⟩
  refine x_seq ?_
  refine wpIn_region_lit ?_
  refine x_run tab hk (k := 1) (lv := []) (ks := [0, 1, 2, 7, 8]) (e' := [(0, .slice Ap0 (p0).length cp0), (1, .int .i64 (bits .and .i64 p1 31)), (2, .int .i64 (bits .and .i64 p2 15)), (7, .pointer (some ⟨bx9, 0, none⟩)), (8, .int .i64 0)]) rfl trivial fun a hk => ?_
  refine wpListIn_nil ?_
  refine then_n ?_
  refine wpIn_block ?_
  refine x_loop (fun j_ a_ w_ => ∃ o2773 : Nat → Nat, ∃ x2774 : Int, ∃ x2775 : Int, ∃ A2776 : Option Addr, ∃ c2777 : Nat, ∃ l2778 : M T52, ∃ x2781 : Int, Kn 134 a_ [(0, .slice Ap0 (p0).length cp0), (1, .int .i64 (bits .and .i64 p1 31)), (2, .int .i64 (bits .and .i64 p2 15)), (7, .pointer (some ⟨bx9, 0, none⟩)), (8, .int .i64 x2781)] ∧ St [] w (fun _ => 0) w_ o2773 ∧ Ft (Bx bx9 42 [.int .i64 x2774, .int .i64 x2775, mv A2776]) w_ o2773 637 ∧ MpN dT52 true A2776 l2778 w_ o2773 636 1 ∧ Ft (RdC (encInt .i64) Ap0 p0) w_ o2773 0 ∧ (l2778).length ≤ c2777 ∧ tidewracktop_TidewrackMissing_l9 K p0 p1 p2 j_ x2774 x2775 l2778 x2781 = some r) (k := K) ⟨(fun b_ => (fun l_ => if l_ = 2 then 637 else if l_ = 3 then 636 else l_) (o7 b_)), t4.most, t4.now, A11, c12, t4.l, 0, (by exact Kn.pick (ks := [0, 1, 2, 7, 8]) hk rfl), (hs.relab0 (fun l_ => if l_ = 2 then 637 else if l_ = 3 then 636 else l_) rfl), (f10.relab (fun l_ => if l_ = 2 then 637 else if l_ = 3 then 636 else l_) rfl), (f13.relab (fun l_ => if l_ = 2 then 637 else if l_ = 3 then 636 else l_) rfl), (f900000.relab (fun l_ => if l_ = 2 then 637 else if l_ = 3 then 636 else l_) rfl), hc14, H⟩ (by rintro _ _ ⟨_, _, _, _, _, _, _, _, _, _, _, _, _, H_⟩; exact absurd (show (none : Option Bool) = some r from H_) (by simp)) ?_
  rintro k2807 a w2806 ⟨o2773, x2774, x2775, A2776, c2777, l2778, x2781, hk, hs, f10, f2779, f900000, hc2780, H⟩
  rw [tidewracktop_TidewrackMissing_l9] at H
  obtain ⟨lp2808, hlp2809⟩ : ∃ lp_, lp_ = tidewracktop_TidewrackMissing_l9 K p0 p1 p2 k2807 := ⟨_, rfl⟩
  rw [← hlp2809] at H
  refine x_mid (fun a_ w_ => ∃ o2815 : Nat → Nat, Kn 134 a_ [(0, .slice Ap0 (p0).length cp0), (1, .int .i64 (bits .and .i64 p1 31)), (2, .int .i64 (bits .and .i64 p2 15)), (7, .pointer (some ⟨bx9, 0, none⟩)), (8, .int .i64 x2781)] ∧ St [] w (fun _ => 0) w_ o2815 ∧ Ft (Bx bx9 42 [.int .i64 x2774, .int .i64 x2775, mv A2776]) w_ o2815 641 ∧ MpN dT52 true A2776 l2778 w_ o2815 640 1 ∧ Ft (RdC (encInt .i64) Ap0 p0) w_ o2815 0 ∧ tidewracktop_TidewrackMissing_j10 K p0 x2774 x2775 l2778 x2781 lp2808 = some r) ?_ ?_
  rotate_left
  · rintro a w2816 ⟨o2815, hk, hs, f10, f2779, f900000, H⟩
    rw [tidewracktop_TidewrackMissing_j10] at H
    refine x_seq ?_
    refine wpIn_block ?_
    refine wpIn_region_lit ?_
    obtain ⟨q2817, H⟩ := ifS H
    obtain ⟨ad2818, hAad2818⟩ := RdC.addr f900000.now q2817
    have hk_C := hk
    have f10_C := f10
    have f2779_C := f2779
    have f900000_C := f900000
    subst hAad2818
    have hk := hk_C
    clear hk_C
    have f10 := f10_C
    clear f10_C
    have f2779 := f2779_C
    clear f2779_C
    have f900000 := f900000_C
    clear f900000_C
    refine x_run tab hk (k := 6) (lv := [.int .i64 (rdD 0 p0 x2781)]) (ks := [0, 1, 2, 7, 8, 40, 45]) (e' := [(0, .slice (some ad2818) (p0).length cp0), (1, .int .i64 (bits .and .i64 p1 31)), (2, .int .i64 (bits .and .i64 p2 15)), (7, .pointer (some ⟨bx9, 0, none⟩)), (8, .int .i64 x2781), (40, .pointer (some ⟨bx9, 0, none⟩)), (45, .int .i64 (bits .and .i64 (rdD 0 p0 x2781) 31))]) rfl ⟨q2817, (load1 tab rfl (RdC.at0 (E := (encInt .i64)) (d := 0) (i := x2781) f900000.now q2817 rfl)), trivial⟩ fun a hk => ?_
    refine x_op hk rfl ?_
    obtain ⟨t2822, hc2823, H⟩ := bindS H
    refine op_call hk ent_5 (vs := [.pointer (some ⟨bx9, 0, none⟩), .int .i64 (bits .and .i64 (rdD 0 p0 x2781) 31), .slice none 0 0]) rfl (cache_Cache_Put_calls K bx9 A2776 c2777 (⟨x2774, x2775, l2778⟩ : T41) (bits .and .i64 (rdD 0 p0 x2781) 31) none 0 ([] : List T45) _ o2815 1 641 f10 640 f2779 hc2780 _ (Ft.of_all (fun _ h_ => absurd h_ (by simp)) _ _ 0) (by simp) (by decide) (by decide)   _ hc2823) ?_
    rintro _ w2824 ⟨o2825, A2828, c2829, rfl, st2826, f2827, f2830, hc2831⟩
    replace f900000 := f900000.st st2826 (by decide)
    replace hs := hs.loc0 st2826 (by decide)
    have hk := hk.put 46 (.tuple #[.int .i64 t2822.1, .bool t2822.2.1]) rfl
    refine wpListIn_nil ?_
    refine blk_n ?_
    refine then_n ?_
    refine wpIn_region_lit ?_
    refine x_run tab hk (k := 3) (lv := []) (ks := [0, 1, 2, 7, 8]) (e' := [(0, .slice (some ad2818) (p0).length cp0), (1, .int .i64 (bits .and .i64 p1 31)), (2, .int .i64 (bits .and .i64 p2 15)), (7, .pointer (some ⟨bx9, 0, none⟩)), (8, .int .i64 (IntKind.wrap .i64 (x2781 + 1)))]) rfl trivial fun a hk => ?_
    refine wpListIn_nil ?_
    refine then_n ?_
    exact ⟨k2807, Nat.le_refl _, (fun b_ => (fun l_ => if l_ = 640 then 636 else if l_ = 641 then 637 else l_) (o2825 b_)), t2822.2.2.most, t2822.2.2.now, A2828, c2829, t2822.2.2.l, (IntKind.wrap .i64 (x2781 + 1)), (by exact Kn.pick (ks := [0, 1, 2, 7, 8]) hk rfl), (hs.relab0 (fun l_ => if l_ = 640 then 636 else if l_ = 641 then 637 else l_) rfl), (f2827.relab (fun l_ => if l_ = 640 then 636 else if l_ = 641 then 637 else l_) rfl), (f2830.relab (fun l_ => if l_ = 640 then 636 else if l_ = 641 then 637 else l_) rfl), (f900000.relab (fun l_ => if l_ = 640 then 636 else if l_ = 641 then 637 else l_) rfl), hc2831, (hlp2809 ▸ H)⟩
  refine x_seq ?_
  refine wpIn_region_lit ?_
  refine x_run tab hk (k := 5) (lv := []) (ks := [0, 1, 2, 7, 8, 34]) (e' := [(0, .slice Ap0 (p0).length cp0), (1, .int .i64 (bits .and .i64 p1 31)), (2, .int .i64 (bits .and .i64 p2 15)), (7, .pointer (some ⟨bx9, 0, none⟩)), (8, .int .i64 x2781), (34, .bool (decide (x2781 < ((p0).length : Int))))]) rfl trivial fun a hk => ?_
  cases b2832 : (decide (x2781 < ((p0).length : Int)))
  · rw [b2832] at hk H
    replace H := bifF H
    refine x_run tab hk (k := 3) (lv := []) (ks := [0, 1, 2, 7, 8, 37]) (e' := [(0, .slice Ap0 (p0).length cp0), (1, .int .i64 (bits .and .i64 p1 31)), (2, .int .i64 (bits .and .i64 p2 15)), (7, .pointer (some ⟨bx9, 0, none⟩)), (8, .int .i64 x2781), (37, .bool false)]) rfl trivial fun a hk => ?_
    refine wpListIn_nil ?_
    refine then_n ?_
    refine x_if hk (b := false) rfl ?_
    refine (show Code.wpIn _ _ _ _ _ _ _ from ?_)
    refine wpIn_exit ?_
    refine then_x ?_
    refine then_x ?_
    refine blk_x ?_
    refine then_n ?_
    exact ⟨(fun b_ => (fun l_ => if l_ = 636 then 14 else if l_ = 637 then 15 else l_) (o2773 b_)), x2774, x2775, A2776, c2777, l2778, (by exact Kn.pick (ks := [1, 2, 7]) hk rfl), (hs.relab0 (fun l_ => if l_ = 636 then 14 else if l_ = 637 then 15 else l_) rfl), (f10.relab (fun l_ => if l_ = 636 then 14 else if l_ = 637 then 15 else l_) rfl), (f2779.relab (fun l_ => if l_ = 636 then 14 else if l_ = 637 then 15 else l_) rfl), hc2780, H⟩
  · rw [b2832] at hk H
    replace H := bifT H
    refine x_run tab hk (k := 3) (lv := []) (ks := [0, 1, 2, 7, 8, 37]) (e' := [(0, .slice Ap0 (p0).length cp0), (1, .int .i64 (bits .and .i64 p1 31)), (2, .int .i64 (bits .and .i64 p2 15)), (7, .pointer (some ⟨bx9, 0, none⟩)), (8, .int .i64 x2781), (37, .bool (decide (x2781 < (40 : Int))))]) rfl trivial fun a hk => ?_
    refine wpListIn_nil ?_
    refine then_n ?_
    cases b2833 : (decide (x2781 < (40 : Int)))
    · rw [b2833] at hk H
      replace H := bifF H
      refine x_if hk (b := false) rfl ?_
      refine (show Code.wpIn _ _ _ _ _ _ _ from ?_)
      refine wpIn_exit ?_
      refine then_x ?_
      refine then_x ?_
      refine blk_x ?_
      refine then_n ?_
      exact ⟨(fun b_ => (fun l_ => if l_ = 636 then 14 else if l_ = 637 then 15 else l_) (o2773 b_)), x2774, x2775, A2776, c2777, l2778, (by exact Kn.pick (ks := [1, 2, 7]) hk rfl), (hs.relab0 (fun l_ => if l_ = 636 then 14 else if l_ = 637 then 15 else l_) rfl), (f10.relab (fun l_ => if l_ = 636 then 14 else if l_ = 637 then 15 else l_) rfl), (f2779.relab (fun l_ => if l_ = 636 then 14 else if l_ = 637 then 15 else l_) rfl), hc2780, H⟩
    · rw [b2833] at hk H
      replace H := bifT H
      refine x_if hk (b := true) rfl ?_
      refine (show Code.wpIn _ _ _ _ _ _ _ from ?_)
      refine wpIn_skip ?_
      refine then_n ?_
      exact ⟨(fun b_ => (fun l_ => if l_ = 636 then 640 else if l_ = 637 then 641 else l_) (o2773 b_)), (by exact Kn.pick (ks := [0, 1, 2, 7, 8]) hk rfl), (hs.relab0 (fun l_ => if l_ = 636 then 640 else if l_ = 637 then 641 else l_) rfl), (f10.relab (fun l_ => if l_ = 636 then 640 else if l_ = 637 then 641 else l_) rfl), (f2779.relab (fun l_ => if l_ = 636 then 640 else if l_ = 637 then 641 else l_) rfl), (f900000.relab (fun l_ => if l_ = 636 then 640 else if l_ = 637 then 641 else l_) rfl), H⟩

end Go.Proofs.Ytpciioffkjpieaa
