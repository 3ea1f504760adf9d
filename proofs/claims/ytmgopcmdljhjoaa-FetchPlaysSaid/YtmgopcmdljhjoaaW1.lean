/- Walks, printed by an own program: the machine's calls compute the plain functions. -/
import Derived.Test.YtmgopcmdljhjoaaW0
set_option linter.unusedVariables false
set_option linter.unusedSimpArgs false
namespace Go.Proofs.Ytmgopcmdljhjoaa
open Go Go.Proofs.XC
/-! tidewrack/fetch.clip -/
theorem fetch_clip_calls (p0 : Int) (p1 : Int) (p2 : Int) (w : World) (o : Nat → Nat)   (r : Int) (H : fetch_clip p0 p1 p2 = some r) :
    Calls Try.prog 15 #[.int .i64 p0, .int .i64 p1, .int .i64 p2] w (Ret fun v_ w' => ∃ o' : Nat → Nat, v_ = .int .i64 r ∧ St [] w o w' o') := by
  refine x_enter (vs := [.int .i64 p0, .int .i64 p1, .int .i64 p2]) Try.func15 rfl rfl rfl fun a hk => ?_
  obtain ⟨o0, hs, h0⟩ := St.start w o
  clear h0
  rw [fetch_clip] at H
  refine x_seq ?_
  refine wpIn_region_lit ?_
  refine x_run tab hk (k := 1) (lv := []) (ks := [0, 1, 2]) (e' := [(0, .int .i64 p0), (1, .int .i64 p1), (2, .int .i64 p2)]) rfl trivial fun a hk => ?_
  refine wpListIn_nil ?_
  refine then_n ?_
  refine x_seq ?_
  refine wpIn_region_lit ?_
  refine x_run tab hk (k := 6) (lv := []) (ks := [6]) (e' := [(6, .int .i64 (mxI p1 (mnI p0 p2)))]) rfl trivial fun a hk => ?_
  refine wpListIn_nil ?_
  refine then_n ?_
  refine wpIn_ret ?_
  obtain rfl := Option.some.inj H
  exact x_retG hk (rs := [.tmp 6]) (vs := [.int .i64 (mxI p1 (mnI p0 p2))]) rfl ⟨rfl, trivial⟩ ⟨fun b_ => if b_ < w.heap.size then o b_ else (fun _ => 0) (o0 b_), rfl, hs.close0 o (fun _ => 0)⟩

/-! tidewrack/fetch.New -/
theorem fetch_New_calls (p0 : Int) (p1 : Int) (w : World) (o : Nat → Nat)   (R0 : Nat) (R1 : Nat) (R2 : Nat) (r : T50) (H : fetch_New p0 p1 = some r) :
    Calls Try.prog 5 #[.int .i64 p0, .int .i64 p1] w (Ret fun v_ w' => ∃ o' : Nat → Nat, ∃ b0 : Nat, ∃ b1 : Nat, ∃ A0 : Option Addr, ∃ c0 : Nat, v_ = .pointer (some ⟨b0, 0, none⟩) ∧ St [] w o w' o' ∧ Ft (Bx b0 51 [.int .i64 r.most, .int .i64 r.every, .int .i64 r.due, .pointer (some ⟨b1, 0, none⟩)]) w' o' R0 ∧ Ft (Bx b1 49 [.slice A0 (r.want_l).length c0]) w' o' R1 ∧ Ft (Own ET30 43 (.slice A0 (r.want_l).length c0) r.want_l) w' o' R2 ∧ (r.want_l).length ≤ c0) := by
  refine x_enter (vs := [.int .i64 p0, .int .i64 p1]) Try.func5 rfl rfl rfl fun a hk => ?_
  obtain ⟨o0, hs, h0⟩ := St.start w o
  clear h0
  rw [fetch_New] at H
  refine x_seq ?_
  refine wpIn_region_lit ?_
  refine x_run tab hk (k := 1) (lv := []) (ks := [0, 1]) (e' := [(0, .int .i64 p0), (1, .int .i64 p1)]) rfl trivial fun a hk => ?_
  refine wpListIn_nil ?_
  refine then_n ?_
  refine x_seq ?_
  refine wpIn_region_lit ?_
  refine x_run tab hk (k := 1) (lv := []) (ks := [1, 5]) (e' := [(1, .int .i64 p1), (5, .int .i64 p0)]) rfl trivial fun a hk => ?_
  refine x_op hk rfl ?_
  obtain ⟨t4, hc5, H⟩ := bindS H
  refine op_call hk ent_15 (vs := [.int .i64 p0, .int .i64 1, .int .i64 65536]) rfl (fetch_clip_calls p0 1 65536 _ o0    _ hc5) ?_
  rintro _ w6 ⟨o7, rfl, st8⟩
  replace hs := hs.loc0 st8 (by decide)
  have hk := hk.put 6 (.int .i64 t4) rfl
  refine x_run tab hk (k := 1) (lv := []) (ks := [6, 7]) (e' := [(6, .int .i64 t4), (7, .int .i64 p1)]) rfl trivial fun a hk => ?_
  refine x_op hk rfl ?_
  obtain ⟨t12, hc13, H⟩ := bindS H
  refine op_call hk ent_15 (vs := [.int .i64 p1, .int .i64 1, .int .i64 1048576]) rfl (fetch_clip_calls p1 1 1048576 _ o7    _ hc13) ?_
  rintro _ w14 ⟨o15, rfl, st16⟩
  replace hs := hs.loc0 st16 (by decide)
  have hk := hk.put 8 (.int .i64 t12) rfl
  refine x_run tab hk (k := 1) (lv := []) (ks := [6, 8, 9]) (e' := [(6, .int .i64 t4), (8, .int .i64 t12), (9, .agg #[.slice none 0 0])]) rfl trivial fun a hk => ?_
  refine x_op hk rfl ?_
  refine op_box (o := o15) (t := 49) (v := .agg #[.slice none 0 0]) (cs := [.slice none 0 0]) hk rfl rfl 1 fun bx20 w17 o18 st19 f21 => ?_
  replace hs := hs.loc0 st19 (by decide)
  have hk := hk.put 10 (.pointer (some ⟨bx20, 0, none⟩)) rfl
  refine x_run tab hk (k := 1) (lv := []) (ks := [11]) (e' := [(11, .agg #[.int .i64 t4, .int .i64 t12, .int .i64 0, .pointer (some ⟨bx20, 0, none⟩)])]) rfl trivial fun a hk => ?_
  refine x_op hk rfl ?_
  refine op_box (o := o18) (t := 51) (v := .agg #[.int .i64 t4, .int .i64 t12, .int .i64 0, .pointer (some ⟨bx20, 0, none⟩)]) (cs := [.int .i64 t4, .int .i64 t12, .int .i64 0, .pointer (some ⟨bx20, 0, none⟩)]) hk rfl rfl 2 fun bx25 w22 o23 st24 f26 => ?_
  replace f21 := f21.st st24 (by decide)
  replace hs := hs.loc0 st24 (by decide)
  have hk := hk.put 12 (.pointer (some ⟨bx25, 0, none⟩)) rfl
  refine x_run tab hk (k := 1) (lv := []) (ks := [4]) (e' := [(4, .pointer (some ⟨bx25, 0, none⟩))]) rfl trivial fun a hk => ?_
  refine wpListIn_nil ?_
  refine then_n ?_
  refine wpIn_ret ?_
  obtain rfl := Option.some.inj H
  exact x_retG hk (rs := [.tmp 4]) (vs := [.pointer (some ⟨bx25, 0, none⟩)]) rfl ⟨rfl, trivial⟩ ⟨fun b_ => if b_ < w.heap.size then o b_ else (fun l_ => if l_ = 1 then R1 else if l_ = 2 then R0 else 0) (o23 b_), bx25, bx20, none, 0, rfl, hs.close0 o (fun l_ => if l_ = 1 then R1 else if l_ = 2 then R0 else 0), hs.close_ft (o := o) (ρ := fun l_ => if l_ = 1 then R1 else if l_ = 2 then R0 else 0) f26 (by decide) rfl, hs.close_ft (o := o) (ρ := fun l_ => if l_ = 1 then R1 else if l_ = 2 then R0 else 0) f21 (by decide) rfl, (Ft.of_all (fun _ => Own.nil _ _ _) _ _ _), (by simp)⟩

/-! (*tidewrack/fetch.Fetch).Reset -/
theorem fetch_Fetch_Reset_calls (bp0 : Nat) (bq0_0 : Nat) (Ap0_0 : Option Addr) (cp0_0 : Nat) (p0 : T50) (w : World) (o : Nat → Nat) (Lp0 : Nat) (hp0 : Ft (Bx bp0 51 [.int .i64 p0.most, .int .i64 p0.every, .int .i64 p0.due, .pointer (some ⟨bq0_0, 0, none⟩)]) w o Lp0) (Lp0_0 : Nat) (hp0_0 : Ft (Own ET30 43 (.slice Ap0_0 (p0.want_l).length cp0_0) p0.want_l) w o Lp0_0) (hcp0_0 : (p0.want_l).length ≤ cp0_0) (Lq0_0 : Nat) (hq0_0 : Ft (Bx bq0_0 49 [.slice Ap0_0 (p0.want_l).length cp0_0]) w o Lq0_0) (hd0 : ([Lp0, Lp0_0, Lq0_0] : List Nat).Nodup) (r : T50) (H : fetch_Fetch_Reset p0 = some r) :
    Calls Try.prog 20 #[.pointer (some ⟨bp0, 0, none⟩)] w (Ret fun v_ w' => ∃ o' : Nat → Nat, ∃ b0 : Nat, ∃ A0 : Option Addr, ∃ c0 : Nat, v_ = .tuple #[] ∧ St [Lp0, Lp0_0, Lq0_0] w o w' o' ∧ Ft (Bx bp0 51 [.int .i64 r.most, .int .i64 r.every, .int .i64 r.due, .pointer (some ⟨b0, 0, none⟩)]) w' o' Lp0 ∧ Ft (Bx b0 49 [.slice A0 (r.want_l).length c0]) w' o' Lq0_0 ∧ Ft (Own ET30 43 (.slice A0 (r.want_l).length c0) r.want_l) w' o' Lp0_0 ∧ (r.want_l).length ≤ c0) := by
  refine x_enter (vs := [.pointer (some ⟨bp0, 0, none⟩)]) Try.func20 rfl rfl rfl fun a hk => ?_
  obtain ⟨oi, hs0, h0, h1, hob, hoz, hoa⟩ := St.startM2 w o (m := 3) hd0 rfl
  have hs := hs0 [1, 2, 3]
  have hom := lab_in hob (MM := [1, 2, 3]) (by decide)
  have f900000 := h1 1 2 hp0_0 rfl rfl
  have f900019 := h1 0 1 hp0 rfl rfl
  have f910000 := h1 2 3 hq0_0 rfl rfl
  clear h0 h1 hs0
  rw [fetch_Fetch_Reset] at H
  refine wpIn_region_lit ?_
  refine x_run tab hk (k := 3) (lv := []) (ks := [2, 3, 4]) (e' := [(2, .pointer (some ⟨bp0, 0, none⟩)), (3, .pointer (some ⟨bp0, 0, none⟩)), (4, .agg #[.slice none 0 0])]) rfl trivial fun a hk => ?_
  refine x_op hk rfl ?_
  refine op_box (o := oi) (t := 49) (v := .agg #[.slice none 0 0]) (cs := [.slice none 0 0]) hk rfl rfl 4 fun bx4 w1 o2 st3 f5 => ?_
  replace f900000 := f900000.st st3 (by decide)
  replace f900019 := f900019.st st3 (by decide)
  replace f910000 := f910000.st st3 (by decide)
  replace hs := hs.locM st3 (by decide) hom
  have hk := hk.put 5 (.pointer (some ⟨bx4, 0, none⟩)) rfl
  refine x_run tab hk (k := 2) (lv := []) (ks := [3, 5, 7]) (e' := [(3, .pointer (some ⟨bp0, 0, none⟩)), (5, .pointer (some ⟨bx4, 0, none⟩)), (7, .pointer (some ((⟨bp0, 0, none⟩ : Addr).add 3)))]) rfl trivial fun a hk => ?_
  refine x_op hk rfl ?_
  refine op_store tab hk (t := 47) (v := .pointer (some ⟨bx4, 0, none⟩)) (b := bp0) (k := 3) (cs' := [.int .i64 p0.most, .int .i64 p0.every, .int .i64 p0.due, .pointer (some ⟨bx4, 0, none⟩)]) rfl rfl rfl rfl rfl rfl f900019 rfl rfl fun w6 o7 st8 f900019_ => ?_
  replace f5 := f5.st st8 (by decide)
  replace f900000 := f900000.st st8 (by decide)
  replace f910000 := f910000.st st8 (by decide)
  replace hs := hs.locM st8 (by decide) hom
  replace f900019 := f900019_
  refine x_run tab hk (k := 2) (lv := []) (ks := [9]) (e' := [(9, .pointer (some ((⟨bp0, 0, none⟩ : Addr).add 2)))]) rfl trivial fun a hk => ?_
  refine x_op hk rfl ?_
  refine op_store tab hk (t := 3) (v := .int .i64 0) (b := bp0) (k := 2) (cs' := [.int .i64 p0.most, .int .i64 p0.every, .int .i64 0, .pointer (some ⟨bx4, 0, none⟩)]) rfl rfl rfl rfl rfl rfl f900019 rfl rfl fun w9 o10 st11 f900019_ => ?_
  replace f5 := f5.st st11 (by decide)
  replace hs := hs.locM st11 (by decide) hom
  replace f900019 := f900019_
  refine wpListIn_nil ?_
  obtain rfl := Option.some.inj H
  exact x_endG hk (rs := []) (vs := []) rfl trivial ⟨cl w oi o [1, 2, 3] (fun l_ => if l_ = 1 then Lp0 else if l_ = 4 then Lq0_0 else 0) o10, bx4, none, 0, rfl, hs.closeM hoz (by decide) (fun l_ => if l_ = 1 then Lp0 else if l_ = 4 then Lq0_0 else 0), hs.closeM_ft (o := o) (ρ := fun l_ => if l_ = 1 then Lp0 else if l_ = 4 then Lq0_0 else 0) f900019 (lab_at hoa (i := 0) rfl) rfl, hs.closeM_ft (o := o) (ρ := fun l_ => if l_ = 1 then Lp0 else if l_ = 4 then Lq0_0 else 0) f5 (lab_none hob rfl) rfl, (Ft.of_all (fun _ => Own.nil _ _ _) _ _ _), (by simp)⟩

/-! (tidewrack/spans.Span).fit -/
theorem spans_Span_fit_calls (p0 : T30) (w : World) (o : Nat → Nat)   (r : T30) (H : spans_Span_fit p0 = some r) :
    Calls Try.prog 33 #[.agg #[.int .i64 p0.From, .int .i64 p0.To]] w (Ret fun v_ w' => ∃ o' : Nat → Nat, v_ = .agg #[.int .i64 r.From, .int .i64 r.To] ∧ St [] w o w' o') := by
  refine x_enter (vs := [.agg #[.int .i64 p0.From, .int .i64 p0.To]]) Try.func33 rfl rfl rfl fun a hk => ?_
  obtain ⟨o0, hs, h0⟩ := St.start w o
  clear h0
  rw [spans_Span_fit] at H
  refine x_seq ?_
  refine wpIn_region_lit ?_
  refine x_op hk rfl ?_
  refine op_box (o := o0) (t := 43) (v := .agg #[.int .i64 p0.From, .int .i64 p0.To]) (cs := [.int .i64 p0.From, .int .i64 p0.To]) hk rfl rfl 1 fun bx4 w1 o2 st3 f5 => ?_
  replace hs := hs.loc0 st3 (by decide)
  have hk := hk.put 1 (.pointer (some ⟨bx4, 0, none⟩)) rfl
  refine x_op hk rfl ?_
  refine op_alloc (o := o2) tab (t := 43) (cs := [.int .i64 0, .int .i64 0]) rfl rfl 2 fun bx9 w6 o7 st8 f10 => ?_
  replace f5 := f5.st st8 (by decide)
  replace hs := hs.loc0 st8 (by decide)
  have hk := hk.put 2 (.pointer (some ⟨bx9, 0, none⟩)) rfl
  refine wpListIn_nil ?_
  refine then_n ?_
  refine x_seq ?_
  refine wpIn_region_lit ?_
  refine x_run tab hk (k := 9) (lv := [.int .i64 p0.From, .int .i64 p0.To]) (ks := [2, 11]) (e' := [(2, .pointer (some ⟨bx9, 0, none⟩)), (11, .agg #[.int .i64 (mxI (-1152921504606846976) (mnI p0.From 1152921504606846976)), .int .i64 (mxI (-1152921504606846976) (mnI p0.To 1152921504606846976))])]) rfl ⟨(load1 tab rfl ((Bx.cell f5.now 0).trans rfl)), (load1 tab rfl ((Bx.cell f5.now 1).trans rfl)), trivial⟩ fun a hk => ?_
  refine x_op hk rfl ?_
  refine op_store tab hk (t := 43) (v := .agg #[.int .i64 (mxI (-1152921504606846976) (mnI p0.From 1152921504606846976)), .int .i64 (mxI (-1152921504606846976) (mnI p0.To 1152921504606846976))]) (b := bx9) (k := 0) (cs' := [.int .i64 (mxI (-1152921504606846976) (mnI p0.From 1152921504606846976)), .int .i64 (mxI (-1152921504606846976) (mnI p0.To 1152921504606846976))]) rfl rfl rfl rfl rfl rfl f10 rfl rfl fun w11 o12 st13 f10_ => ?_
  replace hs := hs.loc0 st13 (by decide)
  replace f10 := f10_
  refine wpListIn_nil ?_
  refine then_n ?_
  refine wpIn_ret ?_
  obtain rfl := Option.some.inj H
  exact x_retG hk (rs := [.cell 2 43]) (vs := [.agg #[.int .i64 (mxI (-1152921504606846976) (mnI p0.From 1152921504606846976)), .int .i64 (mxI (-1152921504606846976) (mnI p0.To 1152921504606846976))]]) rfl ⟨⟨_, rfl, load_box tab rfl rfl f10.now (k := 0) rfl rfl⟩, trivial⟩ ⟨fun b_ => if b_ < w.heap.size then o b_ else (fun _ => 0) (o12 b_), rfl, hs.close0 o (fun _ => 0)⟩

/-! (tidewrack/spans.Span).empty -/
theorem spans_Span_empty_calls (p0 : T30) (w : World) (o : Nat → Nat)   (r : Bool) (H : spans_Span_empty p0 = some r) :
    Calls Try.prog 34 #[.agg #[.int .i64 p0.From, .int .i64 p0.To]] w (Ret fun v_ w' => ∃ o' : Nat → Nat, v_ = .bool r ∧ St [] w o w' o') := by
  refine x_enter (vs := [.agg #[.int .i64 p0.From, .int .i64 p0.To]]) Try.func34 rfl rfl rfl fun a hk => ?_
  obtain ⟨o0, hs, h0⟩ := St.start w o
  clear h0
  rw [spans_Span_empty] at H
  refine x_seq ?_
  refine wpIn_region_lit ?_
  refine x_op hk rfl ?_
  refine op_box (o := o0) (t := 43) (v := .agg #[.int .i64 p0.From, .int .i64 p0.To]) (cs := [.int .i64 p0.From, .int .i64 p0.To]) hk rfl rfl 1 fun bx4 w1 o2 st3 f5 => ?_
  replace hs := hs.loc0 st3 (by decide)
  have hk := hk.put 1 (.pointer (some ⟨bx4, 0, none⟩)) rfl
  refine x_run tab hk (k := 1) (lv := []) (ks := [1]) (e' := [(1, .pointer (some ⟨bx4, 0, none⟩))]) rfl trivial fun a hk => ?_
  refine wpListIn_nil ?_
  refine then_n ?_
  refine x_seq ?_
  refine wpIn_region_lit ?_
  refine x_run tab hk (k := 6) (lv := [.int .i64 p0.To, .int .i64 p0.From]) (ks := [2]) (e' := [(2, .bool (decide (p0.To ≤ p0.From)))]) rfl ⟨(load1 tab rfl ((Bx.cell f5.now 1).trans rfl)), (load1 tab rfl ((Bx.cell f5.now 0).trans rfl)), trivial⟩ fun a hk => ?_
  refine wpListIn_nil ?_
  refine then_n ?_
  refine wpIn_ret ?_
  obtain rfl := Option.some.inj H
  exact x_retG hk (rs := [.tmp 2]) (vs := [.bool (decide (p0.To ≤ p0.From))]) rfl ⟨rfl, trivial⟩ ⟨fun b_ => if b_ < w.heap.size then o b_ else (fun _ => 0) (o2 b_), rfl, hs.close0 o (fun _ => 0)⟩

/-! slices.Grow[[]tidewrack/spans.Span,tidewrack/spans.Span] -/
theorem slices_Grow_calls (p1 : Int) (w : World) (o : Nat → Nat)   (R0 : Nat) (r : List T30) (H : slices_Grow p1 = some r) :
    Calls Try.prog 42 #[.slice none 0 0, .int .i64 p1] w (Ret fun v_ w' => ∃ o' : Nat → Nat, ∃ A0 : Option Addr, ∃ c0 : Nat, v_ = .slice A0 (r).length c0 ∧ St [] w o w' o' ∧ Ft (Own ET30 43 (.slice A0 (r).length c0) r) w' o' R0 ∧ (r).length ≤ c0) := by
  refine x_enter (vs := [.slice none 0 0, .int .i64 p1]) Try.func42 rfl rfl rfl fun a hk => ?_
  obtain ⟨o0, hs, h0⟩ := St.start w o
  clear h0
  rw [slices_Grow] at H
  refine x_seq ?_
  refine wpIn_region_lit ?_
  refine x_run tab hk (k := 1) (lv := []) (ks := [0, 1]) (e' := [(0, .slice none 0 0), (1, .int .i64 p1)]) rfl trivial fun a hk => ?_
  refine wpListIn_nil ?_
  refine then_n ?_
  refine x_mid (fun a_ w_ => ∃ o5 : Nat → Nat, Kn 27 a_ [(0, .slice none 0 0), (1, .int .i64 p1)] ∧ St [] w (fun _ => 0) w_ o5 ∧ slices_Grow_j1 p1 = some r) ?_ ?_
  rotate_left
  · rintro a w6 ⟨o5, hk, hs, H⟩
    rw [slices_Grow_j1] at H
    refine x_seq ?_
    refine x_seq ?_
    refine wpIn_region_lit ?_
    refine x_run tab hk (k := 8) (lv := []) (ks := [0, 1]) (e' := [(0, .slice none 0 0), (1, .int .i64 (IntKind.wrap .i64 (p1 - (IntKind.wrap .i64 (0 - ((([] : List T30)).length : Int))))))]) rfl trivial fun a hk => ?_
    refine wpListIn_nil ?_
    refine then_n ?_
    refine x_seq ?_
    refine wpIn_region_lit ?_
    refine x_run tab hk (k := 2) (lv := []) (ks := [0, 1, 16]) (e' := [(0, .slice none 0 0), (1, .int .i64 (IntKind.wrap .i64 (p1 - (IntKind.wrap .i64 (0 - ((([] : List T30)).length : Int)))))), (16, .bool (decide ((IntKind.wrap .i64 (p1 - (IntKind.wrap .i64 (0 - ((([] : List T30)).length : Int))))) > (0 : Int))))]) rfl trivial fun a hk => ?_
    refine wpListIn_nil ?_
    refine then_n ?_
    cases b7 : (decide ((IntKind.wrap .i64 (p1 - (IntKind.wrap .i64 (0 - ((([] : List T30)).length : Int))))) > (0 : Int)))
    · rw [b7] at hk H
      replace H := bifF H
      refine x_if hk (b := false) rfl ?_
      refine (show Code.wpIn _ _ _ _ _ _ _ from ?_)
      refine wpIn_skip ?_
      refine then_n ?_
      refine x_seq ?_
      refine wpIn_region_lit ?_
      refine x_run tab hk (k := 2) (lv := []) (ks := [4]) (e' := [(4, .slice none 0 0)]) rfl trivial fun a hk => ?_
      refine wpListIn_nil ?_
      refine then_n ?_
      refine wpIn_ret ?_
      obtain rfl := Option.some.inj H
      exact x_retG hk (rs := [.tmp 4]) (vs := [.slice none 0 0]) rfl ⟨rfl, trivial⟩ ⟨fun b_ => if b_ < w.heap.size then o b_ else (fun _ => 0) (o5 b_), none, 0, rfl, hs.close0 o (fun _ => 0), (Ft.of_all (fun _ => Own.nil _ _ _) _ _ _), (by simp)⟩
    · rw [b7] at hk H
      replace H := bifT H
      refine x_if hk (b := true) rfl ?_
      refine (show Code.wpIn _ _ _ _ _ _ _ from ?_)
      refine wpIn_region_lit ?_
      refine x_run tab hk (k := 5) (lv := [.slice none 0 0]) (ks := [0, 20, 21]) (e' := [(0, .slice none 0 0), (20, .slice none 0 0), (21, .int .i64 (IntKind.wrap .i64 (p1 - (IntKind.wrap .i64 (0 - ((([] : List T30)).length : Int))))))]) rfl ⟨(ask_take0 tab rfl rfl rfl rfl), trivial⟩ fun a hk => ?_
      refine x_op hk rfl ?_
      obtain ⟨q11, H⟩ := ifS H
      obtain ⟨q12, H⟩ := ifS H
      refine op_appendZ (o := o5) ET30 tab hk rfl rfl rfl rfl rfl rfl rfl rfl q11 q12 1 fun A13 c14 w8 o9 st10 f15 => ?_
      replace hs := hs.loc0 st10 (by decide)
      have hk := hk.put 22 (.slice A13 (Int.toNat (IntKind.wrap .i64 (p1 - (IntKind.wrap .i64 (0 - ((([] : List T30)).length : Int)))))) c14) rfl
      refine x_run tab hk (k := 4) (lv := [.slice A13 (([] : List T30)).length c14]) (ks := [0]) (e' := [(0, .slice A13 (([] : List T30)).length c14)]) rfl ⟨(ask_take0 tab rfl rfl rfl rfl), trivial⟩ fun a hk => ?_
      refine wpListIn_nil ?_
      refine then_n ?_
      refine x_seq ?_
      refine wpIn_region_lit ?_
      refine x_run tab hk (k := 2) (lv := []) (ks := [4]) (e' := [(4, .slice A13 (([] : List T30)).length c14)]) rfl trivial fun a hk => ?_
      refine wpListIn_nil ?_
      refine then_n ?_
      refine wpIn_ret ?_
      obtain rfl := Option.some.inj H
      exact x_retG hk (rs := [.tmp 4]) (vs := [.slice A13 (([] : List T30)).length c14]) rfl ⟨rfl, trivial⟩ ⟨fun b_ => if b_ < w.heap.size then o b_ else (fun _ => R0) (o9 b_), A13, c14, rfl, hs.close0 o (fun _ => R0), hs.close_ft (o := o) (ρ := fun _ => R0) f15 (by decide) rfl, (Nat.zero_le _)⟩
  refine x_seq ?_
  refine wpIn_region_lit ?_
  refine x_run tab hk (k := 2) (lv := []) (ks := [0, 1, 6]) (e' := [(0, .slice none 0 0), (1, .int .i64 p1), (6, .bool (decide (p1 < (0 : Int))))]) rfl trivial fun a hk => ?_
  refine wpListIn_nil ?_
  refine then_n ?_
  cases b16 : (decide (p1 < (0 : Int)))
  · rw [b16] at hk H
    replace H := bifF H
    refine x_if hk (b := false) rfl ?_
    refine (show Code.wpIn _ _ _ _ _ _ _ from ?_)
    refine wpIn_skip ?_
    refine then_n ?_
    exact ⟨o0, (by exact Kn.pick (ks := [0, 1]) hk rfl), hs, H⟩
  · rw [b16] at hk H
    replace H := bifT H
    refine x_if hk (b := true) rfl ?_
    refine (show Code.wpIn _ _ _ _ _ _ _ from ?_)
    refine wpIn_region_lit ?_
    exact absurd H (by simp)

/-! slices.Concat[[]tidewrack/spans.Span,tidewrack/spans.Span] -/
theorem slices_Concat_calls (K : Nat) (Ap0 : Option Addr) (cp0 : Nat) (p0 : List (List T30)) (w : World) (o : Nat → Nat) (LF : Nat) (Lp0 : Nat) (hp0 : NRd (dRows ET30) Ap0 p0 w o Lp0 LF) (hcp0 : (p0).length ≤ cp0) (hd0 : ([LF] : List Nat).Nodup) (hd1 : Lp0 ∉ [LF]) (R0 : Nat) (r : List T30) (H : slices_Concat K p0 = some r) :
    Calls Try.prog 35 #[.slice Ap0 (p0).length cp0] w (Ret fun v_ w' => ∃ o' : Nat → Nat, ∃ A0 : Option Addr, ∃ c0 : Nat, v_ = .slice A0 (r).length c0 ∧ St [] w o w' o' ∧ Ft (Own ET30 43 (.slice A0 (r).length c0) r) w' o' R0 ∧ (r).length ≤ c0) := by
  refine x_enter (vs := [.slice Ap0 (p0).length cp0]) Try.func35 rfl rfl rfl fun a hk => ?_
  obtain ⟨oi, hs0, h0, h1, hob, hoz, hoa⟩ := St.startM2 w o (m := 1) hd0 rfl
  have hs := hs0 []
  have f900000 := hp0.conv (fun P_ => h0 P_ _ hd1) (fun _ h_ => h1 0 1 h_ rfl rfl)
  clear h0 h1 hs0
  rw [slices_Concat] at H
  refine x_seq ?_
  refine wpIn_region_lit ?_
  refine x_run tab hk (k := 1) (lv := []) (ks := [0]) (e' := [(0, .slice Ap0 (p0).length cp0)]) rfl trivial fun a hk => ?_
  refine wpListIn_nil ?_
  refine then_n ?_
  refine x_seq ?_
  refine wpIn_region_lit ?_
  refine x_run tab hk (k := 1) (lv := []) (ks := [0, 3]) (e' := [(0, .slice Ap0 (p0).length cp0), (3, .int .i64 0)]) rfl trivial fun a hk => ?_
  refine wpListIn_nil ?_
  refine then_n ?_
  refine x_mid (fun a_ w_ => ∃ o44 : Nat → Nat, ∃ x45 : Int, Kn 36 a_ [(0, .slice Ap0 (p0).length cp0), (3, .int .i64 x45)] ∧ St [] w oi w_ o44 ∧ NRd (dRows ET30) Ap0 p0 w_ o44 0 1 ∧ slices_Concat_j1 K p0 x45 = some r) ?_ ?_
  rotate_left
  · rintro a w46 ⟨o44, x45, hk, hs, f900000, H⟩
    rw [slices_Concat_j1] at H
    refine x_seq ?_
    refine wpIn_region_lit ?_
    refine x_run tab hk (k := 1) (lv := []) (ks := [0, 23]) (e' := [(0, .slice Ap0 (p0).length cp0), (23, .int .i64 x45)]) rfl trivial fun a hk => ?_
    refine x_op hk rfl ?_
    obtain ⟨t50, hc51, H⟩ := bindS H
    refine op_call hk ent_42 (vs := [.slice none 0 0, .int .i64 x45]) rfl (slices_Grow_calls x45 _ o44  2  _ hc51) ?_
    rintro _ w52 ⟨o53, A55, c56, rfl, st54, f57, hc58⟩
    replace f900000 := f900000.st st54 (by decide)
    replace hs := hs.locQ st54 hob rfl
    have hk := hk.put 24 (.slice A55 (t50).length c56) rfl
    refine x_run tab hk (k := 1) (lv := []) (ks := [0, 6]) (e' := [(0, .slice Ap0 (p0).length cp0), (6, .slice A55 (t50).length c56)]) rfl trivial fun a hk => ?_
    refine wpListIn_nil ?_
    refine then_n ?_
    refine x_mid (fun a_ w_ => ∃ o131 : Nat → Nat, ∃ A132 : Option Addr, ∃ c133 : Nat, ∃ l134 : List T30, Kn 36 a_ [(6, .slice A132 (l134).length c133)] ∧ St [] w oi w_ o131 ∧ Ft (Own ET30 43 (.slice A132 (l134).length c133) l134) w_ o131 5 ∧ (l134).length ≤ c133 ∧ slices_Concat_j2 l134 = some r) ?_ ?_
    rotate_left
    · rintro a w137 ⟨o131, A132, c133, l134, hk, hs, f135, hc136, H⟩
      rw [slices_Concat_j2] at H
      refine x_seq ?_
      refine wpIn_region_lit ?_
      refine x_run tab hk (k := 2) (lv := []) (ks := [2]) (e' := [(2, .slice A132 (l134).length c133)]) rfl trivial fun a hk => ?_
      refine wpListIn_nil ?_
      refine then_n ?_
      refine wpIn_ret ?_
      obtain rfl := Option.some.inj H
      exact x_retG hk (rs := [.tmp 2]) (vs := [.slice A132 (l134).length c133]) rfl ⟨rfl, trivial⟩ ⟨cl w oi o [] (fun l_ => if l_ = 1 then LF else if l_ = 5 then R0 else 0) o131, A132, c133, rfl, hs.closeF (Lm := []) (Sh := []) hoa rfl (fun l_ => if l_ = 1 then LF else if l_ = 5 then R0 else 0), hs.closeM_ft (o := o) (ρ := fun l_ => if l_ = 1 then LF else if l_ = 5 then R0 else 0) f135 (lab_none hob rfl) rfl, hc136⟩
    refine x_seq ?_
    refine wpIn_region_lit ?_
    refine x_run tab hk (k := 3) (lv := []) (ks := [6, 25, 26, 27]) (e' := [(6, .slice A55 (t50).length c56), (25, .slice Ap0 (p0).length cp0), (26, .int .i64 ((p0).length : Int)), (27, .int .i64 0)]) rfl trivial fun a hk => ?_
    refine wpListIn_nil ?_
    refine then_n ?_
    refine wpIn_block ?_
    refine x_loop (fun j_ a_ w_ => ∃ o157 : Nat → Nat, ∃ A158 : Option Addr, ∃ c159 : Nat, ∃ l160 : List T30, ∃ x163 : Int, Kn 36 a_ [(6, .slice A158 (l160).length c159), (25, .slice Ap0 (p0).length cp0), (26, .int .i64 ((p0).length : Int)), (27, .int .i64 x163)] ∧ St [] w oi w_ o157 ∧ Ft (Own ET30 43 (.slice A158 (l160).length c159) l160) w_ o157 7 ∧ NRd (dRows ET30) Ap0 p0 w_ o157 0 1 ∧ (l160).length ≤ c159 ∧ slices_Concat_l3 p0 j_ l160 x163 = some r) (k := K) ⟨(fun b_ => (fun l_ => if l_ = 2 then 7 else l_) (o53 b_)), A55, c56, t50, 0, (by exact Kn.pick (ks := [6, 25, 26, 27]) hk rfl), (hs.relabM hob (fun l_ => if l_ = 2 then 7 else l_) (by decide)), (f57.relab (fun l_ => if l_ = 2 then 7 else l_) rfl), (f900000.relab (fun l_ => if l_ = 2 then 7 else l_) rfl), hc58, H⟩ (by rintro _ _ ⟨_, _, _, _, _, _, _, _, _, _, H_⟩; exact absurd (show (none : Option (List T30)) = some r from H_) (by simp)) ?_
    rintro k181 a w180 ⟨o157, A158, c159, l160, x163, hk, hs, f161, f900000, hc162, H⟩
    rw [slices_Concat_l3] at H
    obtain ⟨lp182, hlp183⟩ : ∃ lp_, lp_ = slices_Concat_l3 p0 k181 := ⟨_, rfl⟩
    rw [← hlp183] at H
    refine x_seq ?_
    refine wpIn_region_lit ?_
    refine x_run tab hk (k := 1) (lv := []) (ks := [6, 25, 26, 27, 28]) (e' := [(6, .slice A158 (l160).length c159), (25, .slice Ap0 (p0).length cp0), (26, .int .i64 ((p0).length : Int)), (27, .int .i64 x163), (28, .bool (decide (x163 < ((p0).length : Int))))]) rfl trivial fun a hk => ?_
    refine wpListIn_nil ?_
    refine then_n ?_
    refine x_seq ?_
    cases b184 : (decide (x163 < ((p0).length : Int)))
    · rw [b184] at hk H
      replace H := bifF H
      refine x_if hk (b := false) rfl ?_
      refine (show Code.wpIn _ _ _ _ _ _ _ from ?_)
      refine wpIn_exit ?_
      refine then_x ?_
      refine then_x ?_
      refine blk_x ?_
      refine then_n ?_
      exact ⟨(fun b_ => (fun l_ => if l_ = 7 then 5 else l_) (o157 b_)), A158, c159, l160, (by exact Kn.pick (ks := [6]) hk rfl), (hs.relabM hob (fun l_ => if l_ = 7 then 5 else l_) (by decide)), (f161.relab (fun l_ => if l_ = 7 then 5 else l_) rfl), hc162, H⟩
    · rw [b184] at hk H
      replace H := bifT H
      refine x_if hk (b := true) rfl ?_
      refine (show Code.wpIn _ _ _ _ _ _ _ from ?_)
      refine wpIn_skip ?_
      refine then_n ?_
      refine x_seq ?_
      refine wpIn_block ?_
      refine x_seq ?_
      refine wpIn_region_lit ?_
      obtain ⟨q185, H⟩ := ifS H
      obtain ⟨ad186, hAad186⟩ := NRd.addr f900000 q185
      have hk_C := hk
      have f161_C := f161
      have f900000_C := f900000
      subst hAad186
      have hk := hk_C
      clear hk_C
      have f161 := f161_C
      clear f161_C
      have f900000 := f900000_C
      clear f900000_C
      obtain ⟨A187, c188, f189, f190, hc191⟩ := NRd.row f900000 (P := Try.prog) tab (t := 38) rfl (i := x163) q185
      refine x_run tab hk (k := 3) (lv := [.slice A187 ((rdD [] p0 x163)).length c188]) (ks := [6, 8, 25, 26, 27]) (e' := [(6, .slice A158 (l160).length c159), (8, .slice A187 ((rdD [] p0 x163)).length c188), (25, .slice (some ad186) (p0).length cp0), (26, .int .i64 ((p0).length : Int)), (27, .int .i64 x163)]) rfl ⟨q185, f189.now, trivial⟩ fun a hk => ?_
      refine wpListIn_nil ?_
      refine then_n ?_
      refine wpIn_region_lit ?_
      refine x_run tab hk (k := 2) (lv := []) (ks := [25, 26, 27, 31, 32]) (e' := [(25, .slice (some ad186) (p0).length cp0), (26, .int .i64 ((p0).length : Int)), (27, .int .i64 x163), (31, .slice A158 (l160).length c159), (32, .slice A187 ((rdD [] p0 x163)).length c188)]) rfl trivial fun a hk => ?_
      refine x_op hk rfl ?_
      obtain ⟨q195, H⟩ := ifS H
      refine op_append (o := o157) (E := ET30) (xs := l160) (ys := (rdD [] p0 x163)) tab hk rfl rfl rfl rfl rfl rfl rfl f161 f190.now q195 fun A196 c197 w192 o193 st194 f198 hc199 => ?_
      replace f190 := f190.st st194 (by decide)
      replace f900000 := f900000.st st194 (by decide)
      replace hs := hs.locQ st194 hob rfl
      have hk := hk.put 33 (.slice A196 ((l160 ++ (rdD [] p0 x163))).length c197) rfl
      refine x_run tab hk (k := 1) (lv := []) (ks := [6, 25, 26, 27]) (e' := [(6, .slice A196 ((l160 ++ (rdD [] p0 x163))).length c197), (25, .slice (some ad186) (p0).length cp0), (26, .int .i64 ((p0).length : Int)), (27, .int .i64 x163)]) rfl trivial fun a hk => ?_
      refine wpListIn_nil ?_
      refine blk_n ?_
      refine then_n ?_
      refine wpIn_region_lit ?_
      refine x_run tab hk (k := 2) (lv := []) (ks := [6, 25, 26, 27]) (e' := [(6, .slice A196 ((l160 ++ (rdD [] p0 x163))).length c197), (25, .slice (some ad186) (p0).length cp0), (26, .int .i64 ((p0).length : Int)), (27, .int .i64 (IntKind.wrap .i64 (x163 + 1)))]) rfl trivial fun a hk => ?_
      refine wpListIn_nil ?_
      refine then_n ?_
      exact ⟨k181, Nat.le_refl _, o193, A196, c197, (l160 ++ (rdD [] p0 x163)), (IntKind.wrap .i64 (x163 + 1)), (by exact Kn.pick (ks := [6, 25, 26, 27]) hk rfl), hs, f198, f900000, hc199, (hlp183 ▸ H)⟩
  refine x_seq ?_
  refine wpIn_region_lit ?_
  refine x_run tab hk (k := 3) (lv := []) (ks := [0, 3, 9, 10, 11]) (e' := [(0, .slice Ap0 (p0).length cp0), (3, .int .i64 0), (9, .slice Ap0 (p0).length cp0), (10, .int .i64 ((p0).length : Int)), (11, .int .i64 0)]) rfl trivial fun a hk => ?_
  refine wpListIn_nil ?_
  refine then_n ?_
  refine wpIn_block ?_
  refine x_loop (fun j_ a_ w_ => ∃ o212 : Nat → Nat, ∃ x213 : Int, ∃ x214 : Int, Kn 36 a_ [(0, .slice Ap0 (p0).length cp0), (3, .int .i64 x213), (9, .slice Ap0 (p0).length cp0), (10, .int .i64 ((p0).length : Int)), (11, .int .i64 x214)] ∧ St [] w oi w_ o212 ∧ NRd (dRows ET30) Ap0 p0 w_ o212 0 1 ∧ slices_Concat_l4 K p0 j_ x213 x214 = some r) (k := K) ⟨oi, 0, 0, (by exact Kn.pick (ks := [0, 3, 9, 10, 11]) hk rfl), hs, f900000, H⟩ (by rintro _ _ ⟨_, _, _, _, _, _, H_⟩; exact absurd (show (none : Option (List T30)) = some r from H_) (by simp)) ?_
  rintro k225 a w224 ⟨o212, x213, x214, hk, hs, f900000, H⟩
  rw [slices_Concat_l4] at H
  obtain ⟨lp226, hlp227⟩ : ∃ lp_, lp_ = slices_Concat_l4 K p0 k225 := ⟨_, rfl⟩
  rw [← hlp227] at H
  refine x_seq ?_
  refine wpIn_region_lit ?_
  refine x_run tab hk (k := 1) (lv := []) (ks := [0, 3, 9, 10, 11, 12]) (e' := [(0, .slice Ap0 (p0).length cp0), (3, .int .i64 x213), (9, .slice Ap0 (p0).length cp0), (10, .int .i64 ((p0).length : Int)), (11, .int .i64 x214), (12, .bool (decide (x214 < ((p0).length : Int))))]) rfl trivial fun a hk => ?_
  refine wpListIn_nil ?_
  refine then_n ?_
  refine x_seq ?_
  cases b228 : (decide (x214 < ((p0).length : Int)))
  · rw [b228] at hk H
    replace H := bifF H
    refine x_if hk (b := false) rfl ?_
    refine (show Code.wpIn _ _ _ _ _ _ _ from ?_)
    refine wpIn_exit ?_
    refine then_x ?_
    refine then_x ?_
    refine blk_x ?_
    refine then_n ?_
    exact ⟨o212, x213, (by exact Kn.pick (ks := [0, 3]) hk rfl), hs, f900000, H⟩
  · rw [b228] at hk H
    replace H := bifT H
    refine x_if hk (b := true) rfl ?_
    refine (show Code.wpIn _ _ _ _ _ _ _ from ?_)
    refine wpIn_skip ?_
    refine then_n ?_
    refine x_seq ?_
    refine wpIn_block ?_
    refine x_seq ?_
    refine wpIn_region_lit ?_
    obtain ⟨q229, H⟩ := ifS H
    obtain ⟨ad230, hAad230⟩ := NRd.addr f900000 q229
    have hk_C := hk
    have f900000_C := f900000
    subst hAad230
    have hk := hk_C
    clear hk_C
    have f900000 := f900000_C
    clear f900000_C
    obtain ⟨A231, c232, f233, f234, hc235⟩ := NRd.row f900000 (P := Try.prog) tab (t := 38) rfl (i := x214) q229
    refine x_run tab hk (k := 3) (lv := [.slice A231 ((rdD [] p0 x214)).length c232]) (ks := [0, 3, 5, 9, 10, 11]) (e' := [(0, .slice (some ad230) (p0).length cp0), (3, .int .i64 x213), (5, .slice A231 ((rdD [] p0 x214)).length c232), (9, .slice (some ad230) (p0).length cp0), (10, .int .i64 ((p0).length : Int)), (11, .int .i64 x214)]) rfl ⟨q229, f233.now, trivial⟩ fun a hk => ?_
    refine wpListIn_nil ?_
    refine then_n ?_
    refine x_seq ?_
    refine wpIn_region_lit ?_
    refine x_run tab hk (k := 5) (lv := []) (ks := [0, 3, 9, 10, 11]) (e' := [(0, .slice (some ad230) (p0).length cp0), (3, .int .i64 (IntKind.wrap .i64 (x213 + (((rdD [] p0 x214)).length : Int)))), (9, .slice (some ad230) (p0).length cp0), (10, .int .i64 ((p0).length : Int)), (11, .int .i64 x214)]) rfl trivial fun a hk => ?_
    refine wpListIn_nil ?_
    refine then_n ?_
    refine x_seq ?_
    refine wpIn_region_lit ?_
    refine x_run tab hk (k := 2) (lv := []) (ks := [0, 3, 9, 10, 11, 20]) (e' := [(0, .slice (some ad230) (p0).length cp0), (3, .int .i64 (IntKind.wrap .i64 (x213 + (((rdD [] p0 x214)).length : Int)))), (9, .slice (some ad230) (p0).length cp0), (10, .int .i64 ((p0).length : Int)), (11, .int .i64 x214), (20, .bool (decide ((IntKind.wrap .i64 (x213 + (((rdD [] p0 x214)).length : Int))) < (0 : Int))))]) rfl trivial fun a hk => ?_
    refine wpListIn_nil ?_
    refine then_n ?_
    cases b236 : (decide ((IntKind.wrap .i64 (x213 + (((rdD [] p0 x214)).length : Int))) < (0 : Int)))
    · rw [b236] at hk H
      replace H := bifF H
      refine x_if hk (b := false) rfl ?_
      refine (show Code.wpIn _ _ _ _ _ _ _ from ?_)
      refine wpIn_skip ?_
      refine blk_n ?_
      refine then_n ?_
      refine wpIn_region_lit ?_
      refine x_run tab hk (k := 2) (lv := []) (ks := [0, 3, 9, 10, 11]) (e' := [(0, .slice (some ad230) (p0).length cp0), (3, .int .i64 (IntKind.wrap .i64 (x213 + (((rdD [] p0 x214)).length : Int)))), (9, .slice (some ad230) (p0).length cp0), (10, .int .i64 ((p0).length : Int)), (11, .int .i64 (IntKind.wrap .i64 (x214 + 1)))]) rfl trivial fun a hk => ?_
      refine wpListIn_nil ?_
      refine then_n ?_
      exact ⟨k225, Nat.le_refl _, o212, (IntKind.wrap .i64 (x213 + (((rdD [] p0 x214)).length : Int))), (IntKind.wrap .i64 (x214 + 1)), (by exact Kn.pick (ks := [0, 3, 9, 10, 11]) hk rfl), hs, f900000, (hlp227 ▸ H)⟩
    · rw [b236] at hk H
      replace H := bifT H
      refine x_if hk (b := true) rfl ?_
      refine (show Code.wpIn _ _ _ _ _ _ _ from ?_)
      refine wpIn_region_lit ?_
      exact absurd H (by simp)

/-! (*tidewrack/spans.Set).Add -/
set_option maxHeartbeats 4000000 in
set_option maxRecDepth 20000 in
theorem spans_Set_Add_calls (K : Nat) (bp0 : Nat) (Ap0_0 : Option Addr) (cp0_0 : Nat) (p0 : T48) (Ap1 : Option Addr) (cp1 : Nat) (p1 : List T30) (w : World) (o : Nat → Nat) (Lp0 : Nat) (hp0 : Ft (Bx bp0 49 [.slice Ap0_0 (p0.l).length cp0_0]) w o Lp0) (Lp0_0 : Nat) (hp0_0 : Ft (Own ET30 43 (.slice Ap0_0 (p0.l).length cp0_0) p0.l) w o Lp0_0) (hcp0_0 : (p0.l).length ≤ cp0_0) (Lp1 : Nat) (hp1 : Ft (RdC ET30 Ap1 p1) w o Lp1) (hcp1 : (p1).length ≤ cp1) (hd0 : ([Lp0, Lp0_0] : List Nat).Nodup) (hd1 : Lp1 ∉ [Lp0, Lp0_0]) (r : T48) (H : spans_Set_Add K p0 p1 = some r) :
    Calls Try.prog 22 #[.pointer (some ⟨bp0, 0, none⟩), .slice Ap1 (p1).length cp1] w (Ret fun v_ w' => ∃ o' : Nat → Nat, ∃ A0 : Option Addr, ∃ c0 : Nat, v_ = .tuple #[] ∧ St [Lp0, Lp0_0] w o w' o' ∧ Ft (Bx bp0 49 [.slice A0 (r.l).length c0]) w' o' Lp0 ∧ Ft (Own ET30 43 (.slice A0 (r.l).length c0) r.l) w' o' Lp0_0 ∧ (r.l).length ≤ c0) := by
  refine x_enter (vs := [.pointer (some ⟨bp0, 0, none⟩), .slice Ap1 (p1).length cp1]) Try.func22 rfl rfl rfl fun a hk => ?_
  obtain ⟨oi, hs0, h0, h1, hob, hoz, hoa⟩ := St.startM2 w o (m := 2) hd0 rfl
  have hs := hs0 [1, 2]
  have hom := lab_in hob (MM := [1, 2]) (by decide)
  have f900000 := h1 1 2 hp0_0 rfl rfl
  have f900019 := h1 0 1 hp0 rfl rfl
  have f900020 := h0 _ _ hd1 hp1
  clear h0 h1 hs0
  rw [spans_Set_Add] at H
  refine x_scope ?_
  refine x_seq ?_
  refine wpIn_label ?_
  refine then_n ?_
  refine x_seq ?_
  refine wpIn_region_lit ?_
  refine x_run tab hk (k := 3) (lv := []) (ks := [0, 9, 10, 11]) (e' := [(0, .pointer (some ⟨bp0, 0, none⟩)), (9, .slice Ap1 (p1).length cp1), (10, .int .i64 ((p1).length : Int)), (11, .int .i64 0)]) rfl trivial fun a hk => ?_
  refine wpListIn_nil ?_
  refine then_n ?_
  refine wpIn_block ?_
  refine x_loop (fun j_ a_ w_ => ∃ o6574 : Nat → Nat, ∃ A6575 : Option Addr, ∃ c6576 : Nat, ∃ l6577 : List T30, ∃ A6580 : Option Addr, ∃ c6581 : Nat, ∃ x6584 : Int, Kn 79 a_ [(0, .pointer (some ⟨bp0, 0, none⟩)), (9, .slice A6580 (p1).length c6581), (10, .int .i64 ((p1).length : Int)), (11, .int .i64 x6584)] ∧ St [1, 2] w oi w_ o6574 ∧ Ft (Own ET30 43 (.slice A6575 (l6577).length c6576) l6577) w_ o6574 2 ∧ Ft (RdC ET30 A6580 p1) w_ o6574 0 ∧ Ft (Bx bp0 49 [.slice A6575 (l6577).length c6576]) w_ o6574 1 ∧ (l6577).length ≤ c6576 ∧ (p1).length ≤ c6581 ∧ spans_Set_Add_l1 K p1 j_ l6577 x6584 = some r) (k := K) ⟨oi, Ap0_0, cp0_0, p0.l, Ap1, cp1, 0, (by exact Kn.pick (ks := [0, 9, 10, 11]) hk rfl), hs, f900000, f900020, f900019, hcp0_0, hcp1, H⟩ (by rintro _ _ ⟨_, _, _, _, _, _, _, _, _, _, _, _, _, _, H_⟩; exact absurd (show (none : Option T48) = some r from H_) (by simp)) ?_
  rintro k13156 a w13155 ⟨o6574, A6575, c6576, l6577, A6580, c6581, x6584, hk, hs, f6578, f6582, f900019, hc6579, hc6583, H⟩
  rw [spans_Set_Add_l1] at H
  obtain ⟨lp13157, hlp13158⟩ : ∃ lp_, lp_ = spans_Set_Add_l1 K p1 k13156 := ⟨_, rfl⟩
  rw [← hlp13158] at H
  refine x_seq ?_
  refine wpIn_region_lit ?_
  refine x_run tab hk (k := 1) (lv := []) (ks := [0, 9, 10, 11, 12]) (e' := [(0, .pointer (some ⟨bp0, 0, none⟩)), (9, .slice A6580 (p1).length c6581), (10, .int .i64 ((p1).length : Int)), (11, .int .i64 x6584), (12, .bool (decide (x6584 < ((p1).length : Int))))]) rfl trivial fun a hk => ?_
  refine wpListIn_nil ?_
  refine then_n ?_
  refine x_seq ?_
  cases b13159 : (decide (x6584 < ((p1).length : Int)))
  · rw [b13159] at hk H
    replace H := bifF H
    refine x_if hk (b := false) rfl ?_
    refine (show Code.wpIn _ _ _ _ _ _ _ from ?_)
    refine wpIn_exit ?_
    refine then_x ?_
    refine then_x ?_
    refine blk_x ?_
    refine sc_n ?_
    obtain rfl := Option.some.inj H
    exact x_endG hk (rs := []) (vs := []) rfl trivial ⟨cl w oi o [1, 2] (fun l_ => if l_ = 1 then Lp0 else if l_ = 2 then Lp0_0 else 0) o6574, A6575, c6576, rfl, hs.closeM hoz (by decide) (fun l_ => if l_ = 1 then Lp0 else if l_ = 2 then Lp0_0 else 0), hs.closeM_ft (o := o) (ρ := fun l_ => if l_ = 1 then Lp0 else if l_ = 2 then Lp0_0 else 0) f900019 (lab_at hoa (i := 0) rfl) rfl, hs.closeM_ft (o := o) (ρ := fun l_ => if l_ = 1 then Lp0 else if l_ = 2 then Lp0_0 else 0) f6578 (lab_at hoa (i := 1) rfl) rfl, hc6579⟩
  · rw [b13159] at hk H
    replace H := bifT H
    refine x_if hk (b := true) rfl ?_
    refine (show Code.wpIn _ _ _ _ _ _ _ from ?_)
    refine wpIn_skip ?_
    refine then_n ?_
    refine x_mid (fun a_ w_ => ∃ o16446 : Nat → Nat, ∃ A16447 : Option Addr, ∃ c16448 : Nat, ∃ l16449 : List T30, ∃ A16452 : Option Addr, ∃ c16453 : Nat, Kn 79 a_ [(0, .pointer (some ⟨bp0, 0, none⟩)), (9, .slice A16452 (p1).length c16453), (10, .int .i64 ((p1).length : Int)), (11, .int .i64 x6584)] ∧ St [1, 2] w oi w_ o16446 ∧ Ft (Own ET30 43 (.slice A16447 (l16449).length c16448) l16449) w_ o16446 2 ∧ Ft (RdC ET30 A16452 p1) w_ o16446 0 ∧ Ft (Bx bp0 49 [.slice A16447 (l16449).length c16448]) w_ o16446 1 ∧ (l16449).length ≤ c16448 ∧ (p1).length ≤ c16453 ∧ spans_Set_Add_j2 x6584 lp13157 l16449 = some r) ?_ ?_
    rotate_left
    · rintro a w16456 ⟨o16446, A16447, c16448, l16449, A16452, c16453, hk, hs, f16450, f16454, f900019, hc16451, hc16455, H⟩
      rw [spans_Set_Add_j2] at H
      refine wpIn_region_lit ?_
      refine x_run tab hk (k := 2) (lv := []) (ks := [0, 9, 10, 11]) (e' := [(0, .pointer (some ⟨bp0, 0, none⟩)), (9, .slice A16452 (p1).length c16453), (10, .int .i64 ((p1).length : Int)), (11, .int .i64 (IntKind.wrap .i64 (x6584 + 1)))]) rfl trivial fun a hk => ?_
      refine wpListIn_nil ?_
      refine then_n ?_
      exact ⟨k13156, Nat.le_refl _, o16446, A16447, c16448, l16449, A16452, c16453, (IntKind.wrap .i64 (x6584 + 1)), (by exact Kn.pick (ks := [0, 9, 10, 11]) hk rfl), hs, f16450, f16454, f900019, hc16451, hc16455, (hlp13158 ▸ H)⟩
    refine wpIn_block ?_
    refine x_seq ?_
    refine wpIn_region_lit ?_
    obtain ⟨q16457, H⟩ := ifS H
    obtain ⟨ad16458, hAad16458⟩ := RdC.addr f6582.now q16457
    have hk_C := hk
    have f6578_C := f6578
    have f6582_C := f6582
    have f900019_C := f900019
    subst hAad16458
    have hk := hk_C
    clear hk_C
    have f6578 := f6578_C
    clear f6578_C
    have f6582 := f6582_C
    clear f6582_C
    have f900019 := f900019_C
    clear f900019_C
    refine x_run tab hk (k := 2) (lv := [.agg #[.int .i64 ((rdD zT30 p1 x6584).From), .int .i64 ((rdD zT30 p1 x6584).To)]]) (ks := [0, 9, 10, 11, 14]) (e' := [(0, .pointer (some ⟨bp0, 0, none⟩)), (9, .slice (some ad16458) (p1).length c6581), (10, .int .i64 ((p1).length : Int)), (11, .int .i64 x6584), (14, .agg #[.int .i64 ((rdD zT30 p1 x6584).From), .int .i64 ((rdD zT30 p1 x6584).To)])]) rfl ⟨q16457, (load_elem (E := ET30) (i := x6584) (dx := zT30) tab rfl rfl f6582.now q16457), trivial⟩ fun a hk => ?_
    refine x_op hk rfl ?_
    refine op_alloc (o := o6574) tab (t := 43) (cs := [.int .i64 0, .int .i64 0]) rfl rfl 1589 fun bx16462 w16459 o16460 st16461 f16463 => ?_
    replace f6578 := f6578.st st16461 (by decide)
    replace f6582 := f6582.st st16461 (by decide)
    replace f900019 := f900019.st st16461 (by decide)
    replace hs := hs.locM st16461 (by decide) hom
    have hk := hk.put 5 (.pointer (some ⟨bx16462, 0, none⟩)) rfl
    refine x_op hk rfl ?_
    refine op_store tab hk (t := 43) (v := .agg #[.int .i64 ((rdD zT30 p1 x6584).From), .int .i64 ((rdD zT30 p1 x6584).To)]) (b := bx16462) (k := 0) (cs' := [.int .i64 ((rdD zT30 p1 x6584).From), .int .i64 ((rdD zT30 p1 x6584).To)]) rfl rfl rfl rfl rfl rfl f16463 rfl rfl fun w16464 o16465 st16466 f16463_ => ?_
    replace f6578 := f6578.st st16466 (by decide)
    replace f6582 := f6582.st st16466 (by decide)
    replace f900019 := f900019.st st16466 (by decide)
    replace hs := hs.locM st16466 (by decide) hom
    replace f16463 := f16463_
    refine wpListIn_nil ?_
    refine then_n ?_
    refine x_seq ?_
    refine x_seq ?_
    refine wpIn_region_lit ?_
    refine x_run tab hk (k := 1) (lv := [.agg #[.int .i64 ((rdD zT30 p1 x6584).From), .int .i64 ((rdD zT30 p1 x6584).To)]]) (ks := [0, 5, 9, 10, 11, 15]) (e' := [(0, .pointer (some ⟨bp0, 0, none⟩)), (5, .pointer (some ⟨bx16462, 0, none⟩)), (9, .slice (some ad16458) (p1).length c6581), (10, .int .i64 ((p1).length : Int)), (11, .int .i64 x6584), (15, .agg #[.int .i64 ((rdD zT30 p1 x6584).From), .int .i64 ((rdD zT30 p1 x6584).To)])]) rfl ⟨(load_box tab rfl rfl f16463.now (k := 0) rfl rfl), trivial⟩ fun a hk => ?_
    refine x_op hk rfl ?_
    obtain ⟨t16470, hc16471, H⟩ := bindS H
    refine op_call hk ent_33 (vs := [.agg #[.int .i64 ((rdD zT30 p1 x6584).From), .int .i64 ((rdD zT30 p1 x6584).To)]]) rfl (spans_Span_fit_calls (rdD zT30 p1 x6584) _ o16465    _ hc16471) ?_
    rintro _ w16472 ⟨o16473, rfl, st16474⟩
    replace f16463 := f16463.st st16474 (by decide)
    replace f6578 := f6578.st st16474 (by decide)
    replace f6582 := f6582.st st16474 (by decide)
    replace f900019 := f900019.st st16474 (by decide)
    replace hs := hs.locM st16474 (by decide) hom
    have hk := hk.put 16 (.agg #[.int .i64 t16470.From, .int .i64 t16470.To]) rfl
    refine x_op hk rfl ?_
    refine op_store tab hk (t := 43) (v := .agg #[.int .i64 t16470.From, .int .i64 t16470.To]) (b := bx16462) (k := 0) (cs' := [.int .i64 t16470.From, .int .i64 t16470.To]) rfl rfl rfl rfl rfl rfl f16463 rfl rfl fun w16475 o16476 st16477 f16463_ => ?_
    replace f6578 := f6578.st st16477 (by decide)
    replace f6582 := f6582.st st16477 (by decide)
    replace f900019 := f900019.st st16477 (by decide)
    replace hs := hs.locM st16477 (by decide) hom
    replace f16463 := f16463_
    refine wpListIn_nil ?_
    refine then_n ?_
    refine x_seq ?_
    refine wpIn_region_lit ?_
    refine x_run tab hk (k := 1) (lv := [.agg #[.int .i64 t16470.From, .int .i64 t16470.To]]) (ks := [0, 5, 9, 10, 11, 17]) (e' := [(0, .pointer (some ⟨bp0, 0, none⟩)), (5, .pointer (some ⟨bx16462, 0, none⟩)), (9, .slice (some ad16458) (p1).length c6581), (10, .int .i64 ((p1).length : Int)), (11, .int .i64 x6584), (17, .agg #[.int .i64 t16470.From, .int .i64 t16470.To])]) rfl ⟨(load_box tab rfl rfl f16463.now (k := 0) rfl rfl), trivial⟩ fun a hk => ?_
    refine x_op hk rfl ?_
    obtain ⟨t16481, hc16482, H⟩ := bindS H
    refine op_call hk ent_34 (vs := [.agg #[.int .i64 t16470.From, .int .i64 t16470.To]]) rfl (spans_Span_empty_calls t16470 _ o16476    _ hc16482) ?_
    rintro _ w16483 ⟨o16484, rfl, st16485⟩
    replace f16463 := f16463.st st16485 (by decide)
    replace f6578 := f6578.st st16485 (by decide)
    replace f6582 := f6582.st st16485 (by decide)
    replace f900019 := f900019.st st16485 (by decide)
    replace hs := hs.locM st16485 (by decide) hom
    have hk := hk.put 18 (.bool t16481) rfl
    refine wpListIn_nil ?_
    refine then_n ?_
    cases b16486 : t16481
    · rw [b16486] at hk H
      replace H := bifF H
      refine x_if hk (b := false) rfl ?_
      refine (show Code.wpIn _ _ _ _ _ _ _ from ?_)
      refine wpIn_skip ?_
      refine then_n ?_
      refine x_seq ?_
      refine wpIn_region_lit ?_
      refine x_run tab hk (k := 1) (lv := []) (ks := [0, 5, 6, 9, 10, 11]) (e' := [(0, .pointer (some ⟨bp0, 0, none⟩)), (5, .pointer (some ⟨bx16462, 0, none⟩)), (6, .slice none 0 0), (9, .slice (some ad16458) (p1).length c6581), (10, .int .i64 ((p1).length : Int)), (11, .int .i64 x6584)]) rfl trivial fun a hk => ?_
      refine wpListIn_nil ?_
      refine then_n ?_
      refine x_mid (fun a_ w_ => ∃ o18101 : Nat → Nat, ∃ x18102 : T30, ∃ A18103 : Option Addr, ∃ c18104 : Nat, ∃ l18105 : List T30, Kn 79 a_ [(0, .pointer (some ⟨bp0, 0, none⟩)), (5, .pointer (some ⟨bx16462, 0, none⟩)), (6, .slice A18103 (l18105).length c18104), (9, .slice (some ad16458) (p1).length c6581), (10, .int .i64 ((p1).length : Int)), (11, .int .i64 x6584)] ∧ St [1, 2] w oi w_ o18101 ∧ Ft (Bx bx16462 43 [.int .i64 x18102.From, .int .i64 x18102.To]) w_ o18101 1747 ∧ Ft (Own ET30 43 (.slice A18103 (l18105).length c18104) l18105) w_ o18101 1748 ∧ Ft (Own ET30 43 (.slice A6575 (l6577).length c6576) l6577) w_ o18101 2 ∧ Ft (RdC ET30 (some ad16458) p1) w_ o18101 0 ∧ Ft (Bx bp0 49 [.slice A6575 (l6577).length c6576]) w_ o18101 1 ∧ (l18105).length ≤ c18104 ∧ spans_Set_Add_j3 x6584 lp13157 x18102 l18105 = some r) ?_ ?_
      rotate_left
      · rintro a w18108 ⟨o18101, x18102, A18103, c18104, l18105, hk, hs, f16463, f18106, f6578, f6582, f900019, hc18107, H⟩
        rw [spans_Set_Add_j3] at H
        refine wpIn_region_lit ?_
        refine x_run tab hk (k := 3) (lv := [.agg #[.int .i64 x18102.From, .int .i64 x18102.To]]) (ks := [0, 9, 10, 11, 71, 72, 73]) (e' := [(0, .pointer (some ⟨bp0, 0, none⟩)), (9, .slice (some ad16458) (p1).length c6581), (10, .int .i64 ((p1).length : Int)), (11, .int .i64 x6584), (71, .pointer (some ⟨bp0, 0, none⟩)), (72, .slice A18103 (l18105).length c18104), (73, .agg #[.int .i64 x18102.From, .int .i64 x18102.To])]) rfl ⟨(load_box tab rfl rfl f16463.now (k := 0) rfl rfl), trivial⟩ fun a hk => ?_
        refine x_op hk rfl ?_
        refine op_slice (o := o18101) tab hk (vs := [.agg #[.int .i64 x18102.From, .int .i64 x18102.To]]) (cs := [.int .i64 x18102.From, .int .i64 x18102.To]) rfl rfl rfl rfl rfl rfl rfl rfl rfl 1749 fun bx18112 w18109 o18110 st18111 f18113 => ?_
        replace f18106 := f18106.st st18111 (by decide)
        replace f6578 := f6578.st st18111 (by decide)
        replace f6582 := f6582.st st18111 (by decide)
        replace f900019 := f900019.st st18111 (by decide)
        replace hs := hs.locM st18111 (by decide) hom
        have f18114 : Ft (Own ET30 43 (.slice (some ⟨bx18112, 0, none⟩) (([x18102] : List T30)).length 1) ([x18102] : List T30)) w18109 o18110 1749 := f18113.imp fun _ h_ => Own.of_box h_ rfl (by simp)
        have hk := hk.put 74 (.slice (some ⟨bx18112, 0, none⟩) (([x18102] : List T30)).length 1) rfl
        refine x_op hk rfl ?_
        obtain ⟨q18118, H⟩ := ifS H
        refine op_append (o := o18110) (E := ET30) (xs := l18105) (ys := ([x18102] : List T30)) tab hk rfl rfl rfl rfl rfl rfl rfl f18106 (Own.rd f18114.now) q18118 fun A18119 c18120 w18115 o18116 st18117 f18121 hc18122 => ?_
        replace f18114 := f18114.st st18117 (by decide)
        replace f6578 := f6578.st st18117 (by decide)
        replace f6582 := f6582.st st18117 (by decide)
        replace f900019 := f900019.st st18117 (by decide)
        replace hs := hs.locM st18117 (by decide) hom
        have hk := hk.put 75 (.slice A18119 ((l18105 ++ ([x18102] : List T30))).length c18120) rfl
        refine x_run tab hk (k := 2) (lv := []) (ks := [0, 9, 10, 11, 75, 77]) (e' := [(0, .pointer (some ⟨bp0, 0, none⟩)), (9, .slice (some ad16458) (p1).length c6581), (10, .int .i64 ((p1).length : Int)), (11, .int .i64 x6584), (75, .slice A18119 ((l18105 ++ ([x18102] : List T30))).length c18120), (77, .pointer (some ⟨bp0, 0, none⟩))]) rfl trivial fun a hk => ?_
        refine x_op hk rfl ?_
        refine op_store tab hk (t := 38) (v := .slice A18119 ((l18105 ++ ([x18102] : List T30))).length c18120) (b := bp0) (k := 0) (cs' := [.slice A18119 ((l18105 ++ ([x18102] : List T30))).length c18120]) rfl rfl rfl rfl rfl rfl f900019 rfl rfl fun w18123 o18124 st18125 f900019_ => ?_
        replace f18121 := f18121.st st18125 (by decide)
        replace f6578 := f6578.st st18125 (by decide)
        replace f6582 := f6582.st st18125 (by decide)
        replace hs := hs.locM st18125 (by decide) hom
        replace f900019 := f900019_
        refine wpListIn_nil ?_
        refine blk_n ?_
        refine then_n ?_
        exact ⟨(fun b_ => (fun l_ => if l_ = 1748 then 2 else l_) (o18124 b_)), A18119, c18120, (l18105 ++ ([x18102] : List T30)), (some ad16458), c6581, (by exact Kn.pick (ks := [0, 9, 10, 11]) hk rfl), (hs.relabM hob (fun l_ => if l_ = 1748 then 2 else l_) (by decide)), (f18121.relab (fun l_ => if l_ = 1748 then 2 else l_) rfl), (f6582.relab (fun l_ => if l_ = 1748 then 2 else l_) rfl), (f900019.relab (fun l_ => if l_ = 1748 then 2 else l_) rfl), hc18122, hc6583, H⟩
      refine x_seq ?_
      refine wpIn_region_lit ?_
      refine x_run tab hk (k := 6) (lv := [.slice A6575 (l6577).length c6576]) (ks := [0, 5, 6, 9, 10, 11, 22, 23, 24]) (e' := [(0, .pointer (some ⟨bp0, 0, none⟩)), (5, .pointer (some ⟨bx16462, 0, none⟩)), (6, .slice none 0 0), (9, .slice (some ad16458) (p1).length c6581), (10, .int .i64 ((p1).length : Int)), (11, .int .i64 x6584), (22, .slice A6575 (l6577).length c6576), (23, .int .i64 ((l6577).length : Int)), (24, .int .i64 0)]) rfl ⟨(load1 tab rfl ((Bx.cell f900019.now 0).trans rfl)), trivial⟩ fun a hk => ?_
      refine wpListIn_nil ?_
      refine then_n ?_
      refine wpIn_block ?_
      refine x_loop (fun j_ a_ w_ => ∃ o18655 : Nat → Nat, ∃ x18656 : T30, ∃ A18657 : Option Addr, ∃ c18658 : Nat, ∃ l18659 : List T30, ∃ x18662 : Int, Kn 79 a_ [(0, .pointer (some ⟨bp0, 0, none⟩)), (5, .pointer (some ⟨bx16462, 0, none⟩)), (6, .slice A18657 (l18659).length c18658), (9, .slice (some ad16458) (p1).length c6581), (10, .int .i64 ((p1).length : Int)), (11, .int .i64 x6584), (22, .slice A6575 (l6577).length c6576), (23, .int .i64 ((l6577).length : Int)), (24, .int .i64 x18662)] ∧ St [1, 2] w oi w_ o18655 ∧ Ft (Bx bx16462 43 [.int .i64 x18656.From, .int .i64 x18656.To]) w_ o18655 1800 ∧ Ft (Own ET30 43 (.slice A18657 (l18659).length c18658) l18659) w_ o18655 1801 ∧ Ft (Own ET30 43 (.slice A6575 (l6577).length c6576) l6577) w_ o18655 2 ∧ Ft (RdC ET30 (some ad16458) p1) w_ o18655 0 ∧ Ft (Bx bp0 49 [.slice A6575 (l6577).length c6576]) w_ o18655 1 ∧ (l18659).length ≤ c18658 ∧ spans_Set_Add_l4 K l6577 x6584 lp13157 j_ x18656 l18659 x18662 = some r) (k := K) ⟨(fun b_ => (fun l_ => if l_ = 1589 then 1800 else l_) (o16484 b_)), t16470, none, 0, ([] : List T30), 0, (by exact Kn.pick (ks := [0, 5, 6, 9, 10, 11, 22, 23, 24]) hk rfl), (hs.relabM hob (fun l_ => if l_ = 1589 then 1800 else l_) (by decide)), (f16463.relab (fun l_ => if l_ = 1589 then 1800 else l_) rfl), (Ft.of_all (fun _ => Own.nil _ _ _) _ _ _), (f6578.relab (fun l_ => if l_ = 1589 then 1800 else l_) rfl), (f6582.relab (fun l_ => if l_ = 1589 then 1800 else l_) rfl), (f900019.relab (fun l_ => if l_ = 1589 then 1800 else l_) rfl), (by simp), H⟩ (by rintro _ _ ⟨_, _, _, _, _, _, _, _, _, _, _, _, _, _, H_⟩; exact absurd (show (none : Option T48) = some r from H_) (by simp)) ?_
      rintro k19195 a w19194 ⟨o18655, x18656, A18657, c18658, l18659, x18662, hk, hs, f16463, f18660, f6578, f6582, f900019, hc18661, H⟩
      rw [spans_Set_Add_l4] at H
      obtain ⟨lp19196, hlp19197⟩ : ∃ lp_, lp_ = spans_Set_Add_l4 K l6577 x6584 lp13157 k19195 := ⟨_, rfl⟩
      rw [← hlp19197] at H
      refine x_seq ?_
      refine wpIn_region_lit ?_
      refine x_run tab hk (k := 1) (lv := []) (ks := [0, 5, 6, 9, 10, 11, 22, 23, 24, 25]) (e' := [(0, .pointer (some ⟨bp0, 0, none⟩)), (5, .pointer (some ⟨bx16462, 0, none⟩)), (6, .slice A18657 (l18659).length c18658), (9, .slice (some ad16458) (p1).length c6581), (10, .int .i64 ((p1).length : Int)), (11, .int .i64 x6584), (22, .slice A6575 (l6577).length c6576), (23, .int .i64 ((l6577).length : Int)), (24, .int .i64 x18662), (25, .bool (decide (x18662 < ((l6577).length : Int))))]) rfl trivial fun a hk => ?_
      refine wpListIn_nil ?_
      refine then_n ?_
      refine x_seq ?_
      cases b19198 : (decide (x18662 < ((l6577).length : Int)))
      · rw [b19198] at hk H
        replace H := bifF H
        refine x_if hk (b := false) rfl ?_
        refine (show Code.wpIn _ _ _ _ _ _ _ from ?_)
        refine wpIn_exit ?_
        refine then_x ?_
        refine then_x ?_
        refine blk_x ?_
        refine then_n ?_
        exact ⟨(fun b_ => (fun l_ => if l_ = 1800 then 1747 else if l_ = 1801 then 1748 else l_) (o18655 b_)), x18656, A18657, c18658, l18659, (by exact Kn.pick (ks := [0, 5, 6, 9, 10, 11]) hk rfl), (hs.relabM hob (fun l_ => if l_ = 1800 then 1747 else if l_ = 1801 then 1748 else l_) (by decide)), (f16463.relab (fun l_ => if l_ = 1800 then 1747 else if l_ = 1801 then 1748 else l_) rfl), (f18660.relab (fun l_ => if l_ = 1800 then 1747 else if l_ = 1801 then 1748 else l_) rfl), (f6578.relab (fun l_ => if l_ = 1800 then 1747 else if l_ = 1801 then 1748 else l_) rfl), (f6582.relab (fun l_ => if l_ = 1800 then 1747 else if l_ = 1801 then 1748 else l_) rfl), (f900019.relab (fun l_ => if l_ = 1800 then 1747 else if l_ = 1801 then 1748 else l_) rfl), hc18661, H⟩
      · rw [b19198] at hk H
        replace H := bifT H
        refine x_if hk (b := true) rfl ?_
        refine (show Code.wpIn _ _ _ _ _ _ _ from ?_)
        refine wpIn_skip ?_
        refine then_n ?_
        refine x_seq ?_
        refine wpIn_block ?_
        refine x_seq ?_
        refine wpIn_region_lit ?_
        obtain ⟨q19199, H⟩ := ifS H
        obtain ⟨ad19200, hAad19200⟩ := RdC.addr (Own.rd f6578.now) q19199
        have hk_C := hk
        have f16463_C := f16463
        have f18660_C := f18660
        have f6578_C := f6578
        have f6582_C := f6582
        have f900019_C := f900019
        subst hAad19200
        have hk := hk_C
        clear hk_C
        have f16463 := f16463_C
        clear f16463_C
        have f18660 := f18660_C
        clear f18660_C
        have f6578 := f6578_C
        clear f6578_C
        have f6582 := f6582_C
        clear f6582_C
        have f900019 := f900019_C
        clear f900019_C
        refine x_run tab hk (k := 3) (lv := [.agg #[.int .i64 ((rdD zT30 l6577 x18662).From), .int .i64 ((rdD zT30 l6577 x18662).To)]]) (ks := [0, 5, 6, 9, 10, 11, 22, 23, 24, 26, 28]) (e' := [(0, .pointer (some ⟨bp0, 0, none⟩)), (5, .pointer (some ⟨bx16462, 0, none⟩)), (6, .slice A18657 (l18659).length c18658), (9, .slice (some ad16458) (p1).length c6581), (10, .int .i64 ((p1).length : Int)), (11, .int .i64 x6584), (22, .slice (some ad19200) (l6577).length c6576), (23, .int .i64 ((l6577).length : Int)), (24, .int .i64 x18662), (26, .int .i64 x18662), (28, .agg #[.int .i64 ((rdD zT30 l6577 x18662).From), .int .i64 ((rdD zT30 l6577 x18662).To)])]) rfl ⟨q19199, (load_elem (E := ET30) (i := x18662) (dx := zT30) tab rfl rfl (Own.rd f6578.now) q19199), trivial⟩ fun a hk => ?_
        refine x_op hk rfl ?_
        refine op_alloc (o := o18655) tab (t := 43) (cs := [.int .i64 0, .int .i64 0]) rfl rfl 1854 fun bx19204 w19201 o19202 st19203 f19205 => ?_
        replace f16463 := f16463.st st19203 (by decide)
        replace f18660 := f18660.st st19203 (by decide)
        replace f6578 := f6578.st st19203 (by decide)
        replace f6582 := f6582.st st19203 (by decide)
        replace f900019 := f900019.st st19203 (by decide)
        replace hs := hs.locM st19203 (by decide) hom
        have hk := hk.put 8 (.pointer (some ⟨bx19204, 0, none⟩)) rfl
        refine x_run tab hk (k := 1) (lv := []) (ks := [0, 5, 6, 7, 8, 9, 10, 11, 22, 23, 24, 28]) (e' := [(0, .pointer (some ⟨bp0, 0, none⟩)), (5, .pointer (some ⟨bx16462, 0, none⟩)), (6, .slice A18657 (l18659).length c18658), (7, .int .i64 x18662), (8, .pointer (some ⟨bx19204, 0, none⟩)), (9, .slice (some ad16458) (p1).length c6581), (10, .int .i64 ((p1).length : Int)), (11, .int .i64 x6584), (22, .slice (some ad19200) (l6577).length c6576), (23, .int .i64 ((l6577).length : Int)), (24, .int .i64 x18662), (28, .agg #[.int .i64 ((rdD zT30 l6577 x18662).From), .int .i64 ((rdD zT30 l6577 x18662).To)])]) rfl trivial fun a hk => ?_
        refine x_op hk rfl ?_
        refine op_store tab hk (t := 43) (v := .agg #[.int .i64 ((rdD zT30 l6577 x18662).From), .int .i64 ((rdD zT30 l6577 x18662).To)]) (b := bx19204) (k := 0) (cs' := [.int .i64 ((rdD zT30 l6577 x18662).From), .int .i64 ((rdD zT30 l6577 x18662).To)]) rfl rfl rfl rfl rfl rfl f19205 rfl rfl fun w19206 o19207 st19208 f19205_ => ?_
        replace f16463 := f16463.st st19208 (by decide)
        replace f18660 := f18660.st st19208 (by decide)
        replace f6578 := f6578.st st19208 (by decide)
        replace f6582 := f6582.st st19208 (by decide)
        replace f900019 := f900019.st st19208 (by decide)
        replace hs := hs.locM st19208 (by decide) hom
        replace f19205 := f19205_
        refine wpListIn_nil ?_
        refine then_n ?_
        refine wpIn_block ?_
        refine x_seq ?_
        refine wpIn_region_lit ?_
        refine x_run tab hk (k := 6) (lv := [.int .i64 ((rdD zT30 l6577 x18662).To), .int .i64 x18656.From]) (ks := [0, 5, 6, 7, 8, 9, 10, 11, 22, 23, 24, 40]) (e' := [(0, .pointer (some ⟨bp0, 0, none⟩)), (5, .pointer (some ⟨bx16462, 0, none⟩)), (6, .slice A18657 (l18659).length c18658), (7, .int .i64 x18662), (8, .pointer (some ⟨bx19204, 0, none⟩)), (9, .slice (some ad16458) (p1).length c6581), (10, .int .i64 ((p1).length : Int)), (11, .int .i64 x6584), (22, .slice (some ad19200) (l6577).length c6576), (23, .int .i64 ((l6577).length : Int)), (24, .int .i64 x18662), (40, .bool (decide (((rdD zT30 l6577 x18662).To) < x18656.From)))]) rfl ⟨(load1 tab rfl ((Bx.cell f19205.now 1).trans rfl)), (load1 tab rfl ((Bx.cell f16463.now 0).trans rfl)), trivial⟩ fun a hk => ?_
        refine wpListIn_nil ?_
        refine then_n ?_
        cases b19209 : (decide (((rdD zT30 l6577 x18662).To) < x18656.From))
        · rw [b19209] at hk H
          replace H := bifF H
          refine x_if hk (b := false) rfl ?_
          refine (show Code.wpIn _ _ _ _ _ _ _ from ?_)
          refine x_seq ?_
          refine wpIn_region_lit ?_
          refine x_run tab hk (k := 6) (lv := [.int .i64 ((rdD zT30 l6577 x18662).From), .int .i64 x18656.To]) (ks := [0, 5, 6, 7, 8, 9, 10, 11, 22, 23, 24, 50]) (e' := [(0, .pointer (some ⟨bp0, 0, none⟩)), (5, .pointer (some ⟨bx16462, 0, none⟩)), (6, .slice A18657 (l18659).length c18658), (7, .int .i64 x18662), (8, .pointer (some ⟨bx19204, 0, none⟩)), (9, .slice (some ad16458) (p1).length c6581), (10, .int .i64 ((p1).length : Int)), (11, .int .i64 x6584), (22, .slice (some ad19200) (l6577).length c6576), (23, .int .i64 ((l6577).length : Int)), (24, .int .i64 x18662), (50, .bool (decide (((rdD zT30 l6577 x18662).From) > x18656.To)))]) rfl ⟨(load1 tab rfl ((Bx.cell f19205.now 0).trans rfl)), (load1 tab rfl ((Bx.cell f16463.now 1).trans rfl)), trivial⟩ fun a hk => ?_
          refine wpListIn_nil ?_
          refine then_n ?_
          cases b19210 : (decide (((rdD zT30 l6577 x18662).From) > x18656.To))
          · rw [b19210] at hk H
            replace H := bifF H
            refine x_if hk (b := false) rfl ?_
            refine (show Code.wpIn _ _ _ _ _ _ _ from ?_)
            refine wpIn_region_lit ?_
            refine x_run tab hk (k := 10) (lv := [.int .i64 x18656.From, .int .i64 ((rdD zT30 l6577 x18662).From), .int .i64 x18656.To, .int .i64 ((rdD zT30 l6577 x18662).To)]) (ks := [0, 5, 6, 9, 10, 11, 22, 23, 24, 33, 38]) (e' := [(0, .pointer (some ⟨bp0, 0, none⟩)), (5, .pointer (some ⟨bx16462, 0, none⟩)), (6, .slice A18657 (l18659).length c18658), (9, .slice (some ad16458) (p1).length c6581), (10, .int .i64 ((p1).length : Int)), (11, .int .i64 x6584), (22, .slice (some ad19200) (l6577).length c6576), (23, .int .i64 ((l6577).length : Int)), (24, .int .i64 x18662), (33, .int .i64 (mnI x18656.From ((rdD zT30 l6577 x18662).From))), (38, .int .i64 (mxI x18656.To ((rdD zT30 l6577 x18662).To)))]) rfl ⟨(load1 tab rfl ((Bx.cell f16463.now 0).trans rfl)), (load1 tab rfl ((Bx.cell f19205.now 0).trans rfl)), (load1 tab rfl ((Bx.cell f16463.now 1).trans rfl)), (load1 tab rfl ((Bx.cell f19205.now 1).trans rfl)), trivial⟩ fun a hk => ?_
            refine x_run tab hk (k := 1) (lv := []) (ks := [0, 5, 6, 9, 10, 11, 22, 23, 24, 39]) (e' := [(0, .pointer (some ⟨bp0, 0, none⟩)), (5, .pointer (some ⟨bx16462, 0, none⟩)), (6, .slice A18657 (l18659).length c18658), (9, .slice (some ad16458) (p1).length c6581), (10, .int .i64 ((p1).length : Int)), (11, .int .i64 x6584), (22, .slice (some ad19200) (l6577).length c6576), (23, .int .i64 ((l6577).length : Int)), (24, .int .i64 x18662), (39, .agg #[.int .i64 (mnI x18656.From ((rdD zT30 l6577 x18662).From)), .int .i64 (mxI x18656.To ((rdD zT30 l6577 x18662).To))])]) rfl trivial fun a hk => ?_
            refine x_op hk rfl ?_
            refine op_store tab hk (t := 43) (v := .agg #[.int .i64 (mnI x18656.From ((rdD zT30 l6577 x18662).From)), .int .i64 (mxI x18656.To ((rdD zT30 l6577 x18662).To))]) (b := bx16462) (k := 0) (cs' := [.int .i64 (mnI x18656.From ((rdD zT30 l6577 x18662).From)), .int .i64 (mxI x18656.To ((rdD zT30 l6577 x18662).To))]) rfl rfl rfl rfl rfl rfl f16463 rfl rfl fun w19211 o19212 st19213 f16463_ => ?_
            replace f18660 := f18660.st st19213 (by decide)
            replace f6578 := f6578.st st19213 (by decide)
            replace f6582 := f6582.st st19213 (by decide)
            replace f900019 := f900019.st st19213 (by decide)
            replace hs := hs.locM st19213 (by decide) hom
            replace f16463 := f16463_
            refine wpListIn_nil ?_
            refine blk_n ?_
            refine blk_n ?_
            refine then_n ?_
            refine wpIn_region_lit ?_
            refine x_run tab hk (k := 2) (lv := []) (ks := [0, 5, 6, 9, 10, 11, 22, 23, 24]) (e' := [(0, .pointer (some ⟨bp0, 0, none⟩)), (5, .pointer (some ⟨bx16462, 0, none⟩)), (6, .slice A18657 (l18659).length c18658), (9, .slice (some ad16458) (p1).length c6581), (10, .int .i64 ((p1).length : Int)), (11, .int .i64 x6584), (22, .slice (some ad19200) (l6577).length c6576), (23, .int .i64 ((l6577).length : Int)), (24, .int .i64 (IntKind.wrap .i64 (x18662 + 1)))]) rfl trivial fun a hk => ?_
            refine wpListIn_nil ?_
            refine then_n ?_
            exact ⟨k19195, Nat.le_refl _, o19212, (⟨(mnI x18656.From ((rdD zT30 l6577 x18662).From)), (mxI x18656.To ((rdD zT30 l6577 x18662).To))⟩ : T30), A18657, c18658, l18659, (IntKind.wrap .i64 (x18662 + 1)), (by exact Kn.pick (ks := [0, 5, 6, 9, 10, 11, 22, 23, 24]) hk rfl), hs, f16463, f18660, f6578, f6582, f900019, hc18661, (hlp19197 ▸ H)⟩
          · rw [b19210] at hk H
            replace H := bifT H
            refine x_if hk (b := true) rfl ?_
            refine (show Code.wpIn _ _ _ _ _ _ _ from ?_)
            refine x_seq ?_
            refine x_cut (fun a_ w_ => ∃ o19484 : Nat → Nat, ∃ A19485 : Option Addr, ∃ c19486 : Nat, ∃ l19487 : List T30, Kn 79 a_ [(0, .pointer (some ⟨bp0, 0, none⟩)), (9, .slice (some ad16458) (p1).length c6581), (10, .int .i64 ((p1).length : Int)), (11, .int .i64 x6584)] ∧ St [1, 2] w oi w_ o19484 ∧ Ft (Own ET30 43 (.slice A19485 (l19487).length c19486) l19487) w_ o19484 1881 ∧ Ft (RdC ET30 (some ad16458) p1) w_ o19484 0 ∧ Ft (Bx bp0 49 [.slice A19485 (l19487).length c19486]) w_ o19484 1 ∧ (l19487).length ≤ c19486 ∧ spans_Set_Add_j5 x6584 lp13157 l19487 = some r) ?_ ?_
            rotate_left
            · rintro a w19490 ⟨o19484, A19485, c19486, l19487, hk, hs, f19488, f6582, f900019, hc19489, H⟩
              rw [spans_Set_Add_j5] at H
              refine then_n ?_
              refine wpIn_exit ?_
              refine blk_y rfl ?_
              refine blk_y rfl ?_
              refine then_x ?_
              refine then_x ?_
              refine blk_y rfl ?_
              refine then_x ?_
              refine blk_x ?_
              refine then_n ?_
              exact ⟨(fun b_ => (fun l_ => if l_ = 1881 then 2 else l_) (o19484 b_)), A19485, c19486, l19487, (some ad16458), c6581, (by exact Kn.pick (ks := [0, 9, 10, 11]) hk rfl), (hs.relabM hob (fun l_ => if l_ = 1881 then 2 else l_) (by decide)), (f19488.relab (fun l_ => if l_ = 1881 then 2 else l_) rfl), (f6582.relab (fun l_ => if l_ = 1881 then 2 else l_) rfl), (f900019.relab (fun l_ => if l_ = 1881 then 2 else l_) rfl), hc19489, hc6583, H⟩
            obtain ⟨q19533, H⟩ := ifS H
            obtain ⟨q19534, H⟩ := ifS H
            obtain ⟨t19549, hc19550, H⟩ := bindS H
            refine xd_begin (o := o19207) (fun W_ => (Bx bx16462 43 [.int .i64 x18656.From, .int .i64 x18656.To]) W_ ∧ True) mixed rfl rfl fun w19627 st19628 => ?_
            replace f16463 := f16463.st st19628 (by decide)
            replace f18660 := f18660.st st19628 (by decide)
            replace f19205 := f19205.st st19628 (by decide)
            replace f6578 := f6578.st st19628 (by decide)
            replace f6582 := f6582.st st19628 (by decide)
            replace f900019 := f900019.st st19628 (by decide)
            replace hs := hs.locM st19628 (by decide) hom
            refine xd_abs fun G hG => ?_
            have N19650 : ∀ (a_ : Act) (w_ : World), (∃ o19644 : Nat → Nat, ∃ A19645 : Option Addr, ∃ c19646 : Nat, Kn 79 a_ [(0, .pointer (some ⟨bp0, 0, none⟩)), (9, .slice (some ad16458) (p1).length c6581), (10, .int .i64 ((p1).length : Int)), (11, .int .i64 x6584), (56, .pointer (some ⟨bp0, 0, none⟩)), (57, .slice A18657 (l18659).length c18658), (59, .slice A19645 (([x18656] : List T30)).length c19646), (62, .pointer (some ⟨bp0, 0, none⟩)), (64, .int .i64 x18662)] ∧ St [1, 2] w oi w_ o19644 ∧ Ft (Bx bx16462 43 [.int .i64 x18656.From, .int .i64 x18656.To]) w_ o19644 1895 ∧ Ft (Own ET30 43 (.slice A18657 (l18659).length c18658) l18659) w_ o19644 1896 ∧ Ft (Own ET30 43 (.slice A19645 (([x18656] : List T30)).length c19646) ([x18656] : List T30)) w_ o19644 1897 ∧ Ft (Own ET30 43 (.slice (some ad19200) (l6577).length c6576) l6577) w_ o19644 2 ∧ Ft (RdC ET30 (some ad16458) p1) w_ o19644 0 ∧ Ft (Bx bp0 49 [.slice (some ad19200) (l6577).length c6576]) w_ o19644 1 ∧ (([x18656] : List T30)).length ≤ c19646) → G 7 #[true, true, true, true, true, true, true, false, true, false, false, false, false, false, false] a_ w_ := by
              rintro a w19649 ⟨o19644, A19645, c19646, hk, hs, f16463, f18660, f19647, f6578, f6582, f900019, hc19648⟩
              refine xd_of hG ?_
              refine xd_op hk (i := 7) (by kernel_rfl) rfl rfl ?_
              refine op_quiet tab hk (lv := [.slice (some ad19200) (l6577).length c6576]) (v := .slice (some ad19200) (l6577).length c6576) rfl ⟨(load1 tab rfl ((Bx.cell f900019.now 0).trans rfl)), trivial⟩ ?_
              have hk := hk.put 63 (.slice (some ad19200) (l6577).length c6576) rfl
              refine ⟨.inr ⟨f16463.now, trivial⟩, ?_⟩
              obtain ⟨A19651, c19652, ak19654, f19653, hc19655⟩ := ask_cut (P := Try.prog) tab (t := 38) rfl rfl (f6578.imp fun _ h_ => Own.rd h_) hc6579 (some (.int .i64 x18662)) none rfl ⟨q19533, (by have := q19534; omega), trivial⟩ (by have := q19533; have := q19534; omega) (Nat.le_refl _)
              refine xd_take tab hk (k := 5) (is := [9]) (ls' := #[true, true, true, true, true, true, true, true, true, true, false, false, false, false, false]) (lv := [.slice A19651 ((List.drop (Int.toNat x18662) (List.take (l6577).length l6577))).length c19652]) (ks := [0, 9, 10, 11, 56, 57, 59, 65]) (e' := [(0, .pointer (some ⟨bp0, 0, none⟩)), (9, .slice (some ad16458) (p1).length c6581), (10, .int .i64 ((p1).length : Int)), (11, .int .i64 x6584), (56, .pointer (some ⟨bp0, 0, none⟩)), (57, .slice A18657 (l18659).length c18658), (59, .slice A19645 (([x18656] : List T30)).length c19646), (65, .slice A19651 ((List.drop (Int.toNat x18662) (List.take (l6577).length l6577))).length c19652)]) (by kernel_rfl) rfl rfl (by kernel_rfl) (np_then (np_then (np_blk (np_blk (np_then (np_then (np_blk (np_then (np_blk (np_then (np_then (np_blk (np_sc np_body))))))))))))) ⟨f16463.now, trivial⟩ (fun W_ hS => ⟨(ak19654 rfl rfl rfl _), trivial⟩) fun a hk => ?_
              refine xd_op hk (i := 10) (by kernel_rfl) rfl rfl ?_
              refine op_slice (o := o19644) tab hk (vs := [.slice A18657 (l18659).length c18658, .slice A19645 (([x18656] : List T30)).length c19646, .slice A19651 ((List.drop (Int.toNat x18662) (List.take (l6577).length l6577))).length c19652]) (cs := [.slice A18657 (l18659).length c18658, .slice A19645 (([x18656] : List T30)).length c19646, .slice A19651 ((List.drop (Int.toNat x18662) (List.take (l6577).length l6577))).length c19652]) rfl rfl rfl rfl rfl rfl rfl rfl rfl 1898 fun bx19659 w19656 o19657 st19658 f19660 => ?_
              replace f16463 := f16463.st st19658 (by decide)
              replace f18660 := f18660.st st19658 (by decide)
              replace f19647 := f19647.st st19658 (by decide)
              replace f19653 := f19653.st st19658 (by decide)
              replace f6578 := f6578.st st19658 (by decide)
              replace f6582 := f6582.st st19658 (by decide)
              replace f900019 := f900019.st st19658 (by decide)
              replace hs := hs.locM st19658 (by decide) hom
              have hk := hk.put 66 (.slice (some ⟨bx19659, 0, none⟩) 3 3) rfl
              refine ⟨.inr ⟨f16463.now, trivial⟩, ?_⟩
              refine xd_op hk (i := 11) (by kernel_rfl) rfl rfl ?_
              have f19664 : NRd (dRows ET30) (some ⟨bx19659, 0, none⟩) ([l18659, ([x18656] : List T30), (List.drop (Int.toNat x18662) (List.take (l6577).length l6577))] : List (List T30)) w19656 (oneLab o19657 1898) 1 0 := (NOwn.lit f19660.lab1 [⟨A18657, c18658, l18659⟩, ⟨A19645, c19646, ([x18656] : List T30)⟩, ⟨A19651, c19652, (List.drop (Int.toNat x18662) (List.take (l6577).length l6577))⟩] rfl (Inn.consF ((f18660.imp fun _ h_ => Own.rd h_).lab0 rfl) hc18661 (Inn.consF ((f19647.imp fun _ h_ => Own.rd h_).lab0 rfl) hc19648 (Inn.consF (f19653.lab0 rfl) hc19655 (Inn.nilF _ _ _ _)))) rfl (Nat.le_of_ble_eq_true rfl)).rd
              refine op_call hk ent_35 (vs := [.slice (some ⟨bx19659, 0, none⟩) 3 3]) rfl (slices_Concat_calls K (some ⟨bx19659, 0, none⟩) 3 ([l18659, ([x18656] : List T30), (List.drop (Int.toNat x18662) (List.take (l6577).length l6577))] : List (List T30)) _ (oneLab o19657 1898) 0 1 f19664 (Nat.le_refl _) (by decide) (by decide) 1899 _ hc19550) ?_
              rintro _ w19665 ⟨o19666, A19670, c19671, rfl, st19668, f19672, hc19673⟩
              have st19669 := st19668.back o19657
              replace f19672 := f19672.back st19668 (oneLab_ne _ rfl) o19657
              obtain ⟨o19667, ho19667⟩ : ∃ x_, x_ = (fun b_ => if b_ < w19656.heap.size then o19657 b_ else o19666 b_) := ⟨_, rfl⟩
              rw [← ho19667] at st19669 f19672
              replace f16463 := f16463.st st19669 (by decide)
              replace f18660 := f18660.st st19669 (by decide)
              replace f19647 := f19647.st st19669 (by decide)
              replace f19653 := f19653.st st19669 (by decide)
              replace f19660 := f19660.st st19669 (by decide)
              replace f6578 := f6578.st st19669 (by decide)
              replace f6582 := f6582.st st19669 (by decide)
              replace f900019 := f900019.st st19669 (by decide)
              replace hs := hs.locM st19669 (by decide) hom
              have hk := hk.put 67 (.slice A19670 (t19549).length c19671) rfl
              refine ⟨.inr ⟨f16463.now, trivial⟩, ?_⟩
              refine xd_take tab hk (k := 1) (is := [12, 13]) (ls' := #[true, true, true, true, true, true, true, true, true, true, true, true, true, true, false]) (lv := []) (ks := [0, 9, 10, 11, 67, 69]) (e' := [(0, .pointer (some ⟨bp0, 0, none⟩)), (9, .slice (some ad16458) (p1).length c6581), (10, .int .i64 ((p1).length : Int)), (11, .int .i64 x6584), (67, .slice A19670 (t19549).length c19671), (69, .pointer (some ⟨bp0, 0, none⟩))]) (by kernel_rfl) rfl rfl (by kernel_rfl) (np_then (np_then (np_blk (np_blk (np_then (np_then (np_blk (np_then (np_blk (np_then (np_then (np_blk (np_sc np_body))))))))))))) ⟨f16463.now, trivial⟩ (fun W_ hS => trivial) fun a hk => ?_
              refine xd_op hk (i := 14) (by kernel_rfl) rfl rfl ?_
              refine op_store tab hk (t := 38) (v := .slice A19670 (t19549).length c19671) (b := bp0) (k := 0) (cs' := [.slice A19670 (t19549).length c19671]) rfl rfl rfl rfl rfl rfl f900019 rfl rfl fun w19674 o19675 st19676 f900019_ => ?_
              replace f16463 := f16463.st st19676 (by decide)
              replace f18660 := f18660.st st19676 (by decide)
              replace f19647 := f19647.st st19676 (by decide)
              replace f19653 := f19653.st st19676 (by decide)
              replace f19660 := f19660.st st19676 (by decide)
              replace f19672 := f19672.st st19676 (by decide)
              replace f6578 := f6578.st st19676 (by decide)
              replace f6582 := f6582.st st19676 (by decide)
              replace hs := hs.locM st19676 (by decide) hom
              replace f900019 := f900019_
              refine ⟨.inr ⟨f16463.now, trivial⟩, ?_⟩
              refine xd_done (by kernel_rfl) ?_
              refine then_n ?_
              exact ⟨(fun b_ => (fun l_ => if l_ = 1899 then 1881 else l_) (o19675 b_)), A19670, c19671, t19549, (by exact Kn.pick (ks := [0, 9, 10, 11]) hk rfl), (hs.relabM hob (fun l_ => if l_ = 1899 then 1881 else l_) (by decide)), (f19672.relab (fun l_ => if l_ = 1899 then 1881 else l_) rfl), (f6582.relab (fun l_ => if l_ = 1899 then 1881 else l_) rfl), (f900019.relab (fun l_ => if l_ = 1899 then 1881 else l_) rfl), hc19673, H⟩
            have N19682 : ∀ (a_ : Act) (w_ : World), (∃ o19680 : Nat → Nat, Kn 79 a_ [(0, .pointer (some ⟨bp0, 0, none⟩)), (9, .slice (some ad16458) (p1).length c6581), (10, .int .i64 ((p1).length : Int)), (11, .int .i64 x6584), (56, .pointer (some ⟨bp0, 0, none⟩)), (57, .slice A18657 (l18659).length c18658), (58, .agg #[.int .i64 x18656.From, .int .i64 x18656.To]), (63, .slice (some ad19200) (l6577).length c6576), (64, .int .i64 x18662)] ∧ St [1, 2] w oi w_ o19680 ∧ Ft (Bx bx16462 43 [.int .i64 x18656.From, .int .i64 x18656.To]) w_ o19680 1900 ∧ Ft (Own ET30 43 (.slice A18657 (l18659).length c18658) l18659) w_ o19680 1901 ∧ Ft (Own ET30 43 (.slice (some ad19200) (l6577).length c6576) l6577) w_ o19680 2 ∧ Ft (RdC ET30 (some ad16458) p1) w_ o19680 0 ∧ Ft (Bx bp0 49 [.slice (some ad19200) (l6577).length c6576]) w_ o19680 1) → G 7 #[true, true, true, false, true, true, true, true, true, false, false, false, false, false, false] a_ w_ := by
              rintro a w19681 ⟨o19680, hk, hs, f16463, f18660, f6578, f6582, f900019⟩
              refine xd_of hG ?_
              obtain ⟨A19683, c19684, ak19686, f19685, hc19687⟩ := ask_cut (P := Try.prog) tab (t := 38) rfl rfl (f6578.imp fun _ h_ => Own.rd h_) hc6579 (some (.int .i64 x18662)) none rfl ⟨q19533, (by have := q19534; omega), trivial⟩ (by have := q19533; have := q19534; omega) (Nat.le_refl _)
              refine xd_take tab hk (k := 6) (is := [9]) (ls' := #[true, true, true, false, true, true, true, true, true, true, false, false, false, false, false]) (lv := [.slice A19683 ((List.drop (Int.toNat x18662) (List.take (l6577).length l6577))).length c19684]) (ks := [0, 9, 10, 11, 56, 57, 58, 65]) (e' := [(0, .pointer (some ⟨bp0, 0, none⟩)), (9, .slice (some ad16458) (p1).length c6581), (10, .int .i64 ((p1).length : Int)), (11, .int .i64 x6584), (56, .pointer (some ⟨bp0, 0, none⟩)), (57, .slice A18657 (l18659).length c18658), (58, .agg #[.int .i64 x18656.From, .int .i64 x18656.To]), (65, .slice A19683 ((List.drop (Int.toNat x18662) (List.take (l6577).length l6577))).length c19684)]) (by kernel_rfl) rfl rfl (by kernel_rfl) (np_then (np_then (np_blk (np_blk (np_then (np_then (np_blk (np_then (np_blk (np_then (np_then (np_blk (np_sc np_body))))))))))))) ⟨f16463.now, trivial⟩ (fun W_ hS => ⟨(ak19686 rfl rfl rfl _), trivial⟩) fun a hk => ?_
              refine xd_op hk (i := 3) (by kernel_rfl) rfl rfl ?_
              refine op_slice (o := o19680) tab hk (vs := [.agg #[.int .i64 x18656.From, .int .i64 x18656.To]]) (cs := [.int .i64 x18656.From, .int .i64 x18656.To]) rfl rfl rfl rfl rfl rfl rfl rfl rfl 1902 fun bx19691 w19688 o19689 st19690 f19692 => ?_
              replace f16463 := f16463.st st19690 (by decide)
              replace f18660 := f18660.st st19690 (by decide)
              replace f19685 := f19685.st st19690 (by decide)
              replace f6578 := f6578.st st19690 (by decide)
              replace f6582 := f6582.st st19690 (by decide)
              replace f900019 := f900019.st st19690 (by decide)
              replace hs := hs.locM st19690 (by decide) hom
              have f19693 : Ft (Own ET30 43 (.slice (some ⟨bx19691, 0, none⟩) (([x18656] : List T30)).length 1) ([x18656] : List T30)) w19688 o19689 1902 := f19692.imp fun _ h_ => Own.of_box h_ rfl (by simp)
              have hk := hk.put 59 (.slice (some ⟨bx19691, 0, none⟩) (([x18656] : List T30)).length 1) rfl
              refine ⟨.inr ⟨f16463.now, trivial⟩, ?_⟩
              refine xd_op hk (i := 10) (by kernel_rfl) rfl rfl ?_
              refine op_slice (o := o19689) tab hk (vs := [.slice A18657 (l18659).length c18658, .slice (some ⟨bx19691, 0, none⟩) (([x18656] : List T30)).length 1, .slice A19683 ((List.drop (Int.toNat x18662) (List.take (l6577).length l6577))).length c19684]) (cs := [.slice A18657 (l18659).length c18658, .slice (some ⟨bx19691, 0, none⟩) (([x18656] : List T30)).length 1, .slice A19683 ((List.drop (Int.toNat x18662) (List.take (l6577).length l6577))).length c19684]) rfl rfl rfl rfl rfl rfl rfl rfl rfl 1903 fun bx19697 w19694 o19695 st19696 f19698 => ?_
              replace f16463 := f16463.st st19696 (by decide)
              replace f18660 := f18660.st st19696 (by decide)
              replace f19685 := f19685.st st19696 (by decide)
              replace f19693 := f19693.st st19696 (by decide)
              replace f6578 := f6578.st st19696 (by decide)
              replace f6582 := f6582.st st19696 (by decide)
              replace f900019 := f900019.st st19696 (by decide)
              replace hs := hs.locM st19696 (by decide) hom
              have hk := hk.put 66 (.slice (some ⟨bx19697, 0, none⟩) 3 3) rfl
              refine ⟨.inr ⟨f16463.now, trivial⟩, ?_⟩
              refine xd_op hk (i := 11) (by kernel_rfl) rfl rfl ?_
              have f19702 : NRd (dRows ET30) (some ⟨bx19697, 0, none⟩) ([l18659, ([x18656] : List T30), (List.drop (Int.toNat x18662) (List.take (l6577).length l6577))] : List (List T30)) w19694 (oneLab o19695 1903) 1 0 := (NOwn.lit f19698.lab1 [⟨A18657, c18658, l18659⟩, ⟨(some ⟨bx19691, 0, none⟩), 1, ([x18656] : List T30)⟩, ⟨A19683, c19684, (List.drop (Int.toNat x18662) (List.take (l6577).length l6577))⟩] rfl (Inn.consF ((f18660.imp fun _ h_ => Own.rd h_).lab0 rfl) hc18661 (Inn.consF ((f19693.imp fun _ h_ => Own.rd h_).lab0 rfl) (Nat.le_refl _) (Inn.consF (f19685.lab0 rfl) hc19687 (Inn.nilF _ _ _ _)))) rfl (Nat.le_of_ble_eq_true rfl)).rd
              refine op_call hk ent_35 (vs := [.slice (some ⟨bx19697, 0, none⟩) 3 3]) rfl (slices_Concat_calls K (some ⟨bx19697, 0, none⟩) 3 ([l18659, ([x18656] : List T30), (List.drop (Int.toNat x18662) (List.take (l6577).length l6577))] : List (List T30)) _ (oneLab o19695 1903) 0 1 f19702 (Nat.le_refl _) (by decide) (by decide) 1904 _ hc19550) ?_
              rintro _ w19703 ⟨o19704, A19708, c19709, rfl, st19706, f19710, hc19711⟩
              have st19707 := st19706.back o19695
              replace f19710 := f19710.back st19706 (oneLab_ne _ rfl) o19695
              obtain ⟨o19705, ho19705⟩ : ∃ x_, x_ = (fun b_ => if b_ < w19694.heap.size then o19695 b_ else o19704 b_) := ⟨_, rfl⟩
              rw [← ho19705] at st19707 f19710
              replace f16463 := f16463.st st19707 (by decide)
              replace f18660 := f18660.st st19707 (by decide)
              replace f19685 := f19685.st st19707 (by decide)
              replace f19693 := f19693.st st19707 (by decide)
              replace f19698 := f19698.st st19707 (by decide)
              replace f6578 := f6578.st st19707 (by decide)
              replace f6582 := f6582.st st19707 (by decide)
              replace f900019 := f900019.st st19707 (by decide)
              replace hs := hs.locM st19707 (by decide) hom
              have hk := hk.put 67 (.slice A19708 (t19549).length c19709) rfl
              refine ⟨.inr ⟨f16463.now, trivial⟩, ?_⟩
              refine xd_take tab hk (k := 1) (is := [12, 13]) (ls' := #[true, true, true, true, true, true, true, true, true, true, true, true, true, true, false]) (lv := []) (ks := [0, 9, 10, 11, 67, 69]) (e' := [(0, .pointer (some ⟨bp0, 0, none⟩)), (9, .slice (some ad16458) (p1).length c6581), (10, .int .i64 ((p1).length : Int)), (11, .int .i64 x6584), (67, .slice A19708 (t19549).length c19709), (69, .pointer (some ⟨bp0, 0, none⟩))]) (by kernel_rfl) rfl rfl (by kernel_rfl) (np_then (np_then (np_blk (np_blk (np_then (np_then (np_blk (np_then (np_blk (np_then (np_then (np_blk (np_sc np_body))))))))))))) ⟨f16463.now, trivial⟩ (fun W_ hS => trivial) fun a hk => ?_
              refine xd_op hk (i := 14) (by kernel_rfl) rfl rfl ?_
              refine op_store tab hk (t := 38) (v := .slice A19708 (t19549).length c19709) (b := bp0) (k := 0) (cs' := [.slice A19708 (t19549).length c19709]) rfl rfl rfl rfl rfl rfl f900019 rfl rfl fun w19712 o19713 st19714 f900019_ => ?_
              replace f16463 := f16463.st st19714 (by decide)
              replace f18660 := f18660.st st19714 (by decide)
              replace f19685 := f19685.st st19714 (by decide)
              replace f19693 := f19693.st st19714 (by decide)
              replace f19698 := f19698.st st19714 (by decide)
              replace f19710 := f19710.st st19714 (by decide)
              replace f6578 := f6578.st st19714 (by decide)
              replace f6582 := f6582.st st19714 (by decide)
              replace hs := hs.locM st19714 (by decide) hom
              replace f900019 := f900019_
              refine ⟨.inr ⟨f16463.now, trivial⟩, ?_⟩
              refine xd_done (by kernel_rfl) ?_
              refine then_n ?_
              exact ⟨(fun b_ => (fun l_ => if l_ = 1904 then 1881 else l_) (o19713 b_)), A19708, c19709, t19549, (by exact Kn.pick (ks := [0, 9, 10, 11]) hk rfl), (hs.relabM hob (fun l_ => if l_ = 1904 then 1881 else l_) (by decide)), (f19710.relab (fun l_ => if l_ = 1904 then 1881 else l_) rfl), (f6582.relab (fun l_ => if l_ = 1904 then 1881 else l_) rfl), (f900019.relab (fun l_ => if l_ = 1904 then 1881 else l_) rfl), hc19711, H⟩
            refine xd_of hG ?_
            refine xd_take tab hk (k := 8) (is := [0, 1, 2, 4, 5, 6, 8]) (ls' := #[true, true, true, false, true, true, true, false, true, false, false, false, false, false, false]) (lv := [.agg #[.int .i64 x18656.From, .int .i64 x18656.To]]) (ks := [0, 9, 10, 11, 56, 57, 58, 62, 64]) (e' := [(0, .pointer (some ⟨bp0, 0, none⟩)), (9, .slice (some ad16458) (p1).length c6581), (10, .int .i64 ((p1).length : Int)), (11, .int .i64 x6584), (56, .pointer (some ⟨bp0, 0, none⟩)), (57, .slice A18657 (l18659).length c18658), (58, .agg #[.int .i64 x18656.From, .int .i64 x18656.To]), (62, .pointer (some ⟨bp0, 0, none⟩)), (64, .int .i64 x18662)]) (by kernel_rfl) rfl rfl (by kernel_rfl) (np_then (np_then (np_blk (np_blk (np_then (np_then (np_blk (np_then (np_blk (np_then (np_then (np_blk (np_sc np_body))))))))))))) ⟨f16463.now, trivial⟩ (fun W_ hS => ⟨(load_box tab rfl rfl hS.1 (k := 0) rfl rfl), trivial⟩) fun a hk => ?_
            refine xd_each [3, 7] (by kernel_rfl) rfl ⟨?_, ?_, trivial⟩
            · refine xd_one hk rfl rfl ?_
              refine op_slice (o := o19207) tab hk (vs := [.agg #[.int .i64 x18656.From, .int .i64 x18656.To]]) (cs := [.int .i64 x18656.From, .int .i64 x18656.To]) rfl rfl rfl rfl rfl rfl rfl rfl rfl 1894 fun bx19632 w19629 o19630 st19631 f19633 => ?_
              replace f16463 := f16463.st st19631 (by decide)
              replace f18660 := f18660.st st19631 (by decide)
              replace f19205 := f19205.st st19631 (by decide)
              replace f6578 := f6578.st st19631 (by decide)
              replace f6582 := f6582.st st19631 (by decide)
              replace f900019 := f900019.st st19631 (by decide)
              replace hs := hs.locM st19631 (by decide) hom
              have f19634 : Ft (Own ET30 43 (.slice (some ⟨bx19632, 0, none⟩) (([x18656] : List T30)).length 1) ([x18656] : List T30)) w19629 o19630 1894 := f19633.imp fun _ h_ => Own.of_box h_ rfl (by simp)
              have hk := hk.put 59 (.slice (some ⟨bx19632, 0, none⟩) (([x18656] : List T30)).length 1) rfl
              refine ⟨.inr ⟨f16463.now, trivial⟩, ?_⟩
              exact xd_to hG rfl (N19650 _ _ ⟨(fun b_ => (fun l_ => if l_ = 1800 then 1895 else if l_ = 1801 then 1896 else if l_ = 1894 then 1897 else l_) (o19630 b_)), (some ⟨bx19632, 0, none⟩), 1, (by exact Kn.pick (ks := [0, 9, 10, 11, 56, 57, 59, 62, 64]) hk rfl), (hs.relabM hob (fun l_ => if l_ = 1800 then 1895 else if l_ = 1801 then 1896 else if l_ = 1894 then 1897 else l_) (by decide)), (f16463.relab (fun l_ => if l_ = 1800 then 1895 else if l_ = 1801 then 1896 else if l_ = 1894 then 1897 else l_) rfl), (f18660.relab (fun l_ => if l_ = 1800 then 1895 else if l_ = 1801 then 1896 else if l_ = 1894 then 1897 else l_) rfl), (f19634.relab (fun l_ => if l_ = 1800 then 1895 else if l_ = 1801 then 1896 else if l_ = 1894 then 1897 else l_) rfl), (f6578.relab (fun l_ => if l_ = 1800 then 1895 else if l_ = 1801 then 1896 else if l_ = 1894 then 1897 else l_) rfl), (f6582.relab (fun l_ => if l_ = 1800 then 1895 else if l_ = 1801 then 1896 else if l_ = 1894 then 1897 else l_) rfl), (f900019.relab (fun l_ => if l_ = 1800 then 1895 else if l_ = 1801 then 1896 else if l_ = 1894 then 1897 else l_) rfl), (Nat.le_refl _)⟩)
            · refine xd_one hk rfl rfl ?_
              refine op_quiet tab hk (lv := [.slice (some ad19200) (l6577).length c6576]) (v := .slice (some ad19200) (l6577).length c6576) rfl ⟨(load1 tab rfl ((Bx.cell f900019.now 0).trans rfl)), trivial⟩ ?_
              have hk := hk.put 63 (.slice (some ad19200) (l6577).length c6576) rfl
              refine ⟨.inr ⟨f16463.now, trivial⟩, ?_⟩
              exact xd_to hG rfl (N19682 _ _ ⟨(fun b_ => (fun l_ => if l_ = 1800 then 1900 else if l_ = 1801 then 1901 else l_) (o19207 b_)), (by exact Kn.pick (ks := [0, 9, 10, 11, 56, 57, 58, 63, 64]) hk rfl), (hs.relabM hob (fun l_ => if l_ = 1800 then 1900 else if l_ = 1801 then 1901 else l_) (by decide)), (f16463.relab (fun l_ => if l_ = 1800 then 1900 else if l_ = 1801 then 1901 else l_) rfl), (f18660.relab (fun l_ => if l_ = 1800 then 1900 else if l_ = 1801 then 1901 else l_) rfl), (f6578.relab (fun l_ => if l_ = 1800 then 1900 else if l_ = 1801 then 1901 else l_) rfl), (f6582.relab (fun l_ => if l_ = 1800 then 1900 else if l_ = 1801 then 1901 else l_) rfl), (f900019.relab (fun l_ => if l_ = 1800 then 1900 else if l_ = 1801 then 1901 else l_) rfl)⟩)
        · rw [b19209] at hk H
          replace H := bifT H
          refine x_if hk (b := true) rfl ?_
          refine (show Code.wpIn _ _ _ _ _ _ _ from ?_)
          refine wpIn_region_lit ?_
          refine x_run tab hk (k := 2) (lv := [.agg #[.int .i64 ((rdD zT30 l6577 x18662).From), .int .i64 ((rdD zT30 l6577 x18662).To)]]) (ks := [0, 5, 9, 10, 11, 22, 23, 24, 46, 47]) (e' := [(0, .pointer (some ⟨bp0, 0, none⟩)), (5, .pointer (some ⟨bx16462, 0, none⟩)), (9, .slice (some ad16458) (p1).length c6581), (10, .int .i64 ((p1).length : Int)), (11, .int .i64 x6584), (22, .slice (some ad19200) (l6577).length c6576), (23, .int .i64 ((l6577).length : Int)), (24, .int .i64 x18662), (46, .slice A18657 (l18659).length c18658), (47, .agg #[.int .i64 ((rdD zT30 l6577 x18662).From), .int .i64 ((rdD zT30 l6577 x18662).To)])]) rfl ⟨(load_box tab rfl rfl f19205.now (k := 0) rfl rfl), trivial⟩ fun a hk => ?_
          refine x_op hk rfl ?_
          refine op_slice (o := o19207) tab hk (vs := [.agg #[.int .i64 ((rdD zT30 l6577 x18662).From), .int .i64 ((rdD zT30 l6577 x18662).To)]]) (cs := [.int .i64 ((rdD zT30 l6577 x18662).From), .int .i64 ((rdD zT30 l6577 x18662).To)]) rfl rfl rfl rfl rfl rfl rfl rfl rfl 1905 fun bx19718 w19715 o19716 st19717 f19719 => ?_
          replace f16463 := f16463.st st19717 (by decide)
          replace f18660 := f18660.st st19717 (by decide)
          replace f6578 := f6578.st st19717 (by decide)
          replace f6582 := f6582.st st19717 (by decide)
          replace f900019 := f900019.st st19717 (by decide)
          replace hs := hs.locM st19717 (by decide) hom
          have f19720 : Ft (Own ET30 43 (.slice (some ⟨bx19718, 0, none⟩) (([(rdD zT30 l6577 x18662)] : List T30)).length 1) ([(rdD zT30 l6577 x18662)] : List T30)) w19715 o19716 1905 := f19719.imp fun _ h_ => Own.of_box h_ rfl (by simp)
          have hk := hk.put 48 (.slice (some ⟨bx19718, 0, none⟩) (([(rdD zT30 l6577 x18662)] : List T30)).length 1) rfl
          refine x_op hk rfl ?_
          obtain ⟨q19724, H⟩ := ifS H
          refine op_append (o := o19716) (E := ET30) (xs := l18659) (ys := ([(rdD zT30 l6577 x18662)] : List T30)) tab hk rfl rfl rfl rfl rfl rfl rfl f18660 (Own.rd f19720.now) q19724 fun A19725 c19726 w19721 o19722 st19723 f19727 hc19728 => ?_
          replace f16463 := f16463.st st19723 (by decide)
          replace f19720 := f19720.st st19723 (by decide)
          replace f6578 := f6578.st st19723 (by decide)
          replace f6582 := f6582.st st19723 (by decide)
          replace f900019 := f900019.st st19723 (by decide)
          replace hs := hs.locM st19723 (by decide) hom
          have hk := hk.put 49 (.slice A19725 ((l18659 ++ ([(rdD zT30 l6577 x18662)] : List T30))).length c19726) rfl
          refine x_run tab hk (k := 1) (lv := []) (ks := [0, 5, 6, 9, 10, 11, 22, 23, 24]) (e' := [(0, .pointer (some ⟨bp0, 0, none⟩)), (5, .pointer (some ⟨bx16462, 0, none⟩)), (6, .slice A19725 ((l18659 ++ ([(rdD zT30 l6577 x18662)] : List T30))).length c19726), (9, .slice (some ad16458) (p1).length c6581), (10, .int .i64 ((p1).length : Int)), (11, .int .i64 x6584), (22, .slice (some ad19200) (l6577).length c6576), (23, .int .i64 ((l6577).length : Int)), (24, .int .i64 x18662)]) rfl trivial fun a hk => ?_
          refine wpListIn_nil ?_
          refine blk_n ?_
          refine blk_n ?_
          refine then_n ?_
          refine wpIn_region_lit ?_
          refine x_run tab hk (k := 2) (lv := []) (ks := [0, 5, 6, 9, 10, 11, 22, 23, 24]) (e' := [(0, .pointer (some ⟨bp0, 0, none⟩)), (5, .pointer (some ⟨bx16462, 0, none⟩)), (6, .slice A19725 ((l18659 ++ ([(rdD zT30 l6577 x18662)] : List T30))).length c19726), (9, .slice (some ad16458) (p1).length c6581), (10, .int .i64 ((p1).length : Int)), (11, .int .i64 x6584), (22, .slice (some ad19200) (l6577).length c6576), (23, .int .i64 ((l6577).length : Int)), (24, .int .i64 (IntKind.wrap .i64 (x18662 + 1)))]) rfl trivial fun a hk => ?_
          refine wpListIn_nil ?_
          refine then_n ?_
          exact ⟨k19195, Nat.le_refl _, o19722, x18656, A19725, c19726, (l18659 ++ ([(rdD zT30 l6577 x18662)] : List T30)), (IntKind.wrap .i64 (x18662 + 1)), (by exact Kn.pick (ks := [0, 5, 6, 9, 10, 11, 22, 23, 24]) hk rfl), hs, f16463, f19727, f6578, f6582, f900019, hc19728, (hlp19197 ▸ H)⟩
    · rw [b16486] at hk H
      replace H := bifT H
      refine x_if hk (b := true) rfl ?_
      refine (show Code.wpIn _ _ _ _ _ _ _ from ?_)
      refine wpIn_exit ?_
      refine then_x ?_
      refine blk_x ?_
      refine then_n ?_
      exact ⟨o16484, A6575, c6576, l6577, (some ad16458), c6581, (by exact Kn.pick (ks := [0, 9, 10, 11]) hk rfl), hs, f6578, f6582, f900019, hc6579, hc6583, H⟩

/-! tidewrack/spans.without$1 -/
theorem spans_without_1_iter (K : Nat) (bp1 : Nat) (Ap1_0 : Option Addr) (cp1_0 : Nat) (p1 : List T30) (bp2 : Nat) (p2 : T30) (w : World) (o : Nat → Nat) (Lp1 : Nat) (hp1 : Ft (Bx bp1 38 [.slice Ap1_0 (p1).length cp1_0]) w o Lp1) (Lp1_0 : Nat) (hp1_0 : Ft (RdC ET30 Ap1_0 p1) w o Lp1_0) (hcp1_0 : (p1).length ≤ cp1_0) (Lp2 : Nat) (hp2 : Ft (Bx bp2 43 [.int .i64 p2.From, .int .i64 p2.To]) w o Lp2) (hd0 : ([] : List Nat).Nodup) (hd1 : Lp1_0 ∉ ([] : List Nat)) (hd2 : Lp1 ∉ ([] : List Nat)) (hd3 : Lp2 ∉ ([] : List Nat)) (r : List T30) (H : spans_without_1 K p1 p2 = some r) :
    IterC Try.prog 43 [] [.pointer (some ⟨bp1, 0, none⟩), .pointer (some ⟨bp2, 0, none⟩)] (fun (x_ : T30) vs_ _ => vs_ = [.agg #[.int .i64 x_.From, .int .i64 x_.To]]) none r w o [] [Lp1, Lp1_0, Lp2] := by
  refine iter_start hd0 (fun _ h_ => by cases h_) fun l_ JJ XX Res w1 oi h1 h2 h3 hJ hX hRl hY hE0 hE1 hs => ?_
  refine x_enter (vs := [.func (.yield l_) #[] #[], .pointer (some ⟨bp1, 0, none⟩), .pointer (some ⟨bp2, 0, none⟩)]) Try.func43 rfl rfl rfl fun a hk => ?_
  have f900020 := h3 2 hp1_0 (by simp) hd1 (by simp) rfl
  have f900039 := h3 2 hp1 (by simp) hd2 (by simp) rfl
  have f900059 := h3 2 hp2 (by simp) hd3 (by simp) rfl
  clear h1 h2 h3
  rw [spans_without_1] at H
  refine x_seq ?_
  refine wpIn_region_lit ?_
  refine x_run tab hk (k := 3) (lv := [.slice Ap1_0 (p1).length cp1_0]) (ks := [0, 2, 8, 9, 10]) (e' := [(0, .func (.yield l_) #[] #[]), (2, .pointer (some ⟨bp2, 0, none⟩)), (8, .slice Ap1_0 (p1).length cp1_0), (9, .int .i64 ((p1).length : Int)), (10, .int .i64 0)]) rfl ⟨(load1 tab rfl ((Bx.cell f900039.now 0).trans rfl)), trivial⟩ fun a hk => ?_
  refine wpListIn_nil ?_
  refine then_n ?_
  refine wpIn_block ?_
  refine x_loop (fun j_ a_ w_ => ∃ o236 : Nat → Nat, ∃ r237 : List T30, ∃ A238 : Option Addr, ∃ c239 : Nat, ∃ A242 : Option Addr, ∃ c243 : Nat, ∃ x246 : Int, Kn 47 a_ [(0, .func (.yield l_) #[] #[]), (2, .pointer (some ⟨bp2, 0, none⟩)), (8, .slice A242 (p1).length c243), (9, .int .i64 ((p1).length : Int)), (10, .int .i64 x246)] ∧ JJ r237 w_ o236 ∧ Ft (RdC ET30 A238 p1) w_ o236 2 ∧ Ft (RdC ET30 A242 p1) w_ o236 2 ∧ Ft (Bx bp1 38 [.slice A238 (p1).length c239]) w_ o236 2 ∧ Ft (Bx bp2 43 [.int .i64 p2.From, .int .i64 p2.To]) w_ o236 2 ∧ (p1).length ≤ c239 ∧ (p1).length ≤ c243 ∧ spans_without_1_l1 K p1 p2 j_ x246 = some r237) (k := K) ⟨oi, r, Ap1_0, cp1_0, Ap1_0, cp1_0, 0, (by exact Kn.pick (ks := [0, 2, 8, 9, 10]) hk rfl), hs, f900020, f900020, f900039, f900059, hcp1_0, hcp1_0, H⟩ (by rintro _ _ ⟨_, _, _, _, _, _, _, _, _, _, _, _, _, _, _, H_⟩; exact absurd (show (none : Option (List T30)) = some _ from H_) (by simp)) ?_
  rintro k471 a w470 ⟨o236, r237, A238, c239, A242, c243, x246, hk, hs, f240, f244, f900039, f900059, hc241, hc245, H⟩
  rw [spans_without_1_l1] at H
  obtain ⟨lp472, hlp473⟩ : ∃ lp_, lp_ = spans_without_1_l1 K p1 p2 k471 := ⟨_, rfl⟩
  rw [← hlp473] at H
  refine x_seq ?_
  refine wpIn_region_lit ?_
  refine x_run tab hk (k := 1) (lv := []) (ks := [0, 2, 8, 9, 10, 11]) (e' := [(0, .func (.yield l_) #[] #[]), (2, .pointer (some ⟨bp2, 0, none⟩)), (8, .slice A242 (p1).length c243), (9, .int .i64 ((p1).length : Int)), (10, .int .i64 x246), (11, .bool (decide (x246 < ((p1).length : Int))))]) rfl trivial fun a hk => ?_
  refine wpListIn_nil ?_
  refine then_n ?_
  refine x_seq ?_
  cases b474 : (decide (x246 < ((p1).length : Int)))
  · rw [b474] at hk H
    replace H := bifF H
    refine x_if hk (b := false) rfl ?_
    refine (show Code.wpIn _ _ _ _ _ _ _ from ?_)
    refine wpIn_exit ?_
    refine then_x ?_
    refine then_x ?_
    refine blk_x ?_
    obtain rfl := Option.some.inj H
    exact x_endG hk (rs := []) (vs := []) rfl trivial (hE0 hs)
  · rw [b474] at hk H
    replace H := bifT H
    refine x_if hk (b := true) rfl ?_
    refine (show Code.wpIn _ _ _ _ _ _ _ from ?_)
    refine wpIn_skip ?_
    refine then_n ?_
    refine x_mid (fun a_ w_ => ∃ o588 : Nat → Nat, ∃ r589 : List T30, ∃ A590 : Option Addr, ∃ c591 : Nat, Kn 47 a_ [(0, .func (.yield l_) #[] #[]), (2, .pointer (some ⟨bp2, 0, none⟩)), (8, .slice A590 (p1).length c591), (9, .int .i64 ((p1).length : Int)), (10, .int .i64 x246)] ∧ JJ r589 w_ o588 ∧ Ft (RdC ET30 A238 p1) w_ o588 2 ∧ Ft (RdC ET30 A590 p1) w_ o588 2 ∧ Ft (Bx bp1 38 [.slice A238 (p1).length c239]) w_ o588 2 ∧ Ft (Bx bp2 43 [.int .i64 p2.From, .int .i64 p2.To]) w_ o588 2 ∧ (p1).length ≤ c591 ∧ spans_without_1_j2 x246 lp472 = some r589) ?_ ?_
    rotate_left
    · rintro a w594 ⟨o588, r589, A590, c591, hk, hs, f240, f592, f900039, f900059, hc593, H⟩
      rw [spans_without_1_j2] at H
      refine wpIn_region_lit ?_
      refine x_run tab hk (k := 2) (lv := []) (ks := [0, 2, 8, 9, 10]) (e' := [(0, .func (.yield l_) #[] #[]), (2, .pointer (some ⟨bp2, 0, none⟩)), (8, .slice A590 (p1).length c591), (9, .int .i64 ((p1).length : Int)), (10, .int .i64 (IntKind.wrap .i64 (x246 + 1)))]) rfl trivial fun a hk => ?_
      refine wpListIn_nil ?_
      refine then_n ?_
      exact ⟨k471, Nat.le_refl _, o588, r589, A238, c239, A590, c591, (IntKind.wrap .i64 (x246 + 1)), (by exact Kn.pick (ks := [0, 2, 8, 9, 10]) hk rfl), hs, f240, f592, f900039, f900059, hc241, hc593, (hlp473 ▸ H)⟩
    refine wpIn_block ?_
    refine x_seq ?_
    refine wpIn_region_lit ?_
    obtain ⟨q595, H⟩ := ifS H
    obtain ⟨ad596, hAad596⟩ := RdC.addr f244.now q595
    have hk_C := hk
    have f240_C := f240
    have f244_C := f244
    have f900039_C := f900039
    have f900059_C := f900059
    subst hAad596
    have hk := hk_C
    clear hk_C
    have f240 := f240_C
    clear f240_C
    have f244 := f244_C
    clear f244_C
    have f900039 := f900039_C
    clear f900039_C
    have f900059 := f900059_C
    clear f900059_C
    refine x_run tab hk (k := 2) (lv := [.agg #[.int .i64 ((rdD zT30 p1 x246).From), .int .i64 ((rdD zT30 p1 x246).To)]]) (ks := [0, 2, 8, 9, 10, 13]) (e' := [(0, .func (.yield l_) #[] #[]), (2, .pointer (some ⟨bp2, 0, none⟩)), (8, .slice (some ad596) (p1).length c243), (9, .int .i64 ((p1).length : Int)), (10, .int .i64 x246), (13, .agg #[.int .i64 ((rdD zT30 p1 x246).From), .int .i64 ((rdD zT30 p1 x246).To)])]) rfl ⟨q595, (load_elem (E := ET30) (i := x246) (dx := zT30) tab rfl rfl f244.now q595), trivial⟩ fun a hk => ?_
    refine x_op hk rfl ?_
    refine op_alloc (o := o236) tab (t := 43) (cs := [.int .i64 0, .int .i64 0]) rfl rfl 38 fun bx600 w597 o598 st599 f601 => ?_
    replace f240 := f240.st st599 (by decide)
    replace f244 := f244.st st599 (by decide)
    replace f900039 := f900039.st st599 (by decide)
    replace f900059 := f900059.st st599 (by decide)
    replace hs := hJ hs st599 rfl
    have hk := hk.put 5 (.pointer (some ⟨bx600, 0, none⟩)) rfl
    refine x_op hk rfl ?_
    refine op_store tab hk (t := 43) (v := .agg #[.int .i64 ((rdD zT30 p1 x246).From), .int .i64 ((rdD zT30 p1 x246).To)]) (b := bx600) (k := 0) (cs' := [.int .i64 ((rdD zT30 p1 x246).From), .int .i64 ((rdD zT30 p1 x246).To)]) rfl rfl rfl rfl rfl rfl f601 rfl rfl fun w602 o603 st604 f601_ => ?_
    replace f240 := f240.st st604 (by decide)
    replace f244 := f244.st st604 (by decide)
    replace f900039 := f900039.st st604 (by decide)
    replace f900059 := f900059.st st604 (by decide)
    replace hs := hJ hs st604 rfl
    replace f601 := f601_
    refine wpListIn_nil ?_
    refine then_n ?_
    refine x_seq ?_
    refine wpIn_region_lit ?_
    refine x_run tab hk (k := 10) (lv := [.int .i64 ((rdD zT30 p1 x246).From), .int .i64 ((rdD zT30 p1 x246).To), .int .i64 p2.From, .int .i64 ((rdD zT30 p1 x246).From)]) (ks := [0, 2, 5, 8, 9, 10, 21, 23]) (e' := [(0, .func (.yield l_) #[] #[]), (2, .pointer (some ⟨bp2, 0, none⟩)), (5, .pointer (some ⟨bx600, 0, none⟩)), (8, .slice (some ad596) (p1).length c243), (9, .int .i64 ((p1).length : Int)), (10, .int .i64 x246), (21, .agg #[.int .i64 ((rdD zT30 p1 x246).From), .int .i64 (mnI ((rdD zT30 p1 x246).To) p2.From)]), (23, .int .i64 ((rdD zT30 p1 x246).From))]) rfl ⟨(load1 tab rfl ((Bx.cell f601.now 0).trans rfl)), (load1 tab rfl ((Bx.cell f601.now 1).trans rfl)), (load1 tab rfl ((Bx.cell f900059.now 0).trans rfl)), (load1 tab rfl ((Bx.cell f601.now 0).trans rfl)), trivial⟩ fun a hk => ?_
    refine x_run tab hk (k := 6) (lv := [.int .i64 p2.To, .int .i64 ((rdD zT30 p1 x246).To)]) (ks := [0, 2, 8, 9, 10, 21, 29]) (e' := [(0, .func (.yield l_) #[] #[]), (2, .pointer (some ⟨bp2, 0, none⟩)), (8, .slice (some ad596) (p1).length c243), (9, .int .i64 ((p1).length : Int)), (10, .int .i64 x246), (21, .agg #[.int .i64 ((rdD zT30 p1 x246).From), .int .i64 (mnI ((rdD zT30 p1 x246).To) p2.From)]), (29, .agg #[.int .i64 (mxI ((rdD zT30 p1 x246).From) p2.To), .int .i64 ((rdD zT30 p1 x246).To)])]) rfl ⟨(load1 tab rfl ((Bx.cell f900059.now 1).trans rfl)), (load1 tab rfl ((Bx.cell f601.now 1).trans rfl)), trivial⟩ fun a hk => ?_
    refine x_op hk rfl ?_
    refine op_slice (o := o603) tab hk (vs := [.agg #[.int .i64 ((rdD zT30 p1 x246).From), .int .i64 (mnI ((rdD zT30 p1 x246).To) p2.From)], .agg #[.int .i64 (mxI ((rdD zT30 p1 x246).From) p2.To), .int .i64 ((rdD zT30 p1 x246).To)]]) (cs := [.int .i64 ((rdD zT30 p1 x246).From), .int .i64 (mnI ((rdD zT30 p1 x246).To) p2.From), .int .i64 (mxI ((rdD zT30 p1 x246).From) p2.To), .int .i64 ((rdD zT30 p1 x246).To)]) rfl rfl rfl rfl rfl rfl rfl rfl rfl 39 fun bx608 w605 o606 st607 f609 => ?_
    replace f240 := f240.st st607 (by decide)
    replace f244 := f244.st st607 (by decide)
    replace f900039 := f900039.st st607 (by decide)
    replace f900059 := f900059.st st607 (by decide)
    replace hs := hJ hs st607 rfl
    have f610 : Ft (Own ET30 43 (.slice (some ⟨bx608, 0, none⟩) (([(⟨(rdD zT30 p1 x246).From, (mnI ((rdD zT30 p1 x246).To) p2.From)⟩ : T30), (⟨(mxI ((rdD zT30 p1 x246).From) p2.To), (rdD zT30 p1 x246).To⟩ : T30)] : List T30)).length 2) ([(⟨(rdD zT30 p1 x246).From, (mnI ((rdD zT30 p1 x246).To) p2.From)⟩ : T30), (⟨(mxI ((rdD zT30 p1 x246).From) p2.To), (rdD zT30 p1 x246).To⟩ : T30)] : List T30)) w605 o606 39 := f609.imp fun _ h_ => Own.of_box h_ rfl (by simp)
    have hk := hk.put 30 (.slice (some ⟨bx608, 0, none⟩) (([(⟨(rdD zT30 p1 x246).From, (mnI ((rdD zT30 p1 x246).To) p2.From)⟩ : T30), (⟨(mxI ((rdD zT30 p1 x246).From) p2.To), (rdD zT30 p1 x246).To⟩ : T30)] : List T30)).length 2) rfl
    refine x_run tab hk (k := 2) (lv := []) (ks := [0, 2, 8, 9, 10, 30, 31, 32]) (e' := [(0, .func (.yield l_) #[] #[]), (2, .pointer (some ⟨bp2, 0, none⟩)), (8, .slice (some ad596) (p1).length c243), (9, .int .i64 ((p1).length : Int)), (10, .int .i64 x246), (30, .slice (some ⟨bx608, 0, none⟩) (([(⟨(rdD zT30 p1 x246).From, (mnI ((rdD zT30 p1 x246).To) p2.From)⟩ : T30), (⟨(mxI ((rdD zT30 p1 x246).From) p2.To), (rdD zT30 p1 x246).To⟩ : T30)] : List T30)).length 2), (31, .int .i64 ((([(⟨(rdD zT30 p1 x246).From, (mnI ((rdD zT30 p1 x246).To) p2.From)⟩ : T30), (⟨(mxI ((rdD zT30 p1 x246).From) p2.To), (rdD zT30 p1 x246).To⟩ : T30)] : List T30)).length : Int)), (32, .int .i64 0)]) rfl trivial fun a hk => ?_
    refine wpListIn_nil ?_
    refine then_n ?_
    refine wpIn_block ?_
    refine x_loop (fun j_ a_ w_ => ∃ o640 : Nat → Nat, ∃ r641 : List T30, ∃ x642 : Int, Kn 47 a_ [(0, .func (.yield l_) #[] #[]), (2, .pointer (some ⟨bp2, 0, none⟩)), (8, .slice (some ad596) (p1).length c243), (9, .int .i64 ((p1).length : Int)), (10, .int .i64 x246), (30, .slice (some ⟨bx608, 0, none⟩) (([(⟨(rdD zT30 p1 x246).From, (mnI ((rdD zT30 p1 x246).To) p2.From)⟩ : T30), (⟨(mxI ((rdD zT30 p1 x246).From) p2.To), (rdD zT30 p1 x246).To⟩ : T30)] : List T30)).length 2), (31, .int .i64 ((([(⟨(rdD zT30 p1 x246).From, (mnI ((rdD zT30 p1 x246).To) p2.From)⟩ : T30), (⟨(mxI ((rdD zT30 p1 x246).From) p2.To), (rdD zT30 p1 x246).To⟩ : T30)] : List T30)).length : Int)), (32, .int .i64 x642)] ∧ JJ r641 w_ o640 ∧ Ft (RdC ET30 A238 p1) w_ o640 2 ∧ Ft (RdC ET30 (some ad596) p1) w_ o640 2 ∧ Ft (Own ET30 43 (.slice (some ⟨bx608, 0, none⟩) (([(⟨(rdD zT30 p1 x246).From, (mnI ((rdD zT30 p1 x246).To) p2.From)⟩ : T30), (⟨(mxI ((rdD zT30 p1 x246).From) p2.To), (rdD zT30 p1 x246).To⟩ : T30)] : List T30)).length 2) ([(⟨(rdD zT30 p1 x246).From, (mnI ((rdD zT30 p1 x246).To) p2.From)⟩ : T30), (⟨(mxI ((rdD zT30 p1 x246).From) p2.To), (rdD zT30 p1 x246).To⟩ : T30)] : List T30)) w_ o640 42 ∧ Ft (Bx bp1 38 [.slice A238 (p1).length c239]) w_ o640 2 ∧ Ft (Bx bp2 43 [.int .i64 p2.From, .int .i64 p2.To]) w_ o640 2 ∧ spans_without_1_l3 p1 p2 x246 lp472 j_ x642 = some r641) (k := K) ⟨(fun b_ => (fun l_ => if l_ = 39 then 42 else l_) (o606 b_)), r237, 0, (by exact Kn.pick (ks := [0, 2, 8, 9, 10, 30, 31, 32]) hk rfl), (hRl (fun l_ => if l_ = 39 then 42 else l_) hs rfl (by intro l_ hl_; (try simp only [List.length_nil, List.length_cons] at hl_ ⊢); (try dsimp only); (repeat' split) <;> omega) (by intro l_ hl_; (try simp only [List.length_nil, List.length_cons] at hl_ ⊢); (try dsimp only); (repeat' split) <;> omega)), (f240.relab (fun l_ => if l_ = 39 then 42 else l_) rfl), (f244.relab (fun l_ => if l_ = 39 then 42 else l_) rfl), (f610.relab (fun l_ => if l_ = 39 then 42 else l_) rfl), (f900039.relab (fun l_ => if l_ = 39 then 42 else l_) rfl), (f900059.relab (fun l_ => if l_ = 39 then 42 else l_) rfl), H⟩ (by rintro _ _ ⟨_, _, _, _, _, _, _, _, _, _, H_⟩; exact absurd (show (none : Option (List T30)) = some _ from H_) (by simp)) ?_
    rintro k669 a w668 ⟨o640, r641, x642, hk, hs, f240, f244, f610, f900039, f900059, H⟩
    rw [spans_without_1_l3] at H
    obtain ⟨lp670, hlp671⟩ : ∃ lp_, lp_ = spans_without_1_l3 p1 p2 x246 lp472 k669 := ⟨_, rfl⟩
    rw [← hlp671] at H
    refine x_seq ?_
    refine wpIn_region_lit ?_
    refine x_run tab hk (k := 1) (lv := []) (ks := [0, 2, 8, 9, 10, 30, 31, 32, 33]) (e' := [(0, .func (.yield l_) #[] #[]), (2, .pointer (some ⟨bp2, 0, none⟩)), (8, .slice (some ad596) (p1).length c243), (9, .int .i64 ((p1).length : Int)), (10, .int .i64 x246), (30, .slice (some ⟨bx608, 0, none⟩) (([(⟨(rdD zT30 p1 x246).From, (mnI ((rdD zT30 p1 x246).To) p2.From)⟩ : T30), (⟨(mxI ((rdD zT30 p1 x246).From) p2.To), (rdD zT30 p1 x246).To⟩ : T30)] : List T30)).length 2), (31, .int .i64 ((([(⟨(rdD zT30 p1 x246).From, (mnI ((rdD zT30 p1 x246).To) p2.From)⟩ : T30), (⟨(mxI ((rdD zT30 p1 x246).From) p2.To), (rdD zT30 p1 x246).To⟩ : T30)] : List T30)).length : Int)), (32, .int .i64 x642), (33, .bool (decide (x642 < ((([(⟨(rdD zT30 p1 x246).From, (mnI ((rdD zT30 p1 x246).To) p2.From)⟩ : T30), (⟨(mxI ((rdD zT30 p1 x246).From) p2.To), (rdD zT30 p1 x246).To⟩ : T30)] : List T30)).length : Int))))]) rfl trivial fun a hk => ?_
    refine wpListIn_nil ?_
    refine then_n ?_
    refine x_seq ?_
    cases b672 : (decide (x642 < ((([(⟨(rdD zT30 p1 x246).From, (mnI ((rdD zT30 p1 x246).To) p2.From)⟩ : T30), (⟨(mxI ((rdD zT30 p1 x246).From) p2.To), (rdD zT30 p1 x246).To⟩ : T30)] : List T30)).length : Int)))
    · rw [b672] at hk H
      replace H := bifF H
      refine x_if hk (b := false) rfl ?_
      refine (show Code.wpIn _ _ _ _ _ _ _ from ?_)
      refine wpIn_exit ?_
      refine then_x ?_
      refine then_x ?_
      refine blk_x ?_
      refine blk_n ?_
      refine then_n ?_
      exact ⟨o640, r641, (some ad596), c243, (by exact Kn.pick (ks := [0, 2, 8, 9, 10]) hk rfl), hs, f240, f244, f900039, f900059, hc245, H⟩
    · rw [b672] at hk H
      replace H := bifT H
      refine x_if hk (b := true) rfl ?_
      refine (show Code.wpIn _ _ _ _ _ _ _ from ?_)
      refine wpIn_skip ?_
      refine then_n ?_
      refine x_seq ?_
      refine wpIn_block ?_
      refine x_seq ?_
      refine wpIn_region_lit ?_
      obtain ⟨q673, H⟩ := ifS H
      refine x_run tab hk (k := 2) (lv := [.agg #[.int .i64 ((rdD zT30 ([(⟨(rdD zT30 p1 x246).From, (mnI ((rdD zT30 p1 x246).To) p2.From)⟩ : T30), (⟨(mxI ((rdD zT30 p1 x246).From) p2.To), (rdD zT30 p1 x246).To⟩ : T30)] : List T30) x642).From), .int .i64 ((rdD zT30 ([(⟨(rdD zT30 p1 x246).From, (mnI ((rdD zT30 p1 x246).To) p2.From)⟩ : T30), (⟨(mxI ((rdD zT30 p1 x246).From) p2.To), (rdD zT30 p1 x246).To⟩ : T30)] : List T30) x642).To)]]) (ks := [0, 2, 8, 9, 10, 30, 31, 32, 35]) (e' := [(0, .func (.yield l_) #[] #[]), (2, .pointer (some ⟨bp2, 0, none⟩)), (8, .slice (some ad596) (p1).length c243), (9, .int .i64 ((p1).length : Int)), (10, .int .i64 x246), (30, .slice (some ⟨bx608, 0, none⟩) (([(⟨(rdD zT30 p1 x246).From, (mnI ((rdD zT30 p1 x246).To) p2.From)⟩ : T30), (⟨(mxI ((rdD zT30 p1 x246).From) p2.To), (rdD zT30 p1 x246).To⟩ : T30)] : List T30)).length 2), (31, .int .i64 ((([(⟨(rdD zT30 p1 x246).From, (mnI ((rdD zT30 p1 x246).To) p2.From)⟩ : T30), (⟨(mxI ((rdD zT30 p1 x246).From) p2.To), (rdD zT30 p1 x246).To⟩ : T30)] : List T30)).length : Int)), (32, .int .i64 x642), (35, .agg #[.int .i64 ((rdD zT30 ([(⟨(rdD zT30 p1 x246).From, (mnI ((rdD zT30 p1 x246).To) p2.From)⟩ : T30), (⟨(mxI ((rdD zT30 p1 x246).From) p2.To), (rdD zT30 p1 x246).To⟩ : T30)] : List T30) x642).From), .int .i64 ((rdD zT30 ([(⟨(rdD zT30 p1 x246).From, (mnI ((rdD zT30 p1 x246).To) p2.From)⟩ : T30), (⟨(mxI ((rdD zT30 p1 x246).From) p2.To), (rdD zT30 p1 x246).To⟩ : T30)] : List T30) x642).To)])]) rfl ⟨q673, (load_elem (E := ET30) (i := x642) (dx := zT30) tab rfl rfl (Own.rd f610.now) q673), trivial⟩ fun a hk => ?_
      refine x_op hk rfl ?_
      refine op_alloc (o := o640) tab (t := 43) (cs := [.int .i64 0, .int .i64 0]) rfl rfl 44 fun bx677 w674 o675 st676 f678 => ?_
      replace f240 := f240.st st676 (by decide)
      replace f244 := f244.st st676 (by decide)
      replace f610 := f610.st st676 (by decide)
      replace f900039 := f900039.st st676 (by decide)
      replace f900059 := f900059.st st676 (by decide)
      replace hs := hJ hs st676 rfl
      have hk := hk.put 7 (.pointer (some ⟨bx677, 0, none⟩)) rfl
      refine x_op hk rfl ?_
      refine op_store tab hk (t := 43) (v := .agg #[.int .i64 ((rdD zT30 ([(⟨(rdD zT30 p1 x246).From, (mnI ((rdD zT30 p1 x246).To) p2.From)⟩ : T30), (⟨(mxI ((rdD zT30 p1 x246).From) p2.To), (rdD zT30 p1 x246).To⟩ : T30)] : List T30) x642).From), .int .i64 ((rdD zT30 ([(⟨(rdD zT30 p1 x246).From, (mnI ((rdD zT30 p1 x246).To) p2.From)⟩ : T30), (⟨(mxI ((rdD zT30 p1 x246).From) p2.To), (rdD zT30 p1 x246).To⟩ : T30)] : List T30) x642).To)]) (b := bx677) (k := 0) (cs' := [.int .i64 ((rdD zT30 ([(⟨(rdD zT30 p1 x246).From, (mnI ((rdD zT30 p1 x246).To) p2.From)⟩ : T30), (⟨(mxI ((rdD zT30 p1 x246).From) p2.To), (rdD zT30 p1 x246).To⟩ : T30)] : List T30) x642).From), .int .i64 ((rdD zT30 ([(⟨(rdD zT30 p1 x246).From, (mnI ((rdD zT30 p1 x246).To) p2.From)⟩ : T30), (⟨(mxI ((rdD zT30 p1 x246).From) p2.To), (rdD zT30 p1 x246).To⟩ : T30)] : List T30) x642).To)]) rfl rfl rfl rfl rfl rfl f678 rfl rfl fun w679 o680 st681 f678_ => ?_
      replace f240 := f240.st st681 (by decide)
      replace f244 := f244.st st681 (by decide)
      replace f610 := f610.st st681 (by decide)
      replace f900039 := f900039.st st681 (by decide)
      replace f900059 := f900059.st st681 (by decide)
      replace hs := hJ hs st681 rfl
      replace f678 := f678_
      refine wpListIn_nil ?_
      refine then_n ?_
      refine x_seq ?_
      refine wpIn_region_lit ?_
      refine x_run tab hk (k := 1) (lv := [.agg #[.int .i64 ((rdD zT30 ([(⟨(rdD zT30 p1 x246).From, (mnI ((rdD zT30 p1 x246).To) p2.From)⟩ : T30), (⟨(mxI ((rdD zT30 p1 x246).From) p2.To), (rdD zT30 p1 x246).To⟩ : T30)] : List T30) x642).From), .int .i64 ((rdD zT30 ([(⟨(rdD zT30 p1 x246).From, (mnI ((rdD zT30 p1 x246).To) p2.From)⟩ : T30), (⟨(mxI ((rdD zT30 p1 x246).From) p2.To), (rdD zT30 p1 x246).To⟩ : T30)] : List T30) x642).To)]]) (ks := [0, 2, 7, 8, 9, 10, 30, 31, 32, 36]) (e' := [(0, .func (.yield l_) #[] #[]), (2, .pointer (some ⟨bp2, 0, none⟩)), (7, .pointer (some ⟨bx677, 0, none⟩)), (8, .slice (some ad596) (p1).length c243), (9, .int .i64 ((p1).length : Int)), (10, .int .i64 x246), (30, .slice (some ⟨bx608, 0, none⟩) (([(⟨(rdD zT30 p1 x246).From, (mnI ((rdD zT30 p1 x246).To) p2.From)⟩ : T30), (⟨(mxI ((rdD zT30 p1 x246).From) p2.To), (rdD zT30 p1 x246).To⟩ : T30)] : List T30)).length 2), (31, .int .i64 ((([(⟨(rdD zT30 p1 x246).From, (mnI ((rdD zT30 p1 x246).To) p2.From)⟩ : T30), (⟨(mxI ((rdD zT30 p1 x246).From) p2.To), (rdD zT30 p1 x246).To⟩ : T30)] : List T30)).length : Int)), (32, .int .i64 x642), (36, .agg #[.int .i64 ((rdD zT30 ([(⟨(rdD zT30 p1 x246).From, (mnI ((rdD zT30 p1 x246).To) p2.From)⟩ : T30), (⟨(mxI ((rdD zT30 p1 x246).From) p2.To), (rdD zT30 p1 x246).To⟩ : T30)] : List T30) x642).From), .int .i64 ((rdD zT30 ([(⟨(rdD zT30 p1 x246).From, (mnI ((rdD zT30 p1 x246).To) p2.From)⟩ : T30), (⟨(mxI ((rdD zT30 p1 x246).From) p2.To), (rdD zT30 p1 x246).To⟩ : T30)] : List T30) x642).To)])]) rfl ⟨(load_box tab rfl rfl f678.now (k := 0) rfl rfl), trivial⟩ fun a hk => ?_
      refine x_op hk rfl ?_
      obtain ⟨t685, hc686, H⟩ := bindS H
      refine op_call hk ent_34 (vs := [.agg #[.int .i64 ((rdD zT30 ([(⟨(rdD zT30 p1 x246).From, (mnI ((rdD zT30 p1 x246).To) p2.From)⟩ : T30), (⟨(mxI ((rdD zT30 p1 x246).From) p2.To), (rdD zT30 p1 x246).To⟩ : T30)] : List T30) x642).From), .int .i64 ((rdD zT30 ([(⟨(rdD zT30 p1 x246).From, (mnI ((rdD zT30 p1 x246).To) p2.From)⟩ : T30), (⟨(mxI ((rdD zT30 p1 x246).From) p2.To), (rdD zT30 p1 x246).To⟩ : T30)] : List T30) x642).To)]]) rfl (spans_Span_empty_calls (rdD zT30 ([(⟨(rdD zT30 p1 x246).From, (mnI ((rdD zT30 p1 x246).To) p2.From)⟩ : T30), (⟨(mxI ((rdD zT30 p1 x246).From) p2.To), (rdD zT30 p1 x246).To⟩ : T30)] : List T30) x642) _ o680    _ hc686) ?_
      rintro _ w687 ⟨o688, rfl, st689⟩
      replace f240 := f240.st st689 (by decide)
      replace f244 := f244.st st689 (by decide)
      replace f610 := f610.st st689 (by decide)
      replace f678 := f678.st st689 (by decide)
      replace f900039 := f900039.st st689 (by decide)
      replace f900059 := f900059.st st689 (by decide)
      replace hs := hJ hs st689 rfl
      have hk := hk.put 37 (.bool t685) rfl
      refine x_run tab hk (k := 2) (lv := []) (ks := [0, 2, 7, 8, 9, 10, 30, 31, 32, 39]) (e' := [(0, .func (.yield l_) #[] #[]), (2, .pointer (some ⟨bp2, 0, none⟩)), (7, .pointer (some ⟨bx677, 0, none⟩)), (8, .slice (some ad596) (p1).length c243), (9, .int .i64 ((p1).length : Int)), (10, .int .i64 x246), (30, .slice (some ⟨bx608, 0, none⟩) (([(⟨(rdD zT30 p1 x246).From, (mnI ((rdD zT30 p1 x246).To) p2.From)⟩ : T30), (⟨(mxI ((rdD zT30 p1 x246).From) p2.To), (rdD zT30 p1 x246).To⟩ : T30)] : List T30)).length 2), (31, .int .i64 ((([(⟨(rdD zT30 p1 x246).From, (mnI ((rdD zT30 p1 x246).To) p2.From)⟩ : T30), (⟨(mxI ((rdD zT30 p1 x246).From) p2.To), (rdD zT30 p1 x246).To⟩ : T30)] : List T30)).length : Int)), (32, .int .i64 x642), (39, .bool (!t685))]) rfl trivial fun a hk => ?_
      cases b690 : (!t685)
      · rw [b690] at hk H
        replace H := bifF H
        refine x_run tab hk (k := 5) (lv := []) (ks := [0, 2, 8, 9, 10, 30, 31, 32, 44]) (e' := [(0, .func (.yield l_) #[] #[]), (2, .pointer (some ⟨bp2, 0, none⟩)), (8, .slice (some ad596) (p1).length c243), (9, .int .i64 ((p1).length : Int)), (10, .int .i64 x246), (30, .slice (some ⟨bx608, 0, none⟩) (([(⟨(rdD zT30 p1 x246).From, (mnI ((rdD zT30 p1 x246).To) p2.From)⟩ : T30), (⟨(mxI ((rdD zT30 p1 x246).From) p2.To), (rdD zT30 p1 x246).To⟩ : T30)] : List T30)).length 2), (31, .int .i64 ((([(⟨(rdD zT30 p1 x246).From, (mnI ((rdD zT30 p1 x246).To) p2.From)⟩ : T30), (⟨(mxI ((rdD zT30 p1 x246).From) p2.To), (rdD zT30 p1 x246).To⟩ : T30)] : List T30)).length : Int)), (32, .int .i64 x642), (44, .bool false)]) rfl trivial fun a hk => ?_
        refine wpListIn_nil ?_
        refine then_n ?_
        refine x_if hk (b := false) rfl ?_
        refine (show Code.wpIn _ _ _ _ _ _ _ from ?_)
        refine wpIn_skip ?_
        refine blk_n ?_
        refine then_n ?_
        refine wpIn_region_lit ?_
        refine x_run tab hk (k := 2) (lv := []) (ks := [0, 2, 8, 9, 10, 30, 31, 32]) (e' := [(0, .func (.yield l_) #[] #[]), (2, .pointer (some ⟨bp2, 0, none⟩)), (8, .slice (some ad596) (p1).length c243), (9, .int .i64 ((p1).length : Int)), (10, .int .i64 x246), (30, .slice (some ⟨bx608, 0, none⟩) (([(⟨(rdD zT30 p1 x246).From, (mnI ((rdD zT30 p1 x246).To) p2.From)⟩ : T30), (⟨(mxI ((rdD zT30 p1 x246).From) p2.To), (rdD zT30 p1 x246).To⟩ : T30)] : List T30)).length 2), (31, .int .i64 ((([(⟨(rdD zT30 p1 x246).From, (mnI ((rdD zT30 p1 x246).To) p2.From)⟩ : T30), (⟨(mxI ((rdD zT30 p1 x246).From) p2.To), (rdD zT30 p1 x246).To⟩ : T30)] : List T30)).length : Int)), (32, .int .i64 (IntKind.wrap .i64 (x642 + 1)))]) rfl trivial fun a hk => ?_
        refine wpListIn_nil ?_
        refine then_n ?_
        exact ⟨k669, Nat.le_refl _, o688, r641, (IntKind.wrap .i64 (x642 + 1)), (by exact Kn.pick (ks := [0, 2, 8, 9, 10, 30, 31, 32]) hk rfl), hs, f240, f244, f610, f900039, f900059, (hlp671 ▸ H)⟩
      · rw [b690] at hk H
        replace H := bifT H
        refine x_run tab hk (k := 2) (lv := [.agg #[.int .i64 ((rdD zT30 ([(⟨(rdD zT30 p1 x246).From, (mnI ((rdD zT30 p1 x246).To) p2.From)⟩ : T30), (⟨(mxI ((rdD zT30 p1 x246).From) p2.To), (rdD zT30 p1 x246).To⟩ : T30)] : List T30) x642).From), .int .i64 ((rdD zT30 ([(⟨(rdD zT30 p1 x246).From, (mnI ((rdD zT30 p1 x246).To) p2.From)⟩ : T30), (⟨(mxI ((rdD zT30 p1 x246).From) p2.To), (rdD zT30 p1 x246).To⟩ : T30)] : List T30) x642).To)]]) (ks := [0, 2, 8, 9, 10, 30, 31, 32, 39, 40, 41]) (e' := [(0, .func (.yield l_) #[] #[]), (2, .pointer (some ⟨bp2, 0, none⟩)), (8, .slice (some ad596) (p1).length c243), (9, .int .i64 ((p1).length : Int)), (10, .int .i64 x246), (30, .slice (some ⟨bx608, 0, none⟩) (([(⟨(rdD zT30 p1 x246).From, (mnI ((rdD zT30 p1 x246).To) p2.From)⟩ : T30), (⟨(mxI ((rdD zT30 p1 x246).From) p2.To), (rdD zT30 p1 x246).To⟩ : T30)] : List T30)).length 2), (31, .int .i64 ((([(⟨(rdD zT30 p1 x246).From, (mnI ((rdD zT30 p1 x246).To) p2.From)⟩ : T30), (⟨(mxI ((rdD zT30 p1 x246).From) p2.To), (rdD zT30 p1 x246).To⟩ : T30)] : List T30)).length : Int)), (32, .int .i64 x642), (39, .bool true), (40, .func (.yield l_) #[] #[]), (41, .agg #[.int .i64 ((rdD zT30 ([(⟨(rdD zT30 p1 x246).From, (mnI ((rdD zT30 p1 x246).To) p2.From)⟩ : T30), (⟨(mxI ((rdD zT30 p1 x246).From) p2.To), (rdD zT30 p1 x246).To⟩ : T30)] : List T30) x642).From), .int .i64 ((rdD zT30 ([(⟨(rdD zT30 p1 x246).From, (mnI ((rdD zT30 p1 x246).To) p2.From)⟩ : T30), (⟨(mxI ((rdD zT30 p1 x246).From) p2.To), (rdD zT30 p1 x246).To⟩ : T30)] : List T30) x642).To)])]) rfl ⟨(load_box tab rfl rfl f678.now (k := 0) rfl rfl), trivial⟩ fun a hk => ?_
        refine x_op hk rfl ?_
        obtain ⟨r691, hr692, H⟩ := consS H
        rw [hr692] at hs
        refine op_yield hk rfl (vs := [.agg #[.int .i64 ((rdD zT30 ([(⟨(rdD zT30 p1 x246).From, (mnI ((rdD zT30 p1 x246).To) p2.From)⟩ : T30), (⟨(mxI ((rdD zT30 p1 x246).From) p2.To), (rdD zT30 p1 x246).To⟩ : T30)] : List T30) x642).From), .int .i64 ((rdD zT30 ([(⟨(rdD zT30 p1 x246).From, (mnI ((rdD zT30 p1 x246).To) p2.From)⟩ : T30), (⟨(mxI ((rdD zT30 p1 x246).From) p2.To), (rdD zT30 p1 x246).To⟩ : T30)] : List T30) x642).To)]]) rfl (hY hs (fun _ => rfl)) ?_
        rintro b693 w694 ⟨o695, st696, ht_, hf_⟩
        replace f240 := f240.st st696 (by decide)
        replace f244 := f244.st st696 (by decide)
        replace f610 := f610.st st696 (by decide)
        replace f900039 := f900039.st st696 (by decide)
        replace f900059 := f900059.st st696 (by decide)
        cases b693
        · have hs := hf_ rfl
          have hk := hk.put 42 (.bool false) rfl
          refine x_run tab hk (k := 2) (lv := []) (ks := [0, 2, 8, 9, 10, 30, 31, 32, 44]) (e' := [(0, .func (.yield l_) #[] #[]), (2, .pointer (some ⟨bp2, 0, none⟩)), (8, .slice (some ad596) (p1).length c243), (9, .int .i64 ((p1).length : Int)), (10, .int .i64 x246), (30, .slice (some ⟨bx608, 0, none⟩) (([(⟨(rdD zT30 p1 x246).From, (mnI ((rdD zT30 p1 x246).To) p2.From)⟩ : T30), (⟨(mxI ((rdD zT30 p1 x246).From) p2.To), (rdD zT30 p1 x246).To⟩ : T30)] : List T30)).length 2), (31, .int .i64 ((([(⟨(rdD zT30 p1 x246).From, (mnI ((rdD zT30 p1 x246).To) p2.From)⟩ : T30), (⟨(mxI ((rdD zT30 p1 x246).From) p2.To), (rdD zT30 p1 x246).To⟩ : T30)] : List T30)).length : Int)), (32, .int .i64 x642), (44, .bool true)]) rfl trivial fun a hk => ?_
          refine wpListIn_nil ?_
          refine then_n ?_
          refine x_if hk (b := true) rfl ?_
          refine (show Code.wpIn _ _ _ _ _ _ _ from ?_)
          refine wpIn_ret ?_
          refine blk_r ?_
          refine then_r ?_
          refine then_r ?_
          refine blk_r ?_
          refine blk_r ?_
          refine then_r ?_
          refine then_r ?_
          refine blk_r ?_
          exact x_retG hk (rs := []) (vs := []) rfl trivial (hE1 hs)
        · have hs := ht_ rfl
          have hk := hk.put 42 (.bool true) rfl
          refine x_run tab hk (k := 2) (lv := []) (ks := [0, 2, 8, 9, 10, 30, 31, 32, 44]) (e' := [(0, .func (.yield l_) #[] #[]), (2, .pointer (some ⟨bp2, 0, none⟩)), (8, .slice (some ad596) (p1).length c243), (9, .int .i64 ((p1).length : Int)), (10, .int .i64 x246), (30, .slice (some ⟨bx608, 0, none⟩) (([(⟨(rdD zT30 p1 x246).From, (mnI ((rdD zT30 p1 x246).To) p2.From)⟩ : T30), (⟨(mxI ((rdD zT30 p1 x246).From) p2.To), (rdD zT30 p1 x246).To⟩ : T30)] : List T30)).length 2), (31, .int .i64 ((([(⟨(rdD zT30 p1 x246).From, (mnI ((rdD zT30 p1 x246).To) p2.From)⟩ : T30), (⟨(mxI ((rdD zT30 p1 x246).From) p2.To), (rdD zT30 p1 x246).To⟩ : T30)] : List T30)).length : Int)), (32, .int .i64 x642), (44, .bool false)]) rfl trivial fun a hk => ?_
          refine wpListIn_nil ?_
          refine then_n ?_
          refine x_if hk (b := false) rfl ?_
          refine (show Code.wpIn _ _ _ _ _ _ _ from ?_)
          refine wpIn_skip ?_
          refine blk_n ?_
          refine then_n ?_
          refine wpIn_region_lit ?_
          refine x_run tab hk (k := 2) (lv := []) (ks := [0, 2, 8, 9, 10, 30, 31, 32]) (e' := [(0, .func (.yield l_) #[] #[]), (2, .pointer (some ⟨bp2, 0, none⟩)), (8, .slice (some ad596) (p1).length c243), (9, .int .i64 ((p1).length : Int)), (10, .int .i64 x246), (30, .slice (some ⟨bx608, 0, none⟩) (([(⟨(rdD zT30 p1 x246).From, (mnI ((rdD zT30 p1 x246).To) p2.From)⟩ : T30), (⟨(mxI ((rdD zT30 p1 x246).From) p2.To), (rdD zT30 p1 x246).To⟩ : T30)] : List T30)).length 2), (31, .int .i64 ((([(⟨(rdD zT30 p1 x246).From, (mnI ((rdD zT30 p1 x246).To) p2.From)⟩ : T30), (⟨(mxI ((rdD zT30 p1 x246).From) p2.To), (rdD zT30 p1 x246).To⟩ : T30)] : List T30)).length : Int)), (32, .int .i64 (IntKind.wrap .i64 (x642 + 1)))]) rfl trivial fun a hk => ?_
          refine wpListIn_nil ?_
          refine then_n ?_
          exact ⟨k669, Nat.le_refl _, o695, r691, (IntKind.wrap .i64 (x642 + 1)), (by exact Kn.pick (ks := [0, 2, 8, 9, 10, 30, 31, 32]) hk rfl), hs, f240, f244, f610, f900039, f900059, (hlp671 ▸ H)⟩

/-! tidewrack/spans.without -/
theorem spans_without_calls (Ap0 : Option Addr) (cp0 : Nat) (p0 : List T30) (p1 : T30) (w : World) (o : Nat → Nat) (Lp0 : Nat) (hp0 : Ft (RdC ET30 Ap0 p0) w o Lp0) (hcp0 : (p0).length ≤ cp0)  (R0 : Nat) (R1 : Nat) (r : T30) (H : spans_without p0 p1 = some r) :
    Calls Try.prog 36 #[.slice Ap0 (p0).length cp0, .agg #[.int .i64 p1.From, .int .i64 p1.To]] w (Ret fun v_ w' => ∃ o' : Nat → Nat, ∃ b0 : Nat, ∃ b1 : Nat, v_ = .func (.func 43) #[] #[.pointer (some ⟨b0, 0, none⟩), .pointer (some ⟨b1, 0, none⟩)] ∧ St [] w o w' o' ∧ Ft (Bx b0 38 [.slice Ap0 (p0).length cp0]) w' o' R0 ∧ Ft (Bx b1 43 [.int .i64 r.From, .int .i64 r.To]) w' o' R1) := by
  refine x_enter (vs := [.slice Ap0 (p0).length cp0, .agg #[.int .i64 p1.From, .int .i64 p1.To]]) Try.func36 rfl rfl rfl fun a hk => ?_
  obtain ⟨o0, hs, h0⟩ := St.start w o
  have f900000 := h0 _ _ hp0
  clear h0
  rw [spans_without] at H
  refine x_seq ?_
  refine wpIn_region_lit ?_
  refine x_op hk rfl ?_
  refine op_box (o := o0) (t := 38) (v := .slice Ap0 (p0).length cp0) (cs := [.slice Ap0 (p0).length cp0]) hk rfl rfl 1 fun bx4 w1 o2 st3 f5 => ?_
  replace f900000 := f900000.st st3 (by decide)
  replace hs := hs.loc0 st3 (by decide)
  have hk := hk.put 2 (.pointer (some ⟨bx4, 0, none⟩)) rfl
  refine x_op hk rfl ?_
  refine op_box (o := o2) (t := 43) (v := .agg #[.int .i64 p1.From, .int .i64 p1.To]) (cs := [.int .i64 p1.From, .int .i64 p1.To]) hk rfl rfl 2 fun bx9 w6 o7 st8 f10 => ?_
  replace f5 := f5.st st8 (by decide)
  replace f900000 := f900000.st st8 (by decide)
  replace hs := hs.loc0 st8 (by decide)
  have hk := hk.put 3 (.pointer (some ⟨bx9, 0, none⟩)) rfl
  refine x_run tab hk (k := 1) (lv := []) (ks := [2, 3]) (e' := [(2, .pointer (some ⟨bx4, 0, none⟩)), (3, .pointer (some ⟨bx9, 0, none⟩))]) rfl trivial fun a hk => ?_
  refine wpListIn_nil ?_
  refine then_n ?_
  refine x_seq ?_
  refine wpIn_region_lit ?_
  refine x_run tab hk (k := 2) (lv := []) (ks := [4]) (e' := [(4, .func (.func 43) #[] #[.pointer (some ⟨bx4, 0, none⟩), .pointer (some ⟨bx9, 0, none⟩)])]) rfl trivial fun a hk => ?_
  refine wpListIn_nil ?_
  refine then_n ?_
  refine wpIn_ret ?_
  obtain rfl := Option.some.inj H
  exact x_retG hk (rs := [.tmp 4]) (vs := [.func (.func 43) #[] #[.pointer (some ⟨bx4, 0, none⟩), .pointer (some ⟨bx9, 0, none⟩)]]) rfl ⟨rfl, trivial⟩ ⟨fun b_ => if b_ < w.heap.size then o b_ else (fun l_ => if l_ = 1 then R0 else if l_ = 2 then R1 else 0) (o7 b_), bx4, bx9, rfl, hs.close0 o (fun l_ => if l_ = 1 then R0 else if l_ = 2 then R1 else 0), hs.close_ft (o := o) (ρ := fun l_ => if l_ = 1 then R0 else if l_ = 2 then R1 else 0) f5 (by decide) rfl, hs.close_ft (o := o) (ρ := fun l_ => if l_ = 1 then R0 else if l_ = 2 then R1 else 0) f10 (by decide) rfl⟩

/-! (*tidewrack/spans.Set).Cut -/
theorem spans_Set_Cut_calls (K : Nat) (bp0 : Nat) (Ap0_0 : Option Addr) (cp0_0 : Nat) (p0 : T48) (Ap1 : Option Addr) (cp1 : Nat) (p1 : List T30) (w : World) (o : Nat → Nat) (Lp0 : Nat) (hp0 : Ft (Bx bp0 49 [.slice Ap0_0 (p0.l).length cp0_0]) w o Lp0) (Lp0_0 : Nat) (hp0_0 : Ft (Own ET30 43 (.slice Ap0_0 (p0.l).length cp0_0) p0.l) w o Lp0_0) (hcp0_0 : (p0.l).length ≤ cp0_0) (Lp1 : Nat) (hp1 : Ft (RdC ET30 Ap1 p1) w o Lp1) (hcp1 : (p1).length ≤ cp1) (hd0 : ([Lp0, Lp0_0] : List Nat).Nodup) (hd1 : Lp1 ∉ [Lp0, Lp0_0]) (r : T48) (H : spans_Set_Cut K p0 p1 = some r) :
    Calls Try.prog 23 #[.pointer (some ⟨bp0, 0, none⟩), .slice Ap1 (p1).length cp1] w (Ret fun v_ w' => ∃ o' : Nat → Nat, ∃ A0 : Option Addr, ∃ c0 : Nat, v_ = .tuple #[] ∧ St [Lp0, Lp0_0] w o w' o' ∧ Ft (Bx bp0 49 [.slice A0 (r.l).length c0]) w' o' Lp0 ∧ Ft (Own ET30 43 (.slice A0 (r.l).length c0) r.l) w' o' Lp0_0 ∧ (r.l).length ≤ c0) := by
  refine x_enterQ (vs := [.pointer (some ⟨bp0, 0, none⟩), .slice Ap1 (p1).length cp1]) Try.func23 rfl rfl rfl fun a hk => ?_
  obtain ⟨oi, hs0, h0, h1, hob, hoz, hoa⟩ := St.startM2 w o (m := 2) hd0 rfl
  have hs := hs0 [1, 2]
  have hom := lab_in hob (MM := [1, 2]) (by decide)
  have f900000 := h1 1 2 hp0_0 rfl rfl
  have f900019 := h1 0 1 hp0 rfl rfl
  have f900020 := h0 _ _ hd1 hp1
  have fxm : Ft (MK []) w oi 3 := Ft.of_all (fun _ => MK.nil _) _ _ _
  clear h0 h1 hs0
  rw [spans_Set_Cut] at H
  refine x_seq ?_
  refine wpIn_region_lit ?_
  refine x_run tab hk (k := 3) (lv := []) (ks := [0, 8, 9, 10]) (e' := [(0, .pointer (some ⟨bp0, 0, none⟩)), (8, .slice Ap1 (p1).length cp1), (9, .int .i64 ((p1).length : Int)), (10, .int .i64 0)]) rfl trivial fun a hk => ?_
  refine wpListIn_nil ?_
  refine then_n ?_
  refine wpIn_block ?_
  refine x_loop (fun j_ a_ w_ => ∃ o732 : Nat → Nat, ∃ ds733 : List Deferred, ∃ A734 : Option Addr, ∃ c735 : Nat, ∃ l736 : List T30, ∃ A739 : Option Addr, ∃ c740 : Nat, ∃ x743 : Int, KnD 34 ds733 a_ [(0, .pointer (some ⟨bp0, 0, none⟩)), (8, .slice A739 (p1).length c740), (9, .int .i64 ((p1).length : Int)), (10, .int .i64 x743)] ∧ St [1, 2] w oi w_ o732 ∧ Ft (Own ET30 43 (.slice A734 (l736).length c735) l736) w_ o732 2 ∧ Ft (RdC ET30 A739 p1) w_ o732 0 ∧ Ft (Bx bp0 49 [.slice A734 (l736).length c735]) w_ o732 1 ∧ Ft (MK ds733) w_ o732 3 ∧ (l736).length ≤ c735 ∧ (p1).length ≤ c740 ∧ spans_Set_Cut_l1 K p1 j_ l736 x743 = some r) (k := K) ⟨oi, [], Ap0_0, cp0_0, p0.l, Ap1, cp1, 0, (by exact Kn.pick (ks := [0, 8, 9, 10]) hk rfl), hs, f900000, f900020, f900019, fxm, hcp0_0, hcp1, H⟩ (by rintro _ _ ⟨_, _, _, _, _, _, _, _, _, _, _, _, _, _, _, _, H_⟩; exact absurd (show (none : Option T48) = some r from H_) (by simp)) ?_
  rintro k1472 a w1471 ⟨o732, ds733, A734, c735, l736, A739, c740, x743, hk, hs, f737, f741, f900019, fxm, hc738, hc742, H⟩
  rw [spans_Set_Cut_l1] at H
  obtain ⟨lp1473, hlp1474⟩ : ∃ lp_, lp_ = spans_Set_Cut_l1 K p1 k1472 := ⟨_, rfl⟩
  rw [← hlp1474] at H
  refine x_seq ?_
  refine wpIn_region_lit ?_
  refine x_run tab hk (k := 1) (lv := []) (ks := [0, 8, 9, 10, 11]) (e' := [(0, .pointer (some ⟨bp0, 0, none⟩)), (8, .slice A739 (p1).length c740), (9, .int .i64 ((p1).length : Int)), (10, .int .i64 x743), (11, .bool (decide (x743 < ((p1).length : Int))))]) rfl trivial fun a hk => ?_
  refine wpListIn_nil ?_
  refine then_n ?_
  refine x_seq ?_
  cases b1475 : (decide (x743 < ((p1).length : Int)))
  · rw [b1475] at hk H
    replace H := bifF H
    refine x_if hk (b := false) rfl ?_
    refine (show Code.wpIn _ _ _ _ _ _ _ from ?_)
    refine wpIn_exit ?_
    refine then_x ?_
    refine then_x ?_
    refine blk_x ?_
    refine x_endQ hk fxm fun w1476 a st1477 hk => ?_
    replace f737 := f737.st st1477 (by decide)
    replace f741 := f741.st st1477 (by decide)
    replace f900019 := f900019.st st1477 (by decide)
    replace hs := hs.locM st1477 (by decide) hom
    obtain rfl := Option.some.inj H
    exact x_retG hk (rs := []) (vs := []) rfl trivial ⟨cl w oi o [1, 2] (fun l_ => if l_ = 1 then Lp0 else if l_ = 2 then Lp0_0 else 0) o732, A734, c735, rfl, hs.closeM hoz (by decide) (fun l_ => if l_ = 1 then Lp0 else if l_ = 2 then Lp0_0 else 0), hs.closeM_ft (o := o) (ρ := fun l_ => if l_ = 1 then Lp0 else if l_ = 2 then Lp0_0 else 0) f900019 (lab_at hoa (i := 0) rfl) rfl, hs.closeM_ft (o := o) (ρ := fun l_ => if l_ = 1 then Lp0 else if l_ = 2 then Lp0_0 else 0) f737 (lab_at hoa (i := 1) rfl) rfl, hc738⟩
  · rw [b1475] at hk H
    replace H := bifT H
    refine x_if hk (b := true) rfl ?_
    refine (show Code.wpIn _ _ _ _ _ _ _ from ?_)
    refine wpIn_skip ?_
    refine then_n ?_
    refine x_mid (fun a_ w_ => ∃ o1842 : Nat → Nat, ∃ ds1843 : List Deferred, ∃ A1844 : Option Addr, ∃ c1845 : Nat, ∃ l1846 : List T30, ∃ A1849 : Option Addr, ∃ c1850 : Nat, KnD 34 ds1843 a_ [(0, .pointer (some ⟨bp0, 0, none⟩)), (8, .slice A1849 (p1).length c1850), (9, .int .i64 ((p1).length : Int)), (10, .int .i64 x743)] ∧ St [1, 2] w oi w_ o1842 ∧ Ft (Own ET30 43 (.slice A1844 (l1846).length c1845) l1846) w_ o1842 2 ∧ Ft (RdC ET30 A1849 p1) w_ o1842 0 ∧ Ft (Bx bp0 49 [.slice A1844 (l1846).length c1845]) w_ o1842 1 ∧ Ft (MK ds1843) w_ o1842 3 ∧ (l1846).length ≤ c1845 ∧ (p1).length ≤ c1850 ∧ spans_Set_Cut_j2 x743 lp1473 l1846 = some r) ?_ ?_
    rotate_left
    · rintro a w1853 ⟨o1842, ds1843, A1844, c1845, l1846, A1849, c1850, hk, hs, f1847, f1851, f900019, fxm, hc1848, hc1852, H⟩
      rw [spans_Set_Cut_j2] at H
      refine wpIn_region_lit ?_
      refine x_run tab hk (k := 2) (lv := []) (ks := [0, 8, 9, 10]) (e' := [(0, .pointer (some ⟨bp0, 0, none⟩)), (8, .slice A1849 (p1).length c1850), (9, .int .i64 ((p1).length : Int)), (10, .int .i64 (IntKind.wrap .i64 (x743 + 1)))]) rfl trivial fun a hk => ?_
      refine wpListIn_nil ?_
      refine then_n ?_
      exact ⟨k1472, Nat.le_refl _, o1842, ds1843, A1844, c1845, l1846, A1849, c1850, (IntKind.wrap .i64 (x743 + 1)), (by exact Kn.pick (ks := [0, 8, 9, 10]) hk rfl), hs, f1847, f1851, f900019, fxm, hc1848, hc1852, (hlp1474 ▸ H)⟩
    refine wpIn_block ?_
    refine x_seq ?_
    refine wpIn_region_lit ?_
    obtain ⟨q1854, H⟩ := ifS H
    obtain ⟨ad1855, hAad1855⟩ := RdC.addr f741.now q1854
    have hk_C := hk
    have f737_C := f737
    have f741_C := f741
    have f900019_C := f900019
    have fxm_C := fxm
    subst hAad1855
    have hk := hk_C
    clear hk_C
    have f737 := f737_C
    clear f737_C
    have f741 := f741_C
    clear f741_C
    have f900019 := f900019_C
    clear f900019_C
    have fxm := fxm_C
    clear fxm_C
    refine x_run tab hk (k := 2) (lv := [.agg #[.int .i64 ((rdD zT30 p1 x743).From), .int .i64 ((rdD zT30 p1 x743).To)]]) (ks := [0, 8, 9, 10, 13]) (e' := [(0, .pointer (some ⟨bp0, 0, none⟩)), (8, .slice (some ad1855) (p1).length c740), (9, .int .i64 ((p1).length : Int)), (10, .int .i64 x743), (13, .agg #[.int .i64 ((rdD zT30 p1 x743).From), .int .i64 ((rdD zT30 p1 x743).To)])]) rfl ⟨q1854, (load_elem (E := ET30) (i := x743) (dx := zT30) tab rfl rfl f741.now q1854), trivial⟩ fun a hk => ?_
    refine x_op hk rfl ?_
    refine op_alloc (o := o732) tab (t := 43) (cs := [.int .i64 0, .int .i64 0]) rfl rfl 204 fun bx1859 w1856 o1857 st1858 f1860 => ?_
    replace f737 := f737.st st1858 (by decide)
    replace f741 := f741.st st1858 (by decide)
    replace f900019 := f900019.st st1858 (by decide)
    replace fxm := fxm.st st1858 (by decide)
    replace hs := hs.locM st1858 (by decide) hom
    have hk := hk.put 5 (.pointer (some ⟨bx1859, 0, none⟩)) rfl
    refine x_op hk rfl ?_
    refine op_store tab hk (t := 43) (v := .agg #[.int .i64 ((rdD zT30 p1 x743).From), .int .i64 ((rdD zT30 p1 x743).To)]) (b := bx1859) (k := 0) (cs' := [.int .i64 ((rdD zT30 p1 x743).From), .int .i64 ((rdD zT30 p1 x743).To)]) rfl rfl rfl rfl rfl rfl f1860 rfl rfl fun w1861 o1862 st1863 f1860_ => ?_
    replace f737 := f737.st st1863 (by decide)
    replace f741 := f741.st st1863 (by decide)
    replace f900019 := f900019.st st1863 (by decide)
    replace fxm := fxm.st st1863 (by decide)
    replace hs := hs.locM st1863 (by decide) hom
    replace f1860 := f1860_
    refine wpListIn_nil ?_
    refine then_n ?_
    refine x_seq ?_
    refine x_seq ?_
    refine wpIn_region_lit ?_
    refine x_run tab hk (k := 1) (lv := [.agg #[.int .i64 ((rdD zT30 p1 x743).From), .int .i64 ((rdD zT30 p1 x743).To)]]) (ks := [0, 5, 8, 9, 10, 14]) (e' := [(0, .pointer (some ⟨bp0, 0, none⟩)), (5, .pointer (some ⟨bx1859, 0, none⟩)), (8, .slice (some ad1855) (p1).length c740), (9, .int .i64 ((p1).length : Int)), (10, .int .i64 x743), (14, .agg #[.int .i64 ((rdD zT30 p1 x743).From), .int .i64 ((rdD zT30 p1 x743).To)])]) rfl ⟨(load_box tab rfl rfl f1860.now (k := 0) rfl rfl), trivial⟩ fun a hk => ?_
    refine x_op hk rfl ?_
    obtain ⟨t1867, hc1868, H⟩ := bindS H
    refine op_call hk ent_33 (vs := [.agg #[.int .i64 ((rdD zT30 p1 x743).From), .int .i64 ((rdD zT30 p1 x743).To)]]) rfl (spans_Span_fit_calls (rdD zT30 p1 x743) _ o1862    _ hc1868) ?_
    rintro _ w1869 ⟨o1870, rfl, st1871⟩
    replace f1860 := f1860.st st1871 (by decide)
    replace f737 := f737.st st1871 (by decide)
    replace f741 := f741.st st1871 (by decide)
    replace f900019 := f900019.st st1871 (by decide)
    replace fxm := fxm.st st1871 (by decide)
    replace hs := hs.locM st1871 (by decide) hom
    have hk := hk.put 15 (.agg #[.int .i64 t1867.From, .int .i64 t1867.To]) rfl
    refine x_op hk rfl ?_
    refine op_store tab hk (t := 43) (v := .agg #[.int .i64 t1867.From, .int .i64 t1867.To]) (b := bx1859) (k := 0) (cs' := [.int .i64 t1867.From, .int .i64 t1867.To]) rfl rfl rfl rfl rfl rfl f1860 rfl rfl fun w1872 o1873 st1874 f1860_ => ?_
    replace f737 := f737.st st1874 (by decide)
    replace f741 := f741.st st1874 (by decide)
    replace f900019 := f900019.st st1874 (by decide)
    replace fxm := fxm.st st1874 (by decide)
    replace hs := hs.locM st1874 (by decide) hom
    replace f1860 := f1860_
    refine wpListIn_nil ?_
    refine then_n ?_
    refine x_seq ?_
    refine wpIn_region_lit ?_
    refine x_run tab hk (k := 1) (lv := [.agg #[.int .i64 t1867.From, .int .i64 t1867.To]]) (ks := [0, 5, 8, 9, 10, 16]) (e' := [(0, .pointer (some ⟨bp0, 0, none⟩)), (5, .pointer (some ⟨bx1859, 0, none⟩)), (8, .slice (some ad1855) (p1).length c740), (9, .int .i64 ((p1).length : Int)), (10, .int .i64 x743), (16, .agg #[.int .i64 t1867.From, .int .i64 t1867.To])]) rfl ⟨(load_box tab rfl rfl f1860.now (k := 0) rfl rfl), trivial⟩ fun a hk => ?_
    refine x_op hk rfl ?_
    obtain ⟨t1878, hc1879, H⟩ := bindS H
    refine op_call hk ent_34 (vs := [.agg #[.int .i64 t1867.From, .int .i64 t1867.To]]) rfl (spans_Span_empty_calls t1867 _ o1873    _ hc1879) ?_
    rintro _ w1880 ⟨o1881, rfl, st1882⟩
    replace f1860 := f1860.st st1882 (by decide)
    replace f737 := f737.st st1882 (by decide)
    replace f741 := f741.st st1882 (by decide)
    replace f900019 := f900019.st st1882 (by decide)
    replace fxm := fxm.st st1882 (by decide)
    replace hs := hs.locM st1882 (by decide) hom
    have hk := hk.put 17 (.bool t1878) rfl
    refine wpListIn_nil ?_
    refine then_n ?_
    cases b1883 : t1878
    · rw [b1883] at hk H
      replace H := bifF H
      refine x_if hk (b := false) rfl ?_
      refine (show Code.wpIn _ _ _ _ _ _ _ from ?_)
      refine wpIn_skip ?_
      refine then_n ?_
      refine x_seq ?_
      refine wpIn_region_lit ?_
      refine x_op hk rfl ?_
      refine op_alloc (o := o1881) tab (t := 38) (cs := [.slice none 0 0]) rfl rfl 205 fun bx1887 w1884 o1885 st1886 f1888 => ?_
      replace f1860 := f1860.st st1886 (by decide)
      replace f737 := f737.st st1886 (by decide)
      replace f741 := f741.st st1886 (by decide)
      replace f900019 := f900019.st st1886 (by decide)
      replace fxm := fxm.st st1886 (by decide)
      replace hs := hs.locM st1886 (by decide) hom
      have hk := hk.put 6 (.pointer (some ⟨bx1887, 0, none⟩)) rfl
      refine wpListIn_nil ?_
      refine then_n ?_
      refine x_mid (fun a_ w_ => ∃ o2046 : Nat → Nat, ∃ ds2047 : List Deferred, ∃ A2048 : Option Addr, ∃ c2049 : Nat, ∃ l2050 : List T30, KnD 34 ds2047 a_ [(0, .pointer (some ⟨bp0, 0, none⟩)), (6, .pointer (some ⟨bx1887, 0, none⟩)), (8, .slice (some ad1855) (p1).length c740), (9, .int .i64 ((p1).length : Int)), (10, .int .i64 x743)] ∧ St [1, 2] w oi w_ o2046 ∧ Ft (Bx bx1887 38 [.slice A2048 (l2050).length c2049]) w_ o2046 225 ∧ Ft (Own ET30 43 (.slice A2048 (l2050).length c2049) l2050) w_ o2046 224 ∧ Ft (Own ET30 43 (.slice A734 (l736).length c735) l736) w_ o2046 2 ∧ Ft (RdC ET30 (some ad1855) p1) w_ o2046 0 ∧ Ft (Bx bp0 49 [.slice A734 (l736).length c735]) w_ o2046 1 ∧ Ft (MK ds2047) w_ o2046 3 ∧ (l2050).length ≤ c2049 ∧ spans_Set_Cut_j3 x743 lp1473 l2050 = some r) ?_ ?_
      rotate_left
      · rintro a w2053 ⟨o2046, ds2047, A2048, c2049, l2050, hk, hs, f1888, f2051, f737, f741, f900019, fxm, hc2052, H⟩
        rw [spans_Set_Cut_j3] at H
        refine wpIn_region_lit ?_
        refine x_run tab hk (k := 4) (lv := [.slice A2048 (l2050).length c2049]) (ks := [0, 8, 9, 10, 30, 32]) (e' := [(0, .pointer (some ⟨bp0, 0, none⟩)), (8, .slice (some ad1855) (p1).length c740), (9, .int .i64 ((p1).length : Int)), (10, .int .i64 x743), (30, .slice A2048 (l2050).length c2049), (32, .pointer (some ⟨bp0, 0, none⟩))]) rfl ⟨(load1 tab rfl ((Bx.cell f1888.now 0).trans rfl)), trivial⟩ fun a hk => ?_
        refine x_op hk rfl ?_
        refine op_store tab hk (t := 38) (v := .slice A2048 (l2050).length c2049) (b := bp0) (k := 0) (cs' := [.slice A2048 (l2050).length c2049]) rfl rfl rfl rfl rfl rfl f900019 rfl rfl fun w2054 o2055 st2056 f900019_ => ?_
        replace f2051 := f2051.st st2056 (by decide)
        replace f737 := f737.st st2056 (by decide)
        replace f741 := f741.st st2056 (by decide)
        replace fxm := fxm.st st2056 (by decide)
        replace hs := hs.locM st2056 (by decide) hom
        replace f900019 := f900019_
        refine wpListIn_nil ?_
        refine blk_n ?_
        refine then_n ?_
        exact ⟨(fun b_ => (fun l_ => if l_ = 224 then 2 else l_) (o2055 b_)), ds2047, A2048, c2049, l2050, (some ad1855), c740, (by exact Kn.pick (ks := [0, 8, 9, 10]) hk rfl), (hs.relabM hob (fun l_ => if l_ = 224 then 2 else l_) (by decide)), (f2051.relab (fun l_ => if l_ = 224 then 2 else l_) rfl), (f741.relab (fun l_ => if l_ = 224 then 2 else l_) rfl), (f900019.relab (fun l_ => if l_ = 224 then 2 else l_) rfl), (fxm.relab (fun l_ => if l_ = 224 then 2 else l_) rfl), hc2052, hc742, H⟩
      refine x_seq ?_
      refine xd_begin (o := o1885) (fun W_ => (Bx bx1859 43 [.int .i64 t1867.From, .int .i64 t1867.To]) W_ ∧ (Bx bp0 49 [.slice A734 (l736).length c735]) W_ ∧ True) mixed rfl rfl fun w2081 st2082 => ?_
      replace f1860 := f1860.st st2082 (by decide)
      replace f1888 := f1888.st st2082 (by decide)
      replace f737 := f737.st st2082 (by decide)
      replace f741 := f741.st st2082 (by decide)
      replace f900019 := f900019.st st2082 (by decide)
      replace fxm := fxm.st st2082 (by decide)
      replace hs := hs.locM st2082 (by decide) hom
      refine xd_take tab hk (k := 1) (is := [0, 1, 2, 3, 4]) (ls' := #[true, true, true, true, true, false]) (lv := [.slice A734 (l736).length c735, .agg #[.int .i64 t1867.From, .int .i64 t1867.To]]) (ks := [0, 6, 8, 9, 10, 21, 22]) (e' := [(0, .pointer (some ⟨bp0, 0, none⟩)), (6, .pointer (some ⟨bx1887, 0, none⟩)), (8, .slice (some ad1855) (p1).length c740), (9, .int .i64 ((p1).length : Int)), (10, .int .i64 x743), (21, .slice A734 (l736).length c735), (22, .agg #[.int .i64 t1867.From, .int .i64 t1867.To])]) (by kernel_rfl) rfl rfl (by kernel_rfl) (np_then (np_then (np_blk (np_then (np_then (np_blk np_bodyQ)))))) ⟨f1860.now, f900019.now, trivial⟩ (fun W_ hS => ⟨(load1 tab rfl ((Bx.cell hS.2.1 0).trans rfl)), (load_box tab rfl rfl hS.1 (k := 0) rfl rfl), trivial⟩) fun a hk => ?_
      refine xd_op hk (i := 5) (by kernel_rfl) rfl rfl ?_
      obtain ⟨t2086, hc2087, H⟩ := bindS H
      refine op_call hk ent_36 (vs := [.slice A734 (l736).length c735, .agg #[.int .i64 t1867.From, .int .i64 t1867.To]]) rfl (spans_without_calls A734 c735 l736 t1867 _ o1885 _ (f737.imp fun _ h_ => Own.rd h_) hc738 230 231  _ hc2087) ?_
      rintro _ w2088 ⟨o2089, bx2091, bx2093, rfl, st2090, f2092, f2094⟩
      replace f1860 := f1860.st st2090 (by decide)
      replace f1888 := f1888.st st2090 (by decide)
      replace f737 := f737.st st2090 (by decide)
      replace f741 := f741.st st2090 (by decide)
      replace f900019 := f900019.st st2090 (by decide)
      replace fxm := fxm.st st2090 (by decide)
      replace hs := hs.locM st2090 (by decide) hom
      have hk := hk.put 23 (.func (.func 43) #[] #[.pointer (some ⟨bx2091, 0, none⟩), .pointer (some ⟨bx2093, 0, none⟩)]) rfl
      refine ⟨.inr ⟨f1860.now, f900019.now, trivial⟩, ?_⟩
      refine xd_done (by kernel_rfl) ?_
      refine then_n ?_
      refine wpIn_block ?_
      obtain ⟨ys2095, hy2096, H⟩ := bindS H
      refine x_range 3 232 233 [205, 238] hk rfl ent_43 (spans_without_1_iter K bx2091 A734 c735 l736 bx2093 t2086 _ _ 230 f2092 2 (f737.imp fun _ h_ => Own.rd h_) hc738 231 f2094 (by decide) (by decide) (by decide) (by decide) _ hy2096) fxm (fun _ _ _ h_ => by subst h_; rfl) rfl rfl (fun rr_ w_ o2138 => ∃ A2139 : Option Addr, ∃ c2140 : Nat, ∃ l2141 : List T30, St [1, 2] w oi w_ o2138 ∧ Ft (Bx bx1887 38 [.slice A2139 (l2141).length c2140]) w_ o2138 205 ∧ Ft (Own ET30 43 (.slice A2139 (l2141).length c2140) l2141) w_ o2138 238 ∧ Ft (Own ET30 43 (.slice A734 (l736).length c735) l736) w_ o2138 2 ∧ Ft (RdC ET30 (some ad1855) p1) w_ o2138 0 ∧ Ft (Bx bp0 49 [.slice A734 (l736).length c735]) w_ o2138 1 ∧ (l2141).length ≤ c2140 ∧ spans_Set_Cut_r4 x743 lp1473 rr_ l2141 = some r) (fun c_ w_ o2171 => False) ?_ ?_ ⟨none, 0, ([] : List T30), hs, f1888, (Ft.of_all (fun _ => Own.nil _ _ _) _ _ _), f737, f741, f900019, (by simp), H⟩ ?_ ?_ ?_
      · rintro rr_ w_ _ _ _ ⟨A2139, c2140, l2141, hs, f1888, f2142, f737, f741, f900019, hc2143, H⟩ st_
        exact ⟨A2139, c2140, l2141, hs.locM st_ (by decide) hom, f1888.st st_ (by decide), f2142.st st_ (by decide), f737.st st_ (by decide), f741.st st_ (by decide), f900019.st st_ (by decide), hc2143, H⟩
      · exact fun _ _ _ _ _ h_ _ => h_.elim
      · rintro R0_ R1_ lr_ x2097 vs_ rest2098 w2099 o2100 ⟨A2139, c2140, l2141, hsO, f1888, f2142, f737, f741, f900019, hc2143, H⟩ hE fxr a hk
        obtain rfl : vs_ = [.agg #[.int .i64 x2097.From, .int .i64 x2097.To]] := hE w2099
        obtain ⟨o2101, hs0, hfl, hbB, hoi⟩ := St.startB w2099 o2100 238
        have hs := hs0 [232, 205, 238]
        replace f1888 := hfl f1888 rfl
        replace f2142 := hfl f2142 rfl
        replace f737 := hfl f737 rfl
        replace f741 := hfl f741 rfl
        replace f900019 := hfl f900019 rfl
        replace fxr := hfl fxr rfl
        replace hk : Kn 34 a [(0, .pointer (some ⟨bp0, 0, none⟩)), (6, .pointer (some ⟨bx1887, 0, none⟩)), (8, .slice (some ad1855) (p1).length c740), (9, .int .i64 ((p1).length : Int)), (10, .int .i64 x743), (24, .agg #[.int .i64 x2097.From, .int .i64 x2097.To])] := Kn.pick (ks := [0, 6, 8, 9, 10, 24]) hk rfl
        rw [spans_Set_Cut_r4] at H
        obtain ⟨lp2102, hlp2103⟩ : ∃ lp_, lp_ = spans_Set_Cut_r4 x743 lp1473 rest2098 := ⟨_, rfl⟩
        rw [← hlp2103] at H
        refine wpIn_region_lit ?_
        refine x_op hk rfl ?_
        refine op_alloc (o := o2101) tab (t := 43) (cs := [.int .i64 0, .int .i64 0]) rfl rfl 242 fun bx2177 w2174 o2175 st2176 f2178 => ?_
        replace f1888 := f1888.st st2176 (by decide)
        replace f2142 := f2142.st st2176 (by decide)
        replace f737 := f737.st st2176 (by decide)
        replace f741 := f741.st st2176 (by decide)
        replace f900019 := f900019.st st2176 (by decide)
        replace fxr := fxr.st st2176 (by decide)
        replace hs := hs.locB st2176 rfl hbB
        have hk := hk.put 7 (.pointer (some ⟨bx2177, 0, none⟩)) rfl
        refine x_op hk rfl ?_
        refine op_store tab hk (t := 43) (v := .agg #[.int .i64 x2097.From, .int .i64 x2097.To]) (b := bx2177) (k := 0) (cs' := [.int .i64 x2097.From, .int .i64 x2097.To]) rfl rfl rfl rfl rfl rfl f2178 rfl rfl fun w2179 o2180 st2181 f2178_ => ?_
        replace f1888 := f1888.st st2181 (by decide)
        replace f2142 := f2142.st st2181 (by decide)
        replace f737 := f737.st st2181 (by decide)
        replace f741 := f741.st st2181 (by decide)
        replace f900019 := f900019.st st2181 (by decide)
        replace fxr := fxr.st st2181 (by decide)
        replace hs := hs.locB st2181 rfl hbB
        replace f2178 := f2178_
        refine wpListIn_nil ?_
        refine then_n ?_
        refine ⟨_, fxr, fun w2182 st2183 fxr => ?_⟩
        replace f1888 := f1888.st st2183 (by decide)
        replace f2142 := f2142.st st2183 (by decide)
        replace f2178 := f2178.st st2183 (by decide)
        replace f737 := f737.st st2183 (by decide)
        replace f741 := f741.st st2183 (by decide)
        replace f900019 := f900019.st st2183 (by decide)
        replace hs := hs.locB st2183 rfl hbB
        refine wpIn_block ?_
        refine wpIn_region_lit ?_
        refine x_run tab hk (k := 2) (lv := [.slice A2139 (l2141).length c2140, .agg #[.int .i64 x2097.From, .int .i64 x2097.To]]) (ks := [0, 6, 8, 9, 10, 25, 26]) (e' := [(0, .pointer (some ⟨bp0, 0, none⟩)), (6, .pointer (some ⟨bx1887, 0, none⟩)), (8, .slice (some ad1855) (p1).length c740), (9, .int .i64 ((p1).length : Int)), (10, .int .i64 x743), (25, .slice A2139 (l2141).length c2140), (26, .agg #[.int .i64 x2097.From, .int .i64 x2097.To])]) rfl ⟨(load1 tab rfl ((Bx.cell f1888.now 0).trans rfl)), (load_box tab rfl rfl f2178.now (k := 0) rfl rfl), trivial⟩ fun a hk => ?_
        refine x_op hk rfl ?_
        refine op_slice (o := o2180) tab hk (vs := [.agg #[.int .i64 x2097.From, .int .i64 x2097.To]]) (cs := [.int .i64 x2097.From, .int .i64 x2097.To]) rfl rfl rfl rfl rfl rfl rfl rfl rfl 243 fun bx2187 w2184 o2185 st2186 f2188 => ?_
        replace f1888 := f1888.st st2186 (by decide)
        replace f2142 := f2142.st st2186 (by decide)
        replace f737 := f737.st st2186 (by decide)
        replace f741 := f741.st st2186 (by decide)
        replace f900019 := f900019.st st2186 (by decide)
        replace fxr := fxr.st st2186 (by decide)
        replace hs := hs.locB st2186 rfl hbB
        have f2189 : Ft (Own ET30 43 (.slice (some ⟨bx2187, 0, none⟩) (([x2097] : List T30)).length 1) ([x2097] : List T30)) w2184 o2185 243 := f2188.imp fun _ h_ => Own.of_box h_ rfl (by simp)
        have hk := hk.put 27 (.slice (some ⟨bx2187, 0, none⟩) (([x2097] : List T30)).length 1) rfl
        refine x_op hk rfl ?_
        obtain ⟨q2193, H⟩ := ifS H
        refine op_append (o := o2185) (E := ET30) (xs := l2141) (ys := ([x2097] : List T30)) tab hk rfl rfl rfl rfl rfl rfl rfl f2142 (Own.rd f2189.now) q2193 fun A2194 c2195 w2190 o2191 st2192 f2196 hc2197 => ?_
        replace f1888 := f1888.st st2192 (by decide)
        replace f2189 := f2189.st st2192 (by decide)
        replace f737 := f737.st st2192 (by decide)
        replace f741 := f741.st st2192 (by decide)
        replace f900019 := f900019.st st2192 (by decide)
        replace fxr := fxr.st st2192 (by decide)
        replace hs := hs.locB st2192 rfl hbB
        have hk := hk.put 28 (.slice A2194 ((l2141 ++ ([x2097] : List T30))).length c2195) rfl
        refine x_op hk rfl ?_
        refine op_store tab hk (t := 38) (v := .slice A2194 ((l2141 ++ ([x2097] : List T30))).length c2195) (b := bx1887) (k := 0) (cs' := [.slice A2194 ((l2141 ++ ([x2097] : List T30))).length c2195]) rfl rfl rfl rfl rfl rfl f1888 rfl rfl fun w2198 o2199 st2200 f1888_ => ?_
        replace f2189 := f2189.st st2200 (by decide)
        replace f2196 := f2196.st st2200 (by decide)
        replace f737 := f737.st st2200 (by decide)
        replace f741 := f741.st st2200 (by decide)
        replace f900019 := f900019.st st2200 (by decide)
        replace fxr := fxr.st st2200 (by decide)
        replace hs := hs.locB st2200 rfl hbB
        replace f1888 := f1888_
        refine wpListIn_nil ?_
        refine blk_n ?_
        have hq2201 := hs.closeB hoi hbB rfl (fun l_ => if l_ = 1 then 1 else if l_ = 2 then 2 else if l_ = 205 then 205 else if l_ = 232 then 232 else if l_ = 238 then 238 else 0)
        exact ⟨_, hq2201, (show Ft R1_ _ _ 232 from (hs.closeM_ft (o := o2100) (ρ := (fun l_ => if l_ = 1 then 1 else if l_ = 2 then 2 else if l_ = 205 then 205 else if l_ = 232 then 232 else if l_ = 238 then 238 else 0)) fxr (lab_atB hoi rfl) rfl)), ⟨A2194, c2195, (l2141 ++ ([x2097] : List T30)), (hsO.locM hq2201 (by decide) hom), (hs.closeM_ft (o := o2100) (ρ := (fun l_ => if l_ = 1 then 1 else if l_ = 2 then 2 else if l_ = 205 then 205 else if l_ = 232 then 232 else if l_ = 238 then 238 else 0)) f1888 (lab_atB hoi rfl) rfl), (hs.closeM_ft (o := o2100) (ρ := (fun l_ => if l_ = 1 then 1 else if l_ = 2 then 2 else if l_ = 205 then 205 else if l_ = 232 then 232 else if l_ = 238 then 238 else 0)) f2196 (lab_atB hoi rfl) rfl), (hs.closeM_ft (o := o2100) (ρ := (fun l_ => if l_ = 1 then 1 else if l_ = 2 then 2 else if l_ = 205 then 205 else if l_ = 232 then 232 else if l_ = 238 then 238 else 0)) f737 (lab_atB hoi rfl) rfl), (hs.closeM_ft (o := o2100) (ρ := (fun l_ => if l_ = 1 then 1 else if l_ = 2 then 2 else if l_ = 205 then 205 else if l_ = 232 then 232 else if l_ = 238 then 238 else 0)) f741 (lab_atB hoi rfl) rfl), (hs.closeM_ft (o := o2100) (ρ := (fun l_ => if l_ = 1 then 1 else if l_ = 2 then 2 else if l_ = 205 then 205 else if l_ = 232 then 232 else if l_ = 238 then 238 else 0)) f900019 (lab_atB hoi rfl) rfl), hc2197, (hlp2103 ▸ H)⟩⟩
      · rintro ds2173 w2172 o2138 a hk fxm ⟨A2139, c2140, l2141, hs, f1888, f2142, f737, f741, f900019, hc2143, H⟩
        rw [spans_Set_Cut_r4] at H
        refine blk_n ?_
        refine then_n ?_
        exact ⟨(fun b_ => (fun l_ => if l_ = 205 then 225 else if l_ = 238 then 224 else l_) (o2138 b_)), ds2173, A2139, c2140, l2141, (by exact Kn.pick (ks := [0, 6, 8, 9, 10]) hk rfl), (hs.relabM hob (fun l_ => if l_ = 205 then 225 else if l_ = 238 then 224 else l_) (by decide)), (f1888.relab (fun l_ => if l_ = 205 then 225 else if l_ = 238 then 224 else l_) rfl), (f2142.relab (fun l_ => if l_ = 205 then 225 else if l_ = 238 then 224 else l_) rfl), (f737.relab (fun l_ => if l_ = 205 then 225 else if l_ = 238 then 224 else l_) rfl), (f741.relab (fun l_ => if l_ = 205 then 225 else if l_ = 238 then 224 else l_) rfl), (f900019.relab (fun l_ => if l_ = 205 then 225 else if l_ = 238 then 224 else l_) rfl), (fxm.relab (fun l_ => if l_ = 205 then 225 else if l_ = 238 then 224 else l_) rfl), hc2143, H⟩
      · exact fun _ _ _ _ _ _ _ h_ => h_.elim
    · rw [b1883] at hk H
      replace H := bifT H
      refine x_if hk (b := true) rfl ?_
      refine (show Code.wpIn _ _ _ _ _ _ _ from ?_)
      refine wpIn_exit ?_
      refine then_x ?_
      refine blk_x ?_
      refine then_n ?_
      exact ⟨o1881, ds733, A734, c735, l736, (some ad1855), c740, (by exact Kn.pick (ks := [0, 8, 9, 10]) hk rfl), hs, f737, f741, f900019, fxm, hc738, hc742, H⟩

/-! (*tidewrack/spans.Set).Len -/
theorem spans_Set_Len_calls (K : Nat) (bp0 : Nat) (Ap0_0 : Option Addr) (cp0_0 : Nat) (p0 : T48) (w : World) (o : Nat → Nat) (Lp0 : Nat) (hp0 : Ft (Bx bp0 49 [.slice Ap0_0 (p0.l).length cp0_0]) w o Lp0) (Lp0_0 : Nat) (hp0_0 : Ft (RdC ET30 Ap0_0 p0.l) w o Lp0_0) (hcp0_0 : (p0.l).length ≤ cp0_0)  (r : Int) (H : spans_Set_Len K p0 = some r) :
    Calls Try.prog 24 #[.pointer (some ⟨bp0, 0, none⟩)] w (Ret fun v_ w' => ∃ o' : Nat → Nat, v_ = .int .i64 r ∧ St [] w o w' o') := by
  refine x_enter (vs := [.pointer (some ⟨bp0, 0, none⟩)]) Try.func24 rfl rfl rfl fun a hk => ?_
  obtain ⟨o0, hs, h0⟩ := St.start w o
  have f900000 := h0 _ _ hp0_0
  have f900019 := h0 _ _ hp0
  clear h0
  rw [spans_Set_Len] at H
  refine x_seq ?_
  refine wpIn_region_lit ?_
  refine x_run tab hk (k := 1) (lv := []) (ks := [0]) (e' := [(0, .pointer (some ⟨bp0, 0, none⟩))]) rfl trivial fun a hk => ?_
  refine wpListIn_nil ?_
  refine then_n ?_
  refine x_seq ?_
  refine wpIn_region_lit ?_
  refine x_run tab hk (k := 1) (lv := []) (ks := [0, 3]) (e' := [(0, .pointer (some ⟨bp0, 0, none⟩)), (3, .int .i64 0)]) rfl trivial fun a hk => ?_
  refine wpListIn_nil ?_
  refine then_n ?_
  refine x_mid (fun a_ w_ => ∃ o50 : Nat → Nat, ∃ x51 : Int, Kn 24 a_ [(3, .int .i64 x51)] ∧ St [] w (fun _ => 0) w_ o50 ∧ Ft (RdC ET30 Ap0_0 p0.l) w_ o50 0 ∧ Ft (Bx bp0 49 [.slice Ap0_0 (p0.l).length cp0_0]) w_ o50 0 ∧ spans_Set_Len_j1 x51 = some r) ?_ ?_
  rotate_left
  · rintro a w52 ⟨o50, x51, hk, hs, f900000, f900019, H⟩
    rw [spans_Set_Len_j1] at H
    refine x_seq ?_
    refine wpIn_region_lit ?_
    refine x_run tab hk (k := 2) (lv := []) (ks := [2]) (e' := [(2, .int .i64 x51)]) rfl trivial fun a hk => ?_
    refine wpListIn_nil ?_
    refine then_n ?_
    refine wpIn_ret ?_
    obtain rfl := Option.some.inj H
    exact x_retG hk (rs := [.tmp 2]) (vs := [.int .i64 x51]) rfl ⟨rfl, trivial⟩ ⟨fun b_ => if b_ < w.heap.size then o b_ else (fun _ => 0) (o50 b_), rfl, hs.close0 o (fun _ => 0)⟩
  refine x_seq ?_
  refine wpIn_region_lit ?_
  refine x_run tab hk (k := 6) (lv := [.slice Ap0_0 (p0.l).length cp0_0]) (ks := [3, 9, 10, 11]) (e' := [(3, .int .i64 0), (9, .slice Ap0_0 (p0.l).length cp0_0), (10, .int .i64 ((p0.l).length : Int)), (11, .int .i64 0)]) rfl ⟨(load1 tab rfl ((Bx.cell f900019.now 0).trans rfl)), trivial⟩ fun a hk => ?_
  refine wpListIn_nil ?_
  refine then_n ?_
  refine wpIn_block ?_
  refine x_loop (fun j_ a_ w_ => ∃ o67 : Nat → Nat, ∃ x68 : Int, ∃ x69 : Int, Kn 24 a_ [(3, .int .i64 x68), (9, .slice Ap0_0 (p0.l).length cp0_0), (10, .int .i64 ((p0.l).length : Int)), (11, .int .i64 x69)] ∧ St [] w (fun _ => 0) w_ o67 ∧ Ft (RdC ET30 Ap0_0 p0.l) w_ o67 0 ∧ Ft (Bx bp0 49 [.slice Ap0_0 (p0.l).length cp0_0]) w_ o67 0 ∧ spans_Set_Len_l2 p0 j_ x68 x69 = some r) (k := K) ⟨o0, 0, 0, (by exact Kn.pick (ks := [3, 9, 10, 11]) hk rfl), hs, f900000, f900019, H⟩ (by rintro _ _ ⟨_, _, _, _, _, _, _, H_⟩; exact absurd (show (none : Option Int) = some r from H_) (by simp)) ?_
  rintro k82 a w81 ⟨o67, x68, x69, hk, hs, f900000, f900019, H⟩
  rw [spans_Set_Len_l2] at H
  obtain ⟨lp83, hlp84⟩ : ∃ lp_, lp_ = spans_Set_Len_l2 p0 k82 := ⟨_, rfl⟩
  rw [← hlp84] at H
  refine x_seq ?_
  refine wpIn_region_lit ?_
  refine x_run tab hk (k := 1) (lv := []) (ks := [3, 9, 10, 11, 12]) (e' := [(3, .int .i64 x68), (9, .slice Ap0_0 (p0.l).length cp0_0), (10, .int .i64 ((p0.l).length : Int)), (11, .int .i64 x69), (12, .bool (decide (x69 < ((p0.l).length : Int))))]) rfl trivial fun a hk => ?_
  refine wpListIn_nil ?_
  refine then_n ?_
  refine x_seq ?_
  cases b85 : (decide (x69 < ((p0.l).length : Int)))
  · rw [b85] at hk H
    replace H := bifF H
    refine x_if hk (b := false) rfl ?_
    refine (show Code.wpIn _ _ _ _ _ _ _ from ?_)
    refine wpIn_exit ?_
    refine then_x ?_
    refine then_x ?_
    refine blk_x ?_
    refine then_n ?_
    exact ⟨o67, x68, (by exact Kn.pick (ks := [3]) hk rfl), hs, f900000, f900019, H⟩
  · rw [b85] at hk H
    replace H := bifT H
    refine x_if hk (b := true) rfl ?_
    refine (show Code.wpIn _ _ _ _ _ _ _ from ?_)
    refine wpIn_skip ?_
    refine then_n ?_
    refine x_seq ?_
    refine wpIn_block ?_
    refine x_seq ?_
    refine wpIn_region_lit ?_
    obtain ⟨q86, H⟩ := ifS H
    obtain ⟨ad87, hAad87⟩ := RdC.addr f900000.now q86
    have hk_C := hk
    have f900000_C := f900000
    have f900019_C := f900019
    subst hAad87
    have hk := hk_C
    clear hk_C
    have f900000 := f900000_C
    clear f900000_C
    have f900019 := f900019_C
    clear f900019_C
    refine x_run tab hk (k := 2) (lv := [.agg #[.int .i64 ((rdD zT30 p0.l x69).From), .int .i64 ((rdD zT30 p0.l x69).To)]]) (ks := [3, 9, 10, 11, 14]) (e' := [(3, .int .i64 x68), (9, .slice (some ad87) (p0.l).length cp0_0), (10, .int .i64 ((p0.l).length : Int)), (11, .int .i64 x69), (14, .agg #[.int .i64 ((rdD zT30 p0.l x69).From), .int .i64 ((rdD zT30 p0.l x69).To)])]) rfl ⟨q86, (load_elem (E := ET30) (i := x69) (dx := zT30) tab rfl rfl f900000.now q86), trivial⟩ fun a hk => ?_
    refine x_op hk rfl ?_
    refine op_alloc (o := o67) tab (t := 43) (cs := [.int .i64 0, .int .i64 0]) rfl rfl 6 fun bx91 w88 o89 st90 f92 => ?_
    replace f900000 := f900000.st st90 (by decide)
    replace f900019 := f900019.st st90 (by decide)
    replace hs := hs.loc0 st90 (by decide)
    have hk := hk.put 5 (.pointer (some ⟨bx91, 0, none⟩)) rfl
    refine x_op hk rfl ?_
    refine op_store tab hk (t := 43) (v := .agg #[.int .i64 ((rdD zT30 p0.l x69).From), .int .i64 ((rdD zT30 p0.l x69).To)]) (b := bx91) (k := 0) (cs' := [.int .i64 ((rdD zT30 p0.l x69).From), .int .i64 ((rdD zT30 p0.l x69).To)]) rfl rfl rfl rfl rfl rfl f92 rfl rfl fun w93 o94 st95 f92_ => ?_
    replace f900000 := f900000.st st95 (by decide)
    replace f900019 := f900019.st st95 (by decide)
    replace hs := hs.loc0 st95 (by decide)
    replace f92 := f92_
    refine wpListIn_nil ?_
    refine then_n ?_
    refine wpIn_region_lit ?_
    refine x_run tab hk (k := 8) (lv := [.int .i64 ((rdD zT30 p0.l x69).To), .int .i64 ((rdD zT30 p0.l x69).From)]) (ks := [3, 9, 10, 11]) (e' := [(3, .int .i64 (IntKind.wrap .i64 (x68 + (IntKind.wrap .i64 (((rdD zT30 p0.l x69).To) - ((rdD zT30 p0.l x69).From)))))), (9, .slice (some ad87) (p0.l).length cp0_0), (10, .int .i64 ((p0.l).length : Int)), (11, .int .i64 x69)]) rfl ⟨(load1 tab rfl ((Bx.cell f92.now 1).trans rfl)), (load1 tab rfl ((Bx.cell f92.now 0).trans rfl)), trivial⟩ fun a hk => ?_
    refine wpListIn_nil ?_
    refine blk_n ?_
    refine then_n ?_
    refine wpIn_region_lit ?_
    refine x_run tab hk (k := 2) (lv := []) (ks := [3, 9, 10, 11]) (e' := [(3, .int .i64 (IntKind.wrap .i64 (x68 + (IntKind.wrap .i64 (((rdD zT30 p0.l x69).To) - ((rdD zT30 p0.l x69).From)))))), (9, .slice (some ad87) (p0.l).length cp0_0), (10, .int .i64 ((p0.l).length : Int)), (11, .int .i64 (IntKind.wrap .i64 (x69 + 1)))]) rfl trivial fun a hk => ?_
    refine wpListIn_nil ?_
    refine then_n ?_
    exact ⟨k82, Nat.le_refl _, o94, (IntKind.wrap .i64 (x68 + (IntKind.wrap .i64 (((rdD zT30 p0.l x69).To) - ((rdD zT30 p0.l x69).From))))), (IntKind.wrap .i64 (x69 + 1)), (by exact Kn.pick (ks := [3, 9, 10, 11]) hk rfl), hs, f900000, f900019, (hlp84 ▸ H)⟩

/-! (*tidewrack/fetch.Fetch).Want -/
theorem fetch_Fetch_Want_calls (K : Nat) (bp0 : Nat) (bq0_0 : Nat) (Ap0_0 : Option Addr) (cp0_0 : Nat) (p0 : T50) (p1 : T30) (Ap2 : Option Addr) (cp2 : Nat) (p2 : List T30) (w : World) (o : Nat → Nat) (Lp0 : Nat) (hp0 : Ft (Bx bp0 51 [.int .i64 p0.most, .int .i64 p0.every, .int .i64 p0.due, .pointer (some ⟨bq0_0, 0, none⟩)]) w o Lp0) (Lp0_0 : Nat) (hp0_0 : Ft (Own ET30 43 (.slice Ap0_0 (p0.want_l).length cp0_0) p0.want_l) w o Lp0_0) (hcp0_0 : (p0.want_l).length ≤ cp0_0) (Lq0_0 : Nat) (hq0_0 : Ft (Bx bq0_0 49 [.slice Ap0_0 (p0.want_l).length cp0_0]) w o Lq0_0) (Lp2 : Nat) (hp2 : Ft (RdC ET30 Ap2 p2) w o Lp2) (hcp2 : (p2).length ≤ cp2) (hd0 : ([Lp0, Lp0_0, Lq0_0] : List Nat).Nodup) (hd1 : Lp2 ∉ [Lp0, Lp0_0, Lq0_0]) (r : Int × T50) (H : fetch_Fetch_Want K p0 p1 p2 = some r) :
    Calls Try.prog 12 #[.pointer (some ⟨bp0, 0, none⟩), .agg #[.int .i64 p1.From, .int .i64 p1.To], .slice Ap2 (p2).length cp2] w (Ret fun v_ w' => ∃ o' : Nat → Nat, ∃ b0 : Nat, ∃ A0 : Option Addr, ∃ c0 : Nat, v_ = .int .i64 r.1 ∧ St [Lp0, Lp0_0, Lq0_0] w o w' o' ∧ Ft (Bx bp0 51 [.int .i64 r.2.most, .int .i64 r.2.every, .int .i64 r.2.due, .pointer (some ⟨b0, 0, none⟩)]) w' o' Lp0 ∧ Ft (Bx b0 49 [.slice A0 (r.2.want_l).length c0]) w' o' Lq0_0 ∧ Ft (Own ET30 43 (.slice A0 (r.2.want_l).length c0) r.2.want_l) w' o' Lp0_0 ∧ (r.2.want_l).length ≤ c0) := by
  refine x_enter (vs := [.pointer (some ⟨bp0, 0, none⟩), .agg #[.int .i64 p1.From, .int .i64 p1.To], .slice Ap2 (p2).length cp2]) Try.func12 rfl rfl rfl fun a hk => ?_
  obtain ⟨oi, hs0, h0, h1, hob, hoz, hoa⟩ := St.startM2 w o (m := 3) hd0 rfl
  have hs := hs0 [1, 2, 3]
  have hom := lab_in hob (MM := [1, 2, 3]) (by decide)
  have f900000 := h1 1 2 hp0_0 rfl rfl
  have f900019 := h1 0 1 hp0 rfl rfl
  have f910000 := h1 2 3 hq0_0 rfl rfl
  have f900040 := h0 _ _ hd1 hp2
  clear h0 h1 hs0
  rw [fetch_Fetch_Want] at H
  refine x_seq ?_
  refine wpIn_region_lit ?_
  refine x_op hk rfl ?_
  refine op_box (o := oi) (t := 43) (v := .agg #[.int .i64 p1.From, .int .i64 p1.To]) (cs := [.int .i64 p1.From, .int .i64 p1.To]) hk rfl rfl 4 fun bx4 w1 o2 st3 f5 => ?_
  replace f900000 := f900000.st st3 (by decide)
  replace f900019 := f900019.st st3 (by decide)
  replace f900040 := f900040.st st3 (by decide)
  replace f910000 := f910000.st st3 (by decide)
  replace hs := hs.locM st3 (by decide) hom
  have hk := hk.put 4 (.pointer (some ⟨bx4, 0, none⟩)) rfl
  refine x_run tab hk (k := 1) (lv := []) (ks := [0, 2, 4]) (e' := [(0, .pointer (some ⟨bp0, 0, none⟩)), (2, .slice Ap2 (p2).length cp2), (4, .pointer (some ⟨bx4, 0, none⟩))]) rfl trivial fun a hk => ?_
  refine wpListIn_nil ?_
  refine then_n ?_
  refine x_seq ?_
  refine xd_begin (o := o2) (fun W_ => (Bx bx4 43 [.int .i64 p1.From, .int .i64 p1.To]) W_ ∧ True) mixed rfl rfl fun w41 st42 => ?_
  replace f5 := f5.st st42 (by decide)
  replace f900000 := f900000.st st42 (by decide)
  replace f900019 := f900019.st st42 (by decide)
  replace f900040 := f900040.st st42 (by decide)
  replace f910000 := f910000.st st42 (by decide)
  replace hs := hs.locM st42 (by decide) hom
  refine xd_take tab hk (k := 4) (is := [0, 1, 3, 4]) (ls' := #[true, true, false, true, true, false, false, false]) (lv := [.int .i64 p1.From, .int .i64 p1.To]) (ks := [0, 2, 4, 8, 11]) (e' := [(0, .pointer (some ⟨bp0, 0, none⟩)), (2, .slice Ap2 (p2).length cp2), (4, .pointer (some ⟨bx4, 0, none⟩)), (8, .int .i64 p1.From), (11, .int .i64 p1.To)]) (by kernel_rfl) rfl rfl (by kernel_rfl) (np_then np_body) ⟨f5.now, trivial⟩ (fun W_ hS => ⟨(load1 tab rfl ((Bx.cell hS.1 0).trans rfl)), (load1 tab rfl ((Bx.cell hS.1 1).trans rfl)), trivial⟩) fun a hk => ?_
  refine xd_op hk (i := 2) (by kernel_rfl) rfl rfl ?_
  obtain ⟨t46, hc47, H⟩ := bindS H
  refine op_call hk ent_15 (vs := [.int .i64 p1.From, .int .i64 0, .int .i64 1152921504606846976]) rfl (fetch_clip_calls p1.From 0 1152921504606846976 _ o2    _ hc47) ?_
  rintro _ w48 ⟨o49, rfl, st50⟩
  replace f5 := f5.st st50 (by decide)
  replace f900000 := f900000.st st50 (by decide)
  replace f900019 := f900019.st st50 (by decide)
  replace f900040 := f900040.st st50 (by decide)
  replace f910000 := f910000.st st50 (by decide)
  replace hs := hs.locM st50 (by decide) hom
  have hk := hk.put 9 (.int .i64 t46) rfl
  refine ⟨.inr ⟨f5.now, trivial⟩, ?_⟩
  refine xd_op hk (i := 5) (by kernel_rfl) rfl rfl ?_
  obtain ⟨t54, hc55, H⟩ := bindS H
  refine op_call hk ent_15 (vs := [.int .i64 p1.To, .int .i64 0, .int .i64 1152921504606846976]) rfl (fetch_clip_calls p1.To 0 1152921504606846976 _ o49    _ hc55) ?_
  rintro _ w56 ⟨o57, rfl, st58⟩
  replace f5 := f5.st st58 (by decide)
  replace f900000 := f900000.st st58 (by decide)
  replace f900019 := f900019.st st58 (by decide)
  replace f900040 := f900040.st st58 (by decide)
  replace f910000 := f910000.st st58 (by decide)
  replace hs := hs.locM st58 (by decide) hom
  have hk := hk.put 12 (.int .i64 t54) rfl
  refine ⟨.inr ⟨f5.now, trivial⟩, ?_⟩
  refine xd_take tab hk (k := 1) (is := [6]) (ls' := #[true, true, true, true, true, true, true, false]) (lv := []) (ks := [0, 2, 4, 13]) (e' := [(0, .pointer (some ⟨bp0, 0, none⟩)), (2, .slice Ap2 (p2).length cp2), (4, .pointer (some ⟨bx4, 0, none⟩)), (13, .agg #[.int .i64 t46, .int .i64 t54])]) (by kernel_rfl) rfl rfl (by kernel_rfl) (np_then np_body) ⟨f5.now, trivial⟩ (fun W_ hS => trivial) fun a hk => ?_
  refine xd_op hk (i := 7) (by kernel_rfl) rfl rfl ?_
  refine op_store tab hk (t := 43) (v := .agg #[.int .i64 t46, .int .i64 t54]) (b := bx4) (k := 0) (cs' := [.int .i64 t46, .int .i64 t54]) rfl rfl rfl rfl rfl rfl f5 rfl rfl fun w59 o60 st61 f5_ => ?_
  replace f900000 := f900000.st st61 (by decide)
  replace f900019 := f900019.st st61 (by decide)
  replace f900040 := f900040.st st61 (by decide)
  replace f910000 := f910000.st st61 (by decide)
  replace hs := hs.locM st61 (by decide) hom
  replace f5 := f5_
  refine ⟨.inl (by kernel_rfl), ?_⟩
  refine xd_done (by kernel_rfl) ?_
  refine then_n ?_
  refine x_seq ?_
  refine xd_begin (o := o60) (fun W_ => (Bx bx4 43 [.int .i64 t46, .int .i64 t54]) W_ ∧ (Bx bp0 51 [.int .i64 p0.most, .int .i64 p0.every, .int .i64 p0.due, .pointer (some ⟨bq0_0, 0, none⟩)]) W_ ∧ True) mixed rfl rfl fun w65 st66 => ?_
  replace f5 := f5.st st66 (by decide)
  replace f900000 := f900000.st st66 (by decide)
  replace f900019 := f900019.st st66 (by decide)
  replace f900040 := f900040.st st66 (by decide)
  replace f910000 := f910000.st st66 (by decide)
  replace hs := hs.locM st66 (by decide) hom
  refine xd_take tab hk (k := 1) (is := [0, 1, 2, 3, 4, 5, 6, 7, 8, 9, 10]) (ls' := #[true, true, true, true, true, true, true, true, true, true, true, false]) (lv := [.int .i64 t54, .int .i64 t46, .int .i64 p0.most]) (ks := [0, 2, 4, 23, 24]) (e' := [(0, .pointer (some ⟨bp0, 0, none⟩)), (2, .slice Ap2 (p2).length cp2), (4, .pointer (some ⟨bx4, 0, none⟩)), (23, .int .i64 (mnI t54 (IntKind.wrap .i64 (t46 + p0.most)))), (24, .pointer (some ((⟨bx4, 0, none⟩ : Addr).add 1)))]) (by kernel_rfl) rfl rfl (by kernel_rfl) (np_then np_body) ⟨f5.now, f900019.now, trivial⟩ (fun W_ hS => ⟨(load1 tab rfl ((Bx.cell hS.1 1).trans rfl)), (load1 tab rfl ((Bx.cell hS.1 0).trans rfl)), (load1 tab rfl ((Bx.cell hS.2.1 0).trans rfl)), trivial⟩) fun a hk => ?_
  refine xd_op hk (i := 11) (by kernel_rfl) rfl rfl ?_
  refine op_store tab hk (t := 3) (v := .int .i64 (mnI t54 (IntKind.wrap .i64 (t46 + p0.most)))) (b := bx4) (k := 1) (cs' := [.int .i64 t46, .int .i64 (mnI t54 (IntKind.wrap .i64 (t46 + p0.most)))]) rfl rfl rfl rfl rfl rfl f5 rfl rfl fun w67 o68 st69 f5_ => ?_
  replace f900000 := f900000.st st69 (by decide)
  replace f900019 := f900019.st st69 (by decide)
  replace f900040 := f900040.st st69 (by decide)
  replace f910000 := f910000.st st69 (by decide)
  replace hs := hs.locM st69 (by decide) hom
  replace f5 := f5_
  refine ⟨.inl (by kernel_rfl), ?_⟩
  refine xd_done (by kernel_rfl) ?_
  refine then_n ?_
  refine x_seq ?_
  refine wpIn_region_lit ?_
  refine x_run tab hk (k := 1) (lv := []) (ks := [0, 2, 4, 25]) (e' := [(0, .pointer (some ⟨bp0, 0, none⟩)), (2, .slice Ap2 (p2).length cp2), (4, .pointer (some ⟨bx4, 0, none⟩)), (25, .pointer (some ⟨bp0, 0, none⟩))]) rfl trivial fun a hk => ?_
  refine x_op hk rfl ?_
  obtain ⟨t73, hc74, H⟩ := bindS H
  refine op_call hk ent_20 (vs := [.pointer (some ⟨bp0, 0, none⟩)]) rfl (fetch_Fetch_Reset_calls bp0 bq0_0 Ap0_0 cp0_0 p0 _ o68 1 f900019 2 f900000 hcp0_0 3 f910000 (by decide)   _ hc74) ?_
  rintro _ w75 ⟨o76, bx79, A81, c82, rfl, st77, f78, f80, f83, hc84⟩
  replace f5 := f5.st st77 (by decide)
  replace f900040 := f900040.st st77 (by decide)
  replace hs := hs.locM st77 (by decide) hom
  have hk := hk.put 26 (.tuple #[]) rfl
  refine wpListIn_nil ?_
  refine then_n ?_
  refine x_seq ?_
  refine xd_begin (o := o76) (fun W_ => (Bx bx4 43 [.int .i64 t46, .int .i64 (mnI t54 (IntKind.wrap .i64 (t46 + p0.most)))]) W_ ∧ (Bx bp0 51 [.int .i64 t73.most, .int .i64 t73.every, .int .i64 t73.due, .pointer (some ⟨bx79, 0, none⟩)]) W_ ∧ True) mixed rfl rfl fun w123 st124 => ?_
  replace f5 := f5.st st124 (by decide)
  replace f78 := f78.st st124 (by decide)
  replace f80 := f80.st st124 (by decide)
  replace f83 := f83.st st124 (by decide)
  replace f900040 := f900040.st st124 (by decide)
  replace hs := hs.locM st124 (by decide) hom
  refine xd_take tab hk (k := 2) (is := [0, 1, 2, 3, 4]) (ls' := #[true, true, true, true, true, false, false]) (lv := [.pointer (some ⟨bx79, 0, none⟩), .agg #[.int .i64 t46, .int .i64 (mnI t54 (IntKind.wrap .i64 (t46 + p0.most)))]]) (ks := [0, 2, 30, 31]) (e' := [(0, .pointer (some ⟨bp0, 0, none⟩)), (2, .slice Ap2 (p2).length cp2), (30, .pointer (some ⟨bx79, 0, none⟩)), (31, .agg #[.int .i64 t46, .int .i64 (mnI t54 (IntKind.wrap .i64 (t46 + p0.most)))])]) (by kernel_rfl) rfl rfl (by kernel_rfl) (np_then np_body) ⟨f5.now, f78.now, trivial⟩ (fun W_ hS => ⟨(load1 tab rfl ((Bx.cell hS.2.1 3).trans rfl)), (load_box tab rfl rfl hS.1 (k := 0) rfl rfl), trivial⟩) fun a hk => ?_
  refine xd_op hk (i := 5) (by kernel_rfl) rfl rfl ?_
  refine op_slice (o := o76) tab hk (vs := [.agg #[.int .i64 t46, .int .i64 (mnI t54 (IntKind.wrap .i64 (t46 + p0.most)))]]) (cs := [.int .i64 t46, .int .i64 (mnI t54 (IntKind.wrap .i64 (t46 + p0.most)))]) rfl rfl rfl rfl rfl rfl rfl rfl rfl 7 fun bx128 w125 o126 st127 f129 => ?_
  replace f5 := f5.st st127 (by decide)
  replace f78 := f78.st st127 (by decide)
  replace f80 := f80.st st127 (by decide)
  replace f83 := f83.st st127 (by decide)
  replace f900040 := f900040.st st127 (by decide)
  replace hs := hs.locM st127 (by decide) hom
  have f130 : Ft (Own ET30 43 (.slice (some ⟨bx128, 0, none⟩) (([(⟨t46, (mnI t54 (IntKind.wrap .i64 (t46 + p0.most)))⟩ : T30)] : List T30)).length 1) ([(⟨t46, (mnI t54 (IntKind.wrap .i64 (t46 + p0.most)))⟩ : T30)] : List T30)) w125 o126 7 := f129.imp fun _ h_ => Own.of_box h_ rfl (by simp)
  have hk := hk.put 32 (.slice (some ⟨bx128, 0, none⟩) (([(⟨t46, (mnI t54 (IntKind.wrap .i64 (t46 + p0.most)))⟩ : T30)] : List T30)).length 1) rfl
  refine ⟨.inr ⟨f5.now, f78.now, trivial⟩, ?_⟩
  refine xd_op hk (i := 6) (by kernel_rfl) rfl rfl ?_
  obtain ⟨t134, hc135, H⟩ := bindS H
  refine op_call hk ent_22 (vs := [.pointer (some ⟨bx79, 0, none⟩), .slice (some ⟨bx128, 0, none⟩) (([(⟨t46, (mnI t54 (IntKind.wrap .i64 (t46 + p0.most)))⟩ : T30)] : List T30)).length 1]) rfl (spans_Set_Add_calls K bx79 A81 c82 (⟨t73.want_l⟩ : T48) (some ⟨bx128, 0, none⟩) 1 ([(⟨t46, (mnI t54 (IntKind.wrap .i64 (t46 + p0.most)))⟩ : T30)] : List T30) _ o126 3 f80 2 f83 hc84 _ (f130.imp fun _ h_ => Own.rd h_) (Nat.le_refl _) (by decide) (by decide)   _ hc135) ?_
  rintro _ w136 ⟨o137, A140, c141, rfl, st138, f139, f142, hc143⟩
  replace f130 := f130.st st138 (by decide)
  replace f5 := f5.st st138 (by decide)
  replace f78 := f78.st st138 (by decide)
  replace f900040 := f900040.st st138 (by decide)
  replace hs := hs.locM st138 (by decide) hom
  have hk := hk.put 33 (.tuple #[]) rfl
  refine ⟨.inr ⟨f5.now, f78.now, trivial⟩, ?_⟩
  refine xd_done (by kernel_rfl) ?_
  refine then_n ?_
  refine x_seq ?_
  refine wpIn_region_lit ?_
  refine x_run tab hk (k := 5) (lv := [.pointer (some ⟨bx79, 0, none⟩)]) (ks := [0, 37, 38]) (e' := [(0, .pointer (some ⟨bp0, 0, none⟩)), (37, .pointer (some ⟨bx79, 0, none⟩)), (38, .slice Ap2 (p2).length cp2)]) rfl ⟨(load1 tab rfl ((Bx.cell f78.now 3).trans rfl)), trivial⟩ fun a hk => ?_
  refine x_op hk rfl ?_
  obtain ⟨t147, hc148, H⟩ := bindS H
  refine op_call hk ent_23 (vs := [.pointer (some ⟨bx79, 0, none⟩), .slice Ap2 (p2).length cp2]) rfl (spans_Set_Cut_calls K bx79 A140 c141 t134 Ap2 cp2 p2 _ o137 3 f139 2 f142 hc143 _ f900040 hcp2 (by decide) (by decide)   _ hc148) ?_
  rintro _ w149 ⟨o150, A153, c154, rfl, st151, f152, f155, hc156⟩
  replace f78 := f78.st st151 (by decide)
  replace f900040 := f900040.st st151 (by decide)
  replace hs := hs.locM st151 (by decide) hom
  have hk := hk.put 39 (.tuple #[]) rfl
  refine wpListIn_nil ?_
  refine then_n ?_
  refine x_seq ?_
  refine wpIn_region_lit ?_
  refine x_run tab hk (k := 4) (lv := [.pointer (some ⟨bx79, 0, none⟩)]) (ks := [43]) (e' := [(43, .pointer (some ⟨bx79, 0, none⟩))]) rfl ⟨(load1 tab rfl ((Bx.cell f78.now 3).trans rfl)), trivial⟩ fun a hk => ?_
  refine x_op hk rfl ?_
  obtain ⟨t160, hc161, H⟩ := bindS H
  refine op_call hk ent_24 (vs := [.pointer (some ⟨bx79, 0, none⟩)]) rfl (spans_Set_Len_calls K bx79 A153 c154 t147 _ o150 3 f152 _ (f155.imp fun _ h_ => Own.rd h_) hc156   _ hc161) ?_
  rintro _ w162 ⟨o163, rfl, st164⟩
  replace f152 := f152.st st164 (by decide)
  replace f155 := f155.st st164 (by decide)
  replace f78 := f78.st st164 (by decide)
  replace hs := hs.locM st164 (by decide) hom
  have hk := hk.put 44 (.int .i64 t160) rfl
  refine x_run tab hk (k := 1) (lv := []) (ks := [6]) (e' := [(6, .int .i64 t160)]) rfl trivial fun a hk => ?_
  refine wpListIn_nil ?_
  refine then_n ?_
  refine wpIn_ret ?_
  obtain rfl := Option.some.inj H
  exact x_retG hk (rs := [.tmp 6]) (vs := [.int .i64 t160]) rfl ⟨rfl, trivial⟩ ⟨cl w oi o [1, 2, 3] (fun l_ => if l_ = 1 then Lp0 else if l_ = 2 then Lp0_0 else if l_ = 3 then Lq0_0 else 0) o163, bx79, A153, c154, rfl, hs.closeM hoz (by decide) (fun l_ => if l_ = 1 then Lp0 else if l_ = 2 then Lp0_0 else if l_ = 3 then Lq0_0 else 0), hs.closeM_ft (o := o) (ρ := fun l_ => if l_ = 1 then Lp0 else if l_ = 2 then Lp0_0 else if l_ = 3 then Lq0_0 else 0) f78 (lab_at hoa (i := 0) rfl) rfl, hs.closeM_ft (o := o) (ρ := fun l_ => if l_ = 1 then Lp0 else if l_ = 2 then Lp0_0 else if l_ = 3 then Lq0_0 else 0) f152 (lab_at hoa (i := 2) rfl) rfl, hs.closeM_ft (o := o) (ρ := fun l_ => if l_ = 1 then Lp0 else if l_ = 2 then Lp0_0 else if l_ = 3 then Lq0_0 else 0) f155 (lab_at hoa (i := 1) rfl) rfl, hc156⟩

/-! (tidewrack/spans.Span).both -/
theorem spans_Span_both_calls (p0 : T30) (p1 : T30) (w : World) (o : Nat → Nat)   (r : T30) (H : spans_Span_both p0 p1 = some r) :
    Calls Try.prog 37 #[.agg #[.int .i64 p0.From, .int .i64 p0.To], .agg #[.int .i64 p1.From, .int .i64 p1.To]] w (Ret fun v_ w' => ∃ o' : Nat → Nat, v_ = .agg #[.int .i64 r.From, .int .i64 r.To] ∧ St [] w o w' o') := by
  refine x_enter (vs := [.agg #[.int .i64 p0.From, .int .i64 p0.To], .agg #[.int .i64 p1.From, .int .i64 p1.To]]) Try.func37 rfl rfl rfl fun a hk => ?_
  obtain ⟨o0, hs, h0⟩ := St.start w o
  clear h0
  rw [spans_Span_both] at H
  refine x_seq ?_
  refine wpIn_region_lit ?_
  refine x_op hk rfl ?_
  refine op_box (o := o0) (t := 43) (v := .agg #[.int .i64 p0.From, .int .i64 p0.To]) (cs := [.int .i64 p0.From, .int .i64 p0.To]) hk rfl rfl 1 fun bx4 w1 o2 st3 f5 => ?_
  replace hs := hs.loc0 st3 (by decide)
  have hk := hk.put 2 (.pointer (some ⟨bx4, 0, none⟩)) rfl
  refine x_op hk rfl ?_
  refine op_box (o := o2) (t := 43) (v := .agg #[.int .i64 p1.From, .int .i64 p1.To]) (cs := [.int .i64 p1.From, .int .i64 p1.To]) hk rfl rfl 2 fun bx9 w6 o7 st8 f10 => ?_
  replace f5 := f5.st st8 (by decide)
  replace hs := hs.loc0 st8 (by decide)
  have hk := hk.put 3 (.pointer (some ⟨bx9, 0, none⟩)) rfl
  refine x_op hk rfl ?_
  refine op_alloc (o := o7) tab (t := 43) (cs := [.int .i64 0, .int .i64 0]) rfl rfl 3 fun bx14 w11 o12 st13 f15 => ?_
  replace f10 := f10.st st13 (by decide)
  replace f5 := f5.st st13 (by decide)
  replace hs := hs.loc0 st13 (by decide)
  have hk := hk.put 4 (.pointer (some ⟨bx14, 0, none⟩)) rfl
  refine wpListIn_nil ?_
  refine then_n ?_
  refine x_seq ?_
  refine wpIn_region_lit ?_
  refine x_run tab hk (k := 10) (lv := [.int .i64 p0.From, .int .i64 p1.From, .int .i64 p0.To, .int .i64 p1.To]) (ks := [4, 9, 14]) (e' := [(4, .pointer (some ⟨bx14, 0, none⟩)), (9, .int .i64 (mxI p0.From p1.From)), (14, .int .i64 (mnI p0.To p1.To))]) rfl ⟨(load1 tab rfl ((Bx.cell f5.now 0).trans rfl)), (load1 tab rfl ((Bx.cell f10.now 0).trans rfl)), (load1 tab rfl ((Bx.cell f5.now 1).trans rfl)), (load1 tab rfl ((Bx.cell f10.now 1).trans rfl)), trivial⟩ fun a hk => ?_
  refine x_run tab hk (k := 1) (lv := []) (ks := [4, 15]) (e' := [(4, .pointer (some ⟨bx14, 0, none⟩)), (15, .agg #[.int .i64 (mxI p0.From p1.From), .int .i64 (mnI p0.To p1.To)])]) rfl trivial fun a hk => ?_
  refine x_op hk rfl ?_
  refine op_store tab hk (t := 43) (v := .agg #[.int .i64 (mxI p0.From p1.From), .int .i64 (mnI p0.To p1.To)]) (b := bx14) (k := 0) (cs' := [.int .i64 (mxI p0.From p1.From), .int .i64 (mnI p0.To p1.To)]) rfl rfl rfl rfl rfl rfl f15 rfl rfl fun w16 o17 st18 f15_ => ?_
  replace hs := hs.loc0 st18 (by decide)
  replace f15 := f15_
  refine wpListIn_nil ?_
  refine then_n ?_
  refine wpIn_ret ?_
  obtain rfl := Option.some.inj H
  exact x_retG hk (rs := [.cell 4 43]) (vs := [.agg #[.int .i64 (mxI p0.From p1.From), .int .i64 (mnI p0.To p1.To)]]) rfl ⟨⟨_, rfl, load_box tab rfl rfl f15.now (k := 0) rfl rfl⟩, trivial⟩ ⟨fun b_ => if b_ < w.heap.size then o b_ else (fun _ => 0) (o17 b_), rfl, hs.close0 o (fun _ => 0)⟩

/-! (*tidewrack/spans.Set).In -/
theorem spans_Set_In_calls (K : Nat) (bp0 : Nat) (Ap0_0 : Option Addr) (cp0_0 : Nat) (p0 : T48) (p1 : T30) (w : World) (o : Nat → Nat) (Lp0 : Nat) (hp0 : Ft (Bx bp0 49 [.slice Ap0_0 (p0.l).length cp0_0]) w o Lp0) (Lp0_0 : Nat) (hp0_0 : Ft (RdC ET30 Ap0_0 p0.l) w o Lp0_0) (hcp0_0 : (p0.l).length ≤ cp0_0)  (R0 : Nat) (r : List T30) (H : spans_Set_In K p0 p1 = some r) :
    Calls Try.prog 25 #[.pointer (some ⟨bp0, 0, none⟩), .agg #[.int .i64 p1.From, .int .i64 p1.To]] w (Ret fun v_ w' => ∃ o' : Nat → Nat, ∃ A0 : Option Addr, ∃ c0 : Nat, v_ = .slice A0 (r).length c0 ∧ St [] w o w' o' ∧ Ft (Own ET30 43 (.slice A0 (r).length c0) r) w' o' R0 ∧ (r).length ≤ c0) := by
  refine x_enter (vs := [.pointer (some ⟨bp0, 0, none⟩), .agg #[.int .i64 p1.From, .int .i64 p1.To]]) Try.func25 rfl rfl rfl fun a hk => ?_
  obtain ⟨o0, hs, h0⟩ := St.start w o
  have f900000 := h0 _ _ hp0_0
  have f900019 := h0 _ _ hp0
  clear h0
  rw [spans_Set_In] at H
  refine x_seq ?_
  refine wpIn_region_lit ?_
  refine x_op hk rfl ?_
  refine op_box (o := o0) (t := 43) (v := .agg #[.int .i64 p1.From, .int .i64 p1.To]) (cs := [.int .i64 p1.From, .int .i64 p1.To]) hk rfl rfl 1 fun bx4 w1 o2 st3 f5 => ?_
  replace f900000 := f900000.st st3 (by decide)
  replace f900019 := f900019.st st3 (by decide)
  replace hs := hs.loc0 st3 (by decide)
  have hk := hk.put 3 (.pointer (some ⟨bx4, 0, none⟩)) rfl
  refine x_run tab hk (k := 1) (lv := []) (ks := [0, 3]) (e' := [(0, .pointer (some ⟨bp0, 0, none⟩)), (3, .pointer (some ⟨bx4, 0, none⟩))]) rfl trivial fun a hk => ?_
  refine wpListIn_nil ?_
  refine then_n ?_
  refine x_seq ?_
  refine wpIn_region_lit ?_
  refine x_run tab hk (k := 1) (lv := []) (ks := [0, 3, 5]) (e' := [(0, .pointer (some ⟨bp0, 0, none⟩)), (3, .pointer (some ⟨bx4, 0, none⟩)), (5, .slice none 0 0)]) rfl trivial fun a hk => ?_
  refine wpListIn_nil ?_
  refine then_n ?_
  refine x_mid (fun a_ w_ => ∃ o1380 : Nat → Nat, ∃ A1381 : Option Addr, ∃ c1382 : Nat, ∃ l1383 : List T30, Kn 31 a_ [(5, .slice A1381 (l1383).length c1382)] ∧ St [] w (fun _ => 0) w_ o1380 ∧ Ft (Own ET30 43 (.slice A1381 (l1383).length c1382) l1383) w_ o1380 148 ∧ Ft (RdC ET30 Ap0_0 p0.l) w_ o1380 0 ∧ Ft (Bx bp0 49 [.slice Ap0_0 (p0.l).length cp0_0]) w_ o1380 0 ∧ (l1383).length ≤ c1382 ∧ spans_Set_In_j1 l1383 = some r) ?_ ?_
  rotate_left
  · rintro a w1386 ⟨o1380, A1381, c1382, l1383, hk, hs, f1384, f900000, f900019, hc1385, H⟩
    rw [spans_Set_In_j1] at H
    refine x_seq ?_
    refine wpIn_region_lit ?_
    refine x_run tab hk (k := 2) (lv := []) (ks := [4]) (e' := [(4, .slice A1381 (l1383).length c1382)]) rfl trivial fun a hk => ?_
    refine wpListIn_nil ?_
    refine then_n ?_
    refine wpIn_ret ?_
    obtain rfl := Option.some.inj H
    exact x_retG hk (rs := [.tmp 4]) (vs := [.slice A1381 (l1383).length c1382]) rfl ⟨rfl, trivial⟩ ⟨fun b_ => if b_ < w.heap.size then o b_ else (fun _ => R0) (o1380 b_), A1381, c1382, rfl, hs.close0 o (fun _ => R0), hs.close_ft (o := o) (ρ := fun _ => R0) f1384 (by decide) rfl, hc1385⟩
  refine x_seq ?_
  refine wpIn_region_lit ?_
  refine x_run tab hk (k := 6) (lv := [.slice Ap0_0 (p0.l).length cp0_0]) (ks := [3, 5, 12, 13, 14]) (e' := [(3, .pointer (some ⟨bx4, 0, none⟩)), (5, .slice none 0 0), (12, .slice Ap0_0 (p0.l).length cp0_0), (13, .int .i64 ((p0.l).length : Int)), (14, .int .i64 0)]) rfl ⟨(load1 tab rfl ((Bx.cell f900019.now 0).trans rfl)), trivial⟩ fun a hk => ?_
  refine wpListIn_nil ?_
  refine then_n ?_
  refine wpIn_block ?_
  refine x_loop (fun j_ a_ w_ => ∃ o1840 : Nat → Nat, ∃ A1841 : Option Addr, ∃ c1842 : Nat, ∃ l1843 : List T30, ∃ x1846 : Int, Kn 31 a_ [(3, .pointer (some ⟨bx4, 0, none⟩)), (5, .slice A1841 (l1843).length c1842), (12, .slice Ap0_0 (p0.l).length cp0_0), (13, .int .i64 ((p0.l).length : Int)), (14, .int .i64 x1846)] ∧ St [] w (fun _ => 0) w_ o1840 ∧ Ft (Own ET30 43 (.slice A1841 (l1843).length c1842) l1843) w_ o1840 193 ∧ Ft (Bx bx4 43 [.int .i64 p1.From, .int .i64 p1.To]) w_ o1840 192 ∧ Ft (RdC ET30 Ap0_0 p0.l) w_ o1840 0 ∧ Ft (Bx bp0 49 [.slice Ap0_0 (p0.l).length cp0_0]) w_ o1840 0 ∧ (l1843).length ≤ c1842 ∧ spans_Set_In_l2 p0 p1 j_ l1843 x1846 = some r) (k := K) ⟨(fun b_ => (fun l_ => if l_ = 1 then 192 else l_) (o2 b_)), none, 0, ([] : List T30), 0, (by exact Kn.pick (ks := [3, 5, 12, 13, 14]) hk rfl), (hs.relab0 (fun l_ => if l_ = 1 then 192 else l_) rfl), (Ft.of_all (fun _ => Own.nil _ _ _) _ _ _), (f5.relab (fun l_ => if l_ = 1 then 192 else l_) rfl), (f900000.relab (fun l_ => if l_ = 1 then 192 else l_) rfl), (f900019.relab (fun l_ => if l_ = 1 then 192 else l_) rfl), (by simp), H⟩ (by rintro _ _ ⟨_, _, _, _, _, _, _, _, _, _, _, _, H_⟩; exact absurd (show (none : Option (List T30)) = some r from H_) (by simp)) ?_
  rintro k2298 a w2297 ⟨o1840, A1841, c1842, l1843, x1846, hk, hs, f1844, f5, f900000, f900019, hc1845, H⟩
  rw [spans_Set_In_l2] at H
  obtain ⟨lp2299, hlp2300⟩ : ∃ lp_, lp_ = spans_Set_In_l2 p0 p1 k2298 := ⟨_, rfl⟩
  rw [← hlp2300] at H
  refine x_seq ?_
  refine wpIn_region_lit ?_
  refine x_run tab hk (k := 1) (lv := []) (ks := [3, 5, 12, 13, 14, 15]) (e' := [(3, .pointer (some ⟨bx4, 0, none⟩)), (5, .slice A1841 (l1843).length c1842), (12, .slice Ap0_0 (p0.l).length cp0_0), (13, .int .i64 ((p0.l).length : Int)), (14, .int .i64 x1846), (15, .bool (decide (x1846 < ((p0.l).length : Int))))]) rfl trivial fun a hk => ?_
  refine wpListIn_nil ?_
  refine then_n ?_
  refine x_seq ?_
  cases b2301 : (decide (x1846 < ((p0.l).length : Int)))
  · rw [b2301] at hk H
    replace H := bifF H
    refine x_if hk (b := false) rfl ?_
    refine (show Code.wpIn _ _ _ _ _ _ _ from ?_)
    refine wpIn_exit ?_
    refine then_x ?_
    refine then_x ?_
    refine blk_x ?_
    refine then_n ?_
    exact ⟨(fun b_ => (fun l_ => if l_ = 193 then 148 else l_) (o1840 b_)), A1841, c1842, l1843, (by exact Kn.pick (ks := [5]) hk rfl), (hs.relab0 (fun l_ => if l_ = 193 then 148 else l_) rfl), (f1844.relab (fun l_ => if l_ = 193 then 148 else l_) rfl), (f900000.relab (fun l_ => if l_ = 193 then 148 else l_) rfl), (f900019.relab (fun l_ => if l_ = 193 then 148 else l_) rfl), hc1845, H⟩
  · rw [b2301] at hk H
    replace H := bifT H
    refine x_if hk (b := true) rfl ?_
    refine (show Code.wpIn _ _ _ _ _ _ _ from ?_)
    refine wpIn_skip ?_
    refine then_n ?_
    refine x_seq ?_
    refine wpIn_block ?_
    refine x_seq ?_
    refine wpIn_region_lit ?_
    obtain ⟨q2302, H⟩ := ifS H
    obtain ⟨ad2303, hAad2303⟩ := RdC.addr f900000.now q2302
    have hk_C := hk
    have f1844_C := f1844
    have f5_C := f5
    have f900000_C := f900000
    have f900019_C := f900019
    subst hAad2303
    have hk := hk_C
    clear hk_C
    have f1844 := f1844_C
    clear f1844_C
    have f5 := f5_C
    clear f5_C
    have f900000 := f900000_C
    clear f900000_C
    have f900019 := f900019_C
    clear f900019_C
    refine x_run tab hk (k := 2) (lv := [.agg #[.int .i64 ((rdD zT30 p0.l x1846).From), .int .i64 ((rdD zT30 p0.l x1846).To)]]) (ks := [3, 5, 12, 13, 14, 17]) (e' := [(3, .pointer (some ⟨bx4, 0, none⟩)), (5, .slice A1841 (l1843).length c1842), (12, .slice (some ad2303) (p0.l).length cp0_0), (13, .int .i64 ((p0.l).length : Int)), (14, .int .i64 x1846), (17, .agg #[.int .i64 ((rdD zT30 p0.l x1846).From), .int .i64 ((rdD zT30 p0.l x1846).To)])]) rfl ⟨q2302, (load_elem (E := ET30) (i := x1846) (dx := zT30) tab rfl rfl f900000.now q2302), trivial⟩ fun a hk => ?_
    refine x_op hk rfl ?_
    refine op_alloc (o := o1840) tab (t := 43) (cs := [.int .i64 0, .int .i64 0]) rfl rfl 244 fun bx2307 w2304 o2305 st2306 f2308 => ?_
    replace f1844 := f1844.st st2306 (by decide)
    replace f5 := f5.st st2306 (by decide)
    replace f900000 := f900000.st st2306 (by decide)
    replace f900019 := f900019.st st2306 (by decide)
    replace hs := hs.loc0 st2306 (by decide)
    have hk := hk.put 7 (.pointer (some ⟨bx2307, 0, none⟩)) rfl
    refine x_op hk rfl ?_
    refine op_store tab hk (t := 43) (v := .agg #[.int .i64 ((rdD zT30 p0.l x1846).From), .int .i64 ((rdD zT30 p0.l x1846).To)]) (b := bx2307) (k := 0) (cs' := [.int .i64 ((rdD zT30 p0.l x1846).From), .int .i64 ((rdD zT30 p0.l x1846).To)]) rfl rfl rfl rfl rfl rfl f2308 rfl rfl fun w2309 o2310 st2311 f2308_ => ?_
    replace f1844 := f1844.st st2311 (by decide)
    replace f5 := f5.st st2311 (by decide)
    replace f900000 := f900000.st st2311 (by decide)
    replace f900019 := f900019.st st2311 (by decide)
    replace hs := hs.loc0 st2311 (by decide)
    replace f2308 := f2308_
    refine wpListIn_nil ?_
    refine then_n ?_
    refine x_seq ?_
    refine x_cut (fun a_ w_ => ∃ o2532 : Nat → Nat, ∃ bx2533 : Nat, ∃ x2535 : T30, Kn 31 a_ [(3, .pointer (some ⟨bx4, 0, none⟩)), (5, .slice A1841 (l1843).length c1842), (8, .pointer (some ⟨bx2533, 0, none⟩)), (12, .slice (some ad2303) (p0.l).length cp0_0), (13, .int .i64 ((p0.l).length : Int)), (14, .int .i64 x1846)] ∧ St [] w (fun _ => 0) w_ o2532 ∧ Ft (Own ET30 43 (.slice A1841 (l1843).length c1842) l1843) w_ o2532 269 ∧ Ft (Bx bx2533 43 [.int .i64 x2535.From, .int .i64 x2535.To]) w_ o2532 270 ∧ Ft (Bx bx4 43 [.int .i64 p1.From, .int .i64 p1.To]) w_ o2532 268 ∧ Ft (RdC ET30 (some ad2303) p0.l) w_ o2532 0 ∧ Ft (Bx bp0 49 [.slice (some ad2303) (p0.l).length cp0_0]) w_ o2532 0 ∧ spans_Set_In_j3 l1843 x1846 lp2299 x2535 = some r) ?_ ?_
    rotate_left
    · rintro a w2536 ⟨o2532, bx2533, x2535, hk, hs, f1844, f2534, f5, f900000, f900019, H⟩
      rw [spans_Set_In_j3] at H
      refine then_n ?_
      refine x_seq ?_
      refine wpIn_region_lit ?_
      refine x_run tab hk (k := 1) (lv := [.agg #[.int .i64 x2535.From, .int .i64 x2535.To]]) (ks := [3, 5, 8, 12, 13, 14, 22]) (e' := [(3, .pointer (some ⟨bx4, 0, none⟩)), (5, .slice A1841 (l1843).length c1842), (8, .pointer (some ⟨bx2533, 0, none⟩)), (12, .slice (some ad2303) (p0.l).length cp0_0), (13, .int .i64 ((p0.l).length : Int)), (14, .int .i64 x1846), (22, .agg #[.int .i64 x2535.From, .int .i64 x2535.To])]) rfl ⟨(load_box tab rfl rfl f2534.now (k := 0) rfl rfl), trivial⟩ fun a hk => ?_
      refine x_op hk rfl ?_
      obtain ⟨t2540, hc2541, H⟩ := bindS H
      refine op_call hk ent_34 (vs := [.agg #[.int .i64 x2535.From, .int .i64 x2535.To]]) rfl (spans_Span_empty_calls x2535 _ o2532    _ hc2541) ?_
      rintro _ w2542 ⟨o2543, rfl, st2544⟩
      replace f1844 := f1844.st st2544 (by decide)
      replace f2534 := f2534.st st2544 (by decide)
      replace f5 := f5.st st2544 (by decide)
      replace f900000 := f900000.st st2544 (by decide)
      replace f900019 := f900019.st st2544 (by decide)
      replace hs := hs.loc0 st2544 (by decide)
      have hk := hk.put 23 (.bool t2540) rfl
      refine x_run tab hk (k := 1) (lv := []) (ks := [3, 5, 8, 12, 13, 14, 24]) (e' := [(3, .pointer (some ⟨bx4, 0, none⟩)), (5, .slice A1841 (l1843).length c1842), (8, .pointer (some ⟨bx2533, 0, none⟩)), (12, .slice (some ad2303) (p0.l).length cp0_0), (13, .int .i64 ((p0.l).length : Int)), (14, .int .i64 x1846), (24, .bool (!t2540))]) rfl trivial fun a hk => ?_
      refine wpListIn_nil ?_
      refine then_n ?_
      cases b2545 : (!t2540)
      · rw [b2545] at hk H
        replace H := bifF H
        refine x_if hk (b := false) rfl ?_
        refine (show Code.wpIn _ _ _ _ _ _ _ from ?_)
        refine wpIn_skip ?_
        refine blk_n ?_
        refine then_n ?_
        refine wpIn_region_lit ?_
        refine x_run tab hk (k := 2) (lv := []) (ks := [3, 5, 12, 13, 14]) (e' := [(3, .pointer (some ⟨bx4, 0, none⟩)), (5, .slice A1841 (l1843).length c1842), (12, .slice (some ad2303) (p0.l).length cp0_0), (13, .int .i64 ((p0.l).length : Int)), (14, .int .i64 (IntKind.wrap .i64 (x1846 + 1)))]) rfl trivial fun a hk => ?_
        refine wpListIn_nil ?_
        refine then_n ?_
        exact ⟨k2298, Nat.le_refl _, (fun b_ => (fun l_ => if l_ = 268 then 192 else if l_ = 269 then 193 else l_) (o2543 b_)), A1841, c1842, l1843, (IntKind.wrap .i64 (x1846 + 1)), (by exact Kn.pick (ks := [3, 5, 12, 13, 14]) hk rfl), (hs.relab0 (fun l_ => if l_ = 268 then 192 else if l_ = 269 then 193 else l_) rfl), (f1844.relab (fun l_ => if l_ = 268 then 192 else if l_ = 269 then 193 else l_) rfl), (f5.relab (fun l_ => if l_ = 268 then 192 else if l_ = 269 then 193 else l_) rfl), (f900000.relab (fun l_ => if l_ = 268 then 192 else if l_ = 269 then 193 else l_) rfl), (f900019.relab (fun l_ => if l_ = 268 then 192 else if l_ = 269 then 193 else l_) rfl), hc1845, (hlp2300 ▸ H)⟩
      · rw [b2545] at hk H
        replace H := bifT H
        refine x_if hk (b := true) rfl ?_
        refine (show Code.wpIn _ _ _ _ _ _ _ from ?_)
        refine wpIn_region_lit ?_
        refine x_run tab hk (k := 2) (lv := [.agg #[.int .i64 x2535.From, .int .i64 x2535.To]]) (ks := [3, 12, 13, 14, 25, 26]) (e' := [(3, .pointer (some ⟨bx4, 0, none⟩)), (12, .slice (some ad2303) (p0.l).length cp0_0), (13, .int .i64 ((p0.l).length : Int)), (14, .int .i64 x1846), (25, .slice A1841 (l1843).length c1842), (26, .agg #[.int .i64 x2535.From, .int .i64 x2535.To])]) rfl ⟨(load_box tab rfl rfl f2534.now (k := 0) rfl rfl), trivial⟩ fun a hk => ?_
        refine x_op hk rfl ?_
        refine op_slice (o := o2543) tab hk (vs := [.agg #[.int .i64 x2535.From, .int .i64 x2535.To]]) (cs := [.int .i64 x2535.From, .int .i64 x2535.To]) rfl rfl rfl rfl rfl rfl rfl rfl rfl 271 fun bx2549 w2546 o2547 st2548 f2550 => ?_
        replace f1844 := f1844.st st2548 (by decide)
        replace f5 := f5.st st2548 (by decide)
        replace f900000 := f900000.st st2548 (by decide)
        replace f900019 := f900019.st st2548 (by decide)
        replace hs := hs.loc0 st2548 (by decide)
        have f2551 : Ft (Own ET30 43 (.slice (some ⟨bx2549, 0, none⟩) (([x2535] : List T30)).length 1) ([x2535] : List T30)) w2546 o2547 271 := f2550.imp fun _ h_ => Own.of_box h_ rfl (by simp)
        have hk := hk.put 27 (.slice (some ⟨bx2549, 0, none⟩) (([x2535] : List T30)).length 1) rfl
        refine x_op hk rfl ?_
        obtain ⟨q2555, H⟩ := ifS H
        refine op_append (o := o2547) (E := ET30) (xs := l1843) (ys := ([x2535] : List T30)) tab hk rfl rfl rfl rfl rfl rfl rfl f1844 (Own.rd f2551.now) q2555 fun A2556 c2557 w2552 o2553 st2554 f2558 hc2559 => ?_
        replace f2551 := f2551.st st2554 (by decide)
        replace f5 := f5.st st2554 (by decide)
        replace f900000 := f900000.st st2554 (by decide)
        replace f900019 := f900019.st st2554 (by decide)
        replace hs := hs.loc0 st2554 (by decide)
        have hk := hk.put 28 (.slice A2556 ((l1843 ++ ([x2535] : List T30))).length c2557) rfl
        refine x_run tab hk (k := 1) (lv := []) (ks := [3, 5, 12, 13, 14]) (e' := [(3, .pointer (some ⟨bx4, 0, none⟩)), (5, .slice A2556 ((l1843 ++ ([x2535] : List T30))).length c2557), (12, .slice (some ad2303) (p0.l).length cp0_0), (13, .int .i64 ((p0.l).length : Int)), (14, .int .i64 x1846)]) rfl trivial fun a hk => ?_
        refine wpListIn_nil ?_
        refine blk_n ?_
        refine then_n ?_
        refine wpIn_region_lit ?_
        refine x_run tab hk (k := 2) (lv := []) (ks := [3, 5, 12, 13, 14]) (e' := [(3, .pointer (some ⟨bx4, 0, none⟩)), (5, .slice A2556 ((l1843 ++ ([x2535] : List T30))).length c2557), (12, .slice (some ad2303) (p0.l).length cp0_0), (13, .int .i64 ((p0.l).length : Int)), (14, .int .i64 (IntKind.wrap .i64 (x1846 + 1)))]) rfl trivial fun a hk => ?_
        refine wpListIn_nil ?_
        refine then_n ?_
        exact ⟨k2298, Nat.le_refl _, (fun b_ => (fun l_ => if l_ = 268 then 192 else if l_ = 269 then 193 else l_) (o2553 b_)), A2556, c2557, (l1843 ++ ([x2535] : List T30)), (IntKind.wrap .i64 (x1846 + 1)), (by exact Kn.pick (ks := [3, 5, 12, 13, 14]) hk rfl), (hs.relab0 (fun l_ => if l_ = 268 then 192 else if l_ = 269 then 193 else l_) rfl), (f2558.relab (fun l_ => if l_ = 268 then 192 else if l_ = 269 then 193 else l_) rfl), (f5.relab (fun l_ => if l_ = 268 then 192 else if l_ = 269 then 193 else l_) rfl), (f900000.relab (fun l_ => if l_ = 268 then 192 else if l_ = 269 then 193 else l_) rfl), (f900019.relab (fun l_ => if l_ = 268 then 192 else if l_ = 269 then 193 else l_) rfl), hc2559, (hlp2300 ▸ H)⟩
    obtain ⟨t2584, hc2585, H⟩ := bindS H
    obtain ⟨t2592, hc2593, H⟩ := bindS H
    refine xd_begin (o := o2310) (fun W_ => (Bx bx2307 43 [.int .i64 ((rdD zT30 p0.l x1846).From), .int .i64 ((rdD zT30 p0.l x1846).To)]) W_ ∧ (Bx bx4 43 [.int .i64 p1.From, .int .i64 p1.To]) W_ ∧ True) mixed rfl rfl fun w2659 st2660 => ?_
    replace f1844 := f1844.st st2660 (by decide)
    replace f2308 := f2308.st st2660 (by decide)
    replace f5 := f5.st st2660 (by decide)
    replace f900000 := f900000.st st2660 (by decide)
    replace f900019 := f900019.st st2660 (by decide)
    replace hs := hs.loc0 st2660 (by decide)
    refine xd_abs fun G hG => ?_
    have N2684 : ∀ (a_ : Act) (w_ : World), (∃ o2682 : Nat → Nat, Kn 31 a_ [(3, .pointer (some ⟨bx4, 0, none⟩)), (5, .slice A1841 (l1843).length c1842), (12, .slice (some ad2303) (p0.l).length cp0_0), (13, .int .i64 ((p0.l).length : Int)), (14, .int .i64 x1846), (21, .agg #[.int .i64 t2592.From, .int .i64 t2592.To])] ∧ St [] w (fun _ => 0) w_ o2682 ∧ Ft (Own ET30 43 (.slice A1841 (l1843).length c1842) l1843) w_ o2682 282 ∧ Ft (Bx bx2307 43 [.int .i64 ((rdD zT30 p0.l x1846).From), .int .i64 ((rdD zT30 p0.l x1846).To)]) w_ o2682 281 ∧ Ft (Bx bx4 43 [.int .i64 p1.From, .int .i64 p1.To]) w_ o2682 280 ∧ Ft (RdC ET30 (some ad2303) p0.l) w_ o2682 0 ∧ Ft (Bx bp0 49 [.slice (some ad2303) (p0.l).length cp0_0]) w_ o2682 0) → G 2 #[true, true, true, true, false, false] a_ w_ := by
      rintro a w2683 ⟨o2682, hk, hs, f1844, f2308, f5, f900000, f900019⟩
      refine xd_of hG ?_
      refine xd_op hk (i := 4) (by kernel_rfl) rfl rfl ?_
      refine op_alloc (o := o2682) tab (t := 43) (cs := [.int .i64 0, .int .i64 0]) rfl rfl 283 fun bx2688 w2685 o2686 st2687 f2689 => ?_
      replace f1844 := f1844.st st2687 (by decide)
      replace f2308 := f2308.st st2687 (by decide)
      replace f5 := f5.st st2687 (by decide)
      replace f900000 := f900000.st st2687 (by decide)
      replace f900019 := f900019.st st2687 (by decide)
      replace hs := hs.loc0 st2687 (by decide)
      have hk := hk.put 8 (.pointer (some ⟨bx2688, 0, none⟩)) rfl
      refine ⟨.inr ⟨f2308.now, f5.now, trivial⟩, ?_⟩
      refine xd_op hk (i := 5) (by kernel_rfl) rfl rfl ?_
      refine op_store tab hk (t := 43) (v := .agg #[.int .i64 t2592.From, .int .i64 t2592.To]) (b := bx2688) (k := 0) (cs' := [.int .i64 t2592.From, .int .i64 t2592.To]) rfl rfl rfl rfl rfl rfl f2689 rfl rfl fun w2690 o2691 st2692 f2689_ => ?_
      replace f1844 := f1844.st st2692 (by decide)
      replace f2308 := f2308.st st2692 (by decide)
      replace f5 := f5.st st2692 (by decide)
      replace f900000 := f900000.st st2692 (by decide)
      replace f900019 := f900019.st st2692 (by decide)
      replace hs := hs.loc0 st2692 (by decide)
      replace f2689 := f2689_
      refine ⟨.inl (by kernel_rfl), ?_⟩
      refine xd_done (by kernel_rfl) ?_
      refine then_n ?_
      exact ⟨(fun b_ => (fun l_ => if l_ = 280 then 268 else if l_ = 282 then 269 else if l_ = 283 then 270 else l_) (o2691 b_)), bx2688, t2592, (by exact Kn.pick (ks := [3, 5, 8, 12, 13, 14]) hk rfl), (hs.relab0 (fun l_ => if l_ = 280 then 268 else if l_ = 282 then 269 else if l_ = 283 then 270 else l_) rfl), (f1844.relab (fun l_ => if l_ = 280 then 268 else if l_ = 282 then 269 else if l_ = 283 then 270 else l_) rfl), (f2689.relab (fun l_ => if l_ = 280 then 268 else if l_ = 282 then 269 else if l_ = 283 then 270 else l_) rfl), (f5.relab (fun l_ => if l_ = 280 then 268 else if l_ = 282 then 269 else if l_ = 283 then 270 else l_) rfl), (f900000.relab (fun l_ => if l_ = 280 then 268 else if l_ = 282 then 269 else if l_ = 283 then 270 else l_) rfl), (f900019.relab (fun l_ => if l_ = 280 then 268 else if l_ = 282 then 269 else if l_ = 283 then 270 else l_) rfl), H⟩
    have N2709 : ∀ (a_ : Act) (w_ : World), (∃ o2705 : Nat → Nat, ∃ bx2706 : Nat, Kn 31 a_ [(3, .pointer (some ⟨bx4, 0, none⟩)), (5, .slice A1841 (l1843).length c1842), (8, .pointer (some ⟨bx2706, 0, none⟩)), (12, .slice (some ad2303) (p0.l).length cp0_0), (13, .int .i64 ((p0.l).length : Int)), (14, .int .i64 x1846), (18, .agg #[.int .i64 ((rdD zT30 p0.l x1846).From), .int .i64 ((rdD zT30 p0.l x1846).To)]), (20, .agg #[.int .i64 t2584.From, .int .i64 t2584.To])] ∧ St [] w (fun _ => 0) w_ o2705 ∧ Ft (Own ET30 43 (.slice A1841 (l1843).length c1842) l1843) w_ o2705 287 ∧ Ft (Bx bx2307 43 [.int .i64 ((rdD zT30 p0.l x1846).From), .int .i64 ((rdD zT30 p0.l x1846).To)]) w_ o2705 286 ∧ Ft (Bx bx2706 43 [.int .i64 0, .int .i64 0]) w_ o2705 288 ∧ Ft (Bx bx4 43 [.int .i64 p1.From, .int .i64 p1.To]) w_ o2705 285 ∧ Ft (RdC ET30 (some ad2303) p0.l) w_ o2705 0 ∧ Ft (Bx bp0 49 [.slice (some ad2303) (p0.l).length cp0_0]) w_ o2705 0) → G 2 #[true, true, true, false, true, false] a_ w_ := by
      rintro a w2708 ⟨o2705, bx2706, hk, hs, f1844, f2308, f2707, f5, f900000, f900019⟩
      refine xd_of hG ?_
      refine xd_op hk (i := 3) (by kernel_rfl) rfl rfl ?_
      refine op_call hk ent_37 (vs := [.agg #[.int .i64 ((rdD zT30 p0.l x1846).From), .int .i64 ((rdD zT30 p0.l x1846).To)], .agg #[.int .i64 t2584.From, .int .i64 t2584.To]]) rfl (spans_Span_both_calls (rdD zT30 p0.l x1846) t2584 _ o2705    _ hc2593) ?_
      rintro _ w2713 ⟨o2714, rfl, st2715⟩
      replace f1844 := f1844.st st2715 (by decide)
      replace f2308 := f2308.st st2715 (by decide)
      replace f2707 := f2707.st st2715 (by decide)
      replace f5 := f5.st st2715 (by decide)
      replace f900000 := f900000.st st2715 (by decide)
      replace f900019 := f900019.st st2715 (by decide)
      replace hs := hs.loc0 st2715 (by decide)
      have hk := hk.put 21 (.agg #[.int .i64 t2592.From, .int .i64 t2592.To]) rfl
      refine ⟨.inr ⟨f2308.now, f5.now, trivial⟩, ?_⟩
      refine xd_op hk (i := 5) (by kernel_rfl) rfl rfl ?_
      refine op_store tab hk (t := 43) (v := .agg #[.int .i64 t2592.From, .int .i64 t2592.To]) (b := bx2706) (k := 0) (cs' := [.int .i64 t2592.From, .int .i64 t2592.To]) rfl rfl rfl rfl rfl rfl f2707 rfl rfl fun w2716 o2717 st2718 f2707_ => ?_
      replace f1844 := f1844.st st2718 (by decide)
      replace f2308 := f2308.st st2718 (by decide)
      replace f5 := f5.st st2718 (by decide)
      replace f900000 := f900000.st st2718 (by decide)
      replace f900019 := f900019.st st2718 (by decide)
      replace hs := hs.loc0 st2718 (by decide)
      replace f2707 := f2707_
      refine ⟨.inl (by kernel_rfl), ?_⟩
      refine xd_done (by kernel_rfl) ?_
      refine then_n ?_
      exact ⟨(fun b_ => (fun l_ => if l_ = 285 then 268 else if l_ = 287 then 269 else if l_ = 288 then 270 else l_) (o2717 b_)), bx2706, t2592, (by exact Kn.pick (ks := [3, 5, 8, 12, 13, 14]) hk rfl), (hs.relab0 (fun l_ => if l_ = 285 then 268 else if l_ = 287 then 269 else if l_ = 288 then 270 else l_) rfl), (f1844.relab (fun l_ => if l_ = 285 then 268 else if l_ = 287 then 269 else if l_ = 288 then 270 else l_) rfl), (f2707.relab (fun l_ => if l_ = 285 then 268 else if l_ = 287 then 269 else if l_ = 288 then 270 else l_) rfl), (f5.relab (fun l_ => if l_ = 285 then 268 else if l_ = 287 then 269 else if l_ = 288 then 270 else l_) rfl), (f900000.relab (fun l_ => if l_ = 285 then 268 else if l_ = 287 then 269 else if l_ = 288 then 270 else l_) rfl), (f900019.relab (fun l_ => if l_ = 285 then 268 else if l_ = 287 then 269 else if l_ = 288 then 270 else l_) rfl), H⟩
    have N2672 : ∀ (a_ : Act) (w_ : World), (∃ o2670 : Nat → Nat, Kn 31 a_ [(3, .pointer (some ⟨bx4, 0, none⟩)), (5, .slice A1841 (l1843).length c1842), (12, .slice (some ad2303) (p0.l).length cp0_0), (13, .int .i64 ((p0.l).length : Int)), (14, .int .i64 x1846), (18, .agg #[.int .i64 ((rdD zT30 p0.l x1846).From), .int .i64 ((rdD zT30 p0.l x1846).To)]), (20, .agg #[.int .i64 t2584.From, .int .i64 t2584.To])] ∧ St [] w (fun _ => 0) w_ o2670 ∧ Ft (Own ET30 43 (.slice A1841 (l1843).length c1842) l1843) w_ o2670 279 ∧ Ft (Bx bx2307 43 [.int .i64 ((rdD zT30 p0.l x1846).From), .int .i64 ((rdD zT30 p0.l x1846).To)]) w_ o2670 278 ∧ Ft (Bx bx4 43 [.int .i64 p1.From, .int .i64 p1.To]) w_ o2670 277 ∧ Ft (RdC ET30 (some ad2303) p0.l) w_ o2670 0 ∧ Ft (Bx bp0 49 [.slice (some ad2303) (p0.l).length cp0_0]) w_ o2670 0) → G 3 #[true, true, true, false, false, false] a_ w_ := by
      rintro a w2671 ⟨o2670, hk, hs, f1844, f2308, f5, f900000, f900019⟩
      refine xd_of hG ?_
      refine xd_each [3, 4] (by kernel_rfl) rfl ⟨?_, ?_, trivial⟩
      · refine xd_one hk rfl rfl ?_
        refine op_call hk ent_37 (vs := [.agg #[.int .i64 ((rdD zT30 p0.l x1846).From), .int .i64 ((rdD zT30 p0.l x1846).To)], .agg #[.int .i64 t2584.From, .int .i64 t2584.To]]) rfl (spans_Span_both_calls (rdD zT30 p0.l x1846) t2584 _ o2670    _ hc2593) ?_
        rintro _ w2676 ⟨o2677, rfl, st2678⟩
        replace f1844 := f1844.st st2678 (by decide)
        replace f2308 := f2308.st st2678 (by decide)
        replace f5 := f5.st st2678 (by decide)
        replace f900000 := f900000.st st2678 (by decide)
        replace f900019 := f900019.st st2678 (by decide)
        replace hs := hs.loc0 st2678 (by decide)
        have hk := hk.put 21 (.agg #[.int .i64 t2592.From, .int .i64 t2592.To]) rfl
        refine ⟨.inr ⟨f2308.now, f5.now, trivial⟩, ?_⟩
        exact xd_to hG rfl (N2684 _ _ ⟨(fun b_ => (fun l_ => if l_ = 277 then 280 else if l_ = 278 then 281 else if l_ = 279 then 282 else l_) (o2677 b_)), (by exact Kn.pick (ks := [3, 5, 12, 13, 14, 21]) hk rfl), (hs.relab0 (fun l_ => if l_ = 277 then 280 else if l_ = 278 then 281 else if l_ = 279 then 282 else l_) rfl), (f1844.relab (fun l_ => if l_ = 277 then 280 else if l_ = 278 then 281 else if l_ = 279 then 282 else l_) rfl), (f2308.relab (fun l_ => if l_ = 277 then 280 else if l_ = 278 then 281 else if l_ = 279 then 282 else l_) rfl), (f5.relab (fun l_ => if l_ = 277 then 280 else if l_ = 278 then 281 else if l_ = 279 then 282 else l_) rfl), (f900000.relab (fun l_ => if l_ = 277 then 280 else if l_ = 278 then 281 else if l_ = 279 then 282 else l_) rfl), (f900019.relab (fun l_ => if l_ = 277 then 280 else if l_ = 278 then 281 else if l_ = 279 then 282 else l_) rfl)⟩)
      · refine xd_one hk rfl rfl ?_
        refine op_alloc (o := o2670) tab (t := 43) (cs := [.int .i64 0, .int .i64 0]) rfl rfl 284 fun bx2696 w2693 o2694 st2695 f2697 => ?_
        replace f1844 := f1844.st st2695 (by decide)
        replace f2308 := f2308.st st2695 (by decide)
        replace f5 := f5.st st2695 (by decide)
        replace f900000 := f900000.st st2695 (by decide)
        replace f900019 := f900019.st st2695 (by decide)
        replace hs := hs.loc0 st2695 (by decide)
        have hk := hk.put 8 (.pointer (some ⟨bx2696, 0, none⟩)) rfl
        refine ⟨.inr ⟨f2308.now, f5.now, trivial⟩, ?_⟩
        exact xd_to hG rfl (N2709 _ _ ⟨(fun b_ => (fun l_ => if l_ = 277 then 285 else if l_ = 278 then 286 else if l_ = 279 then 287 else if l_ = 284 then 288 else l_) (o2694 b_)), bx2696, (by exact Kn.pick (ks := [3, 5, 8, 12, 13, 14, 18, 20]) hk rfl), (hs.relab0 (fun l_ => if l_ = 277 then 285 else if l_ = 278 then 286 else if l_ = 279 then 287 else if l_ = 284 then 288 else l_) rfl), (f1844.relab (fun l_ => if l_ = 277 then 285 else if l_ = 278 then 286 else if l_ = 279 then 287 else if l_ = 284 then 288 else l_) rfl), (f2308.relab (fun l_ => if l_ = 277 then 285 else if l_ = 278 then 286 else if l_ = 279 then 287 else if l_ = 284 then 288 else l_) rfl), (f2697.relab (fun l_ => if l_ = 277 then 285 else if l_ = 278 then 286 else if l_ = 279 then 287 else if l_ = 284 then 288 else l_) rfl), (f5.relab (fun l_ => if l_ = 277 then 285 else if l_ = 278 then 286 else if l_ = 279 then 287 else if l_ = 284 then 288 else l_) rfl), (f900000.relab (fun l_ => if l_ = 277 then 285 else if l_ = 278 then 286 else if l_ = 279 then 287 else if l_ = 284 then 288 else l_) rfl), (f900019.relab (fun l_ => if l_ = 277 then 285 else if l_ = 278 then 286 else if l_ = 279 then 287 else if l_ = 284 then 288 else l_) rfl)⟩)
    have N2735 : ∀ (a_ : Act) (w_ : World), (∃ o2731 : Nat → Nat, ∃ bx2732 : Nat, Kn 31 a_ [(3, .pointer (some ⟨bx4, 0, none⟩)), (5, .slice A1841 (l1843).length c1842), (8, .pointer (some ⟨bx2732, 0, none⟩)), (12, .slice (some ad2303) (p0.l).length cp0_0), (13, .int .i64 ((p0.l).length : Int)), (14, .int .i64 x1846), (18, .agg #[.int .i64 ((rdD zT30 p0.l x1846).From), .int .i64 ((rdD zT30 p0.l x1846).To)]), (19, .agg #[.int .i64 p1.From, .int .i64 p1.To])] ∧ St [] w (fun _ => 0) w_ o2731 ∧ Ft (Own ET30 43 (.slice A1841 (l1843).length c1842) l1843) w_ o2731 292 ∧ Ft (Bx bx2307 43 [.int .i64 ((rdD zT30 p0.l x1846).From), .int .i64 ((rdD zT30 p0.l x1846).To)]) w_ o2731 291 ∧ Ft (Bx bx2732 43 [.int .i64 0, .int .i64 0]) w_ o2731 293 ∧ Ft (Bx bx4 43 [.int .i64 p1.From, .int .i64 p1.To]) w_ o2731 290 ∧ Ft (RdC ET30 (some ad2303) p0.l) w_ o2731 0 ∧ Ft (Bx bp0 49 [.slice (some ad2303) (p0.l).length cp0_0]) w_ o2731 0) → G 3 #[true, true, false, false, true, false] a_ w_ := by
      rintro a w2734 ⟨o2731, bx2732, hk, hs, f1844, f2308, f2733, f5, f900000, f900019⟩
      refine xd_of hG ?_
      refine xd_op hk (i := 2) (by kernel_rfl) rfl rfl ?_
      refine op_call hk ent_33 (vs := [.agg #[.int .i64 p1.From, .int .i64 p1.To]]) rfl (spans_Span_fit_calls p1 _ o2731    _ hc2585) ?_
      rintro _ w2739 ⟨o2740, rfl, st2741⟩
      replace f1844 := f1844.st st2741 (by decide)
      replace f2308 := f2308.st st2741 (by decide)
      replace f2733 := f2733.st st2741 (by decide)
      replace f5 := f5.st st2741 (by decide)
      replace f900000 := f900000.st st2741 (by decide)
      replace f900019 := f900019.st st2741 (by decide)
      replace hs := hs.loc0 st2741 (by decide)
      have hk := hk.put 20 (.agg #[.int .i64 t2584.From, .int .i64 t2584.To]) rfl
      refine ⟨.inr ⟨f2308.now, f5.now, trivial⟩, ?_⟩
      refine xd_op hk (i := 3) (by kernel_rfl) rfl rfl ?_
      refine op_call hk ent_37 (vs := [.agg #[.int .i64 ((rdD zT30 p0.l x1846).From), .int .i64 ((rdD zT30 p0.l x1846).To)], .agg #[.int .i64 t2584.From, .int .i64 t2584.To]]) rfl (spans_Span_both_calls (rdD zT30 p0.l x1846) t2584 _ o2740    _ hc2593) ?_
      rintro _ w2745 ⟨o2746, rfl, st2747⟩
      replace f1844 := f1844.st st2747 (by decide)
      replace f2308 := f2308.st st2747 (by decide)
      replace f2733 := f2733.st st2747 (by decide)
      replace f5 := f5.st st2747 (by decide)
      replace f900000 := f900000.st st2747 (by decide)
      replace f900019 := f900019.st st2747 (by decide)
      replace hs := hs.loc0 st2747 (by decide)
      have hk := hk.put 21 (.agg #[.int .i64 t2592.From, .int .i64 t2592.To]) rfl
      refine ⟨.inr ⟨f2308.now, f5.now, trivial⟩, ?_⟩
      refine xd_op hk (i := 5) (by kernel_rfl) rfl rfl ?_
      refine op_store tab hk (t := 43) (v := .agg #[.int .i64 t2592.From, .int .i64 t2592.To]) (b := bx2732) (k := 0) (cs' := [.int .i64 t2592.From, .int .i64 t2592.To]) rfl rfl rfl rfl rfl rfl f2733 rfl rfl fun w2748 o2749 st2750 f2733_ => ?_
      replace f1844 := f1844.st st2750 (by decide)
      replace f2308 := f2308.st st2750 (by decide)
      replace f5 := f5.st st2750 (by decide)
      replace f900000 := f900000.st st2750 (by decide)
      replace f900019 := f900019.st st2750 (by decide)
      replace hs := hs.loc0 st2750 (by decide)
      replace f2733 := f2733_
      refine ⟨.inl (by kernel_rfl), ?_⟩
      refine xd_done (by kernel_rfl) ?_
      refine then_n ?_
      exact ⟨(fun b_ => (fun l_ => if l_ = 290 then 268 else if l_ = 292 then 269 else if l_ = 293 then 270 else l_) (o2749 b_)), bx2732, t2592, (by exact Kn.pick (ks := [3, 5, 8, 12, 13, 14]) hk rfl), (hs.relab0 (fun l_ => if l_ = 290 then 268 else if l_ = 292 then 269 else if l_ = 293 then 270 else l_) rfl), (f1844.relab (fun l_ => if l_ = 290 then 268 else if l_ = 292 then 269 else if l_ = 293 then 270 else l_) rfl), (f2733.relab (fun l_ => if l_ = 290 then 268 else if l_ = 292 then 269 else if l_ = 293 then 270 else l_) rfl), (f5.relab (fun l_ => if l_ = 290 then 268 else if l_ = 292 then 269 else if l_ = 293 then 270 else l_) rfl), (f900000.relab (fun l_ => if l_ = 290 then 268 else if l_ = 292 then 269 else if l_ = 293 then 270 else l_) rfl), (f900019.relab (fun l_ => if l_ = 290 then 268 else if l_ = 292 then 269 else if l_ = 293 then 270 else l_) rfl), H⟩
    refine xd_of hG ?_
    refine xd_take tab hk (k := 4) (is := [0, 1]) (ls' := #[true, true, false, false, false, false]) (lv := [.agg #[.int .i64 ((rdD zT30 p0.l x1846).From), .int .i64 ((rdD zT30 p0.l x1846).To)], .agg #[.int .i64 p1.From, .int .i64 p1.To]]) (ks := [3, 5, 12, 13, 14, 18, 19]) (e' := [(3, .pointer (some ⟨bx4, 0, none⟩)), (5, .slice A1841 (l1843).length c1842), (12, .slice (some ad2303) (p0.l).length cp0_0), (13, .int .i64 ((p0.l).length : Int)), (14, .int .i64 x1846), (18, .agg #[.int .i64 ((rdD zT30 p0.l x1846).From), .int .i64 ((rdD zT30 p0.l x1846).To)]), (19, .agg #[.int .i64 p1.From, .int .i64 p1.To])]) (by kernel_rfl) rfl rfl (by kernel_rfl) (np_then (np_then (np_blk (np_then (np_then (np_blk (np_then np_body))))))) ⟨f2308.now, f5.now, trivial⟩ (fun W_ hS => ⟨(load_box tab rfl rfl hS.1 (k := 0) rfl rfl), (load_box tab rfl rfl hS.2.1 (k := 0) rfl rfl), trivial⟩) fun a hk => ?_
    refine xd_each [2, 4] (by kernel_rfl) rfl ⟨?_, ?_, trivial⟩
    · refine xd_one hk rfl rfl ?_
      refine op_call hk ent_33 (vs := [.agg #[.int .i64 p1.From, .int .i64 p1.To]]) rfl (spans_Span_fit_calls p1 _ o2310    _ hc2585) ?_
      rintro _ w2664 ⟨o2665, rfl, st2666⟩
      replace f1844 := f1844.st st2666 (by decide)
      replace f2308 := f2308.st st2666 (by decide)
      replace f5 := f5.st st2666 (by decide)
      replace f900000 := f900000.st st2666 (by decide)
      replace f900019 := f900019.st st2666 (by decide)
      replace hs := hs.loc0 st2666 (by decide)
      have hk := hk.put 20 (.agg #[.int .i64 t2584.From, .int .i64 t2584.To]) rfl
      refine ⟨.inr ⟨f2308.now, f5.now, trivial⟩, ?_⟩
      exact xd_to hG rfl (N2672 _ _ ⟨(fun b_ => (fun l_ => if l_ = 192 then 277 else if l_ = 193 then 279 else if l_ = 244 then 278 else l_) (o2665 b_)), (by exact Kn.pick (ks := [3, 5, 12, 13, 14, 18, 20]) hk rfl), (hs.relab0 (fun l_ => if l_ = 192 then 277 else if l_ = 193 then 279 else if l_ = 244 then 278 else l_) rfl), (f1844.relab (fun l_ => if l_ = 192 then 277 else if l_ = 193 then 279 else if l_ = 244 then 278 else l_) rfl), (f2308.relab (fun l_ => if l_ = 192 then 277 else if l_ = 193 then 279 else if l_ = 244 then 278 else l_) rfl), (f5.relab (fun l_ => if l_ = 192 then 277 else if l_ = 193 then 279 else if l_ = 244 then 278 else l_) rfl), (f900000.relab (fun l_ => if l_ = 192 then 277 else if l_ = 193 then 279 else if l_ = 244 then 278 else l_) rfl), (f900019.relab (fun l_ => if l_ = 192 then 277 else if l_ = 193 then 279 else if l_ = 244 then 278 else l_) rfl)⟩)
    · refine xd_one hk rfl rfl ?_
      refine op_alloc (o := o2310) tab (t := 43) (cs := [.int .i64 0, .int .i64 0]) rfl rfl 289 fun bx2722 w2719 o2720 st2721 f2723 => ?_
      replace f1844 := f1844.st st2721 (by decide)
      replace f2308 := f2308.st st2721 (by decide)
      replace f5 := f5.st st2721 (by decide)
      replace f900000 := f900000.st st2721 (by decide)
      replace f900019 := f900019.st st2721 (by decide)
      replace hs := hs.loc0 st2721 (by decide)
      have hk := hk.put 8 (.pointer (some ⟨bx2722, 0, none⟩)) rfl
      refine ⟨.inr ⟨f2308.now, f5.now, trivial⟩, ?_⟩
      exact xd_to hG rfl (N2735 _ _ ⟨(fun b_ => (fun l_ => if l_ = 192 then 290 else if l_ = 193 then 292 else if l_ = 244 then 291 else if l_ = 289 then 293 else l_) (o2720 b_)), bx2722, (by exact Kn.pick (ks := [3, 5, 8, 12, 13, 14, 18, 19]) hk rfl), (hs.relab0 (fun l_ => if l_ = 192 then 290 else if l_ = 193 then 292 else if l_ = 244 then 291 else if l_ = 289 then 293 else l_) rfl), (f1844.relab (fun l_ => if l_ = 192 then 290 else if l_ = 193 then 292 else if l_ = 244 then 291 else if l_ = 289 then 293 else l_) rfl), (f2308.relab (fun l_ => if l_ = 192 then 290 else if l_ = 193 then 292 else if l_ = 244 then 291 else if l_ = 289 then 293 else l_) rfl), (f2723.relab (fun l_ => if l_ = 192 then 290 else if l_ = 193 then 292 else if l_ = 244 then 291 else if l_ = 289 then 293 else l_) rfl), (f5.relab (fun l_ => if l_ = 192 then 290 else if l_ = 193 then 292 else if l_ = 244 then 291 else if l_ = 289 then 293 else l_) rfl), (f900000.relab (fun l_ => if l_ = 192 then 290 else if l_ = 193 then 292 else if l_ = 244 then 291 else if l_ = 289 then 293 else l_) rfl), (f900019.relab (fun l_ => if l_ = 192 then 290 else if l_ = 193 then 292 else if l_ = 244 then 291 else if l_ = 289 then 293 else l_) rfl)⟩)

end Go.Proofs.Ytmgopcmdljhjoaa
