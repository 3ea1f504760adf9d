/- Walks, printed by an own program: the machine's calls compute the plain functions. -/
import Derived.Test.YtjbdijgenhhgaaaW0
set_option linter.unusedVariables false
set_option linter.unusedSimpArgs false
namespace Go.Proofs.Ytjbdijgenhhgaaa
open Go Go.Proofs.XC
/-! (tidewrack/spans.Span).fit -/
theorem spans_Span_fit_calls (p0 : T28) (w : World) (o : Nat → Nat)   (r : T28) (H : spans_Span_fit p0 = some r) :
    Calls Try.prog 24 #[.agg #[.int .i64 p0.From, .int .i64 p0.To]] w (Ret fun v_ w' => ∃ o' : Nat → Nat, v_ = .agg #[.int .i64 r.From, .int .i64 r.To] ∧ St [] w o w' o') := by
  refine x_enter (vs := [.agg #[.int .i64 p0.From, .int .i64 p0.To]]) Try.func24 rfl rfl rfl fun a hk => ?_
  obtain ⟨o0, hs, h0⟩ := St.start w o
  clear h0
  rw [spans_Span_fit] at H
  refine x_seq ?_
  refine wpIn_region_lit ?_
  refine x_op hk rfl ?_
  refine op_box (o := o0) (t := 29) (v := .agg #[.int .i64 p0.From, .int .i64 p0.To]) (cs := [.int .i64 p0.From, .int .i64 p0.To]) hk rfl rfl 1 fun bx4 w1 o2 st3 f5 => ?_
  replace hs := hs.loc0 st3 (by decide)
  have hk := hk.put 1 (.pointer (some ⟨bx4, 0, none⟩)) rfl
  refine x_op hk rfl ?_
  refine op_alloc (o := o2) tab (t := 29) (cs := [.int .i64 0, .int .i64 0]) rfl rfl 2 fun bx9 w6 o7 st8 f10 => ?_
  replace f5 := f5.st st8 (by decide)
  replace hs := hs.loc0 st8 (by decide)
  have hk := hk.put 2 (.pointer (some ⟨bx9, 0, none⟩)) rfl
  refine wpListIn_nil ?_
  refine then_n ?_
  refine x_seq ?_
  refine wpIn_region_lit ?_
  refine x_run tab hk (k := 9) (lv := [.int .i64 p0.From, .int .i64 p0.To]) (ks := [2, 11]) (e' := [(2, .pointer (some ⟨bx9, 0, none⟩)), (11, .agg #[.int .i64 (mxI (-1152921504606846976) (mnI p0.From 1152921504606846976)), .int .i64 (mxI (-1152921504606846976) (mnI p0.To 1152921504606846976))])]) rfl ⟨(load1 tab rfl ((Bx.cell f5.now 0).trans rfl)), (load1 tab rfl ((Bx.cell f5.now 1).trans rfl)), trivial⟩ fun a hk => ?_
  refine x_op hk rfl ?_
  refine op_store tab hk (t := 29) (v := .agg #[.int .i64 (mxI (-1152921504606846976) (mnI p0.From 1152921504606846976)), .int .i64 (mxI (-1152921504606846976) (mnI p0.To 1152921504606846976))]) (b := bx9) (k := 0) (cs' := [.int .i64 (mxI (-1152921504606846976) (mnI p0.From 1152921504606846976)), .int .i64 (mxI (-1152921504606846976) (mnI p0.To 1152921504606846976))]) rfl rfl rfl rfl rfl rfl f10 rfl rfl fun w11 o12 st13 f10_ => ?_
  replace hs := hs.loc0 st13 (by decide)
  replace f10 := f10_
  refine wpListIn_nil ?_
  refine then_n ?_
  refine wpIn_ret ?_
  obtain rfl := Option.some.inj H
  exact x_retG hk (rs := [.cell 2 29]) (vs := [.agg #[.int .i64 (mxI (-1152921504606846976) (mnI p0.From 1152921504606846976)), .int .i64 (mxI (-1152921504606846976) (mnI p0.To 1152921504606846976))]]) rfl ⟨⟨_, rfl, load_box tab rfl rfl f10.now (k := 0) rfl rfl⟩, trivial⟩ ⟨fun b_ => if b_ < w.heap.size then o b_ else (fun _ => 0) (o12 b_), rfl, hs.close0 o (fun _ => 0)⟩

/-! (tidewrack/spans.Span).empty -/
theorem spans_Span_empty_calls (p0 : T28) (w : World) (o : Nat → Nat)   (r : Bool) (H : spans_Span_empty p0 = some r) :
    Calls Try.prog 25 #[.agg #[.int .i64 p0.From, .int .i64 p0.To]] w (Ret fun v_ w' => ∃ o' : Nat → Nat, v_ = .bool r ∧ St [] w o w' o') := by
  refine x_enter (vs := [.agg #[.int .i64 p0.From, .int .i64 p0.To]]) Try.func25 rfl rfl rfl fun a hk => ?_
  obtain ⟨o0, hs, h0⟩ := St.start w o
  clear h0
  rw [spans_Span_empty] at H
  refine x_seq ?_
  refine wpIn_region_lit ?_
  refine x_op hk rfl ?_
  refine op_box (o := o0) (t := 29) (v := .agg #[.int .i64 p0.From, .int .i64 p0.To]) (cs := [.int .i64 p0.From, .int .i64 p0.To]) hk rfl rfl 1 fun bx4 w1 o2 st3 f5 => ?_
  replace hs := hs.loc0 st3 (by decide)
  have hk := hk.put 1 (.pointer (some ⟨bx4, 0, none⟩)) rfl
  refine x_run tab hk (k := 1) (lv := []) (ks := [1]) (e' := [(1, .pointer (some ⟨bx4, 0, none⟩))]) rfl trivial fun a hk => ?_
  refine wpListIn_nil ?_
  refine then_n ?_
  refine x_seq ?_
  refine wpIn_region_lit ?_
  refine x_run tab hk (k := 6) (lv := [.int .i64 p0.To, .int .i64 p0.From]) (ks := [2]) (e' := [(2, .bool (decide (p0.To ≤ p0.From)))]) rfl ⟨(load1 tab rfl ((Bx.cell f5.now 1).trans rfl)), (load1 tab rfl ((Bx.cell f5.now 0).trans rfl)), trivial⟩ fun a hk => ?_
  refine wpListIn_nil ?_
  refine then_n ?_
  refine wpIn_ret ?_
  obtain rfl := Option.some.inj H
  exact x_retG hk (rs := [.tmp 2]) (vs := [.bool (decide (p0.To ≤ p0.From))]) rfl ⟨rfl, trivial⟩ ⟨fun b_ => if b_ < w.heap.size then o b_ else (fun _ => 0) (o2 b_), rfl, hs.close0 o (fun _ => 0)⟩

/-! slices.Grow[[]tidewrack/spans.Span,tidewrack/spans.Span] -/
theorem slices_Grow_calls (p1 : Int) (w : World) (o : Nat → Nat)   (R0 : Nat) (r : List T28) (H : slices_Grow p1 = some r) :
    Calls Try.prog 35 #[.slice none 0 0, .int .i64 p1] w (Ret fun v_ w' => ∃ o' : Nat → Nat, ∃ A0 : Option Addr, ∃ c0 : Nat, v_ = .slice A0 (r).length c0 ∧ St [] w o w' o' ∧ Ft (Own ET28 29 (.slice A0 (r).length c0) (r)) w' o' R0 ∧ (r).length ≤ c0) := by
  refine x_enter (vs := [.slice none 0 0, .int .i64 p1]) Try.func35 rfl rfl rfl fun a hk => ?_
  obtain ⟨o0, hs, h0⟩ := St.start w o
  clear h0
  rw [slices_Grow] at H
  refine x_seq ?_
  refine wpIn_region_lit ?_
  refine x_run tab hk (k := 1) (lv := []) (ks := [0, 1]) (e' := [(0, .slice none 0 0), (1, .int .i64 p1)]) rfl trivial fun a hk => ?_
  refine wpListIn_nil ?_
  refine then_n ?_
  refine x_mid (fun a_ w_ => ∃ o5 : Nat → Nat, Kn 27 a_ [(0, .slice none 0 0), (1, .int .i64 p1)] ∧ St [] w (fun _ => 0) w_ o5 ∧ slices_Grow_j1 p1 = some r) ?_ ?_
  rotate_left
  · rintro a w6 ⟨o5, hk, hs, H⟩
    rw [slices_Grow_j1] at H
    refine x_seq ?_
    refine x_seq ?_
    refine wpIn_region_lit ?_
    refine x_run tab hk (k := 8) (lv := []) (ks := [0, 1]) (e' := [(0, .slice none 0 0), (1, .int .i64 (IntKind.wrap .i64 (p1 - (IntKind.wrap .i64 (0 - ((([] : List T28)).length : Int))))))]) rfl trivial fun a hk => ?_
    refine wpListIn_nil ?_
    refine then_n ?_
    refine x_seq ?_
    refine wpIn_region_lit ?_
    refine x_run tab hk (k := 2) (lv := []) (ks := [0, 1, 16]) (e' := [(0, .slice none 0 0), (1, .int .i64 (IntKind.wrap .i64 (p1 - (IntKind.wrap .i64 (0 - ((([] : List T28)).length : Int)))))), (16, .bool (decide ((IntKind.wrap .i64 (p1 - (IntKind.wrap .i64 (0 - ((([] : List T28)).length : Int))))) > (0 : Int))))]) rfl trivial fun a hk => ?_
    refine wpListIn_nil ?_
    refine then_n ?_
    cases b7 : (decide ((IntKind.wrap .i64 (p1 - (IntKind.wrap .i64 (0 - ((([] : List T28)).length : Int))))) > (0 : Int)))
    · rw [b7] at hk H
      replace H := bifF H
      refine x_if hk (b := false) rfl ?_
      refine (show Code.wpIn _ _ _ _ _ _ _ from ?_)
      refine wpIn_skip ?_
      refine then_n ?_
      refine x_seq ?_
      refine wpIn_region_lit ?_
      refine x_run tab hk (k := 2) (lv := []) (ks := [4]) (e' := [(4, .slice none 0 0)]) rfl trivial fun a hk => ?_
      refine wpListIn_nil ?_
      refine then_n ?_
      refine wpIn_ret ?_
      obtain rfl := Option.some.inj H
      exact x_retG hk (rs := [.tmp 4]) (vs := [.slice none 0 0]) rfl ⟨rfl, trivial⟩ ⟨fun b_ => if b_ < w.heap.size then o b_ else (fun _ => 0) (o5 b_), none, 0, rfl, hs.close0 o (fun _ => 0), (Ft.of_all (fun _ => Own.nil _ _ _) _ _ _), (by simp)⟩
    · rw [b7] at hk H
      replace H := bifT H
      refine x_if hk (b := true) rfl ?_
      refine (show Code.wpIn _ _ _ _ _ _ _ from ?_)
      refine wpIn_region_lit ?_
      refine x_run tab hk (k := 5) (lv := [.slice none 0 0]) (ks := [0, 20, 21]) (e' := [(0, .slice none 0 0), (20, .slice none 0 0), (21, .int .i64 (IntKind.wrap .i64 (p1 - (IntKind.wrap .i64 (0 - ((([] : List T28)).length : Int))))))]) rfl ⟨(ask_take0 tab rfl rfl rfl rfl), trivial⟩ fun a hk => ?_
      refine x_op hk rfl ?_
      obtain ⟨q11, H⟩ := ifS H
      obtain ⟨q12, H⟩ := ifS H
      refine op_appendZ (o := o5) ET28 tab hk rfl rfl rfl rfl rfl rfl rfl rfl q11 q12 1 fun A13 c14 w8 o9 st10 f15 => ?_
      replace hs := hs.loc0 st10 (by decide)
      have hk := hk.put 22 (.slice A13 (Int.toNat (IntKind.wrap .i64 (p1 - (IntKind.wrap .i64 (0 - ((([] : List T28)).length : Int)))))) c14) rfl
      refine x_run tab hk (k := 4) (lv := [.slice A13 (([] : List T28)).length c14]) (ks := [0]) (e' := [(0, .slice A13 (([] : List T28)).length c14)]) rfl ⟨(ask_take0 tab rfl rfl rfl rfl), trivial⟩ fun a hk => ?_
      refine wpListIn_nil ?_
      refine then_n ?_
      refine x_seq ?_
      refine wpIn_region_lit ?_
      refine x_run tab hk (k := 2) (lv := []) (ks := [4]) (e' := [(4, .slice A13 (([] : List T28)).length c14)]) rfl trivial fun a hk => ?_
      refine wpListIn_nil ?_
      refine then_n ?_
      refine wpIn_ret ?_
      obtain rfl := Option.some.inj H
      exact x_retG hk (rs := [.tmp 4]) (vs := [.slice A13 (([] : List T28)).length c14]) rfl ⟨rfl, trivial⟩ ⟨fun b_ => if b_ < w.heap.size then o b_ else (fun _ => R0) (o9 b_), A13, c14, rfl, hs.close0 o (fun _ => R0), hs.close_ft (o := o) (ρ := fun _ => R0) f15 (by decide) rfl, (Nat.zero_le _)⟩
  refine x_seq ?_
  refine wpIn_region_lit ?_
  refine x_run tab hk (k := 2) (lv := []) (ks := [0, 1, 6]) (e' := [(0, .slice none 0 0), (1, .int .i64 p1), (6, .bool (decide (p1 < (0 : Int))))]) rfl trivial fun a hk => ?_
  refine wpListIn_nil ?_
  refine then_n ?_
  cases b16 : (decide (p1 < (0 : Int)))
  · rw [b16] at hk H
    replace H := bifF H
    refine x_if hk (b := false) rfl ?_
    refine (show Code.wpIn _ _ _ _ _ _ _ from ?_)
    refine wpIn_skip ?_
    refine then_n ?_
    exact ⟨o0, (by exact Kn.pick (ks := [0, 1]) hk rfl), hs, H⟩
  · rw [b16] at hk H
    replace H := bifT H
    refine x_if hk (b := true) rfl ?_
    refine (show Code.wpIn _ _ _ _ _ _ _ from ?_)
    refine wpIn_region_lit ?_
    exact absurd H (by simp)

/-! slices.Concat[[]tidewrack/spans.Span,tidewrack/spans.Span] -/
theorem slices_Concat_calls (K : Nat) (Ap0 : Option Addr) (cp0 : Nat) (p0 : List (List T28)) (w : World) (o : Nat → Nat) (LF : Nat) (Lp0 : Nat) (hp0 : NRd (dRows ET28) Ap0 p0 w o Lp0 LF) (hcp0 : (p0).length ≤ cp0) (hd0 : ([LF] : List Nat).Nodup) (hd1 : Lp0 ∉ [LF]) (R0 : Nat) (r : List T28) (H : slices_Concat K p0 = some r) :
    Calls Try.prog 26 #[.slice Ap0 (p0).length cp0] w (Ret fun v_ w' => ∃ o' : Nat → Nat, ∃ A0 : Option Addr, ∃ c0 : Nat, v_ = .slice A0 (r).length c0 ∧ St [] w o w' o' ∧ Ft (Own ET28 29 (.slice A0 (r).length c0) (r)) w' o' R0 ∧ (r).length ≤ c0) := by
  refine x_enter (vs := [.slice Ap0 (p0).length cp0]) Try.func26 rfl rfl rfl fun a hk => ?_
  obtain ⟨oi, hs0, h0, h1, hob, hoz, hoa⟩ := St.startM2 w o (m := 1) hd0 rfl
  have hs := hs0 []
  have f900000 := hp0.conv (fun P_ => h0 P_ _ hd1) (fun _ h_ => h1 0 1 h_ rfl rfl)
  clear h0 h1 hs0
  rw [slices_Concat] at H
  refine x_seq ?_
  refine wpIn_region_lit ?_
  refine x_run tab hk (k := 1) (lv := []) (ks := [0]) (e' := [(0, .slice Ap0 (p0).length cp0)]) rfl trivial fun a hk => ?_
  refine wpListIn_nil ?_
  refine then_n ?_
  refine x_seq ?_
  refine wpIn_region_lit ?_
  refine x_run tab hk (k := 1) (lv := []) (ks := [0, 3]) (e' := [(0, .slice Ap0 (p0).length cp0), (3, .int .i64 0)]) rfl trivial fun a hk => ?_
  refine wpListIn_nil ?_
  refine then_n ?_
  refine x_mid (fun a_ w_ => ∃ o44 : Nat → Nat, ∃ x45 : Int, Kn 36 a_ [(0, .slice Ap0 (p0).length cp0), (3, .int .i64 x45)] ∧ St [] w oi w_ o44 ∧ NRd (dRows ET28) Ap0 p0 w_ o44 0 1 ∧ slices_Concat_j1 K p0 x45 = some r) ?_ ?_
  rotate_left
  · rintro a w46 ⟨o44, x45, hk, hs, f900000, H⟩
    rw [slices_Concat_j1] at H
    refine x_seq ?_
    refine wpIn_region_lit ?_
    refine x_run tab hk (k := 1) (lv := []) (ks := [0, 23]) (e' := [(0, .slice Ap0 (p0).length cp0), (23, .int .i64 x45)]) rfl trivial fun a hk => ?_
    refine x_op hk rfl ?_
    obtain ⟨t50, hc51, H⟩ := bindS H
    refine op_call hk ent_35 (vs := [.slice none 0 0, .int .i64 x45]) rfl (slices_Grow_calls x45 _ o44  2  _ hc51) ?_
    rintro _ w52 ⟨o53, A55, c56, rfl, st54, f57, hc58⟩
    replace f900000 := f900000.st st54 (by decide)
    replace hs := hs.locQ st54 hob rfl
    have hk := hk.put 24 (.slice A55 (t50).length c56) rfl
    refine x_run tab hk (k := 1) (lv := []) (ks := [0, 6]) (e' := [(0, .slice Ap0 (p0).length cp0), (6, .slice A55 (t50).length c56)]) rfl trivial fun a hk => ?_
    refine wpListIn_nil ?_
    refine then_n ?_
    refine x_mid (fun a_ w_ => ∃ o131 : Nat → Nat, ∃ A132 : Option Addr, ∃ c133 : Nat, ∃ l134 : List T28, Kn 36 a_ [(6, .slice A132 (l134).length c133)] ∧ St [] w oi w_ o131 ∧ Ft (Own ET28 29 (.slice A132 (l134).length c133) l134) w_ o131 5 ∧ (l134).length ≤ c133 ∧ slices_Concat_j2 l134 = some r) ?_ ?_
    rotate_left
    · rintro a w137 ⟨o131, A132, c133, l134, hk, hs, f135, hc136, H⟩
      rw [slices_Concat_j2] at H
      refine x_seq ?_
      refine wpIn_region_lit ?_
      refine x_run tab hk (k := 2) (lv := []) (ks := [2]) (e' := [(2, .slice A132 (l134).length c133)]) rfl trivial fun a hk => ?_
      refine wpListIn_nil ?_
      refine then_n ?_
      refine wpIn_ret ?_
      obtain rfl := Option.some.inj H
      exact x_retG hk (rs := [.tmp 2]) (vs := [.slice A132 (l134).length c133]) rfl ⟨rfl, trivial⟩ ⟨fun b_ => if b_ < w.heap.size then o b_ else (fun l_ => if l_ = 1 then LF else if l_ = 5 then R0 else 0) (o131 b_), A132, c133, rfl, hs.closeF (Lm := []) (Sh := []) hoa rfl (fun l_ => if l_ = 1 then LF else if l_ = 5 then R0 else 0), hs.closeM_ft (o := o) (ρ := fun l_ => if l_ = 1 then LF else if l_ = 5 then R0 else 0) f135 (lab_none hob rfl) rfl, hc136⟩
    refine x_seq ?_
    refine wpIn_region_lit ?_
    refine x_run tab hk (k := 3) (lv := []) (ks := [6, 25, 26, 27]) (e' := [(6, .slice A55 (t50).length c56), (25, .slice Ap0 (p0).length cp0), (26, .int .i64 ((p0).length : Int)), (27, .int .i64 0)]) rfl trivial fun a hk => ?_
    refine wpListIn_nil ?_
    refine then_n ?_
    refine wpIn_block ?_
    refine x_loop (fun j_ a_ w_ => ∃ o157 : Nat → Nat, ∃ A158 : Option Addr, ∃ c159 : Nat, ∃ l160 : List T28, ∃ x163 : Int, Kn 36 a_ [(6, .slice A158 (l160).length c159), (25, .slice Ap0 (p0).length cp0), (26, .int .i64 ((p0).length : Int)), (27, .int .i64 x163)] ∧ St [] w oi w_ o157 ∧ Ft (Own ET28 29 (.slice A158 (l160).length c159) l160) w_ o157 7 ∧ NRd (dRows ET28) Ap0 p0 w_ o157 0 1 ∧ (l160).length ≤ c159 ∧ slices_Concat_l3 p0 j_ l160 x163 = some r) (k := K) ⟨(fun b_ => (fun l_ => if l_ = 2 then 7 else l_) (o53 b_)), A55, c56, t50, 0, (by exact Kn.pick (ks := [6, 25, 26, 27]) hk rfl), (hs.relabM hob (fun l_ => if l_ = 2 then 7 else l_) (by decide)), (f57.relab (fun l_ => if l_ = 2 then 7 else l_) rfl), (f900000.relab (fun l_ => if l_ = 2 then 7 else l_) rfl), hc58, H⟩ (by rintro _ _ ⟨_, _, _, _, _, _, _, _, _, _, H_⟩; exact absurd (show (none : Option (List T28)) = some r from H_) (by simp)) ?_
    rintro k181 a w180 ⟨o157, A158, c159, l160, x163, hk, hs, f161, f900000, hc162, H⟩
    rw [slices_Concat_l3] at H
    obtain ⟨lp182, hlp183⟩ : ∃ lp_, lp_ = slices_Concat_l3 p0 k181 := ⟨_, rfl⟩
    rw [← hlp183] at H
    refine x_seq ?_
    refine wpIn_region_lit ?_
    refine x_run tab hk (k := 1) (lv := []) (ks := [6, 25, 26, 27, 28]) (e' := [(6, .slice A158 (l160).length c159), (25, .slice Ap0 (p0).length cp0), (26, .int .i64 ((p0).length : Int)), (27, .int .i64 x163), (28, .bool (decide (x163 < ((p0).length : Int))))]) rfl trivial fun a hk => ?_
    refine wpListIn_nil ?_
    refine then_n ?_
    refine x_seq ?_
    cases b184 : (decide (x163 < ((p0).length : Int)))
    · rw [b184] at hk H
      replace H := bifF H
      refine x_if hk (b := false) rfl ?_
      refine (show Code.wpIn _ _ _ _ _ _ _ from ?_)
      refine wpIn_exit ?_
      refine then_x ?_
      refine then_x ?_
      refine blk_x ?_
      refine then_n ?_
      exact ⟨(fun b_ => (fun l_ => if l_ = 7 then 5 else l_) (o157 b_)), A158, c159, l160, (by exact Kn.pick (ks := [6]) hk rfl), (hs.relabM hob (fun l_ => if l_ = 7 then 5 else l_) (by decide)), (f161.relab (fun l_ => if l_ = 7 then 5 else l_) rfl), hc162, H⟩
    · rw [b184] at hk H
      replace H := bifT H
      refine x_if hk (b := true) rfl ?_
      refine (show Code.wpIn _ _ _ _ _ _ _ from ?_)
      refine wpIn_skip ?_
      refine then_n ?_
      refine x_seq ?_
      refine wpIn_block ?_
      refine x_seq ?_
      refine wpIn_region_lit ?_
      obtain ⟨q185, H⟩ := ifS H
      obtain ⟨ad186, hAad186⟩ := NRd.addr f900000 q185
      have hk_C := hk
      have f161_C := f161
      have f900000_C := f900000
      subst hAad186
      have hk := hk_C
      clear hk_C
      have f161 := f161_C
      clear f161_C
      have f900000 := f900000_C
      clear f900000_C
      obtain ⟨A187, c188, f189, f190, hc191⟩ := NRd.row f900000 (P := Try.prog) tab (t := 24) rfl (i := x163) q185
      refine x_run tab hk (k := 3) (lv := [.slice A187 ((rdD [] p0 x163)).length c188]) (ks := [6, 8, 25, 26, 27]) (e' := [(6, .slice A158 (l160).length c159), (8, .slice A187 ((rdD [] p0 x163)).length c188), (25, .slice (some ad186) (p0).length cp0), (26, .int .i64 ((p0).length : Int)), (27, .int .i64 x163)]) rfl ⟨q185, f189.now, trivial⟩ fun a hk => ?_
      refine wpListIn_nil ?_
      refine then_n ?_
      refine wpIn_region_lit ?_
      refine x_run tab hk (k := 2) (lv := []) (ks := [25, 26, 27, 31, 32]) (e' := [(25, .slice (some ad186) (p0).length cp0), (26, .int .i64 ((p0).length : Int)), (27, .int .i64 x163), (31, .slice A158 (l160).length c159), (32, .slice A187 ((rdD [] p0 x163)).length c188)]) rfl trivial fun a hk => ?_
      refine x_op hk rfl ?_
      obtain ⟨q195, H⟩ := ifS H
      refine op_append (o := o157) (E := ET28) (xs := l160) (ys := (rdD [] p0 x163)) tab hk rfl rfl rfl rfl rfl rfl rfl f161 f190.now q195 fun A196 c197 w192 o193 st194 f198 hc199 => ?_
      replace f190 := f190.st st194 (by decide)
      replace f900000 := f900000.st st194 (by decide)
      replace hs := hs.locQ st194 hob rfl
      have hk := hk.put 33 (.slice A196 ((l160 ++ (rdD [] p0 x163))).length c197) rfl
      refine x_run tab hk (k := 1) (lv := []) (ks := [6, 25, 26, 27]) (e' := [(6, .slice A196 ((l160 ++ (rdD [] p0 x163))).length c197), (25, .slice (some ad186) (p0).length cp0), (26, .int .i64 ((p0).length : Int)), (27, .int .i64 x163)]) rfl trivial fun a hk => ?_
      refine wpListIn_nil ?_
      refine blk_n ?_
      refine then_n ?_
      refine wpIn_region_lit ?_
      refine x_run tab hk (k := 2) (lv := []) (ks := [6, 25, 26, 27]) (e' := [(6, .slice A196 ((l160 ++ (rdD [] p0 x163))).length c197), (25, .slice (some ad186) (p0).length cp0), (26, .int .i64 ((p0).length : Int)), (27, .int .i64 (IntKind.wrap .i64 (x163 + 1)))]) rfl trivial fun a hk => ?_
      refine wpListIn_nil ?_
      refine then_n ?_
      exact ⟨k181, Nat.le_refl _, o193, A196, c197, (l160 ++ (rdD [] p0 x163)), (IntKind.wrap .i64 (x163 + 1)), (by exact Kn.pick (ks := [6, 25, 26, 27]) hk rfl), hs, f198, f900000, hc199, (hlp183 ▸ H)⟩
  refine x_seq ?_
  refine wpIn_region_lit ?_
  refine x_run tab hk (k := 3) (lv := []) (ks := [0, 3, 9, 10, 11]) (e' := [(0, .slice Ap0 (p0).length cp0), (3, .int .i64 0), (9, .slice Ap0 (p0).length cp0), (10, .int .i64 ((p0).length : Int)), (11, .int .i64 0)]) rfl trivial fun a hk => ?_
  refine wpListIn_nil ?_
  refine then_n ?_
  refine wpIn_block ?_
  refine x_loop (fun j_ a_ w_ => ∃ o212 : Nat → Nat, ∃ x213 : Int, ∃ x214 : Int, Kn 36 a_ [(0, .slice Ap0 (p0).length cp0), (3, .int .i64 x213), (9, .slice Ap0 (p0).length cp0), (10, .int .i64 ((p0).length : Int)), (11, .int .i64 x214)] ∧ St [] w oi w_ o212 ∧ NRd (dRows ET28) Ap0 p0 w_ o212 0 1 ∧ slices_Concat_l4 K p0 j_ x213 x214 = some r) (k := K) ⟨oi, 0, 0, (by exact Kn.pick (ks := [0, 3, 9, 10, 11]) hk rfl), hs, f900000, H⟩ (by rintro _ _ ⟨_, _, _, _, _, _, H_⟩; exact absurd (show (none : Option (List T28)) = some r from H_) (by simp)) ?_
  rintro k225 a w224 ⟨o212, x213, x214, hk, hs, f900000, H⟩
  rw [slices_Concat_l4] at H
  obtain ⟨lp226, hlp227⟩ : ∃ lp_, lp_ = slices_Concat_l4 K p0 k225 := ⟨_, rfl⟩
  rw [← hlp227] at H
  refine x_seq ?_
  refine wpIn_region_lit ?_
  refine x_run tab hk (k := 1) (lv := []) (ks := [0, 3, 9, 10, 11, 12]) (e' := [(0, .slice Ap0 (p0).length cp0), (3, .int .i64 x213), (9, .slice Ap0 (p0).length cp0), (10, .int .i64 ((p0).length : Int)), (11, .int .i64 x214), (12, .bool (decide (x214 < ((p0).length : Int))))]) rfl trivial fun a hk => ?_
  refine wpListIn_nil ?_
  refine then_n ?_
  refine x_seq ?_
  cases b228 : (decide (x214 < ((p0).length : Int)))
  · rw [b228] at hk H
    replace H := bifF H
    refine x_if hk (b := false) rfl ?_
    refine (show Code.wpIn _ _ _ _ _ _ _ from ?_)
    refine wpIn_exit ?_
    refine then_x ?_
    refine then_x ?_
    refine blk_x ?_
    refine then_n ?_
    exact ⟨o212, x213, (by exact Kn.pick (ks := [0, 3]) hk rfl), hs, f900000, H⟩
  · rw [b228] at hk H
    replace H := bifT H
    refine x_if hk (b := true) rfl ?_
    refine (show Code.wpIn _ _ _ _ _ _ _ from ?_)
    refine wpIn_skip ?_
    refine then_n ?_
    refine x_seq ?_
    refine wpIn_block ?_
    refine x_seq ?_
    refine wpIn_region_lit ?_
    obtain ⟨q229, H⟩ := ifS H
    obtain ⟨ad230, hAad230⟩ := NRd.addr f900000 q229
    have hk_C := hk
    have f900000_C := f900000
    subst hAad230
    have hk := hk_C
    clear hk_C
    have f900000 := f900000_C
    clear f900000_C
    obtain ⟨A231, c232, f233, f234, hc235⟩ := NRd.row f900000 (P := Try.prog) tab (t := 24) rfl (i := x214) q229
    refine x_run tab hk (k := 3) (lv := [.slice A231 ((rdD [] p0 x214)).length c232]) (ks := [0, 3, 5, 9, 10, 11]) (e' := [(0, .slice (some ad230) (p0).length cp0), (3, .int .i64 x213), (5, .slice A231 ((rdD [] p0 x214)).length c232), (9, .slice (some ad230) (p0).length cp0), (10, .int .i64 ((p0).length : Int)), (11, .int .i64 x214)]) rfl ⟨q229, f233.now, trivial⟩ fun a hk => ?_
    refine wpListIn_nil ?_
    refine then_n ?_
    refine x_seq ?_
    refine wpIn_region_lit ?_
    refine x_run tab hk (k := 5) (lv := []) (ks := [0, 3, 9, 10, 11]) (e' := [(0, .slice (some ad230) (p0).length cp0), (3, .int .i64 (IntKind.wrap .i64 (x213 + (((rdD [] p0 x214)).length : Int)))), (9, .slice (some ad230) (p0).length cp0), (10, .int .i64 ((p0).length : Int)), (11, .int .i64 x214)]) rfl trivial fun a hk => ?_
    refine wpListIn_nil ?_
    refine then_n ?_
    refine x_seq ?_
    refine wpIn_region_lit ?_
    refine x_run tab hk (k := 2) (lv := []) (ks := [0, 3, 9, 10, 11, 20]) (e' := [(0, .slice (some ad230) (p0).length cp0), (3, .int .i64 (IntKind.wrap .i64 (x213 + (((rdD [] p0 x214)).length : Int)))), (9, .slice (some ad230) (p0).length cp0), (10, .int .i64 ((p0).length : Int)), (11, .int .i64 x214), (20, .bool (decide ((IntKind.wrap .i64 (x213 + (((rdD [] p0 x214)).length : Int))) < (0 : Int))))]) rfl trivial fun a hk => ?_
    refine wpListIn_nil ?_
    refine then_n ?_
    cases b236 : (decide ((IntKind.wrap .i64 (x213 + (((rdD [] p0 x214)).length : Int))) < (0 : Int)))
    · rw [b236] at hk H
      replace H := bifF H
      refine x_if hk (b := false) rfl ?_
      refine (show Code.wpIn _ _ _ _ _ _ _ from ?_)
      refine wpIn_skip ?_
      refine blk_n ?_
      refine then_n ?_
      refine wpIn_region_lit ?_
      refine x_run tab hk (k := 2) (lv := []) (ks := [0, 3, 9, 10, 11]) (e' := [(0, .slice (some ad230) (p0).length cp0), (3, .int .i64 (IntKind.wrap .i64 (x213 + (((rdD [] p0 x214)).length : Int)))), (9, .slice (some ad230) (p0).length cp0), (10, .int .i64 ((p0).length : Int)), (11, .int .i64 (IntKind.wrap .i64 (x214 + 1)))]) rfl trivial fun a hk => ?_
      refine wpListIn_nil ?_
      refine then_n ?_
      exact ⟨k225, Nat.le_refl _, o212, (IntKind.wrap .i64 (x213 + (((rdD [] p0 x214)).length : Int))), (IntKind.wrap .i64 (x214 + 1)), (by exact Kn.pick (ks := [0, 3, 9, 10, 11]) hk rfl), hs, f900000, (hlp227 ▸ H)⟩
    · rw [b236] at hk H
      replace H := bifT H
      refine x_if hk (b := true) rfl ?_
      refine (show Code.wpIn _ _ _ _ _ _ _ from ?_)
      refine wpIn_region_lit ?_
      exact absurd H (by simp)

/-! (*tidewrack/spans.Set).Add -/
set_option maxHeartbeats 4000000 in
theorem spans_Set_Add_calls (K : Nat) (bp0 : Nat) (Ap0_0 : Option Addr) (cp0_0 : Nat) (p0 : T25) (Ap1 : Option Addr) (cp1 : Nat) (p1 : List T28) (w : World) (o : Nat → Nat) (Lp0 : Nat) (hp0 : Ft (Bx bp0 26 [.slice Ap0_0 (p0.l).length cp0_0]) w o Lp0) (Lp0_0 : Nat) (hp0_0 : Ft (Own ET28 29 (.slice Ap0_0 (p0.l).length cp0_0) p0.l) w o Lp0_0) (hcp0_0 : (p0.l).length ≤ cp0_0) (Lp1 : Nat) (hp1 : Ft (RdC ET28 Ap1 p1) w o Lp1) (hcp1 : (p1).length ≤ cp1) (hd0 : ([Lp0, Lp0_0] : List Nat).Nodup) (hd1 : Lp1 ∉ [Lp0, Lp0_0]) (r : T25) (H : spans_Set_Add K p0 p1 = some r) :
    Calls Try.prog 9 #[.pointer (some ⟨bp0, 0, none⟩), .slice Ap1 (p1).length cp1] w (Ret fun v_ w' => ∃ o' : Nat → Nat, ∃ A0 : Option Addr, ∃ c0 : Nat, v_ = .tuple #[] ∧ St [Lp0, Lp0_0] w o w' o' ∧ Ft (Bx bp0 26 [.slice A0 (r.l).length c0]) w' o' Lp0 ∧ Ft (Own ET28 29 (.slice A0 (r.l).length c0) (r.l)) w' o' Lp0_0 ∧ (r.l).length ≤ c0) := by
  refine x_enter (vs := [.pointer (some ⟨bp0, 0, none⟩), .slice Ap1 (p1).length cp1]) Try.func9 rfl rfl rfl fun a hk => ?_
  obtain ⟨oi, hs0, h0, h1, hob, hoz, hoa⟩ := St.startM2 w o (m := 2) hd0 rfl
  have hs := hs0 [1, 2]
  have hom := lab_in hob (MM := [1, 2]) (by decide)
  have f900000 := h1 1 2 hp0_0 rfl rfl
  have f900019 := h1 0 1 hp0 rfl rfl
  have f900020 := h0 _ _ hd1 hp1
  clear h0 h1 hs0
  rw [spans_Set_Add] at H
  refine x_scope ?_
  refine x_seq ?_
  refine wpIn_label ?_
  refine then_n ?_
  refine x_seq ?_
  refine wpIn_region_lit ?_
  refine x_run tab hk (k := 3) (lv := []) (ks := [0, 9, 10, 11]) (e' := [(0, .pointer (some ⟨bp0, 0, none⟩)), (9, .slice Ap1 (p1).length cp1), (10, .int .i64 ((p1).length : Int)), (11, .int .i64 0)]) rfl trivial fun a hk => ?_
  refine wpListIn_nil ?_
  refine then_n ?_
  refine wpIn_block ?_
  refine x_loop (fun j_ a_ w_ => ∃ o6574 : Nat → Nat, ∃ A6575 : Option Addr, ∃ c6576 : Nat, ∃ l6577 : List T28, ∃ A6580 : Option Addr, ∃ c6581 : Nat, ∃ x6584 : Int, Kn 79 a_ [(0, .pointer (some ⟨bp0, 0, none⟩)), (9, .slice A6580 (p1).length c6581), (10, .int .i64 ((p1).length : Int)), (11, .int .i64 x6584)] ∧ St [1, 2] w oi w_ o6574 ∧ Ft (Own ET28 29 (.slice A6575 (l6577).length c6576) l6577) w_ o6574 2 ∧ Ft (RdC ET28 A6580 p1) w_ o6574 0 ∧ Ft (Bx bp0 26 [.slice A6575 (l6577).length c6576]) w_ o6574 1 ∧ (l6577).length ≤ c6576 ∧ (p1).length ≤ c6581 ∧ spans_Set_Add_l1 K p1 j_ l6577 x6584 = some r) (k := K) ⟨oi, Ap0_0, cp0_0, p0.l, Ap1, cp1, 0, (by exact Kn.pick (ks := [0, 9, 10, 11]) hk rfl), hs, f900000, f900020, f900019, hcp0_0, hcp1, H⟩ (by rintro _ _ ⟨_, _, _, _, _, _, _, _, _, _, _, _, _, _, H_⟩; exact absurd (show (none : Option T25) = some r from H_) (by simp)) ?_
  rintro k13156 a w13155 ⟨o6574, A6575, c6576, l6577, A6580, c6581, x6584, hk, hs, f6578, f6582, f900019, hc6579, hc6583, H⟩
  rw [spans_Set_Add_l1] at H
  obtain ⟨lp13157, hlp13158⟩ : ∃ lp_, lp_ = spans_Set_Add_l1 K p1 k13156 := ⟨_, rfl⟩
  rw [← hlp13158] at H
  refine x_seq ?_
  refine wpIn_region_lit ?_
  refine x_run tab hk (k := 1) (lv := []) (ks := [0, 9, 10, 11, 12]) (e' := [(0, .pointer (some ⟨bp0, 0, none⟩)), (9, .slice A6580 (p1).length c6581), (10, .int .i64 ((p1).length : Int)), (11, .int .i64 x6584), (12, .bool (decide (x6584 < ((p1).length : Int))))]) rfl trivial fun a hk => ?_
  refine wpListIn_nil ?_
  refine then_n ?_
  refine x_seq ?_
  cases b13159 : (decide (x6584 < ((p1).length : Int)))
  · rw [b13159] at hk H
    replace H := bifF H
    refine x_if hk (b := false) rfl ?_
    refine (show Code.wpIn _ _ _ _ _ _ _ from ?_)
    refine wpIn_exit ?_
    refine then_x ?_
    refine then_x ?_
    refine blk_x ?_
    refine sc_n ?_
    obtain rfl := Option.some.inj H
    exact x_endG hk (rs := []) (vs := []) rfl trivial ⟨fun b_ => if b_ < w.heap.size then o b_ else (fun l_ => if l_ = 1 then Lp0 else if l_ = 2 then Lp0_0 else 0) (o6574 b_), A6575, c6576, rfl, hs.closeM hoz (by decide) (fun l_ => if l_ = 1 then Lp0 else if l_ = 2 then Lp0_0 else 0), hs.closeM_ft (o := o) (ρ := fun l_ => if l_ = 1 then Lp0 else if l_ = 2 then Lp0_0 else 0) f900019 (lab_at hoa (i := 0) rfl) rfl, hs.closeM_ft (o := o) (ρ := fun l_ => if l_ = 1 then Lp0 else if l_ = 2 then Lp0_0 else 0) f6578 (lab_at hoa (i := 1) rfl) rfl, hc6579⟩
  · rw [b13159] at hk H
    replace H := bifT H
    refine x_if hk (b := true) rfl ?_
    refine (show Code.wpIn _ _ _ _ _ _ _ from ?_)
    refine wpIn_skip ?_
    refine then_n ?_
    refine x_mid (fun a_ w_ => ∃ o16446 : Nat → Nat, ∃ A16447 : Option Addr, ∃ c16448 : Nat, ∃ l16449 : List T28, ∃ A16452 : Option Addr, ∃ c16453 : Nat, Kn 79 a_ [(0, .pointer (some ⟨bp0, 0, none⟩)), (9, .slice A16452 (p1).length c16453), (10, .int .i64 ((p1).length : Int)), (11, .int .i64 x6584)] ∧ St [1, 2] w oi w_ o16446 ∧ Ft (Own ET28 29 (.slice A16447 (l16449).length c16448) l16449) w_ o16446 2 ∧ Ft (RdC ET28 A16452 p1) w_ o16446 0 ∧ Ft (Bx bp0 26 [.slice A16447 (l16449).length c16448]) w_ o16446 1 ∧ (l16449).length ≤ c16448 ∧ (p1).length ≤ c16453 ∧ spans_Set_Add_j2 x6584 lp13157 l16449 = some r) ?_ ?_
    rotate_left
    · rintro a w16456 ⟨o16446, A16447, c16448, l16449, A16452, c16453, hk, hs, f16450, f16454, f900019, hc16451, hc16455, H⟩
      rw [spans_Set_Add_j2] at H
      refine wpIn_region_lit ?_
      refine x_run tab hk (k := 2) (lv := []) (ks := [0, 9, 10, 11]) (e' := [(0, .pointer (some ⟨bp0, 0, none⟩)), (9, .slice A16452 (p1).length c16453), (10, .int .i64 ((p1).length : Int)), (11, .int .i64 (IntKind.wrap .i64 (x6584 + 1)))]) rfl trivial fun a hk => ?_
      refine wpListIn_nil ?_
      refine then_n ?_
      exact ⟨k13156, Nat.le_refl _, o16446, A16447, c16448, l16449, A16452, c16453, (IntKind.wrap .i64 (x6584 + 1)), (by exact Kn.pick (ks := [0, 9, 10, 11]) hk rfl), hs, f16450, f16454, f900019, hc16451, hc16455, (hlp13158 ▸ H)⟩
    refine wpIn_block ?_
    refine x_seq ?_
    refine wpIn_region_lit ?_
    obtain ⟨q16457, H⟩ := ifS H
    obtain ⟨ad16458, hAad16458⟩ := RdC.addr f6582.now q16457
    have hk_C := hk
    have f6578_C := f6578
    have f6582_C := f6582
    have f900019_C := f900019
    subst hAad16458
    have hk := hk_C
    clear hk_C
    have f6578 := f6578_C
    clear f6578_C
    have f6582 := f6582_C
    clear f6582_C
    have f900019 := f900019_C
    clear f900019_C
    refine x_run tab hk (k := 2) (lv := [.agg #[.int .i64 ((rdD zT28 p1 x6584).From), .int .i64 ((rdD zT28 p1 x6584).To)]]) (ks := [0, 9, 10, 11, 14]) (e' := [(0, .pointer (some ⟨bp0, 0, none⟩)), (9, .slice (some ad16458) (p1).length c6581), (10, .int .i64 ((p1).length : Int)), (11, .int .i64 x6584), (14, .agg #[.int .i64 ((rdD zT28 p1 x6584).From), .int .i64 ((rdD zT28 p1 x6584).To)])]) rfl ⟨q16457, (load_elem (E := ET28) (i := x6584) (dx := zT28) tab rfl rfl f6582.now q16457), trivial⟩ fun a hk => ?_
    refine x_op hk rfl ?_
    refine op_alloc (o := o6574) tab (t := 29) (cs := [.int .i64 0, .int .i64 0]) rfl rfl 1589 fun bx16462 w16459 o16460 st16461 f16463 => ?_
    replace f6578 := f6578.st st16461 (by decide)
    replace f6582 := f6582.st st16461 (by decide)
    replace f900019 := f900019.st st16461 (by decide)
    replace hs := hs.locM st16461 (by decide) hom
    have hk := hk.put 5 (.pointer (some ⟨bx16462, 0, none⟩)) rfl
    refine x_op hk rfl ?_
    refine op_store tab hk (t := 29) (v := .agg #[.int .i64 ((rdD zT28 p1 x6584).From), .int .i64 ((rdD zT28 p1 x6584).To)]) (b := bx16462) (k := 0) (cs' := [.int .i64 ((rdD zT28 p1 x6584).From), .int .i64 ((rdD zT28 p1 x6584).To)]) rfl rfl rfl rfl rfl rfl f16463 rfl rfl fun w16464 o16465 st16466 f16463_ => ?_
    replace f6578 := f6578.st st16466 (by decide)
    replace f6582 := f6582.st st16466 (by decide)
    replace f900019 := f900019.st st16466 (by decide)
    replace hs := hs.locM st16466 (by decide) hom
    replace f16463 := f16463_
    refine wpListIn_nil ?_
    refine then_n ?_
    refine x_seq ?_
    refine x_seq ?_
    refine wpIn_region_lit ?_
    refine x_run tab hk (k := 1) (lv := [.agg #[.int .i64 ((rdD zT28 p1 x6584).From), .int .i64 ((rdD zT28 p1 x6584).To)]]) (ks := [0, 5, 9, 10, 11, 15]) (e' := [(0, .pointer (some ⟨bp0, 0, none⟩)), (5, .pointer (some ⟨bx16462, 0, none⟩)), (9, .slice (some ad16458) (p1).length c6581), (10, .int .i64 ((p1).length : Int)), (11, .int .i64 x6584), (15, .agg #[.int .i64 ((rdD zT28 p1 x6584).From), .int .i64 ((rdD zT28 p1 x6584).To)])]) rfl ⟨(load_box tab rfl rfl f16463.now (k := 0) rfl rfl), trivial⟩ fun a hk => ?_
    refine x_op hk rfl ?_
    obtain ⟨t16470, hc16471, H⟩ := bindS H
    refine op_call hk ent_24 (vs := [.agg #[.int .i64 ((rdD zT28 p1 x6584).From), .int .i64 ((rdD zT28 p1 x6584).To)]]) rfl (spans_Span_fit_calls (rdD zT28 p1 x6584) _ o16465    _ hc16471) ?_
    rintro _ w16472 ⟨o16473, rfl, st16474⟩
    replace f16463 := f16463.st st16474 (by decide)
    replace f6578 := f6578.st st16474 (by decide)
    replace f6582 := f6582.st st16474 (by decide)
    replace f900019 := f900019.st st16474 (by decide)
    replace hs := hs.locM st16474 (by decide) hom
    have hk := hk.put 16 (.agg #[.int .i64 t16470.From, .int .i64 t16470.To]) rfl
    refine x_op hk rfl ?_
    refine op_store tab hk (t := 29) (v := .agg #[.int .i64 t16470.From, .int .i64 t16470.To]) (b := bx16462) (k := 0) (cs' := [.int .i64 t16470.From, .int .i64 t16470.To]) rfl rfl rfl rfl rfl rfl f16463 rfl rfl fun w16475 o16476 st16477 f16463_ => ?_
    replace f6578 := f6578.st st16477 (by decide)
    replace f6582 := f6582.st st16477 (by decide)
    replace f900019 := f900019.st st16477 (by decide)
    replace hs := hs.locM st16477 (by decide) hom
    replace f16463 := f16463_
    refine wpListIn_nil ?_
    refine then_n ?_
    refine x_seq ?_
    refine wpIn_region_lit ?_
    refine x_run tab hk (k := 1) (lv := [.agg #[.int .i64 t16470.From, .int .i64 t16470.To]]) (ks := [0, 5, 9, 10, 11, 17]) (e' := [(0, .pointer (some ⟨bp0, 0, none⟩)), (5, .pointer (some ⟨bx16462, 0, none⟩)), (9, .slice (some ad16458) (p1).length c6581), (10, .int .i64 ((p1).length : Int)), (11, .int .i64 x6584), (17, .agg #[.int .i64 t16470.From, .int .i64 t16470.To])]) rfl ⟨(load_box tab rfl rfl f16463.now (k := 0) rfl rfl), trivial⟩ fun a hk => ?_
    refine x_op hk rfl ?_
    obtain ⟨t16481, hc16482, H⟩ := bindS H
    refine op_call hk ent_25 (vs := [.agg #[.int .i64 t16470.From, .int .i64 t16470.To]]) rfl (spans_Span_empty_calls t16470 _ o16476    _ hc16482) ?_
    rintro _ w16483 ⟨o16484, rfl, st16485⟩
    replace f16463 := f16463.st st16485 (by decide)
    replace f6578 := f6578.st st16485 (by decide)
    replace f6582 := f6582.st st16485 (by decide)
    replace f900019 := f900019.st st16485 (by decide)
    replace hs := hs.locM st16485 (by decide) hom
    have hk := hk.put 18 (.bool t16481) rfl
    refine wpListIn_nil ?_
    refine then_n ?_
    cases b16486 : t16481
    · rw [b16486] at hk H
      replace H := bifF H
      refine x_if hk (b := false) rfl ?_
      refine (show Code.wpIn _ _ _ _ _ _ _ from ?_)
      refine wpIn_skip ?_
      refine then_n ?_
      refine x_seq ?_
      refine wpIn_region_lit ?_
      refine x_run tab hk (k := 1) (lv := []) (ks := [0, 5, 6, 9, 10, 11]) (e' := [(0, .pointer (some ⟨bp0, 0, none⟩)), (5, .pointer (some ⟨bx16462, 0, none⟩)), (6, .slice none 0 0), (9, .slice (some ad16458) (p1).length c6581), (10, .int .i64 ((p1).length : Int)), (11, .int .i64 x6584)]) rfl trivial fun a hk => ?_
      refine wpListIn_nil ?_
      refine then_n ?_
      refine x_mid (fun a_ w_ => ∃ o18101 : Nat → Nat, ∃ x18102 : T28, ∃ A18103 : Option Addr, ∃ c18104 : Nat, ∃ l18105 : List T28, Kn 79 a_ [(0, .pointer (some ⟨bp0, 0, none⟩)), (5, .pointer (some ⟨bx16462, 0, none⟩)), (6, .slice A18103 (l18105).length c18104), (9, .slice (some ad16458) (p1).length c6581), (10, .int .i64 ((p1).length : Int)), (11, .int .i64 x6584)] ∧ St [1, 2] w oi w_ o18101 ∧ Ft (Bx bx16462 29 [.int .i64 x18102.From, .int .i64 x18102.To]) w_ o18101 1747 ∧ Ft (Own ET28 29 (.slice A18103 (l18105).length c18104) l18105) w_ o18101 1748 ∧ Ft (Own ET28 29 (.slice A6575 (l6577).length c6576) l6577) w_ o18101 2 ∧ Ft (RdC ET28 (some ad16458) p1) w_ o18101 0 ∧ Ft (Bx bp0 26 [.slice A6575 (l6577).length c6576]) w_ o18101 1 ∧ (l18105).length ≤ c18104 ∧ spans_Set_Add_j3 x6584 lp13157 x18102 l18105 = some r) ?_ ?_
      rotate_left
      · rintro a w18108 ⟨o18101, x18102, A18103, c18104, l18105, hk, hs, f16463, f18106, f6578, f6582, f900019, hc18107, H⟩
        rw [spans_Set_Add_j3] at H
        refine wpIn_region_lit ?_
        refine x_run tab hk (k := 3) (lv := [.agg #[.int .i64 x18102.From, .int .i64 x18102.To]]) (ks := [0, 9, 10, 11, 71, 72, 73]) (e' := [(0, .pointer (some ⟨bp0, 0, none⟩)), (9, .slice (some ad16458) (p1).length c6581), (10, .int .i64 ((p1).length : Int)), (11, .int .i64 x6584), (71, .pointer (some ⟨bp0, 0, none⟩)), (72, .slice A18103 (l18105).length c18104), (73, .agg #[.int .i64 x18102.From, .int .i64 x18102.To])]) rfl ⟨(load_box tab rfl rfl f16463.now (k := 0) rfl rfl), trivial⟩ fun a hk => ?_
        refine x_op hk rfl ?_
        refine op_slice (o := o18101) tab hk (vs := [.agg #[.int .i64 x18102.From, .int .i64 x18102.To]]) (cs := [.int .i64 x18102.From, .int .i64 x18102.To]) rfl rfl rfl rfl rfl rfl rfl rfl rfl 1749 fun bx18112 w18109 o18110 st18111 f18113 => ?_
        replace f18106 := f18106.st st18111 (by decide)
        replace f6578 := f6578.st st18111 (by decide)
        replace f6582 := f6582.st st18111 (by decide)
        replace f900019 := f900019.st st18111 (by decide)
        replace hs := hs.locM st18111 (by decide) hom
        have f18114 : Ft (Own ET28 29 (.slice (some ⟨bx18112, 0, none⟩) (([x18102] : List T28)).length 1) ([x18102] : List T28)) w18109 o18110 1749 := f18113.imp fun _ h_ => Own.of_box h_ rfl (by simp)
        have hk := hk.put 74 (.slice (some ⟨bx18112, 0, none⟩) (([x18102] : List T28)).length 1) rfl
        refine x_op hk rfl ?_
        obtain ⟨q18118, H⟩ := ifS H
        refine op_append (o := o18110) (E := ET28) (xs := l18105) (ys := ([x18102] : List T28)) tab hk rfl rfl rfl rfl rfl rfl rfl f18106 (Own.rd f18114.now) q18118 fun A18119 c18120 w18115 o18116 st18117 f18121 hc18122 => ?_
        replace f18114 := f18114.st st18117 (by decide)
        replace f6578 := f6578.st st18117 (by decide)
        replace f6582 := f6582.st st18117 (by decide)
        replace f900019 := f900019.st st18117 (by decide)
        replace hs := hs.locM st18117 (by decide) hom
        have hk := hk.put 75 (.slice A18119 ((l18105 ++ ([x18102] : List T28))).length c18120) rfl
        refine x_run tab hk (k := 2) (lv := []) (ks := [0, 9, 10, 11, 75, 77]) (e' := [(0, .pointer (some ⟨bp0, 0, none⟩)), (9, .slice (some ad16458) (p1).length c6581), (10, .int .i64 ((p1).length : Int)), (11, .int .i64 x6584), (75, .slice A18119 ((l18105 ++ ([x18102] : List T28))).length c18120), (77, .pointer (some ⟨bp0, 0, none⟩))]) rfl trivial fun a hk => ?_
        refine x_op hk rfl ?_
        refine op_store tab hk (t := 24) (v := .slice A18119 ((l18105 ++ ([x18102] : List T28))).length c18120) (b := bp0) (k := 0) (cs' := [.slice A18119 ((l18105 ++ ([x18102] : List T28))).length c18120]) rfl rfl rfl rfl rfl rfl f900019 rfl rfl fun w18123 o18124 st18125 f900019_ => ?_
        replace f18121 := f18121.st st18125 (by decide)
        replace f6578 := f6578.st st18125 (by decide)
        replace f6582 := f6582.st st18125 (by decide)
        replace hs := hs.locM st18125 (by decide) hom
        replace f900019 := f900019_
        refine wpListIn_nil ?_
        refine blk_n ?_
        refine then_n ?_
        exact ⟨(fun b_ => (fun l_ => if l_ = 1748 then 2 else l_) (o18124 b_)), A18119, c18120, (l18105 ++ ([x18102] : List T28)), (some ad16458), c6581, (by exact Kn.pick (ks := [0, 9, 10, 11]) hk rfl), (hs.relabM hob (fun l_ => if l_ = 1748 then 2 else l_) (by decide)), (f18121.relab (fun l_ => if l_ = 1748 then 2 else l_) rfl), (f6582.relab (fun l_ => if l_ = 1748 then 2 else l_) rfl), (f900019.relab (fun l_ => if l_ = 1748 then 2 else l_) rfl), hc18122, hc6583, H⟩
      refine x_seq ?_
      refine wpIn_region_lit ?_
      refine x_run tab hk (k := 6) (lv := [.slice A6575 (l6577).length c6576]) (ks := [0, 5, 6, 9, 10, 11, 22, 23, 24]) (e' := [(0, .pointer (some ⟨bp0, 0, none⟩)), (5, .pointer (some ⟨bx16462, 0, none⟩)), (6, .slice none 0 0), (9, .slice (some ad16458) (p1).length c6581), (10, .int .i64 ((p1).length : Int)), (11, .int .i64 x6584), (22, .slice A6575 (l6577).length c6576), (23, .int .i64 ((l6577).length : Int)), (24, .int .i64 0)]) rfl ⟨(load1 tab rfl ((Bx.cell f900019.now 0).trans rfl)), trivial⟩ fun a hk => ?_
      refine wpListIn_nil ?_
      refine then_n ?_
      refine wpIn_block ?_
      refine x_loop (fun j_ a_ w_ => ∃ o18655 : Nat → Nat, ∃ x18656 : T28, ∃ A18657 : Option Addr, ∃ c18658 : Nat, ∃ l18659 : List T28, ∃ x18662 : Int, Kn 79 a_ [(0, .pointer (some ⟨bp0, 0, none⟩)), (5, .pointer (some ⟨bx16462, 0, none⟩)), (6, .slice A18657 (l18659).length c18658), (9, .slice (some ad16458) (p1).length c6581), (10, .int .i64 ((p1).length : Int)), (11, .int .i64 x6584), (22, .slice A6575 (l6577).length c6576), (23, .int .i64 ((l6577).length : Int)), (24, .int .i64 x18662)] ∧ St [1, 2] w oi w_ o18655 ∧ Ft (Bx bx16462 29 [.int .i64 x18656.From, .int .i64 x18656.To]) w_ o18655 1800 ∧ Ft (Own ET28 29 (.slice A18657 (l18659).length c18658) l18659) w_ o18655 1801 ∧ Ft (Own ET28 29 (.slice A6575 (l6577).length c6576) l6577) w_ o18655 2 ∧ Ft (RdC ET28 (some ad16458) p1) w_ o18655 0 ∧ Ft (Bx bp0 26 [.slice A6575 (l6577).length c6576]) w_ o18655 1 ∧ (l18659).length ≤ c18658 ∧ spans_Set_Add_l4 K l6577 x6584 lp13157 j_ x18656 l18659 x18662 = some r) (k := K) ⟨(fun b_ => (fun l_ => if l_ = 1589 then 1800 else l_) (o16484 b_)), t16470, none, 0, ([] : List T28), 0, (by exact Kn.pick (ks := [0, 5, 6, 9, 10, 11, 22, 23, 24]) hk rfl), (hs.relabM hob (fun l_ => if l_ = 1589 then 1800 else l_) (by decide)), (f16463.relab (fun l_ => if l_ = 1589 then 1800 else l_) rfl), (Ft.of_all (fun _ => Own.nil _ _ _) _ _ _), (f6578.relab (fun l_ => if l_ = 1589 then 1800 else l_) rfl), (f6582.relab (fun l_ => if l_ = 1589 then 1800 else l_) rfl), (f900019.relab (fun l_ => if l_ = 1589 then 1800 else l_) rfl), (by simp), H⟩ (by rintro _ _ ⟨_, _, _, _, _, _, _, _, _, _, _, _, _, _, H_⟩; exact absurd (show (none : Option T25) = some r from H_) (by simp)) ?_
      rintro k19195 a w19194 ⟨o18655, x18656, A18657, c18658, l18659, x18662, hk, hs, f16463, f18660, f6578, f6582, f900019, hc18661, H⟩
      rw [spans_Set_Add_l4] at H
      obtain ⟨lp19196, hlp19197⟩ : ∃ lp_, lp_ = spans_Set_Add_l4 K l6577 x6584 lp13157 k19195 := ⟨_, rfl⟩
      rw [← hlp19197] at H
      refine x_seq ?_
      refine wpIn_region_lit ?_
      refine x_run tab hk (k := 1) (lv := []) (ks := [0, 5, 6, 9, 10, 11, 22, 23, 24, 25]) (e' := [(0, .pointer (some ⟨bp0, 0, none⟩)), (5, .pointer (some ⟨bx16462, 0, none⟩)), (6, .slice A18657 (l18659).length c18658), (9, .slice (some ad16458) (p1).length c6581), (10, .int .i64 ((p1).length : Int)), (11, .int .i64 x6584), (22, .slice A6575 (l6577).length c6576), (23, .int .i64 ((l6577).length : Int)), (24, .int .i64 x18662), (25, .bool (decide (x18662 < ((l6577).length : Int))))]) rfl trivial fun a hk => ?_
      refine wpListIn_nil ?_
      refine then_n ?_
      refine x_seq ?_
      cases b19198 : (decide (x18662 < ((l6577).length : Int)))
      · rw [b19198] at hk H
        replace H := bifF H
        refine x_if hk (b := false) rfl ?_
        refine (show Code.wpIn _ _ _ _ _ _ _ from ?_)
        refine wpIn_exit ?_
        refine then_x ?_
        refine then_x ?_
        refine blk_x ?_
        refine then_n ?_
        exact ⟨(fun b_ => (fun l_ => if l_ = 1800 then 1747 else if l_ = 1801 then 1748 else l_) (o18655 b_)), x18656, A18657, c18658, l18659, (by exact Kn.pick (ks := [0, 5, 6, 9, 10, 11]) hk rfl), (hs.relabM hob (fun l_ => if l_ = 1800 then 1747 else if l_ = 1801 then 1748 else l_) (by decide)), (f16463.relab (fun l_ => if l_ = 1800 then 1747 else if l_ = 1801 then 1748 else l_) rfl), (f18660.relab (fun l_ => if l_ = 1800 then 1747 else if l_ = 1801 then 1748 else l_) rfl), (f6578.relab (fun l_ => if l_ = 1800 then 1747 else if l_ = 1801 then 1748 else l_) rfl), (f6582.relab (fun l_ => if l_ = 1800 then 1747 else if l_ = 1801 then 1748 else l_) rfl), (f900019.relab (fun l_ => if l_ = 1800 then 1747 else if l_ = 1801 then 1748 else l_) rfl), hc18661, H⟩
      · rw [b19198] at hk H
        replace H := bifT H
        refine x_if hk (b := true) rfl ?_
        refine (show Code.wpIn _ _ _ _ _ _ _ from ?_)
        refine wpIn_skip ?_
        refine then_n ?_
        refine x_seq ?_
        refine wpIn_block ?_
        refine x_seq ?_
        refine wpIn_region_lit ?_
        obtain ⟨q19199, H⟩ := ifS H
        obtain ⟨ad19200, hAad19200⟩ := RdC.addr (Own.rd f6578.now) q19199
        have hk_C := hk
        have f16463_C := f16463
        have f18660_C := f18660
        have f6578_C := f6578
        have f6582_C := f6582
        have f900019_C := f900019
        subst hAad19200
        have hk := hk_C
        clear hk_C
        have f16463 := f16463_C
        clear f16463_C
        have f18660 := f18660_C
        clear f18660_C
        have f6578 := f6578_C
        clear f6578_C
        have f6582 := f6582_C
        clear f6582_C
        have f900019 := f900019_C
        clear f900019_C
        refine x_run tab hk (k := 3) (lv := [.agg #[.int .i64 ((rdD zT28 l6577 x18662).From), .int .i64 ((rdD zT28 l6577 x18662).To)]]) (ks := [0, 5, 6, 9, 10, 11, 22, 23, 24, 26, 28]) (e' := [(0, .pointer (some ⟨bp0, 0, none⟩)), (5, .pointer (some ⟨bx16462, 0, none⟩)), (6, .slice A18657 (l18659).length c18658), (9, .slice (some ad16458) (p1).length c6581), (10, .int .i64 ((p1).length : Int)), (11, .int .i64 x6584), (22, .slice (some ad19200) (l6577).length c6576), (23, .int .i64 ((l6577).length : Int)), (24, .int .i64 x18662), (26, .int .i64 x18662), (28, .agg #[.int .i64 ((rdD zT28 l6577 x18662).From), .int .i64 ((rdD zT28 l6577 x18662).To)])]) rfl ⟨q19199, (load_elem (E := ET28) (i := x18662) (dx := zT28) tab rfl rfl (Own.rd f6578.now) q19199), trivial⟩ fun a hk => ?_
        refine x_op hk rfl ?_
        refine op_alloc (o := o18655) tab (t := 29) (cs := [.int .i64 0, .int .i64 0]) rfl rfl 1854 fun bx19204 w19201 o19202 st19203 f19205 => ?_
        replace f16463 := f16463.st st19203 (by decide)
        replace f18660 := f18660.st st19203 (by decide)
        replace f6578 := f6578.st st19203 (by decide)
        replace f6582 := f6582.st st19203 (by decide)
        replace f900019 := f900019.st st19203 (by decide)
        replace hs := hs.locM st19203 (by decide) hom
        have hk := hk.put 8 (.pointer (some ⟨bx19204, 0, none⟩)) rfl
        refine x_run tab hk (k := 1) (lv := []) (ks := [0, 5, 6, 7, 8, 9, 10, 11, 22, 23, 24, 28]) (e' := [(0, .pointer (some ⟨bp0, 0, none⟩)), (5, .pointer (some ⟨bx16462, 0, none⟩)), (6, .slice A18657 (l18659).length c18658), (7, .int .i64 x18662), (8, .pointer (some ⟨bx19204, 0, none⟩)), (9, .slice (some ad16458) (p1).length c6581), (10, .int .i64 ((p1).length : Int)), (11, .int .i64 x6584), (22, .slice (some ad19200) (l6577).length c6576), (23, .int .i64 ((l6577).length : Int)), (24, .int .i64 x18662), (28, .agg #[.int .i64 ((rdD zT28 l6577 x18662).From), .int .i64 ((rdD zT28 l6577 x18662).To)])]) rfl trivial fun a hk => ?_
        refine x_op hk rfl ?_
        refine op_store tab hk (t := 29) (v := .agg #[.int .i64 ((rdD zT28 l6577 x18662).From), .int .i64 ((rdD zT28 l6577 x18662).To)]) (b := bx19204) (k := 0) (cs' := [.int .i64 ((rdD zT28 l6577 x18662).From), .int .i64 ((rdD zT28 l6577 x18662).To)]) rfl rfl rfl rfl rfl rfl f19205 rfl rfl fun w19206 o19207 st19208 f19205_ => ?_
        replace f16463 := f16463.st st19208 (by decide)
        replace f18660 := f18660.st st19208 (by decide)
        replace f6578 := f6578.st st19208 (by decide)
        replace f6582 := f6582.st st19208 (by decide)
        replace f900019 := f900019.st st19208 (by decide)
        replace hs := hs.locM st19208 (by decide) hom
        replace f19205 := f19205_
        refine wpListIn_nil ?_
        refine then_n ?_
        refine wpIn_block ?_
        refine x_seq ?_
        refine wpIn_region_lit ?_
        refine x_run tab hk (k := 6) (lv := [.int .i64 ((rdD zT28 l6577 x18662).To), .int .i64 x18656.From]) (ks := [0, 5, 6, 7, 8, 9, 10, 11, 22, 23, 24, 40]) (e' := [(0, .pointer (some ⟨bp0, 0, none⟩)), (5, .pointer (some ⟨bx16462, 0, none⟩)), (6, .slice A18657 (l18659).length c18658), (7, .int .i64 x18662), (8, .pointer (some ⟨bx19204, 0, none⟩)), (9, .slice (some ad16458) (p1).length c6581), (10, .int .i64 ((p1).length : Int)), (11, .int .i64 x6584), (22, .slice (some ad19200) (l6577).length c6576), (23, .int .i64 ((l6577).length : Int)), (24, .int .i64 x18662), (40, .bool (decide (((rdD zT28 l6577 x18662).To) < x18656.From)))]) rfl ⟨(load1 tab rfl ((Bx.cell f19205.now 1).trans rfl)), (load1 tab rfl ((Bx.cell f16463.now 0).trans rfl)), trivial⟩ fun a hk => ?_
        refine wpListIn_nil ?_
        refine then_n ?_
        cases b19209 : (decide (((rdD zT28 l6577 x18662).To) < x18656.From))
        · rw [b19209] at hk H
          replace H := bifF H
          refine x_if hk (b := false) rfl ?_
          refine (show Code.wpIn _ _ _ _ _ _ _ from ?_)
          refine x_seq ?_
          refine wpIn_region_lit ?_
          refine x_run tab hk (k := 6) (lv := [.int .i64 ((rdD zT28 l6577 x18662).From), .int .i64 x18656.To]) (ks := [0, 5, 6, 7, 8, 9, 10, 11, 22, 23, 24, 50]) (e' := [(0, .pointer (some ⟨bp0, 0, none⟩)), (5, .pointer (some ⟨bx16462, 0, none⟩)), (6, .slice A18657 (l18659).length c18658), (7, .int .i64 x18662), (8, .pointer (some ⟨bx19204, 0, none⟩)), (9, .slice (some ad16458) (p1).length c6581), (10, .int .i64 ((p1).length : Int)), (11, .int .i64 x6584), (22, .slice (some ad19200) (l6577).length c6576), (23, .int .i64 ((l6577).length : Int)), (24, .int .i64 x18662), (50, .bool (decide (((rdD zT28 l6577 x18662).From) > x18656.To)))]) rfl ⟨(load1 tab rfl ((Bx.cell f19205.now 0).trans rfl)), (load1 tab rfl ((Bx.cell f16463.now 1).trans rfl)), trivial⟩ fun a hk => ?_
          refine wpListIn_nil ?_
          refine then_n ?_
          cases b19210 : (decide (((rdD zT28 l6577 x18662).From) > x18656.To))
          · rw [b19210] at hk H
            replace H := bifF H
            refine x_if hk (b := false) rfl ?_
            refine (show Code.wpIn _ _ _ _ _ _ _ from ?_)
            refine wpIn_region_lit ?_
            refine x_run tab hk (k := 10) (lv := [.int .i64 x18656.From, .int .i64 ((rdD zT28 l6577 x18662).From), .int .i64 x18656.To, .int .i64 ((rdD zT28 l6577 x18662).To)]) (ks := [0, 5, 6, 9, 10, 11, 22, 23, 24, 33, 38]) (e' := [(0, .pointer (some ⟨bp0, 0, none⟩)), (5, .pointer (some ⟨bx16462, 0, none⟩)), (6, .slice A18657 (l18659).length c18658), (9, .slice (some ad16458) (p1).length c6581), (10, .int .i64 ((p1).length : Int)), (11, .int .i64 x6584), (22, .slice (some ad19200) (l6577).length c6576), (23, .int .i64 ((l6577).length : Int)), (24, .int .i64 x18662), (33, .int .i64 (mnI x18656.From ((rdD zT28 l6577 x18662).From))), (38, .int .i64 (mxI x18656.To ((rdD zT28 l6577 x18662).To)))]) rfl ⟨(load1 tab rfl ((Bx.cell f16463.now 0).trans rfl)), (load1 tab rfl ((Bx.cell f19205.now 0).trans rfl)), (load1 tab rfl ((Bx.cell f16463.now 1).trans rfl)), (load1 tab rfl ((Bx.cell f19205.now 1).trans rfl)), trivial⟩ fun a hk => ?_
            refine x_run tab hk (k := 1) (lv := []) (ks := [0, 5, 6, 9, 10, 11, 22, 23, 24, 39]) (e' := [(0, .pointer (some ⟨bp0, 0, none⟩)), (5, .pointer (some ⟨bx16462, 0, none⟩)), (6, .slice A18657 (l18659).length c18658), (9, .slice (some ad16458) (p1).length c6581), (10, .int .i64 ((p1).length : Int)), (11, .int .i64 x6584), (22, .slice (some ad19200) (l6577).length c6576), (23, .int .i64 ((l6577).length : Int)), (24, .int .i64 x18662), (39, .agg #[.int .i64 (mnI x18656.From ((rdD zT28 l6577 x18662).From)), .int .i64 (mxI x18656.To ((rdD zT28 l6577 x18662).To))])]) rfl trivial fun a hk => ?_
            refine x_op hk rfl ?_
            refine op_store tab hk (t := 29) (v := .agg #[.int .i64 (mnI x18656.From ((rdD zT28 l6577 x18662).From)), .int .i64 (mxI x18656.To ((rdD zT28 l6577 x18662).To))]) (b := bx16462) (k := 0) (cs' := [.int .i64 (mnI x18656.From ((rdD zT28 l6577 x18662).From)), .int .i64 (mxI x18656.To ((rdD zT28 l6577 x18662).To))]) rfl rfl rfl rfl rfl rfl f16463 rfl rfl fun w19211 o19212 st19213 f16463_ => ?_
            replace f18660 := f18660.st st19213 (by decide)
            replace f6578 := f6578.st st19213 (by decide)
            replace f6582 := f6582.st st19213 (by decide)
            replace f900019 := f900019.st st19213 (by decide)
            replace hs := hs.locM st19213 (by decide) hom
            replace f16463 := f16463_
            refine wpListIn_nil ?_
            refine blk_n ?_
            refine blk_n ?_
            refine then_n ?_
            refine wpIn_region_lit ?_
            refine x_run tab hk (k := 2) (lv := []) (ks := [0, 5, 6, 9, 10, 11, 22, 23, 24]) (e' := [(0, .pointer (some ⟨bp0, 0, none⟩)), (5, .pointer (some ⟨bx16462, 0, none⟩)), (6, .slice A18657 (l18659).length c18658), (9, .slice (some ad16458) (p1).length c6581), (10, .int .i64 ((p1).length : Int)), (11, .int .i64 x6584), (22, .slice (some ad19200) (l6577).length c6576), (23, .int .i64 ((l6577).length : Int)), (24, .int .i64 (IntKind.wrap .i64 (x18662 + 1)))]) rfl trivial fun a hk => ?_
            refine wpListIn_nil ?_
            refine then_n ?_
            exact ⟨k19195, Nat.le_refl _, o19212, (⟨(mnI x18656.From ((rdD zT28 l6577 x18662).From)), (mxI x18656.To ((rdD zT28 l6577 x18662).To))⟩ : T28), A18657, c18658, l18659, (IntKind.wrap .i64 (x18662 + 1)), (by exact Kn.pick (ks := [0, 5, 6, 9, 10, 11, 22, 23, 24]) hk rfl), hs, f16463, f18660, f6578, f6582, f900019, hc18661, (hlp19197 ▸ H)⟩
          · rw [b19210] at hk H
            replace H := bifT H
            refine x_if hk (b := true) rfl ?_
            refine (show Code.wpIn _ _ _ _ _ _ _ from ?_)
            refine x_seq ?_
            refine x_cut (fun a_ w_ => ∃ o19484 : Nat → Nat, ∃ A19485 : Option Addr, ∃ c19486 : Nat, ∃ l19487 : List T28, Kn 79 a_ [(0, .pointer (some ⟨bp0, 0, none⟩)), (9, .slice (some ad16458) (p1).length c6581), (10, .int .i64 ((p1).length : Int)), (11, .int .i64 x6584)] ∧ St [1, 2] w oi w_ o19484 ∧ Ft (Own ET28 29 (.slice A19485 (l19487).length c19486) l19487) w_ o19484 1881 ∧ Ft (RdC ET28 (some ad16458) p1) w_ o19484 0 ∧ Ft (Bx bp0 26 [.slice A19485 (l19487).length c19486]) w_ o19484 1 ∧ (l19487).length ≤ c19486 ∧ spans_Set_Add_j5 x6584 lp13157 l19487 = some r) ?_ ?_
            rotate_left
            · rintro a w19490 ⟨o19484, A19485, c19486, l19487, hk, hs, f19488, f6582, f900019, hc19489, H⟩
              rw [spans_Set_Add_j5] at H
              refine then_n ?_
              refine wpIn_exit ?_
              refine blk_y rfl ?_
              refine blk_y rfl ?_
              refine then_x ?_
              refine then_x ?_
              refine blk_y rfl ?_
              refine then_x ?_
              refine blk_x ?_
              refine then_n ?_
              exact ⟨(fun b_ => (fun l_ => if l_ = 1881 then 2 else l_) (o19484 b_)), A19485, c19486, l19487, (some ad16458), c6581, (by exact Kn.pick (ks := [0, 9, 10, 11]) hk rfl), (hs.relabM hob (fun l_ => if l_ = 1881 then 2 else l_) (by decide)), (f19488.relab (fun l_ => if l_ = 1881 then 2 else l_) rfl), (f6582.relab (fun l_ => if l_ = 1881 then 2 else l_) rfl), (f900019.relab (fun l_ => if l_ = 1881 then 2 else l_) rfl), hc19489, hc6583, H⟩
            obtain ⟨q19533, H⟩ := ifS H
            obtain ⟨q19534, H⟩ := ifS H
            obtain ⟨t19549, hc19550, H⟩ := bindS H
            refine xd_begin (o := o19207) (fun W_ => (Bx bx16462 29 [.int .i64 x18656.From, .int .i64 x18656.To]) W_ ∧ True) mixed rfl rfl fun w19627 st19628 => ?_
            replace f16463 := f16463.st st19628 (by decide)
            replace f18660 := f18660.st st19628 (by decide)
            replace f19205 := f19205.st st19628 (by decide)
            replace f6578 := f6578.st st19628 (by decide)
            replace f6582 := f6582.st st19628 (by decide)
            replace f900019 := f900019.st st19628 (by decide)
            replace hs := hs.locM st19628 (by decide) hom
            refine xd_abs fun G hG => ?_
            have N19650 : ∀ (a_ : Act) (w_ : World), (∃ o19644 : Nat → Nat, ∃ A19645 : Option Addr, ∃ c19646 : Nat, Kn 79 a_ [(0, .pointer (some ⟨bp0, 0, none⟩)), (9, .slice (some ad16458) (p1).length c6581), (10, .int .i64 ((p1).length : Int)), (11, .int .i64 x6584), (56, .pointer (some ⟨bp0, 0, none⟩)), (57, .slice A18657 (l18659).length c18658), (59, .slice A19645 (([x18656] : List T28)).length c19646), (62, .pointer (some ⟨bp0, 0, none⟩)), (64, .int .i64 x18662)] ∧ St [1, 2] w oi w_ o19644 ∧ Ft (Bx bx16462 29 [.int .i64 x18656.From, .int .i64 x18656.To]) w_ o19644 1895 ∧ Ft (Own ET28 29 (.slice A18657 (l18659).length c18658) l18659) w_ o19644 1896 ∧ Ft (Own ET28 29 (.slice A19645 (([x18656] : List T28)).length c19646) ([x18656] : List T28)) w_ o19644 1897 ∧ Ft (Own ET28 29 (.slice (some ad19200) (l6577).length c6576) l6577) w_ o19644 2 ∧ Ft (RdC ET28 (some ad16458) p1) w_ o19644 0 ∧ Ft (Bx bp0 26 [.slice (some ad19200) (l6577).length c6576]) w_ o19644 1 ∧ (([x18656] : List T28)).length ≤ c19646) → G 7 #[true, true, true, true, true, true, true, false, true, false, false, false, false, false, false] a_ w_ := by
              rintro a w19649 ⟨o19644, A19645, c19646, hk, hs, f16463, f18660, f19647, f6578, f6582, f900019, hc19648⟩
              refine xd_of hG ?_
              refine xd_op hk (i := 7) (by kernel_rfl) rfl rfl ?_
              refine op_quiet tab hk (lv := [.slice (some ad19200) (l6577).length c6576]) (v := .slice (some ad19200) (l6577).length c6576) rfl ⟨(load1 tab rfl ((Bx.cell f900019.now 0).trans rfl)), trivial⟩ ?_
              have hk := hk.put 63 (.slice (some ad19200) (l6577).length c6576) rfl
              refine ⟨.inr ⟨f16463.now, trivial⟩, ?_⟩
              obtain ⟨A19651, c19652, ak19654, f19653, hc19655⟩ := ask_cut (P := Try.prog) tab (t := 24) rfl rfl (f6578.imp fun _ h_ => Own.rd h_) hc6579 (some (.int .i64 x18662)) none rfl ⟨q19533, (by have := q19534; omega), trivial⟩ (by have := q19533; have := q19534; omega) (Nat.le_refl _)
              refine xd_take tab hk (k := 5) (is := [9]) (ls' := #[true, true, true, true, true, true, true, true, true, true, false, false, false, false, false]) (lv := [.slice A19651 ((List.drop (Int.toNat x18662) (List.take (l6577).length l6577))).length c19652]) (ks := [0, 9, 10, 11, 56, 57, 59, 65]) (e' := [(0, .pointer (some ⟨bp0, 0, none⟩)), (9, .slice (some ad16458) (p1).length c6581), (10, .int .i64 ((p1).length : Int)), (11, .int .i64 x6584), (56, .pointer (some ⟨bp0, 0, none⟩)), (57, .slice A18657 (l18659).length c18658), (59, .slice A19645 (([x18656] : List T28)).length c19646), (65, .slice A19651 ((List.drop (Int.toNat x18662) (List.take (l6577).length l6577))).length c19652)]) (by kernel_rfl) rfl rfl (by kernel_rfl) (np_then (np_then (np_blk (np_blk (np_then (np_then (np_blk (np_then (np_blk (np_then (np_then (np_blk (np_sc np_body))))))))))))) ⟨f16463.now, trivial⟩ (fun W_ hS => ⟨(ak19654 rfl rfl rfl _), trivial⟩) fun a hk => ?_
              refine xd_op hk (i := 10) (by kernel_rfl) rfl rfl ?_
              refine op_slice (o := o19644) tab hk (vs := [.slice A18657 (l18659).length c18658, .slice A19645 (([x18656] : List T28)).length c19646, .slice A19651 ((List.drop (Int.toNat x18662) (List.take (l6577).length l6577))).length c19652]) (cs := [.slice A18657 (l18659).length c18658, .slice A19645 (([x18656] : List T28)).length c19646, .slice A19651 ((List.drop (Int.toNat x18662) (List.take (l6577).length l6577))).length c19652]) rfl rfl rfl rfl rfl rfl rfl rfl rfl 1898 fun bx19659 w19656 o19657 st19658 f19660 => ?_
              replace f16463 := f16463.st st19658 (by decide)
              replace f18660 := f18660.st st19658 (by decide)
              replace f19647 := f19647.st st19658 (by decide)
              replace f19653 := f19653.st st19658 (by decide)
              replace f6578 := f6578.st st19658 (by decide)
              replace f6582 := f6582.st st19658 (by decide)
              replace f900019 := f900019.st st19658 (by decide)
              replace hs := hs.locM st19658 (by decide) hom
              have hk := hk.put 66 (.slice (some ⟨bx19659, 0, none⟩) 3 3) rfl
              refine ⟨.inr ⟨f16463.now, trivial⟩, ?_⟩
              refine xd_op hk (i := 11) (by kernel_rfl) rfl rfl ?_
              have f19664 : NRd (dRows ET28) (some ⟨bx19659, 0, none⟩) ([l18659, ([x18656] : List T28), (List.drop (Int.toNat x18662) (List.take (l6577).length l6577))] : List (List T28)) w19656 (oneLab o19657 1898) 1 0 := (NOwn.lit f19660.lab1 [⟨A18657, c18658, l18659⟩, ⟨A19645, c19646, ([x18656] : List T28)⟩, ⟨A19651, c19652, (List.drop (Int.toNat x18662) (List.take (l6577).length l6577))⟩] rfl (Inn.consF ((f18660.imp fun _ h_ => Own.rd h_).lab0 rfl) hc18661 (Inn.consF ((f19647.imp fun _ h_ => Own.rd h_).lab0 rfl) hc19648 (Inn.consF (f19653.lab0 rfl) hc19655 (Inn.nilF _ _ _ _)))) rfl (Nat.le_of_ble_eq_true rfl)).rd
              refine op_call hk ent_26 (vs := [.slice (some ⟨bx19659, 0, none⟩) 3 3]) rfl (slices_Concat_calls K (some ⟨bx19659, 0, none⟩) 3 ([l18659, ([x18656] : List T28), (List.drop (Int.toNat x18662) (List.take (l6577).length l6577))] : List (List T28)) _ (oneLab o19657 1898) 0 1 f19664 (Nat.le_refl _) (by decide) (by decide) 1899 _ hc19550) ?_
              rintro _ w19665 ⟨o19666, A19670, c19671, rfl, st19668, f19672, hc19673⟩
              have st19669 := st19668.back o19657
              replace f19672 := f19672.back st19668 (oneLab_ne _ rfl) o19657
              obtain ⟨o19667, ho19667⟩ : ∃ x_, x_ = (fun b_ => if b_ < w19656.heap.size then o19657 b_ else o19666 b_) := ⟨_, rfl⟩
              rw [← ho19667] at st19669 f19672
              replace f16463 := f16463.st st19669 (by decide)
              replace f18660 := f18660.st st19669 (by decide)
              replace f19647 := f19647.st st19669 (by decide)
              replace f19653 := f19653.st st19669 (by decide)
              replace f19660 := f19660.st st19669 (by decide)
              replace f6578 := f6578.st st19669 (by decide)
              replace f6582 := f6582.st st19669 (by decide)
              replace f900019 := f900019.st st19669 (by decide)
              replace hs := hs.locM st19669 (by decide) hom
              have hk := hk.put 67 (.slice A19670 (t19549).length c19671) rfl
              refine ⟨.inr ⟨f16463.now, trivial⟩, ?_⟩
              refine xd_take tab hk (k := 1) (is := [12, 13]) (ls' := #[true, true, true, true, true, true, true, true, true, true, true, true, true, true, false]) (lv := []) (ks := [0, 9, 10, 11, 67, 69]) (e' := [(0, .pointer (some ⟨bp0, 0, none⟩)), (9, .slice (some ad16458) (p1).length c6581), (10, .int .i64 ((p1).length : Int)), (11, .int .i64 x6584), (67, .slice A19670 (t19549).length c19671), (69, .pointer (some ⟨bp0, 0, none⟩))]) (by kernel_rfl) rfl rfl (by kernel_rfl) (np_then (np_then (np_blk (np_blk (np_then (np_then (np_blk (np_then (np_blk (np_then (np_then (np_blk (np_sc np_body))))))))))))) ⟨f16463.now, trivial⟩ (fun W_ hS => trivial) fun a hk => ?_
              refine xd_op hk (i := 14) (by kernel_rfl) rfl rfl ?_
              refine op_store tab hk (t := 24) (v := .slice A19670 (t19549).length c19671) (b := bp0) (k := 0) (cs' := [.slice A19670 (t19549).length c19671]) rfl rfl rfl rfl rfl rfl f900019 rfl rfl fun w19674 o19675 st19676 f900019_ => ?_
              replace f16463 := f16463.st st19676 (by decide)
              replace f18660 := f18660.st st19676 (by decide)
              replace f19647 := f19647.st st19676 (by decide)
              replace f19653 := f19653.st st19676 (by decide)
              replace f19660 := f19660.st st19676 (by decide)
              replace f19672 := f19672.st st19676 (by decide)
              replace f6578 := f6578.st st19676 (by decide)
              replace f6582 := f6582.st st19676 (by decide)
              replace hs := hs.locM st19676 (by decide) hom
              replace f900019 := f900019_
              refine ⟨.inr ⟨f16463.now, trivial⟩, ?_⟩
              refine xd_done (by kernel_rfl) ?_
              refine then_n ?_
              exact ⟨(fun b_ => (fun l_ => if l_ = 1899 then 1881 else l_) (o19675 b_)), A19670, c19671, t19549, (by exact Kn.pick (ks := [0, 9, 10, 11]) hk rfl), (hs.relabM hob (fun l_ => if l_ = 1899 then 1881 else l_) (by decide)), (f19672.relab (fun l_ => if l_ = 1899 then 1881 else l_) rfl), (f6582.relab (fun l_ => if l_ = 1899 then 1881 else l_) rfl), (f900019.relab (fun l_ => if l_ = 1899 then 1881 else l_) rfl), hc19673, H⟩
            have N19682 : ∀ (a_ : Act) (w_ : World), (∃ o19680 : Nat → Nat, Kn 79 a_ [(0, .pointer (some ⟨bp0, 0, none⟩)), (9, .slice (some ad16458) (p1).length c6581), (10, .int .i64 ((p1).length : Int)), (11, .int .i64 x6584), (56, .pointer (some ⟨bp0, 0, none⟩)), (57, .slice A18657 (l18659).length c18658), (58, .agg #[.int .i64 x18656.From, .int .i64 x18656.To]), (63, .slice (some ad19200) (l6577).length c6576), (64, .int .i64 x18662)] ∧ St [1, 2] w oi w_ o19680 ∧ Ft (Bx bx16462 29 [.int .i64 x18656.From, .int .i64 x18656.To]) w_ o19680 1900 ∧ Ft (Own ET28 29 (.slice A18657 (l18659).length c18658) l18659) w_ o19680 1901 ∧ Ft (Own ET28 29 (.slice (some ad19200) (l6577).length c6576) l6577) w_ o19680 2 ∧ Ft (RdC ET28 (some ad16458) p1) w_ o19680 0 ∧ Ft (Bx bp0 26 [.slice (some ad19200) (l6577).length c6576]) w_ o19680 1) → G 7 #[true, true, true, false, true, true, true, true, true, false, false, false, false, false, false] a_ w_ := by
              rintro a w19681 ⟨o19680, hk, hs, f16463, f18660, f6578, f6582, f900019⟩
              refine xd_of hG ?_
              obtain ⟨A19683, c19684, ak19686, f19685, hc19687⟩ := ask_cut (P := Try.prog) tab (t := 24) rfl rfl (f6578.imp fun _ h_ => Own.rd h_) hc6579 (some (.int .i64 x18662)) none rfl ⟨q19533, (by have := q19534; omega), trivial⟩ (by have := q19533; have := q19534; omega) (Nat.le_refl _)
              refine xd_take tab hk (k := 6) (is := [9]) (ls' := #[true, true, true, false, true, true, true, true, true, true, false, false, false, false, false]) (lv := [.slice A19683 ((List.drop (Int.toNat x18662) (List.take (l6577).length l6577))).length c19684]) (ks := [0, 9, 10, 11, 56, 57, 58, 65]) (e' := [(0, .pointer (some ⟨bp0, 0, none⟩)), (9, .slice (some ad16458) (p1).length c6581), (10, .int .i64 ((p1).length : Int)), (11, .int .i64 x6584), (56, .pointer (some ⟨bp0, 0, none⟩)), (57, .slice A18657 (l18659).length c18658), (58, .agg #[.int .i64 x18656.From, .int .i64 x18656.To]), (65, .slice A19683 ((List.drop (Int.toNat x18662) (List.take (l6577).length l6577))).length c19684)]) (by kernel_rfl) rfl rfl (by kernel_rfl) (np_then (np_then (np_blk (np_blk (np_then (np_then (np_blk (np_then (np_blk (np_then (np_then (np_blk (np_sc np_body))))))))))))) ⟨f16463.now, trivial⟩ (fun W_ hS => ⟨(ak19686 rfl rfl rfl _), trivial⟩) fun a hk => ?_
              refine xd_op hk (i := 3) (by kernel_rfl) rfl rfl ?_
              refine op_slice (o := o19680) tab hk (vs := [.agg #[.int .i64 x18656.From, .int .i64 x18656.To]]) (cs := [.int .i64 x18656.From, .int .i64 x18656.To]) rfl rfl rfl rfl rfl rfl rfl rfl rfl 1902 fun bx19691 w19688 o19689 st19690 f19692 => ?_
              replace f16463 := f16463.st st19690 (by decide)
              replace f18660 := f18660.st st19690 (by decide)
              replace f19685 := f19685.st st19690 (by decide)
              replace f6578 := f6578.st st19690 (by decide)
              replace f6582 := f6582.st st19690 (by decide)
              replace f900019 := f900019.st st19690 (by decide)
              replace hs := hs.locM st19690 (by decide) hom
              have f19693 : Ft (Own ET28 29 (.slice (some ⟨bx19691, 0, none⟩) (([x18656] : List T28)).length 1) ([x18656] : List T28)) w19688 o19689 1902 := f19692.imp fun _ h_ => Own.of_box h_ rfl (by simp)
              have hk := hk.put 59 (.slice (some ⟨bx19691, 0, none⟩) (([x18656] : List T28)).length 1) rfl
              refine ⟨.inr ⟨f16463.now, trivial⟩, ?_⟩
              refine xd_op hk (i := 10) (by kernel_rfl) rfl rfl ?_
              refine op_slice (o := o19689) tab hk (vs := [.slice A18657 (l18659).length c18658, .slice (some ⟨bx19691, 0, none⟩) (([x18656] : List T28)).length 1, .slice A19683 ((List.drop (Int.toNat x18662) (List.take (l6577).length l6577))).length c19684]) (cs := [.slice A18657 (l18659).length c18658, .slice (some ⟨bx19691, 0, none⟩) (([x18656] : List T28)).length 1, .slice A19683 ((List.drop (Int.toNat x18662) (List.take (l6577).length l6577))).length c19684]) rfl rfl rfl rfl rfl rfl rfl rfl rfl 1903 fun bx19697 w19694 o19695 st19696 f19698 => ?_
              replace f16463 := f16463.st st19696 (by decide)
              replace f18660 := f18660.st st19696 (by decide)
              replace f19685 := f19685.st st19696 (by decide)
              replace f19693 := f19693.st st19696 (by decide)
              replace f6578 := f6578.st st19696 (by decide)
              replace f6582 := f6582.st st19696 (by decide)
              replace f900019 := f900019.st st19696 (by decide)
              replace hs := hs.locM st19696 (by decide) hom
              have hk := hk.put 66 (.slice (some ⟨bx19697, 0, none⟩) 3 3) rfl
              refine ⟨.inr ⟨f16463.now, trivial⟩, ?_⟩
              refine xd_op hk (i := 11) (by kernel_rfl) rfl rfl ?_
              have f19702 : NRd (dRows ET28) (some ⟨bx19697, 0, none⟩) ([l18659, ([x18656] : List T28), (List.drop (Int.toNat x18662) (List.take (l6577).length l6577))] : List (List T28)) w19694 (oneLab o19695 1903) 1 0 := (NOwn.lit f19698.lab1 [⟨A18657, c18658, l18659⟩, ⟨(some ⟨bx19691, 0, none⟩), 1, ([x18656] : List T28)⟩, ⟨A19683, c19684, (List.drop (Int.toNat x18662) (List.take (l6577).length l6577))⟩] rfl (Inn.consF ((f18660.imp fun _ h_ => Own.rd h_).lab0 rfl) hc18661 (Inn.consF ((f19693.imp fun _ h_ => Own.rd h_).lab0 rfl) (Nat.le_refl _) (Inn.consF (f19685.lab0 rfl) hc19687 (Inn.nilF _ _ _ _)))) rfl (Nat.le_of_ble_eq_true rfl)).rd
              refine op_call hk ent_26 (vs := [.slice (some ⟨bx19697, 0, none⟩) 3 3]) rfl (slices_Concat_calls K (some ⟨bx19697, 0, none⟩) 3 ([l18659, ([x18656] : List T28), (List.drop (Int.toNat x18662) (List.take (l6577).length l6577))] : List (List T28)) _ (oneLab o19695 1903) 0 1 f19702 (Nat.le_refl _) (by decide) (by decide) 1904 _ hc19550) ?_
              rintro _ w19703 ⟨o19704, A19708, c19709, rfl, st19706, f19710, hc19711⟩
              have st19707 := st19706.back o19695
              replace f19710 := f19710.back st19706 (oneLab_ne _ rfl) o19695
              obtain ⟨o19705, ho19705⟩ : ∃ x_, x_ = (fun b_ => if b_ < w19694.heap.size then o19695 b_ else o19704 b_) := ⟨_, rfl⟩
              rw [← ho19705] at st19707 f19710
              replace f16463 := f16463.st st19707 (by decide)
              replace f18660 := f18660.st st19707 (by decide)
              replace f19685 := f19685.st st19707 (by decide)
              replace f19693 := f19693.st st19707 (by decide)
              replace f19698 := f19698.st st19707 (by decide)
              replace f6578 := f6578.st st19707 (by decide)
              replace f6582 := f6582.st st19707 (by decide)
              replace f900019 := f900019.st st19707 (by decide)
              replace hs := hs.locM st19707 (by decide) hom
              have hk := hk.put 67 (.slice A19708 (t19549).length c19709) rfl
              refine ⟨.inr ⟨f16463.now, trivial⟩, ?_⟩
              refine xd_take tab hk (k := 1) (is := [12, 13]) (ls' := #[true, true, true, true, true, true, true, true, true, true, true, true, true, true, false]) (lv := []) (ks := [0, 9, 10, 11, 67, 69]) (e' := [(0, .pointer (some ⟨bp0, 0, none⟩)), (9, .slice (some ad16458) (p1).length c6581), (10, .int .i64 ((p1).length : Int)), (11, .int .i64 x6584), (67, .slice A19708 (t19549).length c19709), (69, .pointer (some ⟨bp0, 0, none⟩))]) (by kernel_rfl) rfl rfl (by kernel_rfl) (np_then (np_then (np_blk (np_blk (np_then (np_then (np_blk (np_then (np_blk (np_then (np_then (np_blk (np_sc np_body))))))))))))) ⟨f16463.now, trivial⟩ (fun W_ hS => trivial) fun a hk => ?_
              refine xd_op hk (i := 14) (by kernel_rfl) rfl rfl ?_
              refine op_store tab hk (t := 24) (v := .slice A19708 (t19549).length c19709) (b := bp0) (k := 0) (cs' := [.slice A19708 (t19549).length c19709]) rfl rfl rfl rfl rfl rfl f900019 rfl rfl fun w19712 o19713 st19714 f900019_ => ?_
              replace f16463 := f16463.st st19714 (by decide)
              replace f18660 := f18660.st st19714 (by decide)
              replace f19685 := f19685.st st19714 (by decide)
              replace f19693 := f19693.st st19714 (by decide)
              replace f19698 := f19698.st st19714 (by decide)
              replace f19710 := f19710.st st19714 (by decide)
              replace f6578 := f6578.st st19714 (by decide)
              replace f6582 := f6582.st st19714 (by decide)
              replace hs := hs.locM st19714 (by decide) hom
              replace f900019 := f900019_
              refine ⟨.inr ⟨f16463.now, trivial⟩, ?_⟩
              refine xd_done (by kernel_rfl) ?_
              refine then_n ?_
              exact ⟨(fun b_ => (fun l_ => if l_ = 1904 then 1881 else l_) (o19713 b_)), A19708, c19709, t19549, (by exact Kn.pick (ks := [0, 9, 10, 11]) hk rfl), (hs.relabM hob (fun l_ => if l_ = 1904 then 1881 else l_) (by decide)), (f19710.relab (fun l_ => if l_ = 1904 then 1881 else l_) rfl), (f6582.relab (fun l_ => if l_ = 1904 then 1881 else l_) rfl), (f900019.relab (fun l_ => if l_ = 1904 then 1881 else l_) rfl), hc19711, H⟩
            refine xd_of hG ?_
            refine xd_take tab hk (k := 8) (is := [0, 1, 2, 4, 5, 6, 8]) (ls' := #[true, true, true, false, true, true, true, false, true, false, false, false, false, false, false]) (lv := [.agg #[.int .i64 x18656.From, .int .i64 x18656.To]]) (ks := [0, 9, 10, 11, 56, 57, 58, 62, 64]) (e' := [(0, .pointer (some ⟨bp0, 0, none⟩)), (9, .slice (some ad16458) (p1).length c6581), (10, .int .i64 ((p1).length : Int)), (11, .int .i64 x6584), (56, .pointer (some ⟨bp0, 0, none⟩)), (57, .slice A18657 (l18659).length c18658), (58, .agg #[.int .i64 x18656.From, .int .i64 x18656.To]), (62, .pointer (some ⟨bp0, 0, none⟩)), (64, .int .i64 x18662)]) (by kernel_rfl) rfl rfl (by kernel_rfl) (np_then (np_then (np_blk (np_blk (np_then (np_then (np_blk (np_then (np_blk (np_then (np_then (np_blk (np_sc np_body))))))))))))) ⟨f16463.now, trivial⟩ (fun W_ hS => ⟨(load_box tab rfl rfl hS.1 (k := 0) rfl rfl), trivial⟩) fun a hk => ?_
            refine xd_each [3, 7] (by kernel_rfl) rfl ⟨?_, ?_, trivial⟩
            · refine xd_one hk rfl rfl ?_
              refine op_slice (o := o19207) tab hk (vs := [.agg #[.int .i64 x18656.From, .int .i64 x18656.To]]) (cs := [.int .i64 x18656.From, .int .i64 x18656.To]) rfl rfl rfl rfl rfl rfl rfl rfl rfl 1894 fun bx19632 w19629 o19630 st19631 f19633 => ?_
              replace f16463 := f16463.st st19631 (by decide)
              replace f18660 := f18660.st st19631 (by decide)
              replace f19205 := f19205.st st19631 (by decide)
              replace f6578 := f6578.st st19631 (by decide)
              replace f6582 := f6582.st st19631 (by decide)
              replace f900019 := f900019.st st19631 (by decide)
              replace hs := hs.locM st19631 (by decide) hom
              have f19634 : Ft (Own ET28 29 (.slice (some ⟨bx19632, 0, none⟩) (([x18656] : List T28)).length 1) ([x18656] : List T28)) w19629 o19630 1894 := f19633.imp fun _ h_ => Own.of_box h_ rfl (by simp)
              have hk := hk.put 59 (.slice (some ⟨bx19632, 0, none⟩) (([x18656] : List T28)).length 1) rfl
              refine ⟨.inr ⟨f16463.now, trivial⟩, ?_⟩
              exact xd_to hG rfl (N19650 _ _ ⟨(fun b_ => (fun l_ => if l_ = 1800 then 1895 else if l_ = 1801 then 1896 else if l_ = 1894 then 1897 else l_) (o19630 b_)), (some ⟨bx19632, 0, none⟩), 1, (by exact Kn.pick (ks := [0, 9, 10, 11, 56, 57, 59, 62, 64]) hk rfl), (hs.relabM hob (fun l_ => if l_ = 1800 then 1895 else if l_ = 1801 then 1896 else if l_ = 1894 then 1897 else l_) (by decide)), (f16463.relab (fun l_ => if l_ = 1800 then 1895 else if l_ = 1801 then 1896 else if l_ = 1894 then 1897 else l_) rfl), (f18660.relab (fun l_ => if l_ = 1800 then 1895 else if l_ = 1801 then 1896 else if l_ = 1894 then 1897 else l_) rfl), (f19634.relab (fun l_ => if l_ = 1800 then 1895 else if l_ = 1801 then 1896 else if l_ = 1894 then 1897 else l_) rfl), (f6578.relab (fun l_ => if l_ = 1800 then 1895 else if l_ = 1801 then 1896 else if l_ = 1894 then 1897 else l_) rfl), (f6582.relab (fun l_ => if l_ = 1800 then 1895 else if l_ = 1801 then 1896 else if l_ = 1894 then 1897 else l_) rfl), (f900019.relab (fun l_ => if l_ = 1800 then 1895 else if l_ = 1801 then 1896 else if l_ = 1894 then 1897 else l_) rfl), (Nat.le_refl _)⟩)
            · refine xd_one hk rfl rfl ?_
              refine op_quiet tab hk (lv := [.slice (some ad19200) (l6577).length c6576]) (v := .slice (some ad19200) (l6577).length c6576) rfl ⟨(load1 tab rfl ((Bx.cell f900019.now 0).trans rfl)), trivial⟩ ?_
              have hk := hk.put 63 (.slice (some ad19200) (l6577).length c6576) rfl
              refine ⟨.inr ⟨f16463.now, trivial⟩, ?_⟩
              exact xd_to hG rfl (N19682 _ _ ⟨(fun b_ => (fun l_ => if l_ = 1800 then 1900 else if l_ = 1801 then 1901 else l_) (o19207 b_)), (by exact Kn.pick (ks := [0, 9, 10, 11, 56, 57, 58, 63, 64]) hk rfl), (hs.relabM hob (fun l_ => if l_ = 1800 then 1900 else if l_ = 1801 then 1901 else l_) (by decide)), (f16463.relab (fun l_ => if l_ = 1800 then 1900 else if l_ = 1801 then 1901 else l_) rfl), (f18660.relab (fun l_ => if l_ = 1800 then 1900 else if l_ = 1801 then 1901 else l_) rfl), (f6578.relab (fun l_ => if l_ = 1800 then 1900 else if l_ = 1801 then 1901 else l_) rfl), (f6582.relab (fun l_ => if l_ = 1800 then 1900 else if l_ = 1801 then 1901 else l_) rfl), (f900019.relab (fun l_ => if l_ = 1800 then 1900 else if l_ = 1801 then 1901 else l_) rfl)⟩)
        · rw [b19209] at hk H
          replace H := bifT H
          refine x_if hk (b := true) rfl ?_
          refine (show Code.wpIn _ _ _ _ _ _ _ from ?_)
          refine wpIn_region_lit ?_
          refine x_run tab hk (k := 2) (lv := [.agg #[.int .i64 ((rdD zT28 l6577 x18662).From), .int .i64 ((rdD zT28 l6577 x18662).To)]]) (ks := [0, 5, 9, 10, 11, 22, 23, 24, 46, 47]) (e' := [(0, .pointer (some ⟨bp0, 0, none⟩)), (5, .pointer (some ⟨bx16462, 0, none⟩)), (9, .slice (some ad16458) (p1).length c6581), (10, .int .i64 ((p1).length : Int)), (11, .int .i64 x6584), (22, .slice (some ad19200) (l6577).length c6576), (23, .int .i64 ((l6577).length : Int)), (24, .int .i64 x18662), (46, .slice A18657 (l18659).length c18658), (47, .agg #[.int .i64 ((rdD zT28 l6577 x18662).From), .int .i64 ((rdD zT28 l6577 x18662).To)])]) rfl ⟨(load_box tab rfl rfl f19205.now (k := 0) rfl rfl), trivial⟩ fun a hk => ?_
          refine x_op hk rfl ?_
          refine op_slice (o := o19207) tab hk (vs := [.agg #[.int .i64 ((rdD zT28 l6577 x18662).From), .int .i64 ((rdD zT28 l6577 x18662).To)]]) (cs := [.int .i64 ((rdD zT28 l6577 x18662).From), .int .i64 ((rdD zT28 l6577 x18662).To)]) rfl rfl rfl rfl rfl rfl rfl rfl rfl 1905 fun bx19718 w19715 o19716 st19717 f19719 => ?_
          replace f16463 := f16463.st st19717 (by decide)
          replace f18660 := f18660.st st19717 (by decide)
          replace f6578 := f6578.st st19717 (by decide)
          replace f6582 := f6582.st st19717 (by decide)
          replace f900019 := f900019.st st19717 (by decide)
          replace hs := hs.locM st19717 (by decide) hom
          have f19720 : Ft (Own ET28 29 (.slice (some ⟨bx19718, 0, none⟩) (([(rdD zT28 l6577 x18662)] : List T28)).length 1) ([(rdD zT28 l6577 x18662)] : List T28)) w19715 o19716 1905 := f19719.imp fun _ h_ => Own.of_box h_ rfl (by simp)
          have hk := hk.put 48 (.slice (some ⟨bx19718, 0, none⟩) (([(rdD zT28 l6577 x18662)] : List T28)).length 1) rfl
          refine x_op hk rfl ?_
          obtain ⟨q19724, H⟩ := ifS H
          refine op_append (o := o19716) (E := ET28) (xs := l18659) (ys := ([(rdD zT28 l6577 x18662)] : List T28)) tab hk rfl rfl rfl rfl rfl rfl rfl f18660 (Own.rd f19720.now) q19724 fun A19725 c19726 w19721 o19722 st19723 f19727 hc19728 => ?_
          replace f16463 := f16463.st st19723 (by decide)
          replace f19720 := f19720.st st19723 (by decide)
          replace f6578 := f6578.st st19723 (by decide)
          replace f6582 := f6582.st st19723 (by decide)
          replace f900019 := f900019.st st19723 (by decide)
          replace hs := hs.locM st19723 (by decide) hom
          have hk := hk.put 49 (.slice A19725 ((l18659 ++ ([(rdD zT28 l6577 x18662)] : List T28))).length c19726) rfl
          refine x_run tab hk (k := 1) (lv := []) (ks := [0, 5, 6, 9, 10, 11, 22, 23, 24]) (e' := [(0, .pointer (some ⟨bp0, 0, none⟩)), (5, .pointer (some ⟨bx16462, 0, none⟩)), (6, .slice A19725 ((l18659 ++ ([(rdD zT28 l6577 x18662)] : List T28))).length c19726), (9, .slice (some ad16458) (p1).length c6581), (10, .int .i64 ((p1).length : Int)), (11, .int .i64 x6584), (22, .slice (some ad19200) (l6577).length c6576), (23, .int .i64 ((l6577).length : Int)), (24, .int .i64 x18662)]) rfl trivial fun a hk => ?_
          refine wpListIn_nil ?_
          refine blk_n ?_
          refine blk_n ?_
          refine then_n ?_
          refine wpIn_region_lit ?_
          refine x_run tab hk (k := 2) (lv := []) (ks := [0, 5, 6, 9, 10, 11, 22, 23, 24]) (e' := [(0, .pointer (some ⟨bp0, 0, none⟩)), (5, .pointer (some ⟨bx16462, 0, none⟩)), (6, .slice A19725 ((l18659 ++ ([(rdD zT28 l6577 x18662)] : List T28))).length c19726), (9, .slice (some ad16458) (p1).length c6581), (10, .int .i64 ((p1).length : Int)), (11, .int .i64 x6584), (22, .slice (some ad19200) (l6577).length c6576), (23, .int .i64 ((l6577).length : Int)), (24, .int .i64 (IntKind.wrap .i64 (x18662 + 1)))]) rfl trivial fun a hk => ?_
          refine wpListIn_nil ?_
          refine then_n ?_
          exact ⟨k19195, Nat.le_refl _, o19722, x18656, A19725, c19726, (l18659 ++ ([(rdD zT28 l6577 x18662)] : List T28)), (IntKind.wrap .i64 (x18662 + 1)), (by exact Kn.pick (ks := [0, 5, 6, 9, 10, 11, 22, 23, 24]) hk rfl), hs, f16463, f19727, f6578, f6582, f900019, hc19728, (hlp19197 ▸ H)⟩
    · rw [b16486] at hk H
      replace H := bifT H
      refine x_if hk (b := true) rfl ?_
      refine (show Code.wpIn _ _ _ _ _ _ _ from ?_)
      refine wpIn_exit ?_
      refine then_x ?_
      refine blk_x ?_
      refine then_n ?_
      exact ⟨o16484, A6575, c6576, l6577, (some ad16458), c6581, (by exact Kn.pick (ks := [0, 9, 10, 11]) hk rfl), hs, f6578, f6582, f900019, hc6579, hc6583, H⟩

/-! tidewrack/spans.without$1 -/
theorem spans_without_1_iter (K : Nat) (bp1 : Nat) (Ap1_0 : Option Addr) (cp1_0 : Nat) (p1 : List T28) (bp2 : Nat) (p2 : T28) (w : World) (o : Nat → Nat) (Lp1 : Nat) (hp1 : Ft (Bx bp1 24 [.slice Ap1_0 (p1).length cp1_0]) w o Lp1) (Lp1_0 : Nat) (hp1_0 : Ft (RdC ET28 Ap1_0 p1) w o Lp1_0) (hcp1_0 : (p1).length ≤ cp1_0) (Lp2 : Nat) (hp2 : Ft (Bx bp2 29 [.int .i64 p2.From, .int .i64 p2.To]) w o Lp2) (hd0 : ([] : List Nat).Nodup) (hd1 : Lp1_0 ∉ ([] : List Nat)) (hd2 : Lp1 ∉ ([] : List Nat)) (hd3 : Lp2 ∉ ([] : List Nat)) (r : List T28) (H : spans_without_1 K p1 p2 = some r) :
    IterC Try.prog 36 [] [.pointer (some ⟨bp1, 0, none⟩), .pointer (some ⟨bp2, 0, none⟩)] (fun (x_ : T28) vs_ _ => vs_ = [.agg #[.int .i64 x_.From, .int .i64 x_.To]]) none r w o [] [Lp1, Lp1_0, Lp2] := by
  refine iter_start hd0 (fun _ h_ => by cases h_) fun l_ JJ XX Res w1 oi h1 h2 h3 hJ hX hRl hY hE0 hE1 hs => ?_
  refine x_enter (vs := [.func (.yield l_) #[] #[], .pointer (some ⟨bp1, 0, none⟩), .pointer (some ⟨bp2, 0, none⟩)]) Try.func36 rfl rfl rfl fun a hk => ?_
  have f900020 := h3 2 hp1_0 (by simp) hd1 (by simp) rfl
  have f900039 := h3 2 hp1 (by simp) hd2 (by simp) rfl
  have f900059 := h3 2 hp2 (by simp) hd3 (by simp) rfl
  clear h1 h2 h3
  rw [spans_without_1] at H
  refine x_seq ?_
  refine wpIn_region_lit ?_
  refine x_run tab hk (k := 3) (lv := [.slice Ap1_0 (p1).length cp1_0]) (ks := [0, 2, 8, 9, 10]) (e' := [(0, .func (.yield l_) #[] #[]), (2, .pointer (some ⟨bp2, 0, none⟩)), (8, .slice Ap1_0 (p1).length cp1_0), (9, .int .i64 ((p1).length : Int)), (10, .int .i64 0)]) rfl ⟨(load1 tab rfl ((Bx.cell f900039.now 0).trans rfl)), trivial⟩ fun a hk => ?_
  refine wpListIn_nil ?_
  refine then_n ?_
  refine wpIn_block ?_
  refine x_loop (fun j_ a_ w_ => ∃ o236 : Nat → Nat, ∃ r237 : List T28, ∃ A238 : Option Addr, ∃ c239 : Nat, ∃ A242 : Option Addr, ∃ c243 : Nat, ∃ x246 : Int, Kn 47 a_ [(0, .func (.yield l_) #[] #[]), (2, .pointer (some ⟨bp2, 0, none⟩)), (8, .slice A242 (p1).length c243), (9, .int .i64 ((p1).length : Int)), (10, .int .i64 x246)] ∧ JJ r237 w_ o236 ∧ Ft (RdC ET28 A238 p1) w_ o236 2 ∧ Ft (RdC ET28 A242 p1) w_ o236 2 ∧ Ft (Bx bp1 24 [.slice A238 (p1).length c239]) w_ o236 2 ∧ Ft (Bx bp2 29 [.int .i64 p2.From, .int .i64 p2.To]) w_ o236 2 ∧ (p1).length ≤ c239 ∧ (p1).length ≤ c243 ∧ spans_without_1_l1 K p1 p2 j_ x246 = some r237) (k := K) ⟨oi, r, Ap1_0, cp1_0, Ap1_0, cp1_0, 0, (by exact Kn.pick (ks := [0, 2, 8, 9, 10]) hk rfl), hs, f900020, f900020, f900039, f900059, hcp1_0, hcp1_0, H⟩ (by rintro _ _ ⟨_, _, _, _, _, _, _, _, _, _, _, _, _, _, _, H_⟩; exact absurd (show (none : Option (List T28)) = some _ from H_) (by simp)) ?_
  rintro k471 a w470 ⟨o236, r237, A238, c239, A242, c243, x246, hk, hs, f240, f244, f900039, f900059, hc241, hc245, H⟩
  rw [spans_without_1_l1] at H
  obtain ⟨lp472, hlp473⟩ : ∃ lp_, lp_ = spans_without_1_l1 K p1 p2 k471 := ⟨_, rfl⟩
  rw [← hlp473] at H
  refine x_seq ?_
  refine wpIn_region_lit ?_
  refine x_run tab hk (k := 1) (lv := []) (ks := [0, 2, 8, 9, 10, 11]) (e' := [(0, .func (.yield l_) #[] #[]), (2, .pointer (some ⟨bp2, 0, none⟩)), (8, .slice A242 (p1).length c243), (9, .int .i64 ((p1).length : Int)), (10, .int .i64 x246), (11, .bool (decide (x246 < ((p1).length : Int))))]) rfl trivial fun a hk => ?_
  refine wpListIn_nil ?_
  refine then_n ?_
  refine x_seq ?_
  cases b474 : (decide (x246 < ((p1).length : Int)))
  · rw [b474] at hk H
    replace H := bifF H
    refine x_if hk (b := false) rfl ?_
    refine (show Code.wpIn _ _ _ _ _ _ _ from ?_)
    refine wpIn_exit ?_
    refine then_x ?_
    refine then_x ?_
    refine blk_x ?_
    obtain rfl := Option.some.inj H
    exact x_endG hk (rs := []) (vs := []) rfl trivial (hE0 hs)
  · rw [b474] at hk H
    replace H := bifT H
    refine x_if hk (b := true) rfl ?_
    refine (show Code.wpIn _ _ _ _ _ _ _ from ?_)
    refine wpIn_skip ?_
    refine then_n ?_
    refine x_mid (fun a_ w_ => ∃ o588 : Nat → Nat, ∃ r589 : List T28, ∃ A590 : Option Addr, ∃ c591 : Nat, Kn 47 a_ [(0, .func (.yield l_) #[] #[]), (2, .pointer (some ⟨bp2, 0, none⟩)), (8, .slice A590 (p1).length c591), (9, .int .i64 ((p1).length : Int)), (10, .int .i64 x246)] ∧ JJ r589 w_ o588 ∧ Ft (RdC ET28 A238 p1) w_ o588 2 ∧ Ft (RdC ET28 A590 p1) w_ o588 2 ∧ Ft (Bx bp1 24 [.slice A238 (p1).length c239]) w_ o588 2 ∧ Ft (Bx bp2 29 [.int .i64 p2.From, .int .i64 p2.To]) w_ o588 2 ∧ (p1).length ≤ c591 ∧ spans_without_1_j2 x246 lp472 = some r589) ?_ ?_
    rotate_left
    · rintro a w594 ⟨o588, r589, A590, c591, hk, hs, f240, f592, f900039, f900059, hc593, H⟩
      rw [spans_without_1_j2] at H
      refine wpIn_region_lit ?_
      refine x_run tab hk (k := 2) (lv := []) (ks := [0, 2, 8, 9, 10]) (e' := [(0, .func (.yield l_) #[] #[]), (2, .pointer (some ⟨bp2, 0, none⟩)), (8, .slice A590 (p1).length c591), (9, .int .i64 ((p1).length : Int)), (10, .int .i64 (IntKind.wrap .i64 (x246 + 1)))]) rfl trivial fun a hk => ?_
      refine wpListIn_nil ?_
      refine then_n ?_
      exact ⟨k471, Nat.le_refl _, o588, r589, A238, c239, A590, c591, (IntKind.wrap .i64 (x246 + 1)), (by exact Kn.pick (ks := [0, 2, 8, 9, 10]) hk rfl), hs, f240, f592, f900039, f900059, hc241, hc593, (hlp473 ▸ H)⟩
    refine wpIn_block ?_
    refine x_seq ?_
    refine wpIn_region_lit ?_
    obtain ⟨q595, H⟩ := ifS H
    obtain ⟨ad596, hAad596⟩ := RdC.addr f244.now q595
    have hk_C := hk
    have f240_C := f240
    have f244_C := f244
    have f900039_C := f900039
    have f900059_C := f900059
    subst hAad596
    have hk := hk_C
    clear hk_C
    have f240 := f240_C
    clear f240_C
    have f244 := f244_C
    clear f244_C
    have f900039 := f900039_C
    clear f900039_C
    have f900059 := f900059_C
    clear f900059_C
    refine x_run tab hk (k := 2) (lv := [.agg #[.int .i64 ((rdD zT28 p1 x246).From), .int .i64 ((rdD zT28 p1 x246).To)]]) (ks := [0, 2, 8, 9, 10, 13]) (e' := [(0, .func (.yield l_) #[] #[]), (2, .pointer (some ⟨bp2, 0, none⟩)), (8, .slice (some ad596) (p1).length c243), (9, .int .i64 ((p1).length : Int)), (10, .int .i64 x246), (13, .agg #[.int .i64 ((rdD zT28 p1 x246).From), .int .i64 ((rdD zT28 p1 x246).To)])]) rfl ⟨q595, (load_elem (E := ET28) (i := x246) (dx := zT28) tab rfl rfl f244.now q595), trivial⟩ fun a hk => ?_
    refine x_op hk rfl ?_
    refine op_alloc (o := o236) tab (t := 29) (cs := [.int .i64 0, .int .i64 0]) rfl rfl 38 fun bx600 w597 o598 st599 f601 => ?_
    replace f240 := f240.st st599 (by decide)
    replace f244 := f244.st st599 (by decide)
    replace f900039 := f900039.st st599 (by decide)
    replace f900059 := f900059.st st599 (by decide)
    replace hs := hJ hs st599 rfl
    have hk := hk.put 5 (.pointer (some ⟨bx600, 0, none⟩)) rfl
    refine x_op hk rfl ?_
    refine op_store tab hk (t := 29) (v := .agg #[.int .i64 ((rdD zT28 p1 x246).From), .int .i64 ((rdD zT28 p1 x246).To)]) (b := bx600) (k := 0) (cs' := [.int .i64 ((rdD zT28 p1 x246).From), .int .i64 ((rdD zT28 p1 x246).To)]) rfl rfl rfl rfl rfl rfl f601 rfl rfl fun w602 o603 st604 f601_ => ?_
    replace f240 := f240.st st604 (by decide)
    replace f244 := f244.st st604 (by decide)
    replace f900039 := f900039.st st604 (by decide)
    replace f900059 := f900059.st st604 (by decide)
    replace hs := hJ hs st604 rfl
    replace f601 := f601_
    refine wpListIn_nil ?_
    refine then_n ?_
    refine x_seq ?_
    refine wpIn_region_lit ?_
    refine x_run tab hk (k := 10) (lv := [.int .i64 ((rdD zT28 p1 x246).From), .int .i64 ((rdD zT28 p1 x246).To), .int .i64 p2.From, .int .i64 ((rdD zT28 p1 x246).From)]) (ks := [0, 2, 5, 8, 9, 10, 21, 23]) (e' := [(0, .func (.yield l_) #[] #[]), (2, .pointer (some ⟨bp2, 0, none⟩)), (5, .pointer (some ⟨bx600, 0, none⟩)), (8, .slice (some ad596) (p1).length c243), (9, .int .i64 ((p1).length : Int)), (10, .int .i64 x246), (21, .agg #[.int .i64 ((rdD zT28 p1 x246).From), .int .i64 (mnI ((rdD zT28 p1 x246).To) p2.From)]), (23, .int .i64 ((rdD zT28 p1 x246).From))]) rfl ⟨(load1 tab rfl ((Bx.cell f601.now 0).trans rfl)), (load1 tab rfl ((Bx.cell f601.now 1).trans rfl)), (load1 tab rfl ((Bx.cell f900059.now 0).trans rfl)), (load1 tab rfl ((Bx.cell f601.now 0).trans rfl)), trivial⟩ fun a hk => ?_
    refine x_run tab hk (k := 6) (lv := [.int .i64 p2.To, .int .i64 ((rdD zT28 p1 x246).To)]) (ks := [0, 2, 8, 9, 10, 21, 29]) (e' := [(0, .func (.yield l_) #[] #[]), (2, .pointer (some ⟨bp2, 0, none⟩)), (8, .slice (some ad596) (p1).length c243), (9, .int .i64 ((p1).length : Int)), (10, .int .i64 x246), (21, .agg #[.int .i64 ((rdD zT28 p1 x246).From), .int .i64 (mnI ((rdD zT28 p1 x246).To) p2.From)]), (29, .agg #[.int .i64 (mxI ((rdD zT28 p1 x246).From) p2.To), .int .i64 ((rdD zT28 p1 x246).To)])]) rfl ⟨(load1 tab rfl ((Bx.cell f900059.now 1).trans rfl)), (load1 tab rfl ((Bx.cell f601.now 1).trans rfl)), trivial⟩ fun a hk => ?_
    refine x_op hk rfl ?_
    refine op_slice (o := o603) tab hk (vs := [.agg #[.int .i64 ((rdD zT28 p1 x246).From), .int .i64 (mnI ((rdD zT28 p1 x246).To) p2.From)], .agg #[.int .i64 (mxI ((rdD zT28 p1 x246).From) p2.To), .int .i64 ((rdD zT28 p1 x246).To)]]) (cs := [.int .i64 ((rdD zT28 p1 x246).From), .int .i64 (mnI ((rdD zT28 p1 x246).To) p2.From), .int .i64 (mxI ((rdD zT28 p1 x246).From) p2.To), .int .i64 ((rdD zT28 p1 x246).To)]) rfl rfl rfl rfl rfl rfl rfl rfl rfl 39 fun bx608 w605 o606 st607 f609 => ?_
    replace f240 := f240.st st607 (by decide)
    replace f244 := f244.st st607 (by decide)
    replace f900039 := f900039.st st607 (by decide)
    replace f900059 := f900059.st st607 (by decide)
    replace hs := hJ hs st607 rfl
    have f610 : Ft (Own ET28 29 (.slice (some ⟨bx608, 0, none⟩) (([(⟨(rdD zT28 p1 x246).From, (mnI ((rdD zT28 p1 x246).To) p2.From)⟩ : T28), (⟨(mxI ((rdD zT28 p1 x246).From) p2.To), (rdD zT28 p1 x246).To⟩ : T28)] : List T28)).length 2) ([(⟨(rdD zT28 p1 x246).From, (mnI ((rdD zT28 p1 x246).To) p2.From)⟩ : T28), (⟨(mxI ((rdD zT28 p1 x246).From) p2.To), (rdD zT28 p1 x246).To⟩ : T28)] : List T28)) w605 o606 39 := f609.imp fun _ h_ => Own.of_box h_ rfl (by simp)
    have hk := hk.put 30 (.slice (some ⟨bx608, 0, none⟩) (([(⟨(rdD zT28 p1 x246).From, (mnI ((rdD zT28 p1 x246).To) p2.From)⟩ : T28), (⟨(mxI ((rdD zT28 p1 x246).From) p2.To), (rdD zT28 p1 x246).To⟩ : T28)] : List T28)).length 2) rfl
    refine x_run tab hk (k := 2) (lv := []) (ks := [0, 2, 8, 9, 10, 30, 31, 32]) (e' := [(0, .func (.yield l_) #[] #[]), (2, .pointer (some ⟨bp2, 0, none⟩)), (8, .slice (some ad596) (p1).length c243), (9, .int .i64 ((p1).length : Int)), (10, .int .i64 x246), (30, .slice (some ⟨bx608, 0, none⟩) (([(⟨(rdD zT28 p1 x246).From, (mnI ((rdD zT28 p1 x246).To) p2.From)⟩ : T28), (⟨(mxI ((rdD zT28 p1 x246).From) p2.To), (rdD zT28 p1 x246).To⟩ : T28)] : List T28)).length 2), (31, .int .i64 ((([(⟨(rdD zT28 p1 x246).From, (mnI ((rdD zT28 p1 x246).To) p2.From)⟩ : T28), (⟨(mxI ((rdD zT28 p1 x246).From) p2.To), (rdD zT28 p1 x246).To⟩ : T28)] : List T28)).length : Int)), (32, .int .i64 0)]) rfl trivial fun a hk => ?_
    refine wpListIn_nil ?_
    refine then_n ?_
    refine wpIn_block ?_
    refine x_loop (fun j_ a_ w_ => ∃ o640 : Nat → Nat, ∃ r641 : List T28, ∃ x642 : Int, Kn 47 a_ [(0, .func (.yield l_) #[] #[]), (2, .pointer (some ⟨bp2, 0, none⟩)), (8, .slice (some ad596) (p1).length c243), (9, .int .i64 ((p1).length : Int)), (10, .int .i64 x246), (30, .slice (some ⟨bx608, 0, none⟩) (([(⟨(rdD zT28 p1 x246).From, (mnI ((rdD zT28 p1 x246).To) p2.From)⟩ : T28), (⟨(mxI ((rdD zT28 p1 x246).From) p2.To), (rdD zT28 p1 x246).To⟩ : T28)] : List T28)).length 2), (31, .int .i64 ((([(⟨(rdD zT28 p1 x246).From, (mnI ((rdD zT28 p1 x246).To) p2.From)⟩ : T28), (⟨(mxI ((rdD zT28 p1 x246).From) p2.To), (rdD zT28 p1 x246).To⟩ : T28)] : List T28)).length : Int)), (32, .int .i64 x642)] ∧ JJ r641 w_ o640 ∧ Ft (RdC ET28 A238 p1) w_ o640 2 ∧ Ft (RdC ET28 (some ad596) p1) w_ o640 2 ∧ Ft (Own ET28 29 (.slice (some ⟨bx608, 0, none⟩) (([(⟨(rdD zT28 p1 x246).From, (mnI ((rdD zT28 p1 x246).To) p2.From)⟩ : T28), (⟨(mxI ((rdD zT28 p1 x246).From) p2.To), (rdD zT28 p1 x246).To⟩ : T28)] : List T28)).length 2) ([(⟨(rdD zT28 p1 x246).From, (mnI ((rdD zT28 p1 x246).To) p2.From)⟩ : T28), (⟨(mxI ((rdD zT28 p1 x246).From) p2.To), (rdD zT28 p1 x246).To⟩ : T28)] : List T28)) w_ o640 42 ∧ Ft (Bx bp1 24 [.slice A238 (p1).length c239]) w_ o640 2 ∧ Ft (Bx bp2 29 [.int .i64 p2.From, .int .i64 p2.To]) w_ o640 2 ∧ spans_without_1_l3 p1 p2 x246 lp472 j_ x642 = some r641) (k := K) ⟨(fun b_ => (fun l_ => if l_ = 39 then 42 else l_) (o606 b_)), r237, 0, (by exact Kn.pick (ks := [0, 2, 8, 9, 10, 30, 31, 32]) hk rfl), (hRl (fun l_ => if l_ = 39 then 42 else l_) hs rfl (by intro l_ hl_; (try simp only [List.length_nil, List.length_cons] at hl_ ⊢); (try dsimp only); (repeat' split) <;> omega) (by intro l_ hl_; (try simp only [List.length_nil, List.length_cons] at hl_ ⊢); (try dsimp only); (repeat' split) <;> omega)), (f240.relab (fun l_ => if l_ = 39 then 42 else l_) rfl), (f244.relab (fun l_ => if l_ = 39 then 42 else l_) rfl), (f610.relab (fun l_ => if l_ = 39 then 42 else l_) rfl), (f900039.relab (fun l_ => if l_ = 39 then 42 else l_) rfl), (f900059.relab (fun l_ => if l_ = 39 then 42 else l_) rfl), H⟩ (by rintro _ _ ⟨_, _, _, _, _, _, _, _, _, _, H_⟩; exact absurd (show (none : Option (List T28)) = some _ from H_) (by simp)) ?_
    rintro k669 a w668 ⟨o640, r641, x642, hk, hs, f240, f244, f610, f900039, f900059, H⟩
    rw [spans_without_1_l3] at H
    obtain ⟨lp670, hlp671⟩ : ∃ lp_, lp_ = spans_without_1_l3 p1 p2 x246 lp472 k669 := ⟨_, rfl⟩
    rw [← hlp671] at H
    refine x_seq ?_
    refine wpIn_region_lit ?_
    refine x_run tab hk (k := 1) (lv := []) (ks := [0, 2, 8, 9, 10, 30, 31, 32, 33]) (e' := [(0, .func (.yield l_) #[] #[]), (2, .pointer (some ⟨bp2, 0, none⟩)), (8, .slice (some ad596) (p1).length c243), (9, .int .i64 ((p1).length : Int)), (10, .int .i64 x246), (30, .slice (some ⟨bx608, 0, none⟩) (([(⟨(rdD zT28 p1 x246).From, (mnI ((rdD zT28 p1 x246).To) p2.From)⟩ : T28), (⟨(mxI ((rdD zT28 p1 x246).From) p2.To), (rdD zT28 p1 x246).To⟩ : T28)] : List T28)).length 2), (31, .int .i64 ((([(⟨(rdD zT28 p1 x246).From, (mnI ((rdD zT28 p1 x246).To) p2.From)⟩ : T28), (⟨(mxI ((rdD zT28 p1 x246).From) p2.To), (rdD zT28 p1 x246).To⟩ : T28)] : List T28)).length : Int)), (32, .int .i64 x642), (33, .bool (decide (x642 < ((([(⟨(rdD zT28 p1 x246).From, (mnI ((rdD zT28 p1 x246).To) p2.From)⟩ : T28), (⟨(mxI ((rdD zT28 p1 x246).From) p2.To), (rdD zT28 p1 x246).To⟩ : T28)] : List T28)).length : Int))))]) rfl trivial fun a hk => ?_
    refine wpListIn_nil ?_
    refine then_n ?_
    refine x_seq ?_
    cases b672 : (decide (x642 < ((([(⟨(rdD zT28 p1 x246).From, (mnI ((rdD zT28 p1 x246).To) p2.From)⟩ : T28), (⟨(mxI ((rdD zT28 p1 x246).From) p2.To), (rdD zT28 p1 x246).To⟩ : T28)] : List T28)).length : Int)))
    · rw [b672] at hk H
      replace H := bifF H
      refine x_if hk (b := false) rfl ?_
      refine (show Code.wpIn _ _ _ _ _ _ _ from ?_)
      refine wpIn_exit ?_
      refine then_x ?_
      refine then_x ?_
      refine blk_x ?_
      refine blk_n ?_
      refine then_n ?_
      exact ⟨o640, r641, (some ad596), c243, (by exact Kn.pick (ks := [0, 2, 8, 9, 10]) hk rfl), hs, f240, f244, f900039, f900059, hc245, H⟩
    · rw [b672] at hk H
      replace H := bifT H
      refine x_if hk (b := true) rfl ?_
      refine (show Code.wpIn _ _ _ _ _ _ _ from ?_)
      refine wpIn_skip ?_
      refine then_n ?_
      refine x_seq ?_
      refine wpIn_block ?_
      refine x_seq ?_
      refine wpIn_region_lit ?_
      obtain ⟨q673, H⟩ := ifS H
      refine x_run tab hk (k := 2) (lv := [.agg #[.int .i64 ((rdD zT28 ([(⟨(rdD zT28 p1 x246).From, (mnI ((rdD zT28 p1 x246).To) p2.From)⟩ : T28), (⟨(mxI ((rdD zT28 p1 x246).From) p2.To), (rdD zT28 p1 x246).To⟩ : T28)] : List T28) x642).From), .int .i64 ((rdD zT28 ([(⟨(rdD zT28 p1 x246).From, (mnI ((rdD zT28 p1 x246).To) p2.From)⟩ : T28), (⟨(mxI ((rdD zT28 p1 x246).From) p2.To), (rdD zT28 p1 x246).To⟩ : T28)] : List T28) x642).To)]]) (ks := [0, 2, 8, 9, 10, 30, 31, 32, 35]) (e' := [(0, .func (.yield l_) #[] #[]), (2, .pointer (some ⟨bp2, 0, none⟩)), (8, .slice (some ad596) (p1).length c243), (9, .int .i64 ((p1).length : Int)), (10, .int .i64 x246), (30, .slice (some ⟨bx608, 0, none⟩) (([(⟨(rdD zT28 p1 x246).From, (mnI ((rdD zT28 p1 x246).To) p2.From)⟩ : T28), (⟨(mxI ((rdD zT28 p1 x246).From) p2.To), (rdD zT28 p1 x246).To⟩ : T28)] : List T28)).length 2), (31, .int .i64 ((([(⟨(rdD zT28 p1 x246).From, (mnI ((rdD zT28 p1 x246).To) p2.From)⟩ : T28), (⟨(mxI ((rdD zT28 p1 x246).From) p2.To), (rdD zT28 p1 x246).To⟩ : T28)] : List T28)).length : Int)), (32, .int .i64 x642), (35, .agg #[.int .i64 ((rdD zT28 ([(⟨(rdD zT28 p1 x246).From, (mnI ((rdD zT28 p1 x246).To) p2.From)⟩ : T28), (⟨(mxI ((rdD zT28 p1 x246).From) p2.To), (rdD zT28 p1 x246).To⟩ : T28)] : List T28) x642).From), .int .i64 ((rdD zT28 ([(⟨(rdD zT28 p1 x246).From, (mnI ((rdD zT28 p1 x246).To) p2.From)⟩ : T28), (⟨(mxI ((rdD zT28 p1 x246).From) p2.To), (rdD zT28 p1 x246).To⟩ : T28)] : List T28) x642).To)])]) rfl ⟨q673, (load_elem (E := ET28) (i := x642) (dx := zT28) tab rfl rfl (Own.rd f610.now) q673), trivial⟩ fun a hk => ?_
      refine x_op hk rfl ?_
      refine op_alloc (o := o640) tab (t := 29) (cs := [.int .i64 0, .int .i64 0]) rfl rfl 44 fun bx677 w674 o675 st676 f678 => ?_
      replace f240 := f240.st st676 (by decide)
      replace f244 := f244.st st676 (by decide)
      replace f610 := f610.st st676 (by decide)
      replace f900039 := f900039.st st676 (by decide)
      replace f900059 := f900059.st st676 (by decide)
      replace hs := hJ hs st676 rfl
      have hk := hk.put 7 (.pointer (some ⟨bx677, 0, none⟩)) rfl
      refine x_op hk rfl ?_
      refine op_store tab hk (t := 29) (v := .agg #[.int .i64 ((rdD zT28 ([(⟨(rdD zT28 p1 x246).From, (mnI ((rdD zT28 p1 x246).To) p2.From)⟩ : T28), (⟨(mxI ((rdD zT28 p1 x246).From) p2.To), (rdD zT28 p1 x246).To⟩ : T28)] : List T28) x642).From), .int .i64 ((rdD zT28 ([(⟨(rdD zT28 p1 x246).From, (mnI ((rdD zT28 p1 x246).To) p2.From)⟩ : T28), (⟨(mxI ((rdD zT28 p1 x246).From) p2.To), (rdD zT28 p1 x246).To⟩ : T28)] : List T28) x642).To)]) (b := bx677) (k := 0) (cs' := [.int .i64 ((rdD zT28 ([(⟨(rdD zT28 p1 x246).From, (mnI ((rdD zT28 p1 x246).To) p2.From)⟩ : T28), (⟨(mxI ((rdD zT28 p1 x246).From) p2.To), (rdD zT28 p1 x246).To⟩ : T28)] : List T28) x642).From), .int .i64 ((rdD zT28 ([(⟨(rdD zT28 p1 x246).From, (mnI ((rdD zT28 p1 x246).To) p2.From)⟩ : T28), (⟨(mxI ((rdD zT28 p1 x246).From) p2.To), (rdD zT28 p1 x246).To⟩ : T28)] : List T28) x642).To)]) rfl rfl rfl rfl rfl rfl f678 rfl rfl fun w679 o680 st681 f678_ => ?_
      replace f240 := f240.st st681 (by decide)
      replace f244 := f244.st st681 (by decide)
      replace f610 := f610.st st681 (by decide)
      replace f900039 := f900039.st st681 (by decide)
      replace f900059 := f900059.st st681 (by decide)
      replace hs := hJ hs st681 rfl
      replace f678 := f678_
      refine wpListIn_nil ?_
      refine then_n ?_
      refine x_seq ?_
      refine wpIn_region_lit ?_
      refine x_run tab hk (k := 1) (lv := [.agg #[.int .i64 ((rdD zT28 ([(⟨(rdD zT28 p1 x246).From, (mnI ((rdD zT28 p1 x246).To) p2.From)⟩ : T28), (⟨(mxI ((rdD zT28 p1 x246).From) p2.To), (rdD zT28 p1 x246).To⟩ : T28)] : List T28) x642).From), .int .i64 ((rdD zT28 ([(⟨(rdD zT28 p1 x246).From, (mnI ((rdD zT28 p1 x246).To) p2.From)⟩ : T28), (⟨(mxI ((rdD zT28 p1 x246).From) p2.To), (rdD zT28 p1 x246).To⟩ : T28)] : List T28) x642).To)]]) (ks := [0, 2, 7, 8, 9, 10, 30, 31, 32, 36]) (e' := [(0, .func (.yield l_) #[] #[]), (2, .pointer (some ⟨bp2, 0, none⟩)), (7, .pointer (some ⟨bx677, 0, none⟩)), (8, .slice (some ad596) (p1).length c243), (9, .int .i64 ((p1).length : Int)), (10, .int .i64 x246), (30, .slice (some ⟨bx608, 0, none⟩) (([(⟨(rdD zT28 p1 x246).From, (mnI ((rdD zT28 p1 x246).To) p2.From)⟩ : T28), (⟨(mxI ((rdD zT28 p1 x246).From) p2.To), (rdD zT28 p1 x246).To⟩ : T28)] : List T28)).length 2), (31, .int .i64 ((([(⟨(rdD zT28 p1 x246).From, (mnI ((rdD zT28 p1 x246).To) p2.From)⟩ : T28), (⟨(mxI ((rdD zT28 p1 x246).From) p2.To), (rdD zT28 p1 x246).To⟩ : T28)] : List T28)).length : Int)), (32, .int .i64 x642), (36, .agg #[.int .i64 ((rdD zT28 ([(⟨(rdD zT28 p1 x246).From, (mnI ((rdD zT28 p1 x246).To) p2.From)⟩ : T28), (⟨(mxI ((rdD zT28 p1 x246).From) p2.To), (rdD zT28 p1 x246).To⟩ : T28)] : List T28) x642).From), .int .i64 ((rdD zT28 ([(⟨(rdD zT28 p1 x246).From, (mnI ((rdD zT28 p1 x246).To) p2.From)⟩ : T28), (⟨(mxI ((rdD zT28 p1 x246).From) p2.To), (rdD zT28 p1 x246).To⟩ : T28)] : List T28) x642).To)])]) rfl ⟨(load_box tab rfl rfl f678.now (k := 0) rfl rfl), trivial⟩ fun a hk => ?_
      refine x_op hk rfl ?_
      obtain ⟨t685, hc686, H⟩ := bindS H
      refine op_call hk ent_25 (vs := [.agg #[.int .i64 ((rdD zT28 ([(⟨(rdD zT28 p1 x246).From, (mnI ((rdD zT28 p1 x246).To) p2.From)⟩ : T28), (⟨(mxI ((rdD zT28 p1 x246).From) p2.To), (rdD zT28 p1 x246).To⟩ : T28)] : List T28) x642).From), .int .i64 ((rdD zT28 ([(⟨(rdD zT28 p1 x246).From, (mnI ((rdD zT28 p1 x246).To) p2.From)⟩ : T28), (⟨(mxI ((rdD zT28 p1 x246).From) p2.To), (rdD zT28 p1 x246).To⟩ : T28)] : List T28) x642).To)]]) rfl (spans_Span_empty_calls (rdD zT28 ([(⟨(rdD zT28 p1 x246).From, (mnI ((rdD zT28 p1 x246).To) p2.From)⟩ : T28), (⟨(mxI ((rdD zT28 p1 x246).From) p2.To), (rdD zT28 p1 x246).To⟩ : T28)] : List T28) x642) _ o680    _ hc686) ?_
      rintro _ w687 ⟨o688, rfl, st689⟩
      replace f240 := f240.st st689 (by decide)
      replace f244 := f244.st st689 (by decide)
      replace f610 := f610.st st689 (by decide)
      replace f678 := f678.st st689 (by decide)
      replace f900039 := f900039.st st689 (by decide)
      replace f900059 := f900059.st st689 (by decide)
      replace hs := hJ hs st689 rfl
      have hk := hk.put 37 (.bool t685) rfl
      refine x_run tab hk (k := 2) (lv := []) (ks := [0, 2, 7, 8, 9, 10, 30, 31, 32, 39]) (e' := [(0, .func (.yield l_) #[] #[]), (2, .pointer (some ⟨bp2, 0, none⟩)), (7, .pointer (some ⟨bx677, 0, none⟩)), (8, .slice (some ad596) (p1).length c243), (9, .int .i64 ((p1).length : Int)), (10, .int .i64 x246), (30, .slice (some ⟨bx608, 0, none⟩) (([(⟨(rdD zT28 p1 x246).From, (mnI ((rdD zT28 p1 x246).To) p2.From)⟩ : T28), (⟨(mxI ((rdD zT28 p1 x246).From) p2.To), (rdD zT28 p1 x246).To⟩ : T28)] : List T28)).length 2), (31, .int .i64 ((([(⟨(rdD zT28 p1 x246).From, (mnI ((rdD zT28 p1 x246).To) p2.From)⟩ : T28), (⟨(mxI ((rdD zT28 p1 x246).From) p2.To), (rdD zT28 p1 x246).To⟩ : T28)] : List T28)).length : Int)), (32, .int .i64 x642), (39, .bool (!t685))]) rfl trivial fun a hk => ?_
      cases b690 : (!t685)
      · rw [b690] at hk H
        replace H := bifF H
        refine x_run tab hk (k := 5) (lv := []) (ks := [0, 2, 8, 9, 10, 30, 31, 32, 44]) (e' := [(0, .func (.yield l_) #[] #[]), (2, .pointer (some ⟨bp2, 0, none⟩)), (8, .slice (some ad596) (p1).length c243), (9, .int .i64 ((p1).length : Int)), (10, .int .i64 x246), (30, .slice (some ⟨bx608, 0, none⟩) (([(⟨(rdD zT28 p1 x246).From, (mnI ((rdD zT28 p1 x246).To) p2.From)⟩ : T28), (⟨(mxI ((rdD zT28 p1 x246).From) p2.To), (rdD zT28 p1 x246).To⟩ : T28)] : List T28)).length 2), (31, .int .i64 ((([(⟨(rdD zT28 p1 x246).From, (mnI ((rdD zT28 p1 x246).To) p2.From)⟩ : T28), (⟨(mxI ((rdD zT28 p1 x246).From) p2.To), (rdD zT28 p1 x246).To⟩ : T28)] : List T28)).length : Int)), (32, .int .i64 x642), (44, .bool false)]) rfl trivial fun a hk => ?_
        refine wpListIn_nil ?_
        refine then_n ?_
        refine x_if hk (b := false) rfl ?_
        refine (show Code.wpIn _ _ _ _ _ _ _ from ?_)
        refine wpIn_skip ?_
        refine blk_n ?_
        refine then_n ?_
        refine wpIn_region_lit ?_
        refine x_run tab hk (k := 2) (lv := []) (ks := [0, 2, 8, 9, 10, 30, 31, 32]) (e' := [(0, .func (.yield l_) #[] #[]), (2, .pointer (some ⟨bp2, 0, none⟩)), (8, .slice (some ad596) (p1).length c243), (9, .int .i64 ((p1).length : Int)), (10, .int .i64 x246), (30, .slice (some ⟨bx608, 0, none⟩) (([(⟨(rdD zT28 p1 x246).From, (mnI ((rdD zT28 p1 x246).To) p2.From)⟩ : T28), (⟨(mxI ((rdD zT28 p1 x246).From) p2.To), (rdD zT28 p1 x246).To⟩ : T28)] : List T28)).length 2), (31, .int .i64 ((([(⟨(rdD zT28 p1 x246).From, (mnI ((rdD zT28 p1 x246).To) p2.From)⟩ : T28), (⟨(mxI ((rdD zT28 p1 x246).From) p2.To), (rdD zT28 p1 x246).To⟩ : T28)] : List T28)).length : Int)), (32, .int .i64 (IntKind.wrap .i64 (x642 + 1)))]) rfl trivial fun a hk => ?_
        refine wpListIn_nil ?_
        refine then_n ?_
        exact ⟨k669, Nat.le_refl _, o688, r641, (IntKind.wrap .i64 (x642 + 1)), (by exact Kn.pick (ks := [0, 2, 8, 9, 10, 30, 31, 32]) hk rfl), hs, f240, f244, f610, f900039, f900059, (hlp671 ▸ H)⟩
      · rw [b690] at hk H
        replace H := bifT H
        refine x_run tab hk (k := 2) (lv := [.agg #[.int .i64 ((rdD zT28 ([(⟨(rdD zT28 p1 x246).From, (mnI ((rdD zT28 p1 x246).To) p2.From)⟩ : T28), (⟨(mxI ((rdD zT28 p1 x246).From) p2.To), (rdD zT28 p1 x246).To⟩ : T28)] : List T28) x642).From), .int .i64 ((rdD zT28 ([(⟨(rdD zT28 p1 x246).From, (mnI ((rdD zT28 p1 x246).To) p2.From)⟩ : T28), (⟨(mxI ((rdD zT28 p1 x246).From) p2.To), (rdD zT28 p1 x246).To⟩ : T28)] : List T28) x642).To)]]) (ks := [0, 2, 8, 9, 10, 30, 31, 32, 39, 40, 41]) (e' := [(0, .func (.yield l_) #[] #[]), (2, .pointer (some ⟨bp2, 0, none⟩)), (8, .slice (some ad596) (p1).length c243), (9, .int .i64 ((p1).length : Int)), (10, .int .i64 x246), (30, .slice (some ⟨bx608, 0, none⟩) (([(⟨(rdD zT28 p1 x246).From, (mnI ((rdD zT28 p1 x246).To) p2.From)⟩ : T28), (⟨(mxI ((rdD zT28 p1 x246).From) p2.To), (rdD zT28 p1 x246).To⟩ : T28)] : List T28)).length 2), (31, .int .i64 ((([(⟨(rdD zT28 p1 x246).From, (mnI ((rdD zT28 p1 x246).To) p2.From)⟩ : T28), (⟨(mxI ((rdD zT28 p1 x246).From) p2.To), (rdD zT28 p1 x246).To⟩ : T28)] : List T28)).length : Int)), (32, .int .i64 x642), (39, .bool true), (40, .func (.yield l_) #[] #[]), (41, .agg #[.int .i64 ((rdD zT28 ([(⟨(rdD zT28 p1 x246).From, (mnI ((rdD zT28 p1 x246).To) p2.From)⟩ : T28), (⟨(mxI ((rdD zT28 p1 x246).From) p2.To), (rdD zT28 p1 x246).To⟩ : T28)] : List T28) x642).From), .int .i64 ((rdD zT28 ([(⟨(rdD zT28 p1 x246).From, (mnI ((rdD zT28 p1 x246).To) p2.From)⟩ : T28), (⟨(mxI ((rdD zT28 p1 x246).From) p2.To), (rdD zT28 p1 x246).To⟩ : T28)] : List T28) x642).To)])]) rfl ⟨(load_box tab rfl rfl f678.now (k := 0) rfl rfl), trivial⟩ fun a hk => ?_
        refine x_op hk rfl ?_
        obtain ⟨r691, hr692, H⟩ := consS H
        rw [hr692] at hs
        refine op_yield hk rfl (vs := [.agg #[.int .i64 ((rdD zT28 ([(⟨(rdD zT28 p1 x246).From, (mnI ((rdD zT28 p1 x246).To) p2.From)⟩ : T28), (⟨(mxI ((rdD zT28 p1 x246).From) p2.To), (rdD zT28 p1 x246).To⟩ : T28)] : List T28) x642).From), .int .i64 ((rdD zT28 ([(⟨(rdD zT28 p1 x246).From, (mnI ((rdD zT28 p1 x246).To) p2.From)⟩ : T28), (⟨(mxI ((rdD zT28 p1 x246).From) p2.To), (rdD zT28 p1 x246).To⟩ : T28)] : List T28) x642).To)]]) rfl (hY hs (fun _ => rfl)) ?_
        rintro b693 w694 ⟨o695, st696, ht_, hf_⟩
        replace f240 := f240.st st696 (by decide)
        replace f244 := f244.st st696 (by decide)
        replace f610 := f610.st st696 (by decide)
        replace f900039 := f900039.st st696 (by decide)
        replace f900059 := f900059.st st696 (by decide)
        cases b693
        · have hs := hf_ rfl
          have hk := hk.put 42 (.bool false) rfl
          refine x_run tab hk (k := 2) (lv := []) (ks := [0, 2, 8, 9, 10, 30, 31, 32, 44]) (e' := [(0, .func (.yield l_) #[] #[]), (2, .pointer (some ⟨bp2, 0, none⟩)), (8, .slice (some ad596) (p1).length c243), (9, .int .i64 ((p1).length : Int)), (10, .int .i64 x246), (30, .slice (some ⟨bx608, 0, none⟩) (([(⟨(rdD zT28 p1 x246).From, (mnI ((rdD zT28 p1 x246).To) p2.From)⟩ : T28), (⟨(mxI ((rdD zT28 p1 x246).From) p2.To), (rdD zT28 p1 x246).To⟩ : T28)] : List T28)).length 2), (31, .int .i64 ((([(⟨(rdD zT28 p1 x246).From, (mnI ((rdD zT28 p1 x246).To) p2.From)⟩ : T28), (⟨(mxI ((rdD zT28 p1 x246).From) p2.To), (rdD zT28 p1 x246).To⟩ : T28)] : List T28)).length : Int)), (32, .int .i64 x642), (44, .bool true)]) rfl trivial fun a hk => ?_
          refine wpListIn_nil ?_
          refine then_n ?_
          refine x_if hk (b := true) rfl ?_
          refine (show Code.wpIn _ _ _ _ _ _ _ from ?_)
          refine wpIn_ret ?_
          refine blk_r ?_
          refine then_r ?_
          refine then_r ?_
          refine blk_r ?_
          refine blk_r ?_
          refine then_r ?_
          refine then_r ?_
          refine blk_r ?_
          exact x_retG hk (rs := []) (vs := []) rfl trivial (hE1 hs)
        · have hs := ht_ rfl
          have hk := hk.put 42 (.bool true) rfl
          refine x_run tab hk (k := 2) (lv := []) (ks := [0, 2, 8, 9, 10, 30, 31, 32, 44]) (e' := [(0, .func (.yield l_) #[] #[]), (2, .pointer (some ⟨bp2, 0, none⟩)), (8, .slice (some ad596) (p1).length c243), (9, .int .i64 ((p1).length : Int)), (10, .int .i64 x246), (30, .slice (some ⟨bx608, 0, none⟩) (([(⟨(rdD zT28 p1 x246).From, (mnI ((rdD zT28 p1 x246).To) p2.From)⟩ : T28), (⟨(mxI ((rdD zT28 p1 x246).From) p2.To), (rdD zT28 p1 x246).To⟩ : T28)] : List T28)).length 2), (31, .int .i64 ((([(⟨(rdD zT28 p1 x246).From, (mnI ((rdD zT28 p1 x246).To) p2.From)⟩ : T28), (⟨(mxI ((rdD zT28 p1 x246).From) p2.To), (rdD zT28 p1 x246).To⟩ : T28)] : List T28)).length : Int)), (32, .int .i64 x642), (44, .bool false)]) rfl trivial fun a hk => ?_
          refine wpListIn_nil ?_
          refine then_n ?_
          refine x_if hk (b := false) rfl ?_
          refine (show Code.wpIn _ _ _ _ _ _ _ from ?_)
          refine wpIn_skip ?_
          refine blk_n ?_
          refine then_n ?_
          refine wpIn_region_lit ?_
          refine x_run tab hk (k := 2) (lv := []) (ks := [0, 2, 8, 9, 10, 30, 31, 32]) (e' := [(0, .func (.yield l_) #[] #[]), (2, .pointer (some ⟨bp2, 0, none⟩)), (8, .slice (some ad596) (p1).length c243), (9, .int .i64 ((p1).length : Int)), (10, .int .i64 x246), (30, .slice (some ⟨bx608, 0, none⟩) (([(⟨(rdD zT28 p1 x246).From, (mnI ((rdD zT28 p1 x246).To) p2.From)⟩ : T28), (⟨(mxI ((rdD zT28 p1 x246).From) p2.To), (rdD zT28 p1 x246).To⟩ : T28)] : List T28)).length 2), (31, .int .i64 ((([(⟨(rdD zT28 p1 x246).From, (mnI ((rdD zT28 p1 x246).To) p2.From)⟩ : T28), (⟨(mxI ((rdD zT28 p1 x246).From) p2.To), (rdD zT28 p1 x246).To⟩ : T28)] : List T28)).length : Int)), (32, .int .i64 (IntKind.wrap .i64 (x642 + 1)))]) rfl trivial fun a hk => ?_
          refine wpListIn_nil ?_
          refine then_n ?_
          exact ⟨k669, Nat.le_refl _, o695, r691, (IntKind.wrap .i64 (x642 + 1)), (by exact Kn.pick (ks := [0, 2, 8, 9, 10, 30, 31, 32]) hk rfl), hs, f240, f244, f610, f900039, f900059, (hlp671 ▸ H)⟩

/-! tidewrack/spans.without -/
theorem spans_without_calls (Ap0 : Option Addr) (cp0 : Nat) (p0 : List T28) (p1 : T28) (w : World) (o : Nat → Nat) (Lp0 : Nat) (hp0 : Ft (RdC ET28 Ap0 p0) w o Lp0) (hcp0 : (p0).length ≤ cp0)  (R0 : Nat) (R1 : Nat) (r : T28) (H : spans_without p0 p1 = some r) :
    Calls Try.prog 28 #[.slice Ap0 (p0).length cp0, .agg #[.int .i64 p1.From, .int .i64 p1.To]] w (Ret fun v_ w' => ∃ o' : Nat → Nat, ∃ b0 : Nat, ∃ b1 : Nat, v_ = .func (.func 36) #[] #[.pointer (some ⟨b0, 0, none⟩), .pointer (some ⟨b1, 0, none⟩)] ∧ St [] w o w' o' ∧ Ft (Bx b0 24 [.slice Ap0 (p0).length cp0]) w' o' R0 ∧ Ft (Bx b1 29 [.int .i64 r.From, .int .i64 r.To]) w' o' R1) := by
  refine x_enter (vs := [.slice Ap0 (p0).length cp0, .agg #[.int .i64 p1.From, .int .i64 p1.To]]) Try.func28 rfl rfl rfl fun a hk => ?_
  obtain ⟨o0, hs, h0⟩ := St.start w o
  have f900000 := h0 _ _ hp0
  clear h0
  rw [spans_without] at H
  refine x_seq ?_
  refine wpIn_region_lit ?_
  refine x_op hk rfl ?_
  refine op_box (o := o0) (t := 24) (v := .slice Ap0 (p0).length cp0) (cs := [.slice Ap0 (p0).length cp0]) hk rfl rfl 1 fun bx4 w1 o2 st3 f5 => ?_
  replace f900000 := f900000.st st3 (by decide)
  replace hs := hs.loc0 st3 (by decide)
  have hk := hk.put 2 (.pointer (some ⟨bx4, 0, none⟩)) rfl
  refine x_op hk rfl ?_
  refine op_box (o := o2) (t := 29) (v := .agg #[.int .i64 p1.From, .int .i64 p1.To]) (cs := [.int .i64 p1.From, .int .i64 p1.To]) hk rfl rfl 2 fun bx9 w6 o7 st8 f10 => ?_
  replace f5 := f5.st st8 (by decide)
  replace f900000 := f900000.st st8 (by decide)
  replace hs := hs.loc0 st8 (by decide)
  have hk := hk.put 3 (.pointer (some ⟨bx9, 0, none⟩)) rfl
  refine x_run tab hk (k := 1) (lv := []) (ks := [2, 3]) (e' := [(2, .pointer (some ⟨bx4, 0, none⟩)), (3, .pointer (some ⟨bx9, 0, none⟩))]) rfl trivial fun a hk => ?_
  refine wpListIn_nil ?_
  refine then_n ?_
  refine x_seq ?_
  refine wpIn_region_lit ?_
  refine x_run tab hk (k := 2) (lv := []) (ks := [4]) (e' := [(4, .func (.func 36) #[] #[.pointer (some ⟨bx4, 0, none⟩), .pointer (some ⟨bx9, 0, none⟩)])]) rfl trivial fun a hk => ?_
  refine wpListIn_nil ?_
  refine then_n ?_
  refine wpIn_ret ?_
  obtain rfl := Option.some.inj H
  exact x_retG hk (rs := [.tmp 4]) (vs := [.func (.func 36) #[] #[.pointer (some ⟨bx4, 0, none⟩), .pointer (some ⟨bx9, 0, none⟩)]]) rfl ⟨rfl, trivial⟩ ⟨fun b_ => if b_ < w.heap.size then o b_ else (fun l_ => if l_ = 1 then R0 else if l_ = 2 then R1 else 0) (o7 b_), bx4, bx9, rfl, hs.close0 o (fun l_ => if l_ = 1 then R0 else if l_ = 2 then R1 else 0), hs.close_ft (o := o) (ρ := fun l_ => if l_ = 1 then R0 else if l_ = 2 then R1 else 0) f5 (by decide) rfl, hs.close_ft (o := o) (ρ := fun l_ => if l_ = 1 then R0 else if l_ = 2 then R1 else 0) f10 (by decide) rfl⟩

/-! (*tidewrack/spans.Set).Cut -/
theorem spans_Set_Cut_calls (K : Nat) (bp0 : Nat) (Ap0_0 : Option Addr) (cp0_0 : Nat) (p0 : T25) (Ap1 : Option Addr) (cp1 : Nat) (p1 : List T28) (w : World) (o : Nat → Nat) (Lp0 : Nat) (hp0 : Ft (Bx bp0 26 [.slice Ap0_0 (p0.l).length cp0_0]) w o Lp0) (Lp0_0 : Nat) (hp0_0 : Ft (Own ET28 29 (.slice Ap0_0 (p0.l).length cp0_0) p0.l) w o Lp0_0) (hcp0_0 : (p0.l).length ≤ cp0_0) (Lp1 : Nat) (hp1 : Ft (RdC ET28 Ap1 p1) w o Lp1) (hcp1 : (p1).length ≤ cp1) (hd0 : ([Lp0, Lp0_0] : List Nat).Nodup) (hd1 : Lp1 ∉ [Lp0, Lp0_0]) (r : T25) (H : spans_Set_Cut K p0 p1 = some r) :
    Calls Try.prog 12 #[.pointer (some ⟨bp0, 0, none⟩), .slice Ap1 (p1).length cp1] w (Ret fun v_ w' => ∃ o' : Nat → Nat, ∃ A0 : Option Addr, ∃ c0 : Nat, v_ = .tuple #[] ∧ St [Lp0, Lp0_0] w o w' o' ∧ Ft (Bx bp0 26 [.slice A0 (r.l).length c0]) w' o' Lp0 ∧ Ft (Own ET28 29 (.slice A0 (r.l).length c0) (r.l)) w' o' Lp0_0 ∧ (r.l).length ≤ c0) := by
  refine x_enterQ (vs := [.pointer (some ⟨bp0, 0, none⟩), .slice Ap1 (p1).length cp1]) Try.func12 rfl rfl rfl fun a hk => ?_
  obtain ⟨oi, hs0, h0, h1, hob, hoz, hoa⟩ := St.startM2 w o (m := 2) hd0 rfl
  have hs := hs0 [1, 2]
  have hom := lab_in hob (MM := [1, 2]) (by decide)
  have f900000 := h1 1 2 hp0_0 rfl rfl
  have f900019 := h1 0 1 hp0 rfl rfl
  have f900020 := h0 _ _ hd1 hp1
  have fxm : Ft (MK []) w oi 3 := Ft.of_all (fun _ => MK.nil _) _ _ _
  clear h0 h1 hs0
  rw [spans_Set_Cut] at H
  refine x_seq ?_
  refine wpIn_region_lit ?_
  refine x_run tab hk (k := 3) (lv := []) (ks := [0, 8, 9, 10]) (e' := [(0, .pointer (some ⟨bp0, 0, none⟩)), (8, .slice Ap1 (p1).length cp1), (9, .int .i64 ((p1).length : Int)), (10, .int .i64 0)]) rfl trivial fun a hk => ?_
  refine wpListIn_nil ?_
  refine then_n ?_
  refine wpIn_block ?_
  refine x_loop (fun j_ a_ w_ => ∃ o732 : Nat → Nat, ∃ ds733 : List Deferred, ∃ A734 : Option Addr, ∃ c735 : Nat, ∃ l736 : List T28, ∃ A739 : Option Addr, ∃ c740 : Nat, ∃ x743 : Int, KnD 34 ds733 a_ [(0, .pointer (some ⟨bp0, 0, none⟩)), (8, .slice A739 (p1).length c740), (9, .int .i64 ((p1).length : Int)), (10, .int .i64 x743)] ∧ St [1, 2] w oi w_ o732 ∧ Ft (Own ET28 29 (.slice A734 (l736).length c735) l736) w_ o732 2 ∧ Ft (RdC ET28 A739 p1) w_ o732 0 ∧ Ft (Bx bp0 26 [.slice A734 (l736).length c735]) w_ o732 1 ∧ Ft (MK ds733) w_ o732 3 ∧ (l736).length ≤ c735 ∧ (p1).length ≤ c740 ∧ spans_Set_Cut_l1 K p1 j_ l736 x743 = some r) (k := K) ⟨oi, [], Ap0_0, cp0_0, p0.l, Ap1, cp1, 0, (by exact Kn.pick (ks := [0, 8, 9, 10]) hk rfl), hs, f900000, f900020, f900019, fxm, hcp0_0, hcp1, H⟩ (by rintro _ _ ⟨_, _, _, _, _, _, _, _, _, _, _, _, _, _, _, _, H_⟩; exact absurd (show (none : Option T25) = some r from H_) (by simp)) ?_
  rintro k1472 a w1471 ⟨o732, ds733, A734, c735, l736, A739, c740, x743, hk, hs, f737, f741, f900019, fxm, hc738, hc742, H⟩
  rw [spans_Set_Cut_l1] at H
  obtain ⟨lp1473, hlp1474⟩ : ∃ lp_, lp_ = spans_Set_Cut_l1 K p1 k1472 := ⟨_, rfl⟩
  rw [← hlp1474] at H
  refine x_seq ?_
  refine wpIn_region_lit ?_
  refine x_run tab hk (k := 1) (lv := []) (ks := [0, 8, 9, 10, 11]) (e' := [(0, .pointer (some ⟨bp0, 0, none⟩)), (8, .slice A739 (p1).length c740), (9, .int .i64 ((p1).length : Int)), (10, .int .i64 x743), (11, .bool (decide (x743 < ((p1).length : Int))))]) rfl trivial fun a hk => ?_
  refine wpListIn_nil ?_
  refine then_n ?_
  refine x_seq ?_
  cases b1475 : (decide (x743 < ((p1).length : Int)))
  · rw [b1475] at hk H
    replace H := bifF H
    refine x_if hk (b := false) rfl ?_
    refine (show Code.wpIn _ _ _ _ _ _ _ from ?_)
    refine wpIn_exit ?_
    refine then_x ?_
    refine then_x ?_
    refine blk_x ?_
    refine x_endQ hk fxm fun w1476 a st1477 hk => ?_
    replace f737 := f737.st st1477 (by decide)
    replace f741 := f741.st st1477 (by decide)
    replace f900019 := f900019.st st1477 (by decide)
    replace hs := hs.locM st1477 (by decide) hom
    obtain rfl := Option.some.inj H
    exact x_retG hk (rs := []) (vs := []) rfl trivial ⟨fun b_ => if b_ < w.heap.size then o b_ else (fun l_ => if l_ = 1 then Lp0 else if l_ = 2 then Lp0_0 else 0) (o732 b_), A734, c735, rfl, hs.closeM hoz (by decide) (fun l_ => if l_ = 1 then Lp0 else if l_ = 2 then Lp0_0 else 0), hs.closeM_ft (o := o) (ρ := fun l_ => if l_ = 1 then Lp0 else if l_ = 2 then Lp0_0 else 0) f900019 (lab_at hoa (i := 0) rfl) rfl, hs.closeM_ft (o := o) (ρ := fun l_ => if l_ = 1 then Lp0 else if l_ = 2 then Lp0_0 else 0) f737 (lab_at hoa (i := 1) rfl) rfl, hc738⟩
  · rw [b1475] at hk H
    replace H := bifT H
    refine x_if hk (b := true) rfl ?_
    refine (show Code.wpIn _ _ _ _ _ _ _ from ?_)
    refine wpIn_skip ?_
    refine then_n ?_
    refine x_mid (fun a_ w_ => ∃ o1842 : Nat → Nat, ∃ ds1843 : List Deferred, ∃ A1844 : Option Addr, ∃ c1845 : Nat, ∃ l1846 : List T28, ∃ A1849 : Option Addr, ∃ c1850 : Nat, KnD 34 ds1843 a_ [(0, .pointer (some ⟨bp0, 0, none⟩)), (8, .slice A1849 (p1).length c1850), (9, .int .i64 ((p1).length : Int)), (10, .int .i64 x743)] ∧ St [1, 2] w oi w_ o1842 ∧ Ft (Own ET28 29 (.slice A1844 (l1846).length c1845) l1846) w_ o1842 2 ∧ Ft (RdC ET28 A1849 p1) w_ o1842 0 ∧ Ft (Bx bp0 26 [.slice A1844 (l1846).length c1845]) w_ o1842 1 ∧ Ft (MK ds1843) w_ o1842 3 ∧ (l1846).length ≤ c1845 ∧ (p1).length ≤ c1850 ∧ spans_Set_Cut_j2 x743 lp1473 l1846 = some r) ?_ ?_
    rotate_left
    · rintro a w1853 ⟨o1842, ds1843, A1844, c1845, l1846, A1849, c1850, hk, hs, f1847, f1851, f900019, fxm, hc1848, hc1852, H⟩
      rw [spans_Set_Cut_j2] at H
      refine wpIn_region_lit ?_
      refine x_run tab hk (k := 2) (lv := []) (ks := [0, 8, 9, 10]) (e' := [(0, .pointer (some ⟨bp0, 0, none⟩)), (8, .slice A1849 (p1).length c1850), (9, .int .i64 ((p1).length : Int)), (10, .int .i64 (IntKind.wrap .i64 (x743 + 1)))]) rfl trivial fun a hk => ?_
      refine wpListIn_nil ?_
      refine then_n ?_
      exact ⟨k1472, Nat.le_refl _, o1842, ds1843, A1844, c1845, l1846, A1849, c1850, (IntKind.wrap .i64 (x743 + 1)), (by exact Kn.pick (ks := [0, 8, 9, 10]) hk rfl), hs, f1847, f1851, f900019, fxm, hc1848, hc1852, (hlp1474 ▸ H)⟩
    refine wpIn_block ?_
    refine x_seq ?_
    refine wpIn_region_lit ?_
    obtain ⟨q1854, H⟩ := ifS H
    obtain ⟨ad1855, hAad1855⟩ := RdC.addr f741.now q1854
    have hk_C := hk
    have f737_C := f737
    have f741_C := f741
    have f900019_C := f900019
    have fxm_C := fxm
    subst hAad1855
    have hk := hk_C
    clear hk_C
    have f737 := f737_C
    clear f737_C
    have f741 := f741_C
    clear f741_C
    have f900019 := f900019_C
    clear f900019_C
    have fxm := fxm_C
    clear fxm_C
    refine x_run tab hk (k := 2) (lv := [.agg #[.int .i64 ((rdD zT28 p1 x743).From), .int .i64 ((rdD zT28 p1 x743).To)]]) (ks := [0, 8, 9, 10, 13]) (e' := [(0, .pointer (some ⟨bp0, 0, none⟩)), (8, .slice (some ad1855) (p1).length c740), (9, .int .i64 ((p1).length : Int)), (10, .int .i64 x743), (13, .agg #[.int .i64 ((rdD zT28 p1 x743).From), .int .i64 ((rdD zT28 p1 x743).To)])]) rfl ⟨q1854, (load_elem (E := ET28) (i := x743) (dx := zT28) tab rfl rfl f741.now q1854), trivial⟩ fun a hk => ?_
    refine x_op hk rfl ?_
    refine op_alloc (o := o732) tab (t := 29) (cs := [.int .i64 0, .int .i64 0]) rfl rfl 184 fun bx1859 w1856 o1857 st1858 f1860 => ?_
    replace f737 := f737.st st1858 (by decide)
    replace f741 := f741.st st1858 (by decide)
    replace f900019 := f900019.st st1858 (by decide)
    replace fxm := fxm.st st1858 (by decide)
    replace hs := hs.locM st1858 (by decide) hom
    have hk := hk.put 5 (.pointer (some ⟨bx1859, 0, none⟩)) rfl
    refine x_op hk rfl ?_
    refine op_store tab hk (t := 29) (v := .agg #[.int .i64 ((rdD zT28 p1 x743).From), .int .i64 ((rdD zT28 p1 x743).To)]) (b := bx1859) (k := 0) (cs' := [.int .i64 ((rdD zT28 p1 x743).From), .int .i64 ((rdD zT28 p1 x743).To)]) rfl rfl rfl rfl rfl rfl f1860 rfl rfl fun w1861 o1862 st1863 f1860_ => ?_
    replace f737 := f737.st st1863 (by decide)
    replace f741 := f741.st st1863 (by decide)
    replace f900019 := f900019.st st1863 (by decide)
    replace fxm := fxm.st st1863 (by decide)
    replace hs := hs.locM st1863 (by decide) hom
    replace f1860 := f1860_
    refine wpListIn_nil ?_
    refine then_n ?_
    refine x_seq ?_
    refine x_seq ?_
    refine wpIn_region_lit ?_
    refine x_run tab hk (k := 1) (lv := [.agg #[.int .i64 ((rdD zT28 p1 x743).From), .int .i64 ((rdD zT28 p1 x743).To)]]) (ks := [0, 5, 8, 9, 10, 14]) (e' := [(0, .pointer (some ⟨bp0, 0, none⟩)), (5, .pointer (some ⟨bx1859, 0, none⟩)), (8, .slice (some ad1855) (p1).length c740), (9, .int .i64 ((p1).length : Int)), (10, .int .i64 x743), (14, .agg #[.int .i64 ((rdD zT28 p1 x743).From), .int .i64 ((rdD zT28 p1 x743).To)])]) rfl ⟨(load_box tab rfl rfl f1860.now (k := 0) rfl rfl), trivial⟩ fun a hk => ?_
    refine x_op hk rfl ?_
    obtain ⟨t1867, hc1868, H⟩ := bindS H
    refine op_call hk ent_24 (vs := [.agg #[.int .i64 ((rdD zT28 p1 x743).From), .int .i64 ((rdD zT28 p1 x743).To)]]) rfl (spans_Span_fit_calls (rdD zT28 p1 x743) _ o1862    _ hc1868) ?_
    rintro _ w1869 ⟨o1870, rfl, st1871⟩
    replace f1860 := f1860.st st1871 (by decide)
    replace f737 := f737.st st1871 (by decide)
    replace f741 := f741.st st1871 (by decide)
    replace f900019 := f900019.st st1871 (by decide)
    replace fxm := fxm.st st1871 (by decide)
    replace hs := hs.locM st1871 (by decide) hom
    have hk := hk.put 15 (.agg #[.int .i64 t1867.From, .int .i64 t1867.To]) rfl
    refine x_op hk rfl ?_
    refine op_store tab hk (t := 29) (v := .agg #[.int .i64 t1867.From, .int .i64 t1867.To]) (b := bx1859) (k := 0) (cs' := [.int .i64 t1867.From, .int .i64 t1867.To]) rfl rfl rfl rfl rfl rfl f1860 rfl rfl fun w1872 o1873 st1874 f1860_ => ?_
    replace f737 := f737.st st1874 (by decide)
    replace f741 := f741.st st1874 (by decide)
    replace f900019 := f900019.st st1874 (by decide)
    replace fxm := fxm.st st1874 (by decide)
    replace hs := hs.locM st1874 (by decide) hom
    replace f1860 := f1860_
    refine wpListIn_nil ?_
    refine then_n ?_
    refine x_seq ?_
    refine wpIn_region_lit ?_
    refine x_run tab hk (k := 1) (lv := [.agg #[.int .i64 t1867.From, .int .i64 t1867.To]]) (ks := [0, 5, 8, 9, 10, 16]) (e' := [(0, .pointer (some ⟨bp0, 0, none⟩)), (5, .pointer (some ⟨bx1859, 0, none⟩)), (8, .slice (some ad1855) (p1).length c740), (9, .int .i64 ((p1).length : Int)), (10, .int .i64 x743), (16, .agg #[.int .i64 t1867.From, .int .i64 t1867.To])]) rfl ⟨(load_box tab rfl rfl f1860.now (k := 0) rfl rfl), trivial⟩ fun a hk => ?_
    refine x_op hk rfl ?_
    obtain ⟨t1878, hc1879, H⟩ := bindS H
    refine op_call hk ent_25 (vs := [.agg #[.int .i64 t1867.From, .int .i64 t1867.To]]) rfl (spans_Span_empty_calls t1867 _ o1873    _ hc1879) ?_
    rintro _ w1880 ⟨o1881, rfl, st1882⟩
    replace f1860 := f1860.st st1882 (by decide)
    replace f737 := f737.st st1882 (by decide)
    replace f741 := f741.st st1882 (by decide)
    replace f900019 := f900019.st st1882 (by decide)
    replace fxm := fxm.st st1882 (by decide)
    replace hs := hs.locM st1882 (by decide) hom
    have hk := hk.put 17 (.bool t1878) rfl
    refine wpListIn_nil ?_
    refine then_n ?_
    cases b1883 : t1878
    · rw [b1883] at hk H
      replace H := bifF H
      refine x_if hk (b := false) rfl ?_
      refine (show Code.wpIn _ _ _ _ _ _ _ from ?_)
      refine wpIn_skip ?_
      refine then_n ?_
      refine x_seq ?_
      refine wpIn_region_lit ?_
      refine x_op hk rfl ?_
      refine op_alloc (o := o1881) tab (t := 24) (cs := [.slice none 0 0]) rfl rfl 185 fun bx1887 w1884 o1885 st1886 f1888 => ?_
      replace f1860 := f1860.st st1886 (by decide)
      replace f737 := f737.st st1886 (by decide)
      replace f741 := f741.st st1886 (by decide)
      replace f900019 := f900019.st st1886 (by decide)
      replace fxm := fxm.st st1886 (by decide)
      replace hs := hs.locM st1886 (by decide) hom
      have hk := hk.put 6 (.pointer (some ⟨bx1887, 0, none⟩)) rfl
      refine wpListIn_nil ?_
      refine then_n ?_
      refine x_mid (fun a_ w_ => ∃ o2046 : Nat → Nat, ∃ ds2047 : List Deferred, ∃ A2048 : Option Addr, ∃ c2049 : Nat, ∃ l2050 : List T28, KnD 34 ds2047 a_ [(0, .pointer (some ⟨bp0, 0, none⟩)), (6, .pointer (some ⟨bx1887, 0, none⟩)), (8, .slice (some ad1855) (p1).length c740), (9, .int .i64 ((p1).length : Int)), (10, .int .i64 x743)] ∧ St [1, 2] w oi w_ o2046 ∧ Ft (Bx bx1887 24 [.slice A2048 (l2050).length c2049]) w_ o2046 203 ∧ Ft (Own ET28 29 (.slice A2048 (l2050).length c2049) l2050) w_ o2046 202 ∧ Ft (Own ET28 29 (.slice A734 (l736).length c735) l736) w_ o2046 2 ∧ Ft (RdC ET28 (some ad1855) p1) w_ o2046 0 ∧ Ft (Bx bp0 26 [.slice A734 (l736).length c735]) w_ o2046 1 ∧ Ft (MK ds2047) w_ o2046 3 ∧ (l2050).length ≤ c2049 ∧ spans_Set_Cut_j3 x743 lp1473 l2050 = some r) ?_ ?_
      rotate_left
      · rintro a w2053 ⟨o2046, ds2047, A2048, c2049, l2050, hk, hs, f1888, f2051, f737, f741, f900019, fxm, hc2052, H⟩
        rw [spans_Set_Cut_j3] at H
        refine wpIn_region_lit ?_
        refine x_run tab hk (k := 4) (lv := [.slice A2048 (l2050).length c2049]) (ks := [0, 8, 9, 10, 30, 32]) (e' := [(0, .pointer (some ⟨bp0, 0, none⟩)), (8, .slice (some ad1855) (p1).length c740), (9, .int .i64 ((p1).length : Int)), (10, .int .i64 x743), (30, .slice A2048 (l2050).length c2049), (32, .pointer (some ⟨bp0, 0, none⟩))]) rfl ⟨(load1 tab rfl ((Bx.cell f1888.now 0).trans rfl)), trivial⟩ fun a hk => ?_
        refine x_op hk rfl ?_
        refine op_store tab hk (t := 24) (v := .slice A2048 (l2050).length c2049) (b := bp0) (k := 0) (cs' := [.slice A2048 (l2050).length c2049]) rfl rfl rfl rfl rfl rfl f900019 rfl rfl fun w2054 o2055 st2056 f900019_ => ?_
        replace f2051 := f2051.st st2056 (by decide)
        replace f737 := f737.st st2056 (by decide)
        replace f741 := f741.st st2056 (by decide)
        replace fxm := fxm.st st2056 (by decide)
        replace hs := hs.locM st2056 (by decide) hom
        replace f900019 := f900019_
        refine wpListIn_nil ?_
        refine blk_n ?_
        refine then_n ?_
        exact ⟨(fun b_ => (fun l_ => if l_ = 202 then 2 else l_) (o2055 b_)), ds2047, A2048, c2049, l2050, (some ad1855), c740, (by exact Kn.pick (ks := [0, 8, 9, 10]) hk rfl), (hs.relabM hob (fun l_ => if l_ = 202 then 2 else l_) (by decide)), (f2051.relab (fun l_ => if l_ = 202 then 2 else l_) rfl), (f741.relab (fun l_ => if l_ = 202 then 2 else l_) rfl), (f900019.relab (fun l_ => if l_ = 202 then 2 else l_) rfl), (fxm.relab (fun l_ => if l_ = 202 then 2 else l_) rfl), hc2052, hc742, H⟩
      refine x_seq ?_
      refine xd_begin (o := o1885) (fun W_ => (Bx bx1859 29 [.int .i64 t1867.From, .int .i64 t1867.To]) W_ ∧ (Bx bp0 26 [.slice A734 (l736).length c735]) W_ ∧ True) mixed rfl rfl fun w2081 st2082 => ?_
      replace f1860 := f1860.st st2082 (by decide)
      replace f1888 := f1888.st st2082 (by decide)
      replace f737 := f737.st st2082 (by decide)
      replace f741 := f741.st st2082 (by decide)
      replace f900019 := f900019.st st2082 (by decide)
      replace fxm := fxm.st st2082 (by decide)
      replace hs := hs.locM st2082 (by decide) hom
      refine xd_take tab hk (k := 1) (is := [0, 1, 2, 3, 4]) (ls' := #[true, true, true, true, true, false]) (lv := [.slice A734 (l736).length c735, .agg #[.int .i64 t1867.From, .int .i64 t1867.To]]) (ks := [0, 6, 8, 9, 10, 21, 22]) (e' := [(0, .pointer (some ⟨bp0, 0, none⟩)), (6, .pointer (some ⟨bx1887, 0, none⟩)), (8, .slice (some ad1855) (p1).length c740), (9, .int .i64 ((p1).length : Int)), (10, .int .i64 x743), (21, .slice A734 (l736).length c735), (22, .agg #[.int .i64 t1867.From, .int .i64 t1867.To])]) (by kernel_rfl) rfl rfl (by kernel_rfl) (np_then (np_then (np_blk (np_then (np_then (np_blk np_bodyQ)))))) ⟨f1860.now, f900019.now, trivial⟩ (fun W_ hS => ⟨(load1 tab rfl ((Bx.cell hS.2.1 0).trans rfl)), (load_box tab rfl rfl hS.1 (k := 0) rfl rfl), trivial⟩) fun a hk => ?_
      refine xd_op hk (i := 5) (by kernel_rfl) rfl rfl ?_
      obtain ⟨t2086, hc2087, H⟩ := bindS H
      refine op_call hk ent_28 (vs := [.slice A734 (l736).length c735, .agg #[.int .i64 t1867.From, .int .i64 t1867.To]]) rfl (spans_without_calls A734 c735 l736 t1867 _ o1885 _ (f737.imp fun _ h_ => Own.rd h_) hc738 208 209  _ hc2087) ?_
      rintro _ w2088 ⟨o2089, bx2091, bx2093, rfl, st2090, f2092, f2094⟩
      replace f1860 := f1860.st st2090 (by decide)
      replace f1888 := f1888.st st2090 (by decide)
      replace f737 := f737.st st2090 (by decide)
      replace f741 := f741.st st2090 (by decide)
      replace f900019 := f900019.st st2090 (by decide)
      replace fxm := fxm.st st2090 (by decide)
      replace hs := hs.locM st2090 (by decide) hom
      have hk := hk.put 23 (.func (.func 36) #[] #[.pointer (some ⟨bx2091, 0, none⟩), .pointer (some ⟨bx2093, 0, none⟩)]) rfl
      refine ⟨.inr ⟨f1860.now, f900019.now, trivial⟩, ?_⟩
      refine xd_done (by kernel_rfl) ?_
      refine then_n ?_
      refine wpIn_block ?_
      obtain ⟨ys2095, hy2096, H⟩ := bindS H
      refine x_range 3 210 211 [185, 215] hk rfl ent_36 (spans_without_1_iter K bx2091 A734 c735 l736 bx2093 t2086 _ _ 208 f2092 2 (f737.imp fun _ h_ => Own.rd h_) hc738 209 f2094 (by decide) (by decide) (by decide) (by decide) _ hy2096) fxm (fun _ _ _ h_ => by subst h_; rfl) rfl rfl (fun rr_ w_ o2138 => ∃ A2139 : Option Addr, ∃ c2140 : Nat, ∃ l2141 : List T28, St [1, 2] w oi w_ o2138 ∧ Ft (Bx bx1887 24 [.slice A2139 (l2141).length c2140]) w_ o2138 185 ∧ Ft (Own ET28 29 (.slice A2139 (l2141).length c2140) l2141) w_ o2138 215 ∧ Ft (Own ET28 29 (.slice A734 (l736).length c735) l736) w_ o2138 2 ∧ Ft (RdC ET28 (some ad1855) p1) w_ o2138 0 ∧ Ft (Bx bp0 26 [.slice A734 (l736).length c735]) w_ o2138 1 ∧ (l2141).length ≤ c2140 ∧ spans_Set_Cut_r4 x743 lp1473 rr_ l2141 = some r) (fun c_ w_ o2171 => False) ?_ ?_ ⟨none, 0, ([] : List T28), hs, f1888, (Ft.of_all (fun _ => Own.nil _ _ _) _ _ _), f737, f741, f900019, (by simp), H⟩ ?_ ?_ ?_
      · rintro rr_ w_ _ _ _ ⟨A2139, c2140, l2141, hs, f1888, f2142, f737, f741, f900019, hc2143, H⟩ st_
        exact ⟨A2139, c2140, l2141, hs.locM st_ (by decide) hom, f1888.st st_ (by decide), f2142.st st_ (by decide), f737.st st_ (by decide), f741.st st_ (by decide), f900019.st st_ (by decide), hc2143, H⟩
      · exact fun _ _ _ _ _ h_ _ => h_.elim
      · rintro R0_ R1_ lr_ x2097 vs_ rest2098 w2099 o2100 ⟨A2139, c2140, l2141, hsO, f1888, f2142, f737, f741, f900019, hc2143, H⟩ hE fxr a hk
        obtain rfl : vs_ = [.agg #[.int .i64 x2097.From, .int .i64 x2097.To]] := hE w2099
        obtain ⟨o2101, hs0, hfl, hbB, hoi⟩ := St.startB w2099 o2100 215
        have hs := hs0 [210, 185, 215]
        replace f1888 := hfl f1888 rfl
        replace f2142 := hfl f2142 rfl
        replace f737 := hfl f737 rfl
        replace f741 := hfl f741 rfl
        replace f900019 := hfl f900019 rfl
        replace fxr := hfl fxr rfl
        replace hk : Kn 34 a [(0, .pointer (some ⟨bp0, 0, none⟩)), (6, .pointer (some ⟨bx1887, 0, none⟩)), (8, .slice (some ad1855) (p1).length c740), (9, .int .i64 ((p1).length : Int)), (10, .int .i64 x743), (24, .agg #[.int .i64 x2097.From, .int .i64 x2097.To])] := Kn.pick (ks := [0, 6, 8, 9, 10, 24]) hk rfl
        rw [spans_Set_Cut_r4] at H
        obtain ⟨lp2102, hlp2103⟩ : ∃ lp_, lp_ = spans_Set_Cut_r4 x743 lp1473 rest2098 := ⟨_, rfl⟩
        rw [← hlp2103] at H
        refine wpIn_region_lit ?_
        refine x_op hk rfl ?_
        refine op_alloc (o := o2101) tab (t := 29) (cs := [.int .i64 0, .int .i64 0]) rfl rfl 218 fun bx2177 w2174 o2175 st2176 f2178 => ?_
        replace f1888 := f1888.st st2176 (by decide)
        replace f2142 := f2142.st st2176 (by decide)
        replace f737 := f737.st st2176 (by decide)
        replace f741 := f741.st st2176 (by decide)
        replace f900019 := f900019.st st2176 (by decide)
        replace fxr := fxr.st st2176 (by decide)
        replace hs := hs.locB st2176 rfl hbB
        have hk := hk.put 7 (.pointer (some ⟨bx2177, 0, none⟩)) rfl
        refine x_op hk rfl ?_
        refine op_store tab hk (t := 29) (v := .agg #[.int .i64 x2097.From, .int .i64 x2097.To]) (b := bx2177) (k := 0) (cs' := [.int .i64 x2097.From, .int .i64 x2097.To]) rfl rfl rfl rfl rfl rfl f2178 rfl rfl fun w2179 o2180 st2181 f2178_ => ?_
        replace f1888 := f1888.st st2181 (by decide)
        replace f2142 := f2142.st st2181 (by decide)
        replace f737 := f737.st st2181 (by decide)
        replace f741 := f741.st st2181 (by decide)
        replace f900019 := f900019.st st2181 (by decide)
        replace fxr := fxr.st st2181 (by decide)
        replace hs := hs.locB st2181 rfl hbB
        replace f2178 := f2178_
        refine wpListIn_nil ?_
        refine then_n ?_
        refine ⟨_, fxr, fun w2182 st2183 fxr => ?_⟩
        replace f1888 := f1888.st st2183 (by decide)
        replace f2142 := f2142.st st2183 (by decide)
        replace f2178 := f2178.st st2183 (by decide)
        replace f737 := f737.st st2183 (by decide)
        replace f741 := f741.st st2183 (by decide)
        replace f900019 := f900019.st st2183 (by decide)
        replace hs := hs.locB st2183 rfl hbB
        refine wpIn_block ?_
        refine wpIn_region_lit ?_
        refine x_run tab hk (k := 2) (lv := [.slice A2139 (l2141).length c2140, .agg #[.int .i64 x2097.From, .int .i64 x2097.To]]) (ks := [0, 6, 8, 9, 10, 25, 26]) (e' := [(0, .pointer (some ⟨bp0, 0, none⟩)), (6, .pointer (some ⟨bx1887, 0, none⟩)), (8, .slice (some ad1855) (p1).length c740), (9, .int .i64 ((p1).length : Int)), (10, .int .i64 x743), (25, .slice A2139 (l2141).length c2140), (26, .agg #[.int .i64 x2097.From, .int .i64 x2097.To])]) rfl ⟨(load1 tab rfl ((Bx.cell f1888.now 0).trans rfl)), (load_box tab rfl rfl f2178.now (k := 0) rfl rfl), trivial⟩ fun a hk => ?_
        refine x_op hk rfl ?_
        refine op_slice (o := o2180) tab hk (vs := [.agg #[.int .i64 x2097.From, .int .i64 x2097.To]]) (cs := [.int .i64 x2097.From, .int .i64 x2097.To]) rfl rfl rfl rfl rfl rfl rfl rfl rfl 219 fun bx2187 w2184 o2185 st2186 f2188 => ?_
        replace f1888 := f1888.st st2186 (by decide)
        replace f2142 := f2142.st st2186 (by decide)
        replace f737 := f737.st st2186 (by decide)
        replace f741 := f741.st st2186 (by decide)
        replace f900019 := f900019.st st2186 (by decide)
        replace fxr := fxr.st st2186 (by decide)
        replace hs := hs.locB st2186 rfl hbB
        have f2189 : Ft (Own ET28 29 (.slice (some ⟨bx2187, 0, none⟩) (([x2097] : List T28)).length 1) ([x2097] : List T28)) w2184 o2185 219 := f2188.imp fun _ h_ => Own.of_box h_ rfl (by simp)
        have hk := hk.put 27 (.slice (some ⟨bx2187, 0, none⟩) (([x2097] : List T28)).length 1) rfl
        refine x_op hk rfl ?_
        obtain ⟨q2193, H⟩ := ifS H
        refine op_append (o := o2185) (E := ET28) (xs := l2141) (ys := ([x2097] : List T28)) tab hk rfl rfl rfl rfl rfl rfl rfl f2142 (Own.rd f2189.now) q2193 fun A2194 c2195 w2190 o2191 st2192 f2196 hc2197 => ?_
        replace f1888 := f1888.st st2192 (by decide)
        replace f2189 := f2189.st st2192 (by decide)
        replace f737 := f737.st st2192 (by decide)
        replace f741 := f741.st st2192 (by decide)
        replace f900019 := f900019.st st2192 (by decide)
        replace fxr := fxr.st st2192 (by decide)
        replace hs := hs.locB st2192 rfl hbB
        have hk := hk.put 28 (.slice A2194 ((l2141 ++ ([x2097] : List T28))).length c2195) rfl
        refine x_op hk rfl ?_
        refine op_store tab hk (t := 24) (v := .slice A2194 ((l2141 ++ ([x2097] : List T28))).length c2195) (b := bx1887) (k := 0) (cs' := [.slice A2194 ((l2141 ++ ([x2097] : List T28))).length c2195]) rfl rfl rfl rfl rfl rfl f1888 rfl rfl fun w2198 o2199 st2200 f1888_ => ?_
        replace f2189 := f2189.st st2200 (by decide)
        replace f2196 := f2196.st st2200 (by decide)
        replace f737 := f737.st st2200 (by decide)
        replace f741 := f741.st st2200 (by decide)
        replace f900019 := f900019.st st2200 (by decide)
        replace fxr := fxr.st st2200 (by decide)
        replace hs := hs.locB st2200 rfl hbB
        replace f1888 := f1888_
        refine wpListIn_nil ?_
        refine blk_n ?_
        have hq2201 := hs.closeB hoi hbB rfl (fun l_ => if l_ = 1 then 1 else if l_ = 2 then 2 else if l_ = 185 then 185 else if l_ = 215 then 215 else 0)
        exact ⟨_, hq2201, fxr.now, ⟨A2194, c2195, (l2141 ++ ([x2097] : List T28)), (hsO.locM hq2201 (by decide) hom), (hs.closeM_ft (o := o2100) (ρ := (fun l_ => if l_ = 1 then 1 else if l_ = 2 then 2 else if l_ = 185 then 185 else if l_ = 215 then 215 else 0)) f1888 (lab_atB hoi rfl) rfl), (hs.closeM_ft (o := o2100) (ρ := (fun l_ => if l_ = 1 then 1 else if l_ = 2 then 2 else if l_ = 185 then 185 else if l_ = 215 then 215 else 0)) f2196 (lab_atB hoi rfl) rfl), (hs.closeM_ft (o := o2100) (ρ := (fun l_ => if l_ = 1 then 1 else if l_ = 2 then 2 else if l_ = 185 then 185 else if l_ = 215 then 215 else 0)) f737 (lab_atB hoi rfl) rfl), (hs.closeM_ft (o := o2100) (ρ := (fun l_ => if l_ = 1 then 1 else if l_ = 2 then 2 else if l_ = 185 then 185 else if l_ = 215 then 215 else 0)) f741 (lab_atB hoi rfl) rfl), (hs.closeM_ft (o := o2100) (ρ := (fun l_ => if l_ = 1 then 1 else if l_ = 2 then 2 else if l_ = 185 then 185 else if l_ = 215 then 215 else 0)) f900019 (lab_atB hoi rfl) rfl), hc2197, (hlp2103 ▸ H)⟩⟩
      · rintro ds2173 w2172 o2138 a hk fxm ⟨A2139, c2140, l2141, hs, f1888, f2142, f737, f741, f900019, hc2143, H⟩
        rw [spans_Set_Cut_r4] at H
        refine blk_n ?_
        refine then_n ?_
        exact ⟨(fun b_ => (fun l_ => if l_ = 185 then 203 else if l_ = 215 then 202 else l_) (o2138 b_)), ds2173, A2139, c2140, l2141, (by exact Kn.pick (ks := [0, 6, 8, 9, 10]) hk rfl), (hs.relabM hob (fun l_ => if l_ = 185 then 203 else if l_ = 215 then 202 else l_) (by decide)), (f1888.relab (fun l_ => if l_ = 185 then 203 else if l_ = 215 then 202 else l_) rfl), (f2142.relab (fun l_ => if l_ = 185 then 203 else if l_ = 215 then 202 else l_) rfl), (f737.relab (fun l_ => if l_ = 185 then 203 else if l_ = 215 then 202 else l_) rfl), (f741.relab (fun l_ => if l_ = 185 then 203 else if l_ = 215 then 202 else l_) rfl), (f900019.relab (fun l_ => if l_ = 185 then 203 else if l_ = 215 then 202 else l_) rfl), (fxm.relab (fun l_ => if l_ = 185 then 203 else if l_ = 215 then 202 else l_) rfl), hc2143, H⟩
      · exact fun _ _ _ _ _ _ _ h_ => h_.elim
    · rw [b1883] at hk H
      replace H := bifT H
      refine x_if hk (b := true) rfl ?_
      refine (show Code.wpIn _ _ _ _ _ _ _ from ?_)
      refine wpIn_exit ?_
      refine then_x ?_
      refine blk_x ?_
      refine then_n ?_
      exact ⟨o1881, ds733, A734, c735, l736, (some ad1855), c740, (by exact Kn.pick (ks := [0, 8, 9, 10]) hk rfl), hs, f737, f741, f900019, fxm, hc738, hc742, H⟩

/-! slices.Clone[[]tidewrack/spans.Span,tidewrack/spans.Span] -/
theorem slices_Clone_calls (Ap0 : Option Addr) (cp0 : Nat) (p0 : List T28) (w : World) (o : Nat → Nat) (Lp0 : Nat) (hp0 : Ft (RdC ET28 Ap0 p0) w o Lp0) (hcp0 : (p0).length ≤ cp0)  (R0 : Nat) (r : List T28) (H : slices_Clone p0 = some r) :
    Calls Try.prog 27 #[.slice Ap0 (p0).length cp0] w (Ret fun v_ w' => ∃ o' : Nat → Nat, ∃ A0 : Option Addr, ∃ c0 : Nat, v_ = .slice A0 (r).length c0 ∧ St [] w o w' o' ∧ Ft (Own ET28 29 (.slice A0 (r).length c0) (r)) w' o' R0 ∧ (r).length ≤ c0) := by
  refine x_enter (vs := [.slice Ap0 (p0).length cp0]) Try.func27 rfl rfl rfl fun a hk => ?_
  obtain ⟨o0, hs, h0⟩ := St.start w o
  have f900000 := h0 _ _ hp0
  clear h0
  rw [slices_Clone] at H
  refine x_seq ?_
  refine wpIn_region_lit ?_
  refine x_run tab hk (k := 1) (lv := []) (ks := [0]) (e' := [(0, .slice Ap0 (p0).length cp0)]) rfl trivial fun a hk => ?_
  refine wpListIn_nil ?_
  refine then_n ?_
  refine x_seq ?_
  refine x_seq ?_
  refine wpIn_region_lit ?_
  refine x_run tab hk (k := 1) (lv := []) (ks := [0, 3]) (e' := [(0, .slice Ap0 (p0).length cp0), (3, .slice Ap0 (p0).length cp0)]) rfl trivial fun a hk => ?_
  rcases none_or Ap0 with hAad1 | ⟨ad1, hAad1⟩
  · have hk_C := hk
    have f900000_C := f900000
    subst hAad1
    have hk := hk_C
    clear hk_C
    have f900000 := f900000_C
    clear f900000_C
    have hz2 : p0 = [] := RdC.none f900000.now
    replace H : (some ([] : List T28)) = some r := by (try rw [hz2] at H); simpa using H
    refine x_run tab hk (k := 1) (lv := []) (ks := [0, 4]) (e' := [(0, .slice none (p0).length cp0), (4, .bool true)]) rfl trivial fun a hk => ?_
    refine wpListIn_nil ?_
    refine then_n ?_
    refine x_if hk (b := true) rfl ?_
    refine (show Code.wpIn _ _ _ _ _ _ _ from ?_)
    refine x_seq ?_
    refine wpIn_region_lit ?_
    refine x_run tab hk (k := 1) (lv := []) (ks := [2]) (e' := [(2, .slice none 0 0)]) rfl trivial fun a hk => ?_
    refine wpListIn_nil ?_
    refine then_n ?_
    refine wpIn_ret ?_
    refine then_r ?_
    obtain rfl := Option.some.inj H
    exact x_retG hk (rs := [.tmp 2]) (vs := [.slice none 0 0]) rfl ⟨rfl, trivial⟩ ⟨fun b_ => if b_ < w.heap.size then o b_ else (fun _ => 0) (o0 b_), none, 0, rfl, hs.close0 o (fun _ => 0), (Ft.of_all (fun _ => Own.nil _ _ _) _ _ _), (by simp)⟩
  · have hk_C := hk
    have f900000_C := f900000
    subst hAad1
    have hk := hk_C
    clear hk_C
    have f900000 := f900000_C
    clear f900000_C
    refine x_run tab hk (k := 1) (lv := []) (ks := [0, 4]) (e' := [(0, .slice (some ad1) (p0).length cp0), (4, .bool false)]) rfl trivial fun a hk => ?_
    refine wpListIn_nil ?_
    refine then_n ?_
    refine x_if hk (b := false) rfl ?_
    refine (show Code.wpIn _ _ _ _ _ _ _ from ?_)
    refine wpIn_skip ?_
    refine then_n ?_
    refine x_seq ?_
    refine wpIn_region_lit ?_
    refine x_op hk rfl ?_
    refine op_slice (o := o0) tab hk (vs := []) (cs := []) rfl rfl rfl rfl rfl rfl rfl rfl rfl 1 fun bx6 w3 o4 st5 f7 => ?_
    replace f900000 := f900000.st st5 (by decide)
    replace hs := hs.loc0 st5 (by decide)
    have f8 : Ft (Own ET28 29 (.slice (some ⟨bx6, 0, none⟩) (([] : List T28)).length 0) ([] : List T28)) w3 o4 1 := f7.imp fun _ h_ => Own.of_box h_ rfl (by simp)
    have hk := hk.put 5 (.slice (some ⟨bx6, 0, none⟩) (([] : List T28)).length 0) rfl
    refine x_run tab hk (k := 1) (lv := []) (ks := [5, 6]) (e' := [(5, .slice (some ⟨bx6, 0, none⟩) (([] : List T28)).length 0), (6, .slice (some ad1) (p0).length cp0)]) rfl trivial fun a hk => ?_
    refine x_op hk rfl ?_
    obtain ⟨q12, H⟩ := ifS H
    refine op_append (o := o4) (E := ET28) (xs := ([] : List T28)) (ys := p0) tab hk rfl rfl rfl rfl rfl rfl rfl f8 f900000.now q12 fun A13 c14 w9 o10 st11 f15 hc16 => ?_
    replace f900000 := f900000.st st11 (by decide)
    replace hs := hs.loc0 st11 (by decide)
    have hk := hk.put 7 (.slice A13 ((([] : List T28) ++ p0)).length c14) rfl
    refine x_run tab hk (k := 1) (lv := []) (ks := [2]) (e' := [(2, .slice A13 ((([] : List T28) ++ p0)).length c14)]) rfl trivial fun a hk => ?_
    refine wpListIn_nil ?_
    refine then_n ?_
    refine wpIn_ret ?_
    obtain rfl := Option.some.inj H
    exact x_retG hk (rs := [.tmp 2]) (vs := [.slice A13 ((([] : List T28) ++ p0)).length c14]) rfl ⟨rfl, trivial⟩ ⟨fun b_ => if b_ < w.heap.size then o b_ else (fun _ => R0) (o10 b_), A13, c14, rfl, hs.close0 o (fun _ => R0), hs.close_ft (o := o) (ρ := fun _ => R0) f15 (by decide) rfl, hc16⟩

/-! (*tidewrack/spans.Set).Spans -/
theorem spans_Set_Spans_calls (bp0 : Nat) (Ap0_0 : Option Addr) (cp0_0 : Nat) (p0 : T25) (w : World) (o : Nat → Nat) (Lp0 : Nat) (hp0 : Ft (Bx bp0 26 [.slice Ap0_0 (p0.l).length cp0_0]) w o Lp0) (Lp0_0 : Nat) (hp0_0 : Ft (RdC ET28 Ap0_0 p0.l) w o Lp0_0) (hcp0_0 : (p0.l).length ≤ cp0_0)  (R0 : Nat) (r : List T28) (H : spans_Set_Spans p0 = some r) :
    Calls Try.prog 10 #[.pointer (some ⟨bp0, 0, none⟩)] w (Ret fun v_ w' => ∃ o' : Nat → Nat, ∃ A0 : Option Addr, ∃ c0 : Nat, v_ = .slice A0 (r).length c0 ∧ St [] w o w' o' ∧ Ft (Own ET28 29 (.slice A0 (r).length c0) (r)) w' o' R0 ∧ (r).length ≤ c0) := by
  refine x_enter (vs := [.pointer (some ⟨bp0, 0, none⟩)]) Try.func10 rfl rfl rfl fun a hk => ?_
  obtain ⟨o0, hs, h0⟩ := St.start w o
  have f900000 := h0 _ _ hp0_0
  have f900019 := h0 _ _ hp0
  clear h0
  rw [spans_Set_Spans] at H
  refine x_seq ?_
  refine wpIn_region_lit ?_
  refine x_run tab hk (k := 1) (lv := []) (ks := [0]) (e' := [(0, .pointer (some ⟨bp0, 0, none⟩))]) rfl trivial fun a hk => ?_
  refine wpListIn_nil ?_
  refine then_n ?_
  refine x_seq ?_
  refine wpIn_region_lit ?_
  refine x_run tab hk (k := 4) (lv := [.slice Ap0_0 (p0.l).length cp0_0]) (ks := [6]) (e' := [(6, .slice Ap0_0 (p0.l).length cp0_0)]) rfl ⟨(load1 tab rfl ((Bx.cell f900019.now 0).trans rfl)), trivial⟩ fun a hk => ?_
  refine x_op hk rfl ?_
  obtain ⟨t4, hc5, H⟩ := bindS H
  refine op_call hk ent_27 (vs := [.slice Ap0_0 (p0.l).length cp0_0]) rfl (slices_Clone_calls Ap0_0 cp0_0 p0.l _ o0 _ f900000 hcp0_0 1  _ hc5) ?_
  rintro _ w6 ⟨o7, A9, c10, rfl, st8, f11, hc12⟩
  replace f900000 := f900000.st st8 (by decide)
  replace f900019 := f900019.st st8 (by decide)
  replace hs := hs.loc0 st8 (by decide)
  have hk := hk.put 7 (.slice A9 (t4).length c10) rfl
  refine x_run tab hk (k := 1) (lv := []) (ks := [2]) (e' := [(2, .slice A9 (t4).length c10)]) rfl trivial fun a hk => ?_
  refine wpListIn_nil ?_
  refine then_n ?_
  refine wpIn_ret ?_
  obtain rfl := Option.some.inj H
  exact x_retG hk (rs := [.tmp 2]) (vs := [.slice A9 (t4).length c10]) rfl ⟨rfl, trivial⟩ ⟨fun b_ => if b_ < w.heap.size then o b_ else (fun _ => R0) (o7 b_), A9, c10, rfl, hs.close0 o (fun _ => R0), hs.close_ft (o := o) (ρ := fun _ => R0) f11 (by decide) rfl, hc12⟩

/-! tidewrack/tidewracklaw13.Same -/
theorem tidewracklaw13_Same_calls (K : Nat) (Ap0 : Option Addr) (cp0 : Nat) (p0 : List T28) (Ap1 : Option Addr) (cp1 : Nat) (p1 : List T28) (w : World) (o : Nat → Nat) (Lp0 : Nat) (hp0 : Ft (RdC ET28 Ap0 p0) w o Lp0) (hcp0 : (p0).length ≤ cp0) (Lp1 : Nat) (hp1 : Ft (RdC ET28 Ap1 p1) w o Lp1) (hcp1 : (p1).length ≤ cp1)  (r : Bool) (H : tidewracklaw13_Same K p0 p1 = some r) :
    Calls Try.prog 17 #[.slice Ap0 (p0).length cp0, .slice Ap1 (p1).length cp1] w (Ret fun v_ w' => ∃ o' : Nat → Nat, v_ = .bool r ∧ St [] w o w' o') := by
  refine x_enter (vs := [.slice Ap0 (p0).length cp0, .slice Ap1 (p1).length cp1]) Try.func17 rfl rfl rfl fun a hk => ?_
  obtain ⟨o0, hs, h0⟩ := St.start w o
  have f900000 := h0 _ _ hp0
  have f900020 := h0 _ _ hp1
  clear h0
  rw [tidewracklaw13_Same] at H
  refine x_seq ?_
  refine wpIn_region_lit ?_
  refine x_run tab hk (k := 1) (lv := []) (ks := [0, 1]) (e' := [(0, .slice Ap0 (p0).length cp0), (1, .slice Ap1 (p1).length cp1)]) rfl trivial fun a hk => ?_
  refine wpListIn_nil ?_
  refine then_n ?_
  refine x_seq ?_
  refine x_seq ?_
  refine wpIn_region_lit ?_
  refine x_run tab hk (k := 5) (lv := []) (ks := [0, 1, 10]) (e' := [(0, .slice Ap0 (p0).length cp0), (1, .slice Ap1 (p1).length cp1), (10, .bool (((p0).length : Int) != ((p1).length : Int)))]) rfl trivial fun a hk => ?_
  refine wpListIn_nil ?_
  refine then_n ?_
  cases b1 : (((p0).length : Int) != ((p1).length : Int))
  · rw [b1] at hk H
    replace H := bifF H
    refine x_if hk (b := false) rfl ?_
    refine (show Code.wpIn _ _ _ _ _ _ _ from ?_)
    refine wpIn_skip ?_
    refine then_n ?_
    refine x_mid (fun a_ w_ => ∃ o62 : Nat → Nat, Kn 26 a_ [] ∧ St [] w (fun _ => 0) w_ o62 ∧ tidewracklaw13_Same_j1 = some r) ?_ ?_
    rotate_left
    · rintro a w63 ⟨o62, hk, hs, H⟩
      rw [tidewracklaw13_Same_j1] at H
      refine x_seq ?_
      refine wpIn_region_lit ?_
      refine x_run tab hk (k := 1) (lv := []) (ks := [4]) (e' := [(4, .bool true)]) rfl trivial fun a hk => ?_
      refine wpListIn_nil ?_
      refine then_n ?_
      refine wpIn_ret ?_
      obtain rfl := Option.some.inj H
      exact x_retG hk (rs := [.tmp 4]) (vs := [.bool true]) rfl ⟨rfl, trivial⟩ ⟨fun b_ => if b_ < w.heap.size then o b_ else (fun _ => 0) (o62 b_), rfl, hs.close0 o (fun _ => 0)⟩
    refine x_seq ?_
    refine wpIn_region_lit ?_
    refine x_run tab hk (k := 3) (lv := []) (ks := [0, 1, 12, 13]) (e' := [(0, .slice Ap0 (p0).length cp0), (1, .slice Ap1 (p1).length cp1), (12, .int .i64 ((p1).length : Int)), (13, .int .i64 0)]) rfl trivial fun a hk => ?_
    refine wpListIn_nil ?_
    refine then_n ?_
    refine wpIn_block ?_
    refine x_loop (fun j_ a_ w_ => ∃ o83 : Nat → Nat, ∃ x84 : Int, Kn 26 a_ [(0, .slice Ap0 (p0).length cp0), (1, .slice Ap1 (p1).length cp1), (12, .int .i64 ((p1).length : Int)), (13, .int .i64 x84)] ∧ St [] w (fun _ => 0) w_ o83 ∧ Ft (RdC ET28 Ap0 p0) w_ o83 0 ∧ Ft (RdC ET28 Ap1 p1) w_ o83 0 ∧ tidewracklaw13_Same_l2 p0 p1 j_ x84 = some r) (k := K) ⟨o0, 0, (by exact Kn.pick (ks := [0, 1, 12, 13]) hk rfl), hs, f900000, f900020, H⟩ (by rintro _ _ ⟨_, _, _, _, _, _, H_⟩; exact absurd (show (none : Option Bool) = some r from H_) (by simp)) ?_
    rintro k102 a w101 ⟨o83, x84, hk, hs, f900000, f900020, H⟩
    rw [tidewracklaw13_Same_l2] at H
    obtain ⟨lp103, hlp104⟩ : ∃ lp_, lp_ = tidewracklaw13_Same_l2 p0 p1 k102 := ⟨_, rfl⟩
    rw [← hlp104] at H
    refine x_seq ?_
    refine wpIn_region_lit ?_
    refine x_run tab hk (k := 1) (lv := []) (ks := [0, 1, 12, 13, 14]) (e' := [(0, .slice Ap0 (p0).length cp0), (1, .slice Ap1 (p1).length cp1), (12, .int .i64 ((p1).length : Int)), (13, .int .i64 x84), (14, .bool (decide (x84 < ((p1).length : Int))))]) rfl trivial fun a hk => ?_
    refine wpListIn_nil ?_
    refine then_n ?_
    refine x_seq ?_
    cases b105 : (decide (x84 < ((p1).length : Int)))
    · rw [b105] at hk H
      replace H := bifF H
      refine x_if hk (b := false) rfl ?_
      refine (show Code.wpIn _ _ _ _ _ _ _ from ?_)
      refine wpIn_exit ?_
      refine then_x ?_
      refine then_x ?_
      refine blk_x ?_
      refine then_n ?_
      exact ⟨o83, (by exact Kn.pick (ks := []) hk rfl), hs, H⟩
    · rw [b105] at hk H
      replace H := bifT H
      refine x_if hk (b := true) rfl ?_
      refine (show Code.wpIn _ _ _ _ _ _ _ from ?_)
      refine wpIn_skip ?_
      refine then_n ?_
      refine x_seq ?_
      refine wpIn_block ?_
      refine x_seq ?_
      refine wpIn_region_lit ?_
      refine x_run tab hk (k := 2) (lv := []) (ks := [0, 1, 5, 12, 13]) (e' := [(0, .slice Ap0 (p0).length cp0), (1, .slice Ap1 (p1).length cp1), (5, .int .i64 x84), (12, .int .i64 ((p1).length : Int)), (13, .int .i64 x84)]) rfl trivial fun a hk => ?_
      refine wpListIn_nil ?_
      refine then_n ?_
      refine x_seq ?_
      refine xd_begin (o := o83) (fun W_ => (RdC ET28 Ap0 p0) W_ ∧ (RdC ET28 Ap1 p1) W_ ∧ True) mixed rfl rfl fun w114 st115 => ?_
      replace f900000 := f900000.st st115 (by decide)
      replace f900020 := f900020.st st115 (by decide)
      replace hs := hs.loc0 st115 (by decide)
      obtain ⟨q116, H⟩ := ifS H
      obtain ⟨ad117, hAad117⟩ := RdC.addr f900000.now q116
      have hk_C := hk
      have f900000_C := f900000
      have f900020_C := f900020
      subst hAad117
      have hk := hk_C
      clear hk_C
      have f900000 := f900000_C
      clear f900000_C
      have f900020 := f900020_C
      clear f900020_C
      obtain ⟨q118, H⟩ := ifS H
      obtain ⟨ad119, hAad119⟩ := RdC.addr f900020.now q118
      have hk_C := hk
      have f900000_C := f900000
      have f900020_C := f900020
      subst hAad119
      have hk := hk_C
      clear hk_C
      have f900000 := f900000_C
      clear f900000_C
      have f900020 := f900020_C
      clear f900020_C
      refine xd_take tab hk (k := 0) (is := [0, 1, 2, 3, 4, 5, 6, 7, 8]) (ls' := #[true, true, true, true, true, true, true, true, true]) (lv := [.agg #[.int .i64 ((rdD zT28 p0 x84).From), .int .i64 ((rdD zT28 p0 x84).To)], .agg #[.int .i64 ((rdD zT28 p1 x84).From), .int .i64 ((rdD zT28 p1 x84).To)], .bool (!(eqT28 (rdD zT28 p0 x84) (rdD zT28 p1 x84)))]) (ks := [0, 1, 12, 13, 24]) (e' := [(0, .slice (some ad117) (p0).length cp0), (1, .slice (some ad119) (p1).length cp1), (12, .int .i64 ((p1).length : Int)), (13, .int .i64 x84), (24, .bool (!(eqT28 (rdD zT28 p0 x84) (rdD zT28 p1 x84))))]) (by kernel_rfl) rfl rfl (by kernel_rfl) (np_then (np_blk (np_then (np_then (np_blk (np_then np_body)))))) ⟨f900000.now, f900020.now, trivial⟩ (fun W_ hS => ⟨q116, (load_elem (E := ET28) (i := x84) (dx := zT28) tab rfl rfl hS.1 q116), q118, (load_elem (E := ET28) (i := x84) (dx := zT28) tab rfl rfl hS.2.1 q118), (ask_neq tab stood rfl rfl rfl rfl), trivial⟩) fun a hk => ?_
      refine xd_done (by kernel_rfl) ?_
      refine then_n ?_
      cases b120 : (!(eqT28 (rdD zT28 p0 x84) (rdD zT28 p1 x84)))
      · rw [b120] at hk H
        replace H := bifF H
        refine x_if hk (b := false) rfl ?_
        refine (show Code.wpIn _ _ _ _ _ _ _ from ?_)
        refine wpIn_skip ?_
        refine blk_n ?_
        refine then_n ?_
        refine wpIn_region_lit ?_
        refine x_run tab hk (k := 2) (lv := []) (ks := [0, 1, 12, 13]) (e' := [(0, .slice (some ad117) (p0).length cp0), (1, .slice (some ad119) (p1).length cp1), (12, .int .i64 ((p1).length : Int)), (13, .int .i64 (IntKind.wrap .i64 (x84 + 1)))]) rfl trivial fun a hk => ?_
        refine wpListIn_nil ?_
        refine then_n ?_
        exact ⟨k102, Nat.le_refl _, o83, (IntKind.wrap .i64 (x84 + 1)), (by exact Kn.pick (ks := [0, 1, 12, 13]) hk rfl), hs, f900000, f900020, (hlp104 ▸ H)⟩
      · rw [b120] at hk H
        replace H := bifT H
        refine x_if hk (b := true) rfl ?_
        refine (show Code.wpIn _ _ _ _ _ _ _ from ?_)
        refine x_seq ?_
        refine wpIn_region_lit ?_
        refine x_run tab hk (k := 1) (lv := []) (ks := [4]) (e' := [(4, .bool false)]) rfl trivial fun a hk => ?_
        refine wpListIn_nil ?_
        refine then_n ?_
        refine wpIn_ret ?_
        refine blk_r ?_
        refine then_r ?_
        refine then_r ?_
        refine blk_r ?_
        refine then_r ?_
        obtain rfl := Option.some.inj H
        exact x_retG hk (rs := [.tmp 4]) (vs := [.bool false]) rfl ⟨rfl, trivial⟩ ⟨fun b_ => if b_ < w.heap.size then o b_ else (fun _ => 0) (o83 b_), rfl, hs.close0 o (fun _ => 0)⟩
  · rw [b1] at hk H
    replace H := bifT H
    refine x_if hk (b := true) rfl ?_
    refine (show Code.wpIn _ _ _ _ _ _ _ from ?_)
    refine x_seq ?_
    refine wpIn_region_lit ?_
    refine x_run tab hk (k := 1) (lv := []) (ks := [4]) (e' := [(4, .bool false)]) rfl trivial fun a hk => ?_
    refine wpListIn_nil ?_
    refine then_n ?_
    refine wpIn_ret ?_
    refine then_r ?_
    obtain rfl := Option.some.inj H
    exact x_retG hk (rs := [.tmp 4]) (vs := [.bool false]) rfl ⟨rfl, trivial⟩ ⟨fun b_ => if b_ < w.heap.size then o b_ else (fun _ => 0) (o0 b_), rfl, hs.close0 o (fun _ => 0)⟩

/-! (*tidewrack/spans.Set).Len -/
theorem spans_Set_Len_calls (K : Nat) (bp0 : Nat) (Ap0_0 : Option Addr) (cp0_0 : Nat) (p0 : T25) (w : World) (o : Nat → Nat) (Lp0 : Nat) (hp0 : Ft (Bx bp0 26 [.slice Ap0_0 (p0.l).length cp0_0]) w o Lp0) (Lp0_0 : Nat) (hp0_0 : Ft (RdC ET28 Ap0_0 p0.l) w o Lp0_0) (hcp0_0 : (p0.l).length ≤ cp0_0)  (r : Int) (H : spans_Set_Len K p0 = some r) :
    Calls Try.prog 11 #[.pointer (some ⟨bp0, 0, none⟩)] w (Ret fun v_ w' => ∃ o' : Nat → Nat, v_ = .int .i64 r ∧ St [] w o w' o') := by
  refine x_enter (vs := [.pointer (some ⟨bp0, 0, none⟩)]) Try.func11 rfl rfl rfl fun a hk => ?_
  obtain ⟨o0, hs, h0⟩ := St.start w o
  have f900000 := h0 _ _ hp0_0
  have f900019 := h0 _ _ hp0
  clear h0
  rw [spans_Set_Len] at H
  refine x_seq ?_
  refine wpIn_region_lit ?_
  refine x_run tab hk (k := 1) (lv := []) (ks := [0]) (e' := [(0, .pointer (some ⟨bp0, 0, none⟩))]) rfl trivial fun a hk => ?_
  refine wpListIn_nil ?_
  refine then_n ?_
  refine x_seq ?_
  refine wpIn_region_lit ?_
  refine x_run tab hk (k := 1) (lv := []) (ks := [0, 3]) (e' := [(0, .pointer (some ⟨bp0, 0, none⟩)), (3, .int .i64 0)]) rfl trivial fun a hk => ?_
  refine wpListIn_nil ?_
  refine then_n ?_
  refine x_mid (fun a_ w_ => ∃ o50 : Nat → Nat, ∃ x51 : Int, Kn 24 a_ [(3, .int .i64 x51)] ∧ St [] w (fun _ => 0) w_ o50 ∧ Ft (RdC ET28 Ap0_0 p0.l) w_ o50 0 ∧ Ft (Bx bp0 26 [.slice Ap0_0 (p0.l).length cp0_0]) w_ o50 0 ∧ spans_Set_Len_j1 x51 = some r) ?_ ?_
  rotate_left
  · rintro a w52 ⟨o50, x51, hk, hs, f900000, f900019, H⟩
    rw [spans_Set_Len_j1] at H
    refine x_seq ?_
    refine wpIn_region_lit ?_
    refine x_run tab hk (k := 2) (lv := []) (ks := [2]) (e' := [(2, .int .i64 x51)]) rfl trivial fun a hk => ?_
    refine wpListIn_nil ?_
    refine then_n ?_
    refine wpIn_ret ?_
    obtain rfl := Option.some.inj H
    exact x_retG hk (rs := [.tmp 2]) (vs := [.int .i64 x51]) rfl ⟨rfl, trivial⟩ ⟨fun b_ => if b_ < w.heap.size then o b_ else (fun _ => 0) (o50 b_), rfl, hs.close0 o (fun _ => 0)⟩
  refine x_seq ?_
  refine wpIn_region_lit ?_
  refine x_run tab hk (k := 6) (lv := [.slice Ap0_0 (p0.l).length cp0_0]) (ks := [3, 9, 10, 11]) (e' := [(3, .int .i64 0), (9, .slice Ap0_0 (p0.l).length cp0_0), (10, .int .i64 ((p0.l).length : Int)), (11, .int .i64 0)]) rfl ⟨(load1 tab rfl ((Bx.cell f900019.now 0).trans rfl)), trivial⟩ fun a hk => ?_
  refine wpListIn_nil ?_
  refine then_n ?_
  refine wpIn_block ?_
  refine x_loop (fun j_ a_ w_ => ∃ o67 : Nat → Nat, ∃ x68 : Int, ∃ x69 : Int, Kn 24 a_ [(3, .int .i64 x68), (9, .slice Ap0_0 (p0.l).length cp0_0), (10, .int .i64 ((p0.l).length : Int)), (11, .int .i64 x69)] ∧ St [] w (fun _ => 0) w_ o67 ∧ Ft (RdC ET28 Ap0_0 p0.l) w_ o67 0 ∧ Ft (Bx bp0 26 [.slice Ap0_0 (p0.l).length cp0_0]) w_ o67 0 ∧ spans_Set_Len_l2 p0 j_ x68 x69 = some r) (k := K) ⟨o0, 0, 0, (by exact Kn.pick (ks := [3, 9, 10, 11]) hk rfl), hs, f900000, f900019, H⟩ (by rintro _ _ ⟨_, _, _, _, _, _, _, H_⟩; exact absurd (show (none : Option Int) = some r from H_) (by simp)) ?_
  rintro k82 a w81 ⟨o67, x68, x69, hk, hs, f900000, f900019, H⟩
  rw [spans_Set_Len_l2] at H
  obtain ⟨lp83, hlp84⟩ : ∃ lp_, lp_ = spans_Set_Len_l2 p0 k82 := ⟨_, rfl⟩
  rw [← hlp84] at H
  refine x_seq ?_
  refine wpIn_region_lit ?_
  refine x_run tab hk (k := 1) (lv := []) (ks := [3, 9, 10, 11, 12]) (e' := [(3, .int .i64 x68), (9, .slice Ap0_0 (p0.l).length cp0_0), (10, .int .i64 ((p0.l).length : Int)), (11, .int .i64 x69), (12, .bool (decide (x69 < ((p0.l).length : Int))))]) rfl trivial fun a hk => ?_
  refine wpListIn_nil ?_
  refine then_n ?_
  refine x_seq ?_
  cases b85 : (decide (x69 < ((p0.l).length : Int)))
  · rw [b85] at hk H
    replace H := bifF H
    refine x_if hk (b := false) rfl ?_
    refine (show Code.wpIn _ _ _ _ _ _ _ from ?_)
    refine wpIn_exit ?_
    refine then_x ?_
    refine then_x ?_
    refine blk_x ?_
    refine then_n ?_
    exact ⟨o67, x68, (by exact Kn.pick (ks := [3]) hk rfl), hs, f900000, f900019, H⟩
  · rw [b85] at hk H
    replace H := bifT H
    refine x_if hk (b := true) rfl ?_
    refine (show Code.wpIn _ _ _ _ _ _ _ from ?_)
    refine wpIn_skip ?_
    refine then_n ?_
    refine x_seq ?_
    refine wpIn_block ?_
    refine x_seq ?_
    refine wpIn_region_lit ?_
    obtain ⟨q86, H⟩ := ifS H
    obtain ⟨ad87, hAad87⟩ := RdC.addr f900000.now q86
    have hk_C := hk
    have f900000_C := f900000
    have f900019_C := f900019
    subst hAad87
    have hk := hk_C
    clear hk_C
    have f900000 := f900000_C
    clear f900000_C
    have f900019 := f900019_C
    clear f900019_C
    refine x_run tab hk (k := 2) (lv := [.agg #[.int .i64 ((rdD zT28 p0.l x69).From), .int .i64 ((rdD zT28 p0.l x69).To)]]) (ks := [3, 9, 10, 11, 14]) (e' := [(3, .int .i64 x68), (9, .slice (some ad87) (p0.l).length cp0_0), (10, .int .i64 ((p0.l).length : Int)), (11, .int .i64 x69), (14, .agg #[.int .i64 ((rdD zT28 p0.l x69).From), .int .i64 ((rdD zT28 p0.l x69).To)])]) rfl ⟨q86, (load_elem (E := ET28) (i := x69) (dx := zT28) tab rfl rfl f900000.now q86), trivial⟩ fun a hk => ?_
    refine x_op hk rfl ?_
    refine op_alloc (o := o67) tab (t := 29) (cs := [.int .i64 0, .int .i64 0]) rfl rfl 6 fun bx91 w88 o89 st90 f92 => ?_
    replace f900000 := f900000.st st90 (by decide)
    replace f900019 := f900019.st st90 (by decide)
    replace hs := hs.loc0 st90 (by decide)
    have hk := hk.put 5 (.pointer (some ⟨bx91, 0, none⟩)) rfl
    refine x_op hk rfl ?_
    refine op_store tab hk (t := 29) (v := .agg #[.int .i64 ((rdD zT28 p0.l x69).From), .int .i64 ((rdD zT28 p0.l x69).To)]) (b := bx91) (k := 0) (cs' := [.int .i64 ((rdD zT28 p0.l x69).From), .int .i64 ((rdD zT28 p0.l x69).To)]) rfl rfl rfl rfl rfl rfl f92 rfl rfl fun w93 o94 st95 f92_ => ?_
    replace f900000 := f900000.st st95 (by decide)
    replace f900019 := f900019.st st95 (by decide)
    replace hs := hs.loc0 st95 (by decide)
    replace f92 := f92_
    refine wpListIn_nil ?_
    refine then_n ?_
    refine wpIn_region_lit ?_
    refine x_run tab hk (k := 8) (lv := [.int .i64 ((rdD zT28 p0.l x69).To), .int .i64 ((rdD zT28 p0.l x69).From)]) (ks := [3, 9, 10, 11]) (e' := [(3, .int .i64 (IntKind.wrap .i64 (x68 + (IntKind.wrap .i64 (((rdD zT28 p0.l x69).To) - ((rdD zT28 p0.l x69).From)))))), (9, .slice (some ad87) (p0.l).length cp0_0), (10, .int .i64 ((p0.l).length : Int)), (11, .int .i64 x69)]) rfl ⟨(load1 tab rfl ((Bx.cell f92.now 1).trans rfl)), (load1 tab rfl ((Bx.cell f92.now 0).trans rfl)), trivial⟩ fun a hk => ?_
    refine wpListIn_nil ?_
    refine blk_n ?_
    refine then_n ?_
    refine wpIn_region_lit ?_
    refine x_run tab hk (k := 2) (lv := []) (ks := [3, 9, 10, 11]) (e' := [(3, .int .i64 (IntKind.wrap .i64 (x68 + (IntKind.wrap .i64 (((rdD zT28 p0.l x69).To) - ((rdD zT28 p0.l x69).From)))))), (9, .slice (some ad87) (p0.l).length cp0_0), (10, .int .i64 ((p0.l).length : Int)), (11, .int .i64 (IntKind.wrap .i64 (x69 + 1)))]) rfl trivial fun a hk => ?_
    refine wpListIn_nil ?_
    refine then_n ?_
    exact ⟨k82, Nat.le_refl _, o94, (IntKind.wrap .i64 (x68 + (IntKind.wrap .i64 (((rdD zT28 p0.l x69).To) - ((rdD zT28 p0.l x69).From))))), (IntKind.wrap .i64 (x69 + 1)), (by exact Kn.pick (ks := [3, 9, 10, 11]) hk rfl), hs, f900000, f900019, (hlp84 ▸ H)⟩

/-! (*tidewrack/spans.Set).Has$1 -/
theorem spans_Set_Has_1_calls (p0 : T28) (bp1 : Nat) (p1 : Int) (w : World) (o : Nat → Nat) (Lp1 : Nat) (hp1 : Ft (Bx bp1 3 [.int .i64 p1]) w o Lp1)  (r : Bool) (H : spans_Set_Has_1 p0 p1 = some r) :
    Calls Try.prog 30 #[.agg #[.int .i64 p0.From, .int .i64 p0.To], .pointer (some ⟨bp1, 0, none⟩)] w (Ret fun v_ w' => ∃ o' : Nat → Nat, v_ = .bool r ∧ St [] w o w' o') := by
  refine x_enter (vs := [.agg #[.int .i64 p0.From, .int .i64 p0.To], .pointer (some ⟨bp1, 0, none⟩)]) Try.func30 rfl rfl rfl fun a hk => ?_
  obtain ⟨o0, hs, h0⟩ := St.start w o
  have f9500020 := h0 _ _ hp1
  clear h0
  rw [spans_Set_Has_1] at H
  refine x_seq ?_
  refine wpIn_region_lit ?_
  refine x_op hk rfl ?_
  refine op_box (o := o0) (t := 29) (v := .agg #[.int .i64 p0.From, .int .i64 p0.To]) (cs := [.int .i64 p0.From, .int .i64 p0.To]) hk rfl rfl 1 fun bx4 w1 o2 st3 f5 => ?_
  replace f9500020 := f9500020.st st3 (by decide)
  replace hs := hs.loc0 st3 (by decide)
  have hk := hk.put 2 (.pointer (some ⟨bx4, 0, none⟩)) rfl
  refine x_run tab hk (k := 1) (lv := []) (ks := [1, 2]) (e' := [(1, .pointer (some ⟨bp1, 0, none⟩)), (2, .pointer (some ⟨bx4, 0, none⟩))]) rfl trivial fun a hk => ?_
  refine wpListIn_nil ?_
  refine then_n ?_
  refine x_seq ?_
  refine wpIn_region_lit ?_
  refine x_run tab hk (k := 5) (lv := [.int .i64 p1, .int .i64 p0.From]) (ks := [1, 2, 8]) (e' := [(1, .pointer (some ⟨bp1, 0, none⟩)), (2, .pointer (some ⟨bx4, 0, none⟩)), (8, .bool (decide (p1 ≥ p0.From)))]) rfl ⟨(load1 tab rfl ((Bx.cell f9500020.now 0).trans rfl)), (load1 tab rfl ((Bx.cell f5.now 0).trans rfl)), trivial⟩ fun a hk => ?_
  cases b6 : (decide (p1 ≥ p0.From))
  · rw [b6] at hk H
    replace H := bifF H
    refine x_run tab hk (k := 6) (lv := []) (ks := [3]) (e' := [(3, .bool false)]) rfl trivial fun a hk => ?_
    refine wpListIn_nil ?_
    refine then_n ?_
    refine wpIn_ret ?_
    obtain rfl := Option.some.inj H
    exact x_retG hk (rs := [.tmp 3]) (vs := [.bool false]) rfl ⟨rfl, trivial⟩ ⟨fun b_ => if b_ < w.heap.size then o b_ else (fun _ => 0) (o2 b_), rfl, hs.close0 o (fun _ => 0)⟩
  · rw [b6] at hk H
    replace H := bifT H
    refine x_run tab hk (k := 6) (lv := [.int .i64 p1, .int .i64 p0.To]) (ks := [3]) (e' := [(3, .bool (decide (p1 < p0.To)))]) rfl ⟨(load1 tab rfl ((Bx.cell f9500020.now 0).trans rfl)), (load1 tab rfl ((Bx.cell f5.now 1).trans rfl)), trivial⟩ fun a hk => ?_
    refine wpListIn_nil ?_
    refine then_n ?_
    refine wpIn_ret ?_
    obtain rfl := Option.some.inj H
    exact x_retG hk (rs := [.tmp 3]) (vs := [.bool (decide (p1 < p0.To))]) rfl ⟨rfl, trivial⟩ ⟨fun b_ => if b_ < w.heap.size then o b_ else (fun _ => 0) (o2 b_), rfl, hs.close0 o (fun _ => 0)⟩

/-! slices.IndexFunc[[]tidewrack/spans.Span,tidewrack/spans.Span] -/
theorem slices_IndexFunc_of30_calls (K : Nat) (Ap0 : Option Addr) (cp0 : Nat) (p0 : List T28) (bp1_0 : Nat) (p1_0 : Int) (w : World) (o : Nat → Nat) (Lp0 : Nat) (hp0 : Ft (RdC ET28 Ap0 p0) w o Lp0) (hcp0 : (p0).length ≤ cp0) (Lp1_0 : Nat) (hp1_0 : Ft (Bx bp1_0 3 [.int .i64 p1_0]) w o Lp1_0)  (r : Int) (H : slices_IndexFunc_of30 K p0 p1_0 = some r) :
    Calls Try.prog 37 #[.slice Ap0 (p0).length cp0, .func (.func 30) #[] #[.pointer (some ⟨bp1_0, 0, none⟩)]] w (Ret fun v_ w' => ∃ o' : Nat → Nat, v_ = .int .i64 r ∧ St [] w o w' o') := by
  refine x_enter (vs := [.slice Ap0 (p0).length cp0, .func (.func 30) #[] #[.pointer (some ⟨bp1_0, 0, none⟩)]]) Try.func37 rfl rfl rfl fun a hk => ?_
  obtain ⟨o0, hs, h0⟩ := St.start w o
  have f900000 := h0 _ _ hp0
  have f9500020 := h0 _ _ hp1_0
  clear h0
  rw [slices_IndexFunc_of30] at H
  refine x_seq ?_
  refine wpIn_region_lit ?_
  refine x_run tab hk (k := 1) (lv := []) (ks := [0, 1]) (e' := [(0, .slice Ap0 (p0).length cp0), (1, .func (.func 30) #[] #[.pointer (some ⟨bp1_0, 0, none⟩)])]) rfl trivial fun a hk => ?_
  refine wpListIn_nil ?_
  refine then_n ?_
  refine x_mid (fun a_ w_ => ∃ o49 : Nat → Nat, Kn 19 a_ [] ∧ St [] w (fun _ => 0) w_ o49 ∧ slices_IndexFunc_of30_j1 = some r) ?_ ?_
  rotate_left
  · rintro a w50 ⟨o49, hk, hs, H⟩
    rw [slices_IndexFunc_of30_j1] at H
    refine x_seq ?_
    refine wpIn_region_lit ?_
    refine x_run tab hk (k := 1) (lv := []) (ks := [4]) (e' := [(4, .int .i64 (-1))]) rfl trivial fun a hk => ?_
    refine wpListIn_nil ?_
    refine then_n ?_
    refine wpIn_ret ?_
    obtain rfl := Option.some.inj H
    exact x_retG hk (rs := [.tmp 4]) (vs := [.int .i64 (-1)]) rfl ⟨rfl, trivial⟩ ⟨fun b_ => if b_ < w.heap.size then o b_ else (fun _ => 0) (o49 b_), rfl, hs.close0 o (fun _ => 0)⟩
  refine x_seq ?_
  refine wpIn_region_lit ?_
  refine x_run tab hk (k := 3) (lv := []) (ks := [0, 1, 7, 8]) (e' := [(0, .slice Ap0 (p0).length cp0), (1, .func (.func 30) #[] #[.pointer (some ⟨bp1_0, 0, none⟩)]), (7, .int .i64 ((p0).length : Int)), (8, .int .i64 0)]) rfl trivial fun a hk => ?_
  refine wpListIn_nil ?_
  refine then_n ?_
  refine wpIn_block ?_
  refine x_loop (fun j_ a_ w_ => ∃ o66 : Nat → Nat, ∃ x67 : Int, Kn 19 a_ [(0, .slice Ap0 (p0).length cp0), (1, .func (.func 30) #[] #[.pointer (some ⟨bp1_0, 0, none⟩)]), (7, .int .i64 ((p0).length : Int)), (8, .int .i64 x67)] ∧ St [] w (fun _ => 0) w_ o66 ∧ Ft (RdC ET28 Ap0 p0) w_ o66 0 ∧ Ft (Bx bp1_0 3 [.int .i64 p1_0]) w_ o66 0 ∧ slices_IndexFunc_of30_l2 p0 p1_0 j_ x67 = some r) (k := K) ⟨o0, 0, (by exact Kn.pick (ks := [0, 1, 7, 8]) hk rfl), hs, f900000, f9500020, H⟩ (by rintro _ _ ⟨_, _, _, _, _, _, H_⟩; exact absurd (show (none : Option Int) = some r from H_) (by simp)) ?_
  rintro k81 a w80 ⟨o66, x67, hk, hs, f900000, f9500020, H⟩
  rw [slices_IndexFunc_of30_l2] at H
  obtain ⟨lp82, hlp83⟩ : ∃ lp_, lp_ = slices_IndexFunc_of30_l2 p0 p1_0 k81 := ⟨_, rfl⟩
  rw [← hlp83] at H
  refine x_seq ?_
  refine wpIn_region_lit ?_
  refine x_run tab hk (k := 1) (lv := []) (ks := [0, 1, 7, 8, 9]) (e' := [(0, .slice Ap0 (p0).length cp0), (1, .func (.func 30) #[] #[.pointer (some ⟨bp1_0, 0, none⟩)]), (7, .int .i64 ((p0).length : Int)), (8, .int .i64 x67), (9, .bool (decide (x67 < ((p0).length : Int))))]) rfl trivial fun a hk => ?_
  refine wpListIn_nil ?_
  refine then_n ?_
  refine x_seq ?_
  cases b84 : (decide (x67 < ((p0).length : Int)))
  · rw [b84] at hk H
    replace H := bifF H
    refine x_if hk (b := false) rfl ?_
    refine (show Code.wpIn _ _ _ _ _ _ _ from ?_)
    refine wpIn_exit ?_
    refine then_x ?_
    refine then_x ?_
    refine blk_x ?_
    refine then_n ?_
    exact ⟨o66, (by exact Kn.pick (ks := []) hk rfl), hs, H⟩
  · rw [b84] at hk H
    replace H := bifT H
    refine x_if hk (b := true) rfl ?_
    refine (show Code.wpIn _ _ _ _ _ _ _ from ?_)
    refine wpIn_skip ?_
    refine then_n ?_
    refine x_seq ?_
    refine wpIn_block ?_
    refine x_seq ?_
    refine wpIn_region_lit ?_
    refine x_run tab hk (k := 2) (lv := []) (ks := [0, 1, 5, 7, 8]) (e' := [(0, .slice Ap0 (p0).length cp0), (1, .func (.func 30) #[] #[.pointer (some ⟨bp1_0, 0, none⟩)]), (5, .int .i64 x67), (7, .int .i64 ((p0).length : Int)), (8, .int .i64 x67)]) rfl trivial fun a hk => ?_
    refine wpListIn_nil ?_
    refine then_n ?_
    refine x_seq ?_
    refine wpIn_region_lit ?_
    obtain ⟨q85, H⟩ := ifS H
    obtain ⟨ad86, hAad86⟩ := RdC.addr f900000.now q85
    have hk_C := hk
    have f900000_C := f900000
    have f9500020_C := f9500020
    subst hAad86
    have hk := hk_C
    clear hk_C
    have f900000 := f900000_C
    clear f900000_C
    have f9500020 := f9500020_C
    clear f9500020_C
    refine x_run tab hk (k := 5) (lv := [.agg #[.int .i64 ((rdD zT28 p0 x67).From), .int .i64 ((rdD zT28 p0 x67).To)]]) (ks := [0, 1, 5, 7, 8, 11, 15]) (e' := [(0, .slice (some ad86) (p0).length cp0), (1, .func (.func 30) #[] #[.pointer (some ⟨bp1_0, 0, none⟩)]), (5, .int .i64 x67), (7, .int .i64 ((p0).length : Int)), (8, .int .i64 x67), (11, .func (.func 30) #[] #[.pointer (some ⟨bp1_0, 0, none⟩)]), (15, .agg #[.int .i64 ((rdD zT28 p0 x67).From), .int .i64 ((rdD zT28 p0 x67).To)])]) rfl ⟨q85, (load_elem (E := ET28) (i := x67) (dx := zT28) tab rfl rfl f900000.now q85), trivial⟩ fun a hk => ?_
    refine x_op hk rfl ?_
    obtain ⟨t90, hc91, H⟩ := bindS H
    refine op_callv hk ent_30 rfl (vs := [.agg #[.int .i64 ((rdD zT28 p0 x67).From), .int .i64 ((rdD zT28 p0 x67).To)]]) rfl (spans_Set_Has_1_calls (rdD zT28 p0 x67) bp1_0 p1_0 _ o66 0 f9500020   _ hc91) ?_
    rintro _ w92 ⟨o93, rfl, st94⟩
    replace f900000 := f900000.st st94 (by decide)
    replace f9500020 := f9500020.st st94 (by decide)
    replace hs := hs.loc0 st94 (by decide)
    have hk := hk.put 16 (.bool t90) rfl
    refine wpListIn_nil ?_
    refine then_n ?_
    cases b95 : t90
    · rw [b95] at hk H
      replace H := bifF H
      refine x_if hk (b := false) rfl ?_
      refine (show Code.wpIn _ _ _ _ _ _ _ from ?_)
      refine wpIn_skip ?_
      refine blk_n ?_
      refine then_n ?_
      refine wpIn_region_lit ?_
      refine x_run tab hk (k := 2) (lv := []) (ks := [0, 1, 7, 8]) (e' := [(0, .slice (some ad86) (p0).length cp0), (1, .func (.func 30) #[] #[.pointer (some ⟨bp1_0, 0, none⟩)]), (7, .int .i64 ((p0).length : Int)), (8, .int .i64 (IntKind.wrap .i64 (x67 + 1)))]) rfl trivial fun a hk => ?_
      refine wpListIn_nil ?_
      refine then_n ?_
      exact ⟨k81, Nat.le_refl _, o93, (IntKind.wrap .i64 (x67 + 1)), (by exact Kn.pick (ks := [0, 1, 7, 8]) hk rfl), hs, f900000, f9500020, (hlp83 ▸ H)⟩
    · rw [b95] at hk H
      replace H := bifT H
      refine x_if hk (b := true) rfl ?_
      refine (show Code.wpIn _ _ _ _ _ _ _ from ?_)
      refine x_seq ?_
      refine wpIn_region_lit ?_
      refine x_run tab hk (k := 2) (lv := []) (ks := [4]) (e' := [(4, .int .i64 x67)]) rfl trivial fun a hk => ?_
      refine wpListIn_nil ?_
      refine then_n ?_
      refine wpIn_ret ?_
      refine blk_r ?_
      refine then_r ?_
      refine then_r ?_
      refine blk_r ?_
      refine then_r ?_
      obtain rfl := Option.some.inj H
      exact x_retG hk (rs := [.tmp 4]) (vs := [.int .i64 x67]) rfl ⟨rfl, trivial⟩ ⟨fun b_ => if b_ < w.heap.size then o b_ else (fun _ => 0) (o93 b_), rfl, hs.close0 o (fun _ => 0)⟩

/-! slices.ContainsFunc[[]tidewrack/spans.Span,tidewrack/spans.Span] -/
theorem slices_ContainsFunc_of30_calls (K : Nat) (Ap0 : Option Addr) (cp0 : Nat) (p0 : List T28) (bp1_0 : Nat) (p1_0 : Int) (w : World) (o : Nat → Nat) (Lp0 : Nat) (hp0 : Ft (RdC ET28 Ap0 p0) w o Lp0) (hcp0 : (p0).length ≤ cp0) (Lp1_0 : Nat) (hp1_0 : Ft (Bx bp1_0 3 [.int .i64 p1_0]) w o Lp1_0)  (r : Bool) (H : slices_ContainsFunc_of30 K p0 p1_0 = some r) :
    Calls Try.prog 29 #[.slice Ap0 (p0).length cp0, .func (.func 30) #[] #[.pointer (some ⟨bp1_0, 0, none⟩)]] w (Ret fun v_ w' => ∃ o' : Nat → Nat, v_ = .bool r ∧ St [] w o w' o') := by
  refine x_enter (vs := [.slice Ap0 (p0).length cp0, .func (.func 30) #[] #[.pointer (some ⟨bp1_0, 0, none⟩)]]) Try.func29 rfl rfl rfl fun a hk => ?_
  obtain ⟨o0, hs, h0⟩ := St.start w o
  have f900000 := h0 _ _ hp0
  have f9500020 := h0 _ _ hp1_0
  clear h0
  rw [slices_ContainsFunc_of30] at H
  refine x_seq ?_
  refine wpIn_region_lit ?_
  refine x_run tab hk (k := 1) (lv := []) (ks := [0, 1]) (e' := [(0, .slice Ap0 (p0).length cp0), (1, .func (.func 30) #[] #[.pointer (some ⟨bp1_0, 0, none⟩)])]) rfl trivial fun a hk => ?_
  refine wpListIn_nil ?_
  refine then_n ?_
  refine x_seq ?_
  refine wpIn_region_lit ?_
  refine x_run tab hk (k := 2) (lv := []) (ks := [5, 6]) (e' := [(5, .slice Ap0 (p0).length cp0), (6, .func (.func 30) #[] #[.pointer (some ⟨bp1_0, 0, none⟩)])]) rfl trivial fun a hk => ?_
  refine x_op hk rfl ?_
  obtain ⟨t4, hc5, H⟩ := bindS H
  refine op_call hk ent_37 (vs := [.slice Ap0 (p0).length cp0, .func (.func 30) #[] #[.pointer (some ⟨bp1_0, 0, none⟩)]]) rfl (slices_IndexFunc_of30_calls K Ap0 cp0 p0 bp1_0 p1_0 _ o0 _ f900000 hcp0 0 f9500020   _ hc5) ?_
  rintro _ w6 ⟨o7, rfl, st8⟩
  replace f900000 := f900000.st st8 (by decide)
  replace f9500020 := f9500020.st st8 (by decide)
  replace hs := hs.loc0 st8 (by decide)
  have hk := hk.put 7 (.int .i64 t4) rfl
  refine x_run tab hk (k := 2) (lv := []) (ks := [4]) (e' := [(4, .bool (decide (t4 ≥ (0 : Int))))]) rfl trivial fun a hk => ?_
  refine wpListIn_nil ?_
  refine then_n ?_
  refine wpIn_ret ?_
  obtain rfl := Option.some.inj H
  exact x_retG hk (rs := [.tmp 4]) (vs := [.bool (decide (t4 ≥ (0 : Int)))]) rfl ⟨rfl, trivial⟩ ⟨fun b_ => if b_ < w.heap.size then o b_ else (fun _ => 0) (o7 b_), rfl, hs.close0 o (fun _ => 0)⟩

/-! (*tidewrack/spans.Set).Has -/
theorem spans_Set_Has_calls (K : Nat) (bp0 : Nat) (Ap0_0 : Option Addr) (cp0_0 : Nat) (p0 : T25) (p1 : Int) (w : World) (o : Nat → Nat) (Lp0 : Nat) (hp0 : Ft (Bx bp0 26 [.slice Ap0_0 (p0.l).length cp0_0]) w o Lp0) (Lp0_0 : Nat) (hp0_0 : Ft (RdC ET28 Ap0_0 p0.l) w o Lp0_0) (hcp0_0 : (p0.l).length ≤ cp0_0)  (r : Bool) (H : spans_Set_Has K p0 p1 = some r) :
    Calls Try.prog 13 #[.pointer (some ⟨bp0, 0, none⟩), .int .i64 p1] w (Ret fun v_ w' => ∃ o' : Nat → Nat, v_ = .bool r ∧ St [] w o w' o') := by
  refine x_enter (vs := [.pointer (some ⟨bp0, 0, none⟩), .int .i64 p1]) Try.func13 rfl rfl rfl fun a hk => ?_
  obtain ⟨o0, hs, h0⟩ := St.start w o
  have f900000 := h0 _ _ hp0_0
  have f900019 := h0 _ _ hp0
  clear h0
  rw [spans_Set_Has] at H
  refine x_seq ?_
  refine wpIn_region_lit ?_
  refine x_op hk rfl ?_
  refine op_box (o := o0) (t := 3) (v := .int .i64 p1) (cs := [.int .i64 p1]) hk rfl rfl 1 fun bx4 w1 o2 st3 f5 => ?_
  replace f900000 := f900000.st st3 (by decide)
  replace f900019 := f900019.st st3 (by decide)
  replace hs := hs.loc0 st3 (by decide)
  have hk := hk.put 3 (.pointer (some ⟨bx4, 0, none⟩)) rfl
  refine x_run tab hk (k := 1) (lv := []) (ks := [0, 3]) (e' := [(0, .pointer (some ⟨bp0, 0, none⟩)), (3, .pointer (some ⟨bx4, 0, none⟩))]) rfl trivial fun a hk => ?_
  refine wpListIn_nil ?_
  refine then_n ?_
  refine x_seq ?_
  refine wpIn_region_lit ?_
  refine x_run tab hk (k := 5) (lv := [.slice Ap0_0 (p0.l).length cp0_0]) (ks := [8, 9]) (e' := [(8, .slice Ap0_0 (p0.l).length cp0_0), (9, .func (.func 30) #[] #[.pointer (some ⟨bx4, 0, none⟩)])]) rfl ⟨(load1 tab rfl ((Bx.cell f900019.now 0).trans rfl)), trivial⟩ fun a hk => ?_
  refine x_op hk rfl ?_
  obtain ⟨t9, hc10, H⟩ := bindS H
  refine op_call hk ent_29 (vs := [.slice Ap0_0 (p0.l).length cp0_0, .func (.func 30) #[] #[.pointer (some ⟨bx4, 0, none⟩)]]) rfl (slices_ContainsFunc_of30_calls K Ap0_0 cp0_0 p0.l bx4 p1 _ o2 _ f900000 hcp0_0 1 f5   _ hc10) ?_
  rintro _ w11 ⟨o12, rfl, st13⟩
  replace f5 := f5.st st13 (by decide)
  replace f900000 := f900000.st st13 (by decide)
  replace f900019 := f900019.st st13 (by decide)
  replace hs := hs.loc0 st13 (by decide)
  have hk := hk.put 10 (.bool t9) rfl
  refine x_run tab hk (k := 1) (lv := []) (ks := [4]) (e' := [(4, .bool t9)]) rfl trivial fun a hk => ?_
  refine wpListIn_nil ?_
  refine then_n ?_
  refine wpIn_ret ?_
  obtain rfl := Option.some.inj H
  exact x_retG hk (rs := [.tmp 4]) (vs := [.bool t9]) rfl ⟨rfl, trivial⟩ ⟨fun b_ => if b_ < w.heap.size then o b_ else (fun _ => 0) (o12 b_), rfl, hs.close0 o (fun _ => 0)⟩

/-! tidewrack/tidewracklaw13.awake -/
theorem tidewracklaw13_awake_calls (K : Nat)  (w : World) (o : Nat → Nat)   (r : Bool) (H : tidewracklaw13_awake K = some r) :
    Calls Try.prog 8 #[] w (Ret fun v_ w' => ∃ o' : Nat → Nat, v_ = .bool r ∧ St [] w o w' o') := by
  refine x_enter (vs := []) Try.func8 rfl rfl rfl fun a hk => ?_
  obtain ⟨o0, hs, h0⟩ := St.start w o
  clear h0
  rw [tidewracklaw13_awake] at H
  refine x_seq ?_
  refine wpIn_region_lit ?_
  refine x_run tab hk (k := 1) (lv := []) (ks := []) (e' := []) rfl trivial fun a hk => ?_
  refine wpListIn_nil ?_
  refine then_n ?_
  refine x_seq ?_
  refine wpIn_region_lit ?_
  refine x_op hk rfl ?_
  refine op_alloc (o := o0) tab (t := 26) (cs := [.slice none 0 0]) rfl rfl 1 fun bx4 w1 o2 st3 f5 => ?_
  replace hs := hs.loc0 st3 (by decide)
  have hk := hk.put 1 (.pointer (some ⟨bx4, 0, none⟩)) rfl
  refine wpListIn_nil ?_
  refine then_n ?_
  refine x_seq ?_
  refine wpIn_region_lit ?_
  refine x_run tab hk (k := 2) (lv := []) (ks := [1, 2, 3]) (e' := [(1, .pointer (some ⟨bx4, 0, none⟩)), (2, .agg #[.int .i64 2, .int .i64 5]), (3, .agg #[.int .i64 5, .int .i64 7])]) rfl trivial fun a hk => ?_
  refine x_op hk rfl ?_
  refine op_slice (o := o2) tab hk (vs := [.agg #[.int .i64 2, .int .i64 5], .agg #[.int .i64 5, .int .i64 7]]) (cs := [.int .i64 2, .int .i64 5, .int .i64 5, .int .i64 7]) rfl rfl rfl rfl rfl rfl rfl rfl rfl 2 fun bx9 w6 o7 st8 f10 => ?_
  replace f5 := f5.st st8 (by decide)
  replace hs := hs.loc0 st8 (by decide)
  have f11 : Ft (Own ET28 29 (.slice (some ⟨bx9, 0, none⟩) (([(⟨2, 5⟩ : T28), (⟨5, 7⟩ : T28)] : List T28)).length 2) ([(⟨2, 5⟩ : T28), (⟨5, 7⟩ : T28)] : List T28)) w6 o7 2 := f10.imp fun _ h_ => Own.of_box h_ rfl (by simp)
  have hk := hk.put 4 (.slice (some ⟨bx9, 0, none⟩) (([(⟨2, 5⟩ : T28), (⟨5, 7⟩ : T28)] : List T28)).length 2) rfl
  refine x_op hk rfl ?_
  obtain ⟨t15, hc16, H⟩ := bindS H
  refine op_call hk ent_9 (vs := [.pointer (some ⟨bx4, 0, none⟩), .slice (some ⟨bx9, 0, none⟩) (([(⟨2, 5⟩ : T28), (⟨5, 7⟩ : T28)] : List T28)).length 2]) rfl (spans_Set_Add_calls K bx4 none 0 (⟨([] : List T28)⟩ : T25) (some ⟨bx9, 0, none⟩) 2 ([(⟨2, 5⟩ : T28), (⟨5, 7⟩ : T28)] : List T28) _ o7 1 f5 3 (Ft.of_all (fun _ => Own.nil _ _ _) _ _ 3) (by simp) _ (f11.imp fun _ h_ => Own.rd h_) (Nat.le_refl _) (by decide) (by decide)   _ hc16) ?_
  rintro _ w17 ⟨o18, A21, c22, rfl, st19, f20, f23, hc24⟩
  replace f11 := f11.st st19 (by decide)
  replace hs := hs.loc0 st19 (by decide)
  have hk := hk.put 5 (.tuple #[]) rfl
  refine wpListIn_nil ?_
  refine then_n ?_
  refine x_seq ?_
  refine wpIn_region_lit ?_
  refine x_run tab hk (k := 1) (lv := []) (ks := [1, 6]) (e' := [(1, .pointer (some ⟨bx4, 0, none⟩)), (6, .agg #[.int .i64 3, .int .i64 4])]) rfl trivial fun a hk => ?_
  refine x_op hk rfl ?_
  refine op_slice (o := o18) tab hk (vs := [.agg #[.int .i64 3, .int .i64 4]]) (cs := [.int .i64 3, .int .i64 4]) rfl rfl rfl rfl rfl rfl rfl rfl rfl 4 fun bx28 w25 o26 st27 f29 => ?_
  replace f20 := f20.st st27 (by decide)
  replace f23 := f23.st st27 (by decide)
  replace hs := hs.loc0 st27 (by decide)
  have f30 : Ft (Own ET28 29 (.slice (some ⟨bx28, 0, none⟩) (([(⟨3, 4⟩ : T28)] : List T28)).length 1) ([(⟨3, 4⟩ : T28)] : List T28)) w25 o26 4 := f29.imp fun _ h_ => Own.of_box h_ rfl (by simp)
  have hk := hk.put 7 (.slice (some ⟨bx28, 0, none⟩) (([(⟨3, 4⟩ : T28)] : List T28)).length 1) rfl
  refine x_op hk rfl ?_
  obtain ⟨t34, hc35, H⟩ := bindS H
  refine op_call hk ent_12 (vs := [.pointer (some ⟨bx4, 0, none⟩), .slice (some ⟨bx28, 0, none⟩) (([(⟨3, 4⟩ : T28)] : List T28)).length 1]) rfl (spans_Set_Cut_calls K bx4 A21 c22 t15 (some ⟨bx28, 0, none⟩) 1 ([(⟨3, 4⟩ : T28)] : List T28) _ o26 1 f20 3 f23 hc24 _ (f30.imp fun _ h_ => Own.rd h_) (Nat.le_refl _) (by decide) (by decide)   _ hc35) ?_
  rintro _ w36 ⟨o37, A40, c41, rfl, st38, f39, f42, hc43⟩
  replace f30 := f30.st st38 (by decide)
  replace hs := hs.loc0 st38 (by decide)
  have hk := hk.put 8 (.tuple #[]) rfl
  refine wpListIn_nil ?_
  refine then_n ?_
  refine x_seq ?_
  refine wpIn_region_lit ?_
  refine x_op hk rfl ?_
  obtain ⟨t47, hc48, H⟩ := bindS H
  refine op_call hk ent_10 (vs := [.pointer (some ⟨bx4, 0, none⟩)]) rfl (spans_Set_Spans_calls bx4 A40 c41 t34 _ o37 1 f39 _ (f42.imp fun _ h_ => Own.rd h_) hc43 5  _ hc48) ?_
  rintro _ w49 ⟨o50, A52, c53, rfl, st51, f54, hc55⟩
  replace f30 := f30.st st51 (by decide)
  replace f39 := f39.st st51 (by decide)
  replace f42 := f42.st st51 (by decide)
  replace hs := hs.loc0 st51 (by decide)
  have hk := hk.put 9 (.slice A52 (t47).length c53) rfl
  refine x_run tab hk (k := 2) (lv := []) (ks := [1, 9, 10, 11]) (e' := [(1, .pointer (some ⟨bx4, 0, none⟩)), (9, .slice A52 (t47).length c53), (10, .agg #[.int .i64 2, .int .i64 3]), (11, .agg #[.int .i64 4, .int .i64 7])]) rfl trivial fun a hk => ?_
  refine x_op hk rfl ?_
  refine op_slice (o := o50) tab hk (vs := [.agg #[.int .i64 2, .int .i64 3], .agg #[.int .i64 4, .int .i64 7]]) (cs := [.int .i64 2, .int .i64 3, .int .i64 4, .int .i64 7]) rfl rfl rfl rfl rfl rfl rfl rfl rfl 6 fun bx59 w56 o57 st58 f60 => ?_
  replace f39 := f39.st st58 (by decide)
  replace f42 := f42.st st58 (by decide)
  replace f54 := f54.st st58 (by decide)
  replace hs := hs.loc0 st58 (by decide)
  have f61 : Ft (Own ET28 30 (.slice (some ⟨bx59, 0, none⟩) (([(⟨2, 3⟩ : T28), (⟨4, 7⟩ : T28)] : List T28)).length 2) ([(⟨2, 3⟩ : T28), (⟨4, 7⟩ : T28)] : List T28)) w56 o57 6 := f60.imp fun _ h_ => Own.of_box h_ rfl (by simp)
  have hk := hk.put 12 (.slice (some ⟨bx59, 0, none⟩) (([(⟨2, 3⟩ : T28), (⟨4, 7⟩ : T28)] : List T28)).length 2) rfl
  refine x_op hk rfl ?_
  obtain ⟨t65, hc66, H⟩ := bindS H
  refine op_call hk ent_17 (vs := [.slice A52 (t47).length c53, .slice (some ⟨bx59, 0, none⟩) (([(⟨2, 3⟩ : T28), (⟨4, 7⟩ : T28)] : List T28)).length 2]) rfl (tidewracklaw13_Same_calls K A52 c53 t47 (some ⟨bx59, 0, none⟩) 2 ([(⟨2, 3⟩ : T28), (⟨4, 7⟩ : T28)] : List T28) _ o57 _ (f54.imp fun _ h_ => Own.rd h_) hc55 _ (f61.imp fun _ h_ => Own.rd h_) (Nat.le_refl _)   _ hc66) ?_
  rintro _ w67 ⟨o68, rfl, st69⟩
  replace f39 := f39.st st69 (by decide)
  replace f42 := f42.st st69 (by decide)
  replace f54 := f54.st st69 (by decide)
  replace f61 := f61.st st69 (by decide)
  replace hs := hs.loc0 st69 (by decide)
  have hk := hk.put 13 (.bool t65) rfl
  refine x_run tab hk (k := 1) (lv := []) (ks := [1, 14]) (e' := [(1, .pointer (some ⟨bx4, 0, none⟩)), (14, .bool t65)]) rfl trivial fun a hk => ?_
  cases b70 : t65
  · rw [b70] at hk H
    replace H := bifF H
    refine x_run tab hk (k := 10) (lv := []) (ks := [24]) (e' := [(24, .bool false)]) rfl trivial fun a hk => ?_
    refine x_run tab hk (k := 1) (lv := []) (ks := [0]) (e' := [(0, .bool false)]) rfl trivial fun a hk => ?_
    refine wpListIn_nil ?_
    refine then_n ?_
    refine wpIn_ret ?_
    obtain rfl := Option.some.inj H
    exact x_retG hk (rs := [.tmp 0]) (vs := [.bool false]) rfl ⟨rfl, trivial⟩ ⟨fun b_ => if b_ < w.heap.size then o b_ else (fun _ => 0) (o68 b_), rfl, hs.close0 o (fun _ => 0)⟩
  · rw [b70] at hk H
    replace H := bifT H
    refine x_op hk rfl ?_
    obtain ⟨t74, hc75, H⟩ := bindS H
    refine op_call hk ent_11 (vs := [.pointer (some ⟨bx4, 0, none⟩)]) rfl (spans_Set_Len_calls K bx4 A40 c41 t34 _ o68 1 f39 _ (f42.imp fun _ h_ => Own.rd h_) hc43   _ hc75) ?_
    rintro _ w76 ⟨o77, rfl, st78⟩
    replace f39 := f39.st st78 (by decide)
    replace f42 := f42.st st78 (by decide)
    replace hs := hs.loc0 st78 (by decide)
    have hk := hk.put 15 (.int .i64 t74) rfl
    refine x_run tab hk (k := 3) (lv := []) (ks := [1, 18]) (e' := [(1, .pointer (some ⟨bx4, 0, none⟩)), (18, .bool (t74 == (4 : Int)))]) rfl trivial fun a hk => ?_
    cases b79 : (t74 == (4 : Int))
    · rw [b79] at hk H
      replace H := bifF H
      refine x_run tab hk (k := 7) (lv := []) (ks := [0]) (e' := [(0, .bool false)]) rfl trivial fun a hk => ?_
      refine wpListIn_nil ?_
      refine then_n ?_
      refine wpIn_ret ?_
      obtain rfl := Option.some.inj H
      exact x_retG hk (rs := [.tmp 0]) (vs := [.bool false]) rfl ⟨rfl, trivial⟩ ⟨fun b_ => if b_ < w.heap.size then o b_ else (fun _ => 0) (o77 b_), rfl, hs.close0 o (fun _ => 0)⟩
    · rw [b79] at hk H
      replace H := bifT H
      refine x_op hk rfl ?_
      obtain ⟨t83, hc84, H⟩ := bindS H
      refine op_call hk ent_13 (vs := [.pointer (some ⟨bx4, 0, none⟩), .int .i64 2]) rfl (spans_Set_Has_calls K bx4 A40 c41 t34 2 _ o77 1 f39 _ (f42.imp fun _ h_ => Own.rd h_) hc43   _ hc84) ?_
      rintro _ w85 ⟨o86, rfl, st87⟩
      replace f39 := f39.st st87 (by decide)
      replace f42 := f42.st st87 (by decide)
      replace hs := hs.loc0 st87 (by decide)
      have hk := hk.put 19 (.bool t83) rfl
      refine x_run tab hk (k := 2) (lv := []) (ks := [1, 21]) (e' := [(1, .pointer (some ⟨bx4, 0, none⟩)), (21, .bool t83)]) rfl trivial fun a hk => ?_
      cases b88 : t83
      · rw [b88] at hk H
        replace H := bifF H
        refine x_run tab hk (k := 4) (lv := []) (ks := [0]) (e' := [(0, .bool false)]) rfl trivial fun a hk => ?_
        refine wpListIn_nil ?_
        refine then_n ?_
        refine wpIn_ret ?_
        obtain rfl := Option.some.inj H
        exact x_retG hk (rs := [.tmp 0]) (vs := [.bool false]) rfl ⟨rfl, trivial⟩ ⟨fun b_ => if b_ < w.heap.size then o b_ else (fun _ => 0) (o86 b_), rfl, hs.close0 o (fun _ => 0)⟩
      · rw [b88] at hk H
        replace H := bifT H
        refine x_op hk rfl ?_
        obtain ⟨t92, hc93, H⟩ := bindS H
        refine op_call hk ent_13 (vs := [.pointer (some ⟨bx4, 0, none⟩), .int .i64 3]) rfl (spans_Set_Has_calls K bx4 A40 c41 t34 3 _ o86 1 f39 _ (f42.imp fun _ h_ => Own.rd h_) hc43   _ hc93) ?_
        rintro _ w94 ⟨o95, rfl, st96⟩
        replace f39 := f39.st st96 (by decide)
        replace f42 := f42.st st96 (by decide)
        replace hs := hs.loc0 st96 (by decide)
        have hk := hk.put 22 (.bool t92) rfl
        refine x_run tab hk (k := 3) (lv := []) (ks := [0]) (e' := [(0, .bool (!t92))]) rfl trivial fun a hk => ?_
        refine wpListIn_nil ?_
        refine then_n ?_
        refine wpIn_ret ?_
        obtain rfl := Option.some.inj H
        exact x_retG hk (rs := [.tmp 0]) (vs := [.bool (!t92)]) rfl ⟨rfl, trivial⟩ ⟨fun b_ => if b_ < w.heap.size then o b_ else (fun _ => 0) (o95 b_), rfl, hs.close0 o (fun _ => 0)⟩

/-! tidewrack/tidewracklaw13.SpansOrder -/
set_option maxHeartbeats 4000000 in
theorem tidewracklaw13_SpansOrder_calls (K : Nat) (Ap0 : Option Addr) (cp0 : Nat) (p0 : List T28) (w : World) (o : Nat → Nat) (Lp0 : Nat) (hp0 : Ft (RdC ET28 Ap0 p0) w o Lp0) (hcp0 : (p0).length ≤ cp0)  (r : Bool) (H : tidewracklaw13_SpansOrder K p0 = some r) :
    Calls Try.prog 3 #[.slice Ap0 (p0).length cp0] w (Ret fun v_ w' => ∃ o' : Nat → Nat, v_ = .bool r ∧ St [] w o w' o') := by
  refine x_enter (vs := [.slice Ap0 (p0).length cp0]) Try.func3 rfl rfl rfl fun a hk => ?_
  obtain ⟨o0, hs, h0⟩ := St.start w o
  have f900000 := h0 _ _ hp0
  clear h0
  rw [tidewracklaw13_SpansOrder] at H
  refine x_seq ?_
  refine wpIn_region_lit ?_
  refine x_run tab hk (k := 1) (lv := []) (ks := [0]) (e' := [(0, .slice Ap0 (p0).length cp0)]) rfl trivial fun a hk => ?_
  refine wpListIn_nil ?_
  refine then_n ?_
  refine x_seq ?_
  refine x_seq ?_
  refine wpIn_region_lit ?_
  refine x_op hk rfl ?_
  obtain ⟨t4, hc5, H⟩ := bindS H
  refine op_call hk ent_8 (vs := []) rfl (tidewracklaw13_awake_calls K  _ o0    _ hc5) ?_
  rintro _ w6 ⟨o7, rfl, st8⟩
  replace f900000 := f900000.st st8 (by decide)
  replace hs := hs.loc0 st8 (by decide)
  have hk := hk.put 9 (.bool t4) rfl
  refine x_run tab hk (k := 1) (lv := []) (ks := [0, 10]) (e' := [(0, .slice Ap0 (p0).length cp0), (10, .bool (!t4))]) rfl trivial fun a hk => ?_
  refine wpListIn_nil ?_
  refine then_n ?_
  cases b9 : (!t4)
  · rw [b9] at hk H
    replace H := bifF H
    refine x_if hk (b := false) rfl ?_
    refine (show Code.wpIn _ _ _ _ _ _ _ from ?_)
    refine wpIn_skip ?_
    refine then_n ?_
    refine x_seq ?_
    refine wpIn_region_lit ?_
    refine x_op hk rfl ?_
    refine op_alloc (o := o7) tab (t := 26) (cs := [.slice none 0 0]) rfl rfl 1 fun bx13 w10 o11 st12 f14 => ?_
    replace f900000 := f900000.st st12 (by decide)
    replace hs := hs.loc0 st12 (by decide)
    have hk := hk.put 3 (.pointer (some ⟨bx13, 0, none⟩)) rfl
    refine x_op hk rfl ?_
    refine op_alloc (o := o11) tab (t := 26) (cs := [.slice none 0 0]) rfl rfl 2 fun bx18 w15 o16 st17 f19 => ?_
    replace f14 := f14.st st17 (by decide)
    replace f900000 := f900000.st st17 (by decide)
    replace hs := hs.loc0 st17 (by decide)
    have hk := hk.put 4 (.pointer (some ⟨bx18, 0, none⟩)) rfl
    refine wpListIn_nil ?_
    refine then_n ?_
    refine x_seq ?_
    refine wpIn_region_lit ?_
    obtain ⟨q20, H⟩ := ifS H
    obtain ⟨q21, H⟩ := ifS H
    obtain ⟨A22, c23, ak25, f24, hc26⟩ := ask_cut (P := Try.prog) tab (t := 22) rfl rfl f900000 hcp0 none (some (.int .i64 (mnI ((p0).length : Int) 20))) rfl ⟨q20, (by have := q21; have := hcp0; omega), trivial⟩ (by have := q20; have := q21; omega) (by have := q20; have := q21; omega)
    refine x_run tab hk (k := 6) (lv := [.slice A22 ((List.drop 0 (List.take (Int.toNat (mnI ((p0).length : Int) 20)) p0))).length c23]) (ks := [0, 3, 4]) (e' := [(0, .slice A22 ((List.drop 0 (List.take (Int.toNat (mnI ((p0).length : Int) 20)) p0))).length c23), (3, .pointer (some ⟨bx13, 0, none⟩)), (4, .pointer (some ⟨bx18, 0, none⟩))]) rfl ⟨(ak25 rfl rfl rfl _), trivial⟩ fun a hk => ?_
    refine wpListIn_nil ?_
    refine then_n ?_
    refine x_mid (fun a_ w_ => ∃ o187 : Nat → Nat, ∃ A188 : Option Addr, ∃ c189 : Nat, ∃ l190 : List T28, ∃ A193 : Option Addr, ∃ c194 : Nat, ∃ l195 : List T28, Kn 96 a_ [(3, .pointer (some ⟨bx13, 0, none⟩)), (4, .pointer (some ⟨bx18, 0, none⟩))] ∧ St [] w (fun _ => 0) w_ o187 ∧ Ft (Bx bx13 26 [.slice A188 (l190).length c189]) w_ o187 20 ∧ Ft (Bx bx18 26 [.slice A193 (l195).length c194]) w_ o187 22 ∧ Ft (Own ET28 29 (.slice A188 (l190).length c189) l190) w_ o187 19 ∧ Ft (Own ET28 29 (.slice A193 (l195).length c194) l195) w_ o187 21 ∧ (l190).length ≤ c189 ∧ (l195).length ≤ c194 ∧ tidewracklaw13_SpansOrder_j1 K l190 l195 = some r) ?_ ?_
    rotate_left
    · rintro a w198 ⟨o187, A188, c189, l190, A193, c194, l195, hk, hs, f14, f19, f191, f196, hc192, hc197, H⟩
      rw [tidewracklaw13_SpansOrder_j1] at H
      refine x_seq ?_
      refine wpIn_region_lit ?_
      refine x_op hk rfl ?_
      obtain ⟨t202, hc203, H⟩ := bindS H
      refine op_call hk ent_10 (vs := [.pointer (some ⟨bx13, 0, none⟩)]) rfl (spans_Set_Spans_calls bx13 A188 c189 (⟨l190⟩ : T25) _ o187 20 f14 _ (f191.imp fun _ h_ => Own.rd h_) hc192 23  _ hc203) ?_
      rintro _ w204 ⟨o205, A207, c208, rfl, st206, f209, hc210⟩
      replace f14 := f14.st st206 (by decide)
      replace f19 := f19.st st206 (by decide)
      replace f191 := f191.st st206 (by decide)
      replace f196 := f196.st st206 (by decide)
      replace hs := hs.loc0 st206 (by decide)
      have hk := hk.put 38 (.slice A207 (t202).length c208) rfl
      refine x_op hk rfl ?_
      obtain ⟨t214, hc215, H⟩ := bindS H
      refine op_call hk ent_10 (vs := [.pointer (some ⟨bx18, 0, none⟩)]) rfl (spans_Set_Spans_calls bx18 A193 c194 (⟨l195⟩ : T25) _ o205 22 f19 _ (f196.imp fun _ h_ => Own.rd h_) hc197 24  _ hc215) ?_
      rintro _ w216 ⟨o217, A219, c220, rfl, st218, f221, hc222⟩
      replace f14 := f14.st st218 (by decide)
      replace f19 := f19.st st218 (by decide)
      replace f191 := f191.st st218 (by decide)
      replace f196 := f196.st st218 (by decide)
      replace f209 := f209.st st218 (by decide)
      replace hs := hs.loc0 st218 (by decide)
      have hk := hk.put 39 (.slice A219 (t214).length c220) rfl
      refine x_run tab hk (k := 2) (lv := []) (ks := [3, 4, 6, 7]) (e' := [(3, .pointer (some ⟨bx13, 0, none⟩)), (4, .pointer (some ⟨bx18, 0, none⟩)), (6, .slice A207 (t202).length c208), (7, .slice A219 (t214).length c220)]) rfl trivial fun a hk => ?_
      refine wpListIn_nil ?_
      refine then_n ?_
      refine x_mid (fun a_ w_ => ∃ o244 : Nat → Nat, Kn 96 a_ [(6, .slice A207 (t202).length c208), (7, .slice A219 (t214).length c220)] ∧ St [] w (fun _ => 0) w_ o244 ∧ Ft (Own ET28 29 (.slice A207 (t202).length c208) t202) w_ o244 25 ∧ Ft (Own ET28 29 (.slice A219 (t214).length c220) t214) w_ o244 26 ∧ tidewracklaw13_SpansOrder_j2 K t202 t214 = some r) ?_ ?_
      rotate_left
      · rintro a w245 ⟨o244, hk, hs, f209, f221, H⟩
        rw [tidewracklaw13_SpansOrder_j2] at H
        refine x_mid (fun a_ w_ => ∃ o342 : Nat → Nat, Kn 96 a_ [] ∧ St [] w (fun _ => 0) w_ o342 ∧ tidewracklaw13_SpansOrder_j3 = some r) ?_ ?_
        rotate_left
        · rintro a w343 ⟨o342, hk, hs, H⟩
          rw [tidewracklaw13_SpansOrder_j3] at H
          refine x_seq ?_
          refine wpIn_region_lit ?_
          refine x_run tab hk (k := 1) (lv := []) (ks := [2]) (e' := [(2, .bool true)]) rfl trivial fun a hk => ?_
          refine wpListIn_nil ?_
          refine then_n ?_
          refine wpIn_ret ?_
          obtain rfl := Option.some.inj H
          exact x_retG hk (rs := [.tmp 2]) (vs := [.bool true]) rfl ⟨rfl, trivial⟩ ⟨fun b_ => if b_ < w.heap.size then o b_ else (fun _ => 0) (o342 b_), rfl, hs.close0 o (fun _ => 0)⟩
        refine x_seq ?_
        refine wpIn_region_lit ?_
        refine x_run tab hk (k := 3) (lv := []) (ks := [6, 7, 51, 52]) (e' := [(6, .slice A207 (t202).length c208), (7, .slice A219 (t214).length c220), (51, .int .i64 ((t202).length : Int)), (52, .int .i64 0)]) rfl trivial fun a hk => ?_
        refine wpListIn_nil ?_
        refine then_n ?_
        refine wpIn_block ?_
        refine x_loop (fun j_ a_ w_ => ∃ o375 : Nat → Nat, ∃ x376 : Int, Kn 96 a_ [(6, .slice A207 (t202).length c208), (7, .slice A219 (t214).length c220), (51, .int .i64 ((t202).length : Int)), (52, .int .i64 x376)] ∧ St [] w (fun _ => 0) w_ o375 ∧ Ft (Own ET28 29 (.slice A207 (t202).length c208) t202) w_ o375 33 ∧ Ft (Own ET28 29 (.slice A219 (t214).length c220) t214) w_ o375 34 ∧ tidewracklaw13_SpansOrder_l4 t202 t214 j_ x376 = some r) (k := K) ⟨(fun b_ => (fun l_ => if l_ = 25 then 33 else if l_ = 26 then 34 else l_) (o244 b_)), 0, (by exact Kn.pick (ks := [6, 7, 51, 52]) hk rfl), (hs.relab0 (fun l_ => if l_ = 25 then 33 else if l_ = 26 then 34 else l_) rfl), (f209.relab (fun l_ => if l_ = 25 then 33 else if l_ = 26 then 34 else l_) rfl), (f221.relab (fun l_ => if l_ = 25 then 33 else if l_ = 26 then 34 else l_) rfl), H⟩ (by rintro _ _ ⟨_, _, _, _, _, _, H_⟩; exact absurd (show (none : Option Bool) = some r from H_) (by simp)) ?_
        rintro k406 a w405 ⟨o375, x376, hk, hs, f209, f221, H⟩
        rw [tidewracklaw13_SpansOrder_l4] at H
        obtain ⟨lp407, hlp408⟩ : ∃ lp_, lp_ = tidewracklaw13_SpansOrder_l4 t202 t214 k406 := ⟨_, rfl⟩
        rw [← hlp408] at H
        refine x_seq ?_
        refine wpIn_region_lit ?_
        refine x_run tab hk (k := 1) (lv := []) (ks := [6, 7, 51, 52, 53]) (e' := [(6, .slice A207 (t202).length c208), (7, .slice A219 (t214).length c220), (51, .int .i64 ((t202).length : Int)), (52, .int .i64 x376), (53, .bool (decide (x376 < ((t202).length : Int))))]) rfl trivial fun a hk => ?_
        refine wpListIn_nil ?_
        refine then_n ?_
        refine x_seq ?_
        cases b409 : (decide (x376 < ((t202).length : Int)))
        · rw [b409] at hk H
          replace H := bifF H
          refine x_if hk (b := false) rfl ?_
          refine (show Code.wpIn _ _ _ _ _ _ _ from ?_)
          refine wpIn_exit ?_
          refine then_x ?_
          refine then_x ?_
          refine blk_x ?_
          refine then_n ?_
          exact ⟨o375, (by exact Kn.pick (ks := []) hk rfl), hs, H⟩
        · rw [b409] at hk H
          replace H := bifT H
          refine x_if hk (b := true) rfl ?_
          refine (show Code.wpIn _ _ _ _ _ _ _ from ?_)
          refine wpIn_skip ?_
          refine then_n ?_
          refine x_seq ?_
          refine wpIn_block ?_
          refine x_seq ?_
          refine wpIn_region_lit ?_
          refine x_run tab hk (k := 2) (lv := []) (ks := [6, 7, 8, 51, 52]) (e' := [(6, .slice A207 (t202).length c208), (7, .slice A219 (t214).length c220), (8, .int .i64 x376), (51, .int .i64 ((t202).length : Int)), (52, .int .i64 x376)]) rfl trivial fun a hk => ?_
          refine wpListIn_nil ?_
          refine then_n ?_
          refine x_seq ?_
          refine xd_begin (o := o375) (fun W_ => (Own ET28 29 (.slice A207 (t202).length c208) t202) W_ ∧ (Own ET28 29 (.slice A219 (t214).length c220) t214) W_ ∧ True) mixed rfl rfl fun w426 st427 => ?_
          replace f209 := f209.st st427 (by decide)
          replace f221 := f221.st st427 (by decide)
          replace hs := hs.loc0 st427 (by decide)
          obtain ⟨q428, H⟩ := ifS H
          obtain ⟨ad429, hAad429⟩ := RdC.addr (Own.rd f209.now) q428
          have hk_C := hk
          have f209_C := f209
          have f221_C := f221
          subst hAad429
          have hk := hk_C
          clear hk_C
          have f209 := f209_C
          clear f209_C
          have f221 := f221_C
          clear f221_C
          obtain ⟨q430, H⟩ := ifS H
          obtain ⟨ad431, hAad431⟩ := RdC.addr (Own.rd f221.now) q430
          have hk_C := hk
          have f209_C := f209
          have f221_C := f221
          subst hAad431
          have hk := hk_C
          clear hk_C
          have f209 := f209_C
          clear f209_C
          have f221 := f221_C
          clear f221_C
          refine xd_take tab hk (k := 30) (is := [0, 1, 2, 3, 4, 5, 6, 7, 8, 9]) (ls' := #[true, true, true, true, true, true, true, true, true, true, false, false, false, false, false, false, false, false, false, false, false, false, false, false, false, false, false, false, false, false, false, false, false, false, false, false, false, false, false, false]) (lv := [.agg #[.int .i64 ((rdD zT28 t202 x376).From), .int .i64 ((rdD zT28 t202 x376).To)], .agg #[.int .i64 ((rdD zT28 t214 x376).From), .int .i64 ((rdD zT28 t214 x376).To)], .bool (!(eqT28 (rdD zT28 t202 x376) (rdD zT28 t214 x376)))]) (ks := [6, 7, 8, 51, 52, 64]) (e' := [(6, .slice (some ad429) (t202).length c208), (7, .slice (some ad431) (t214).length c220), (8, .int .i64 x376), (51, .int .i64 ((t202).length : Int)), (52, .int .i64 x376), (64, .bool (!(eqT28 (rdD zT28 t202 x376) (rdD zT28 t214 x376))))]) (by kernel_rfl) rfl rfl (by kernel_rfl) (np_then (np_blk (np_then (np_then (np_blk (np_then np_body)))))) ⟨f209.now, f221.now, trivial⟩ (fun W_ hS => ⟨q428, (load_elem (E := ET28) (i := x376) (dx := zT28) tab rfl rfl (Own.rd hS.1) q428), q430, (load_elem (E := ET28) (i := x376) (dx := zT28) tab rfl rfl (Own.rd hS.2.1) q430), (ask_neq tab stood rfl rfl rfl rfl), trivial⟩) fun a hk => ?_
          cases b432 : (!(eqT28 (rdD zT28 t202 x376) (rdD zT28 t214 x376)))
          · rw [b432] at hk H
            replace H := bifF H
            refine xd_take tab hk (k := 17) (is := [10, 11, 12, 13, 14, 15, 16, 17, 18, 19, 20, 21, 22]) (ls' := #[true, true, true, true, true, true, true, true, true, true, true, true, true, true, true, true, true, true, true, true, true, true, true, false, false, false, false, false, false, false, false, false, false, false, false, false, false, false, false, false]) (lv := [.int .i64 ((rdD zT28 t202 x376).To), .int .i64 ((rdD zT28 t202 x376).From)]) (ks := [6, 7, 8, 51, 52, 77]) (e' := [(6, .slice (some ad429) (t202).length c208), (7, .slice (some ad431) (t214).length c220), (8, .int .i64 x376), (51, .int .i64 ((t202).length : Int)), (52, .int .i64 x376), (77, .bool (decide (((rdD zT28 t202 x376).To) ≤ ((rdD zT28 t202 x376).From))))]) (by kernel_rfl) rfl rfl (by kernel_rfl) (np_then (np_blk (np_then (np_then (np_blk (np_then np_body)))))) ⟨f209.now, f221.now, trivial⟩ (fun W_ hS => ⟨q428, (load1 tab rfl (RdC.at (E := ET28) (d := zT28) (i := x376) (j := 1) (Own.rd hS.1) q428 rfl)), q428, (load1 tab rfl (RdC.at (E := ET28) (d := zT28) (i := x376) (j := 0) (Own.rd hS.1) q428 rfl)), trivial⟩) fun a hk => ?_
            cases b433 : (decide (((rdD zT28 t202 x376).To) ≤ ((rdD zT28 t202 x376).From)))
            · rw [b433] at hk H
              replace H := bifF H
              refine xd_take tab hk (k := 14) (is := [23, 24, 25]) (ls' := #[true, true, true, true, true, true, true, true, true, true, true, true, true, true, true, true, true, true, true, true, true, true, true, true, true, true, false, false, false, false, false, false, false, false, false, false, false, false, false, false]) (lv := []) (ks := [6, 7, 8, 51, 52, 77, 80]) (e' := [(6, .slice (some ad429) (t202).length c208), (7, .slice (some ad431) (t214).length c220), (8, .int .i64 x376), (51, .int .i64 ((t202).length : Int)), (52, .int .i64 x376), (77, .bool false), (80, .bool (decide (x376 > (0 : Int))))]) (by kernel_rfl) rfl rfl (by kernel_rfl) (np_then (np_blk (np_then (np_then (np_blk (np_then np_body)))))) ⟨f209.now, f221.now, trivial⟩ (fun W_ hS => trivial) fun a hk => ?_
              cases b434 : (decide (x376 > (0 : Int)))
              · rw [b434] at hk H
                replace H := bifF H
                refine xd_take tab hk (k := 0) (is := [26, 27, 28, 29, 30, 31, 32, 33, 34, 35, 36, 37, 38, 39]) (ls' := #[true, true, true, true, true, true, true, true, true, true, true, true, true, true, true, true, true, true, true, true, true, true, true, true, true, true, true, true, true, true, true, true, true, true, true, true, true, true, true, true]) (lv := []) (ks := [6, 7, 51, 52, 94]) (e' := [(6, .slice (some ad429) (t202).length c208), (7, .slice (some ad431) (t214).length c220), (51, .int .i64 ((t202).length : Int)), (52, .int .i64 x376), (94, .bool false)]) (by kernel_rfl) rfl rfl (by kernel_rfl) (np_then (np_blk (np_then (np_then (np_blk (np_then np_body)))))) ⟨f209.now, f221.now, trivial⟩ (fun W_ hS => trivial) fun a hk => ?_
                refine xd_done (by kernel_rfl) ?_
                refine then_n ?_
                refine x_if hk (b := false) rfl ?_
                refine (show Code.wpIn _ _ _ _ _ _ _ from ?_)
                refine wpIn_skip ?_
                refine blk_n ?_
                refine then_n ?_
                refine wpIn_region_lit ?_
                refine x_run tab hk (k := 2) (lv := []) (ks := [6, 7, 51, 52]) (e' := [(6, .slice (some ad429) (t202).length c208), (7, .slice (some ad431) (t214).length c220), (51, .int .i64 ((t202).length : Int)), (52, .int .i64 (IntKind.wrap .i64 (x376 + 1)))]) rfl trivial fun a hk => ?_
                refine wpListIn_nil ?_
                refine then_n ?_
                exact ⟨k406, Nat.le_refl _, o375, (IntKind.wrap .i64 (x376 + 1)), (by exact Kn.pick (ks := [6, 7, 51, 52]) hk rfl), hs, f209, f221, (hlp408 ▸ H)⟩
              · rw [b434] at hk H
                replace H := bifT H
                obtain ⟨q435, H⟩ := ifS H
                refine xd_take tab hk (k := 0) (is := [26, 27, 28, 29, 30, 31, 32, 33, 34, 35, 36, 37, 38, 39]) (ls' := #[true, true, true, true, true, true, true, true, true, true, true, true, true, true, true, true, true, true, true, true, true, true, true, true, true, true, true, true, true, true, true, true, true, true, true, true, true, true, true, true]) (lv := [.int .i64 ((rdD zT28 t202 x376).From), .int .i64 ((rdD zT28 t202 (IntKind.wrap .i64 (x376 - 1))).To)]) (ks := [6, 7, 51, 52, 94]) (e' := [(6, .slice (some ad429) (t202).length c208), (7, .slice (some ad431) (t214).length c220), (51, .int .i64 ((t202).length : Int)), (52, .int .i64 x376), (94, .bool (decide (((rdD zT28 t202 x376).From) ≤ ((rdD zT28 t202 (IntKind.wrap .i64 (x376 - 1))).To))))]) (by kernel_rfl) rfl rfl (by kernel_rfl) (np_then (np_blk (np_then (np_then (np_blk (np_then np_body)))))) ⟨f209.now, f221.now, trivial⟩ (fun W_ hS => ⟨q428, (load1 tab rfl (RdC.at (E := ET28) (d := zT28) (i := x376) (j := 0) (Own.rd hS.1) q428 rfl)), q435, (load1 tab rfl (RdC.at (E := ET28) (d := zT28) (i := (IntKind.wrap .i64 (x376 - 1))) (j := 1) (Own.rd hS.1) q435 rfl)), trivial⟩) fun a hk => ?_
                refine xd_done (by kernel_rfl) ?_
                refine then_n ?_
                cases b436 : (decide (((rdD zT28 t202 x376).From) ≤ ((rdD zT28 t202 (IntKind.wrap .i64 (x376 - 1))).To)))
                · rw [b436] at hk H
                  replace H := bifF H
                  refine x_if hk (b := false) rfl ?_
                  refine (show Code.wpIn _ _ _ _ _ _ _ from ?_)
                  refine wpIn_skip ?_
                  refine blk_n ?_
                  refine then_n ?_
                  refine wpIn_region_lit ?_
                  refine x_run tab hk (k := 2) (lv := []) (ks := [6, 7, 51, 52]) (e' := [(6, .slice (some ad429) (t202).length c208), (7, .slice (some ad431) (t214).length c220), (51, .int .i64 ((t202).length : Int)), (52, .int .i64 (IntKind.wrap .i64 (x376 + 1)))]) rfl trivial fun a hk => ?_
                  refine wpListIn_nil ?_
                  refine then_n ?_
                  exact ⟨k406, Nat.le_refl _, o375, (IntKind.wrap .i64 (x376 + 1)), (by exact Kn.pick (ks := [6, 7, 51, 52]) hk rfl), hs, f209, f221, (hlp408 ▸ H)⟩
                · rw [b436] at hk H
                  replace H := bifT H
                  refine x_if hk (b := true) rfl ?_
                  refine (show Code.wpIn _ _ _ _ _ _ _ from ?_)
                  refine x_seq ?_
                  refine wpIn_region_lit ?_
                  refine x_run tab hk (k := 1) (lv := []) (ks := [2]) (e' := [(2, .bool false)]) rfl trivial fun a hk => ?_
                  refine wpListIn_nil ?_
                  refine then_n ?_
                  refine wpIn_ret ?_
                  refine blk_r ?_
                  refine then_r ?_
                  refine then_r ?_
                  refine blk_r ?_
                  refine then_r ?_
                  obtain rfl := Option.some.inj H
                  exact x_retG hk (rs := [.tmp 2]) (vs := [.bool false]) rfl ⟨rfl, trivial⟩ ⟨fun b_ => if b_ < w.heap.size then o b_ else (fun _ => 0) (o375 b_), rfl, hs.close0 o (fun _ => 0)⟩
            · rw [b433] at hk H
              replace H := bifT H
              refine xd_take tab hk (k := 0) (is := [23, 24, 25, 26, 27, 28, 29, 30, 31, 32, 33, 34, 35, 36, 37, 38, 39]) (ls' := #[true, true, true, true, true, true, true, true, true, true, true, true, true, true, true, true, true, true, true, true, true, true, true, true, true, true, true, true, true, true, true, true, true, true, true, true, true, true, true, true]) (lv := []) (ks := [6, 7, 51, 52, 94]) (e' := [(6, .slice (some ad429) (t202).length c208), (7, .slice (some ad431) (t214).length c220), (51, .int .i64 ((t202).length : Int)), (52, .int .i64 x376), (94, .bool true)]) (by kernel_rfl) rfl rfl (by kernel_rfl) (np_then (np_blk (np_then (np_then (np_blk (np_then np_body)))))) ⟨f209.now, f221.now, trivial⟩ (fun W_ hS => trivial) fun a hk => ?_
              refine xd_done (by kernel_rfl) ?_
              refine then_n ?_
              refine x_if hk (b := true) rfl ?_
              refine (show Code.wpIn _ _ _ _ _ _ _ from ?_)
              refine x_seq ?_
              refine wpIn_region_lit ?_
              refine x_run tab hk (k := 1) (lv := []) (ks := [2]) (e' := [(2, .bool false)]) rfl trivial fun a hk => ?_
              refine wpListIn_nil ?_
              refine then_n ?_
              refine wpIn_ret ?_
              refine blk_r ?_
              refine then_r ?_
              refine then_r ?_
              refine blk_r ?_
              refine then_r ?_
              obtain rfl := Option.some.inj H
              exact x_retG hk (rs := [.tmp 2]) (vs := [.bool false]) rfl ⟨rfl, trivial⟩ ⟨fun b_ => if b_ < w.heap.size then o b_ else (fun _ => 0) (o375 b_), rfl, hs.close0 o (fun _ => 0)⟩
          · rw [b432] at hk H
            replace H := bifT H
            refine xd_take tab hk (k := 0) (is := [10, 11, 12, 13, 14, 15, 16, 17, 18, 19, 20, 21, 22, 23, 24, 25, 26, 27, 28, 29, 30, 31, 32, 33, 34, 35, 36, 37, 38, 39]) (ls' := #[true, true, true, true, true, true, true, true, true, true, true, true, true, true, true, true, true, true, true, true, true, true, true, true, true, true, true, true, true, true, true, true, true, true, true, true, true, true, true, true]) (lv := []) (ks := [6, 7, 51, 52, 94]) (e' := [(6, .slice (some ad429) (t202).length c208), (7, .slice (some ad431) (t214).length c220), (51, .int .i64 ((t202).length : Int)), (52, .int .i64 x376), (94, .bool true)]) (by kernel_rfl) rfl rfl (by kernel_rfl) (np_then (np_blk (np_then (np_then (np_blk (np_then np_body)))))) ⟨f209.now, f221.now, trivial⟩ (fun W_ hS => trivial) fun a hk => ?_
            refine xd_done (by kernel_rfl) ?_
            refine then_n ?_
            refine x_if hk (b := true) rfl ?_
            refine (show Code.wpIn _ _ _ _ _ _ _ from ?_)
            refine x_seq ?_
            refine wpIn_region_lit ?_
            refine x_run tab hk (k := 1) (lv := []) (ks := [2]) (e' := [(2, .bool false)]) rfl trivial fun a hk => ?_
            refine wpListIn_nil ?_
            refine then_n ?_
            refine wpIn_ret ?_
            refine blk_r ?_
            refine then_r ?_
            refine then_r ?_
            refine blk_r ?_
            refine then_r ?_
            obtain rfl := Option.some.inj H
            exact x_retG hk (rs := [.tmp 2]) (vs := [.bool false]) rfl ⟨rfl, trivial⟩ ⟨fun b_ => if b_ < w.heap.size then o b_ else (fun _ => 0) (o375 b_), rfl, hs.close0 o (fun _ => 0)⟩
      refine x_seq ?_
      refine wpIn_region_lit ?_
      refine x_run tab hk (k := 6) (lv := []) (ks := [3, 4, 6, 7, 45]) (e' := [(3, .pointer (some ⟨bx13, 0, none⟩)), (4, .pointer (some ⟨bx18, 0, none⟩)), (6, .slice A207 (t202).length c208), (7, .slice A219 (t214).length c220), (45, .bool (((t202).length : Int) != ((t214).length : Int)))]) rfl trivial fun a hk => ?_
      cases b437 : (((t202).length : Int) != ((t214).length : Int))
      · rw [b437] at hk H
        replace H := bifF H
        refine x_op hk rfl ?_
        obtain ⟨t441, hc442, H⟩ := bindS H
        refine op_call hk ent_11 (vs := [.pointer (some ⟨bx13, 0, none⟩)]) rfl (spans_Set_Len_calls K bx13 A188 c189 (⟨l190⟩ : T25) _ o217 20 f14 _ (f191.imp fun _ h_ => Own.rd h_) hc192   _ hc442) ?_
        rintro _ w443 ⟨o444, rfl, st445⟩
        replace f14 := f14.st st445 (by decide)
        replace f19 := f19.st st445 (by decide)
        replace f191 := f191.st st445 (by decide)
        replace f196 := f196.st st445 (by decide)
        replace f209 := f209.st st445 (by decide)
        replace f221 := f221.st st445 (by decide)
        replace hs := hs.loc0 st445 (by decide)
        have hk := hk.put 46 (.int .i64 t441) rfl
        refine x_op hk rfl ?_
        obtain ⟨t449, hc450, H⟩ := bindS H
        refine op_call hk ent_11 (vs := [.pointer (some ⟨bx18, 0, none⟩)]) rfl (spans_Set_Len_calls K bx18 A193 c194 (⟨l195⟩ : T25) _ o444 22 f19 _ (f196.imp fun _ h_ => Own.rd h_) hc197   _ hc450) ?_
        rintro _ w451 ⟨o452, rfl, st453⟩
        replace f14 := f14.st st453 (by decide)
        replace f19 := f19.st st453 (by decide)
        replace f191 := f191.st st453 (by decide)
        replace f196 := f196.st st453 (by decide)
        replace f209 := f209.st st453 (by decide)
        replace f221 := f221.st st453 (by decide)
        replace hs := hs.loc0 st453 (by decide)
        have hk := hk.put 47 (.int .i64 t449) rfl
        refine x_run tab hk (k := 2) (lv := []) (ks := [6, 7, 49]) (e' := [(6, .slice A207 (t202).length c208), (7, .slice A219 (t214).length c220), (49, .bool (t441 != t449))]) rfl trivial fun a hk => ?_
        refine wpListIn_nil ?_
        refine then_n ?_
        cases b454 : (t441 != t449)
        · rw [b454] at hk H
          replace H := bifF H
          refine x_if hk (b := false) rfl ?_
          refine (show Code.wpIn _ _ _ _ _ _ _ from ?_)
          refine wpIn_skip ?_
          refine then_n ?_
          exact ⟨(fun b_ => (fun l_ => if l_ = 23 then 25 else if l_ = 24 then 26 else l_) (o452 b_)), (by exact Kn.pick (ks := [6, 7]) hk rfl), (hs.relab0 (fun l_ => if l_ = 23 then 25 else if l_ = 24 then 26 else l_) rfl), (f209.relab (fun l_ => if l_ = 23 then 25 else if l_ = 24 then 26 else l_) rfl), (f221.relab (fun l_ => if l_ = 23 then 25 else if l_ = 24 then 26 else l_) rfl), H⟩
        · rw [b454] at hk H
          replace H := bifT H
          refine x_if hk (b := true) rfl ?_
          refine (show Code.wpIn _ _ _ _ _ _ _ from ?_)
          refine x_seq ?_
          refine wpIn_region_lit ?_
          refine x_run tab hk (k := 1) (lv := []) (ks := [2]) (e' := [(2, .bool false)]) rfl trivial fun a hk => ?_
          refine wpListIn_nil ?_
          refine then_n ?_
          refine wpIn_ret ?_
          refine then_r ?_
          obtain rfl := Option.some.inj H
          exact x_retG hk (rs := [.tmp 2]) (vs := [.bool false]) rfl ⟨rfl, trivial⟩ ⟨fun b_ => if b_ < w.heap.size then o b_ else (fun _ => 0) (o452 b_), rfl, hs.close0 o (fun _ => 0)⟩
      · rw [b437] at hk H
        replace H := bifT H
        refine x_run tab hk (k := 4) (lv := []) (ks := [6, 7, 49]) (e' := [(6, .slice A207 (t202).length c208), (7, .slice A219 (t214).length c220), (49, .bool true)]) rfl trivial fun a hk => ?_
        refine wpListIn_nil ?_
        refine then_n ?_
        refine x_if hk (b := true) rfl ?_
        refine (show Code.wpIn _ _ _ _ _ _ _ from ?_)
        refine x_seq ?_
        refine wpIn_region_lit ?_
        refine x_run tab hk (k := 1) (lv := []) (ks := [2]) (e' := [(2, .bool false)]) rfl trivial fun a hk => ?_
        refine wpListIn_nil ?_
        refine then_n ?_
        refine wpIn_ret ?_
        refine then_r ?_
        obtain rfl := Option.some.inj H
        exact x_retG hk (rs := [.tmp 2]) (vs := [.bool false]) rfl ⟨rfl, trivial⟩ ⟨fun b_ => if b_ < w.heap.size then o b_ else (fun _ => 0) (o217 b_), rfl, hs.close0 o (fun _ => 0)⟩
    refine x_seq ?_
    refine wpIn_region_lit ?_
    refine x_run tab hk (k := 3) (lv := []) (ks := [0, 3, 4, 17, 18]) (e' := [(0, .slice A22 ((List.drop 0 (List.take (Int.toNat (mnI ((p0).length : Int) 20)) p0))).length c23), (3, .pointer (some ⟨bx13, 0, none⟩)), (4, .pointer (some ⟨bx18, 0, none⟩)), (17, .int .i64 (((List.drop 0 (List.take (Int.toNat (mnI ((p0).length : Int) 20)) p0))).length : Int)), (18, .int .i64 0)]) rfl trivial fun a hk => ?_
    refine wpListIn_nil ?_
    refine then_n ?_
    refine wpIn_block ?_
    refine x_loop (fun j_ a_ w_ => ∃ o500 : Nat → Nat, ∃ A501 : Option Addr, ∃ c502 : Nat, ∃ l503 : List T28, ∃ A506 : Option Addr, ∃ c507 : Nat, ∃ l508 : List T28, ∃ x511 : Int, Kn 96 a_ [(0, .slice A22 ((List.drop 0 (List.take (Int.toNat (mnI ((p0).length : Int) 20)) p0))).length c23), (3, .pointer (some ⟨bx13, 0, none⟩)), (4, .pointer (some ⟨bx18, 0, none⟩)), (17, .int .i64 (((List.drop 0 (List.take (Int.toNat (mnI ((p0).length : Int) 20)) p0))).length : Int)), (18, .int .i64 x511)] ∧ St [] w (fun _ => 0) w_ o500 ∧ Ft (Bx bx13 26 [.slice A501 (l503).length c502]) w_ o500 42 ∧ Ft (Bx bx18 26 [.slice A506 (l508).length c507]) w_ o500 44 ∧ Ft (RdC ET28 A22 (List.drop 0 (List.take (Int.toNat (mnI ((p0).length : Int) 20)) p0))) w_ o500 0 ∧ Ft (Own ET28 29 (.slice A501 (l503).length c502) l503) w_ o500 41 ∧ Ft (Own ET28 29 (.slice A506 (l508).length c507) l508) w_ o500 43 ∧ (l503).length ≤ c502 ∧ (l508).length ≤ c507 ∧ tidewracklaw13_SpansOrder_l5 K p0 j_ l503 l508 x511 = some r) (k := K) ⟨(fun b_ => (fun l_ => if l_ = 1 then 42 else if l_ = 2 then 44 else l_) (o16 b_)), none, 0, ([] : List T28), none, 0, ([] : List T28), 0, (by exact Kn.pick (ks := [0, 3, 4, 17, 18]) hk rfl), (hs.relab0 (fun l_ => if l_ = 1 then 42 else if l_ = 2 then 44 else l_) rfl), (f14.relab (fun l_ => if l_ = 1 then 42 else if l_ = 2 then 44 else l_) rfl), (f19.relab (fun l_ => if l_ = 1 then 42 else if l_ = 2 then 44 else l_) rfl), (f24.relab (fun l_ => if l_ = 1 then 42 else if l_ = 2 then 44 else l_) rfl), (Ft.of_all (fun _ => Own.nil _ _ _) _ _ _), (Ft.of_all (fun _ => Own.nil _ _ _) _ _ _), (by simp), (by simp), H⟩ (by rintro _ _ ⟨_, _, _, _, _, _, _, _, _, _, _, _, _, _, _, _, _, H_⟩; exact absurd (show (none : Option Bool) = some r from H_) (by simp)) ?_
    rintro k555 a w554 ⟨o500, A501, c502, l503, A506, c507, l508, x511, hk, hs, f14, f19, f24, f504, f509, hc505, hc510, H⟩
    rw [tidewracklaw13_SpansOrder_l5] at H
    obtain ⟨lp556, hlp557⟩ : ∃ lp_, lp_ = tidewracklaw13_SpansOrder_l5 K p0 k555 := ⟨_, rfl⟩
    rw [← hlp557] at H
    refine x_seq ?_
    refine wpIn_region_lit ?_
    refine x_run tab hk (k := 1) (lv := []) (ks := [0, 3, 4, 17, 18, 19]) (e' := [(0, .slice A22 ((List.drop 0 (List.take (Int.toNat (mnI ((p0).length : Int) 20)) p0))).length c23), (3, .pointer (some ⟨bx13, 0, none⟩)), (4, .pointer (some ⟨bx18, 0, none⟩)), (17, .int .i64 (((List.drop 0 (List.take (Int.toNat (mnI ((p0).length : Int) 20)) p0))).length : Int)), (18, .int .i64 x511), (19, .bool (decide (x511 < (((List.drop 0 (List.take (Int.toNat (mnI ((p0).length : Int) 20)) p0))).length : Int))))]) rfl trivial fun a hk => ?_
    refine wpListIn_nil ?_
    refine then_n ?_
    refine x_seq ?_
    cases b558 : (decide (x511 < (((List.drop 0 (List.take (Int.toNat (mnI ((p0).length : Int) 20)) p0))).length : Int)))
    · rw [b558] at hk H
      replace H := bifF H
      refine x_if hk (b := false) rfl ?_
      refine (show Code.wpIn _ _ _ _ _ _ _ from ?_)
      refine wpIn_exit ?_
      refine then_x ?_
      refine then_x ?_
      refine blk_x ?_
      refine then_n ?_
      exact ⟨(fun b_ => (fun l_ => if l_ = 41 then 19 else if l_ = 42 then 20 else if l_ = 43 then 21 else if l_ = 44 then 22 else l_) (o500 b_)), A501, c502, l503, A506, c507, l508, (by exact Kn.pick (ks := [3, 4]) hk rfl), (hs.relab0 (fun l_ => if l_ = 41 then 19 else if l_ = 42 then 20 else if l_ = 43 then 21 else if l_ = 44 then 22 else l_) rfl), (f14.relab (fun l_ => if l_ = 41 then 19 else if l_ = 42 then 20 else if l_ = 43 then 21 else if l_ = 44 then 22 else l_) rfl), (f19.relab (fun l_ => if l_ = 41 then 19 else if l_ = 42 then 20 else if l_ = 43 then 21 else if l_ = 44 then 22 else l_) rfl), (f504.relab (fun l_ => if l_ = 41 then 19 else if l_ = 42 then 20 else if l_ = 43 then 21 else if l_ = 44 then 22 else l_) rfl), (f509.relab (fun l_ => if l_ = 41 then 19 else if l_ = 42 then 20 else if l_ = 43 then 21 else if l_ = 44 then 22 else l_) rfl), hc505, hc510, H⟩
    · rw [b558] at hk H
      replace H := bifT H
      refine x_if hk (b := true) rfl ?_
      refine (show Code.wpIn _ _ _ _ _ _ _ from ?_)
      refine wpIn_skip ?_
      refine then_n ?_
      refine x_seq ?_
      refine wpIn_block ?_
      refine x_seq ?_
      refine wpIn_region_lit ?_
      refine x_run tab hk (k := 2) (lv := []) (ks := [0, 3, 4, 5, 17, 18]) (e' := [(0, .slice A22 ((List.drop 0 (List.take (Int.toNat (mnI ((p0).length : Int) 20)) p0))).length c23), (3, .pointer (some ⟨bx13, 0, none⟩)), (4, .pointer (some ⟨bx18, 0, none⟩)), (5, .int .i64 x511), (17, .int .i64 (((List.drop 0 (List.take (Int.toNat (mnI ((p0).length : Int) 20)) p0))).length : Int)), (18, .int .i64 x511)]) rfl trivial fun a hk => ?_
      refine wpListIn_nil ?_
      refine then_n ?_
      refine x_seq ?_
      refine wpIn_region_lit ?_
      obtain ⟨q559, H⟩ := ifS H
      obtain ⟨ad560, hAad560⟩ := RdC.addr f24.now q559
      have hk_C := hk
      have f14_C := f14
      have f19_C := f19
      have f24_C := f24
      have f504_C := f504
      have f509_C := f509
      subst hAad560
      have hk := hk_C
      clear hk_C
      have f14 := f14_C
      clear f14_C
      have f19 := f19_C
      clear f19_C
      have f24 := f24_C
      clear f24_C
      have f504 := f504_C
      clear f504_C
      have f509 := f509_C
      clear f509_C
      refine x_run tab hk (k := 4) (lv := [.agg #[.int .i64 ((rdD zT28 (List.drop 0 (List.take (Int.toNat (mnI ((p0).length : Int) 20)) p0)) x511).From), .int .i64 ((rdD zT28 (List.drop 0 (List.take (Int.toNat (mnI ((p0).length : Int) 20)) p0)) x511).To)]]) (ks := [0, 3, 4, 5, 17, 18, 24]) (e' := [(0, .slice (some ad560) ((List.drop 0 (List.take (Int.toNat (mnI ((p0).length : Int) 20)) p0))).length c23), (3, .pointer (some ⟨bx13, 0, none⟩)), (4, .pointer (some ⟨bx18, 0, none⟩)), (5, .int .i64 x511), (17, .int .i64 (((List.drop 0 (List.take (Int.toNat (mnI ((p0).length : Int) 20)) p0))).length : Int)), (18, .int .i64 x511), (24, .agg #[.int .i64 ((rdD zT28 (List.drop 0 (List.take (Int.toNat (mnI ((p0).length : Int) 20)) p0)) x511).From), .int .i64 ((rdD zT28 (List.drop 0 (List.take (Int.toNat (mnI ((p0).length : Int) 20)) p0)) x511).To)])]) rfl ⟨q559, (load_elem (E := ET28) (i := x511) (dx := zT28) tab rfl rfl f24.now q559), trivial⟩ fun a hk => ?_
      refine x_op hk rfl ?_
      refine op_slice (o := o500) tab hk (vs := [.agg #[.int .i64 ((rdD zT28 (List.drop 0 (List.take (Int.toNat (mnI ((p0).length : Int) 20)) p0)) x511).From), .int .i64 ((rdD zT28 (List.drop 0 (List.take (Int.toNat (mnI ((p0).length : Int) 20)) p0)) x511).To)]]) (cs := [.int .i64 ((rdD zT28 (List.drop 0 (List.take (Int.toNat (mnI ((p0).length : Int) 20)) p0)) x511).From), .int .i64 ((rdD zT28 (List.drop 0 (List.take (Int.toNat (mnI ((p0).length : Int) 20)) p0)) x511).To)]) rfl rfl rfl rfl rfl rfl rfl rfl rfl 47 fun bx564 w561 o562 st563 f565 => ?_
      replace f14 := f14.st st563 (by decide)
      replace f19 := f19.st st563 (by decide)
      replace f24 := f24.st st563 (by decide)
      replace f504 := f504.st st563 (by decide)
      replace f509 := f509.st st563 (by decide)
      replace hs := hs.loc0 st563 (by decide)
      have f566 : Ft (Own ET28 29 (.slice (some ⟨bx564, 0, none⟩) (([(rdD zT28 (List.drop 0 (List.take (Int.toNat (mnI ((p0).length : Int) 20)) p0)) x511)] : List T28)).length 1) ([(rdD zT28 (List.drop 0 (List.take (Int.toNat (mnI ((p0).length : Int) 20)) p0)) x511)] : List T28)) w561 o562 47 := f565.imp fun _ h_ => Own.of_box h_ rfl (by simp)
      have hk := hk.put 25 (.slice (some ⟨bx564, 0, none⟩) (([(rdD zT28 (List.drop 0 (List.take (Int.toNat (mnI ((p0).length : Int) 20)) p0)) x511)] : List T28)).length 1) rfl
      refine x_op hk rfl ?_
      obtain ⟨t570, hc571, H⟩ := bindS H
      refine op_call hk ent_9 (vs := [.pointer (some ⟨bx13, 0, none⟩), .slice (some ⟨bx564, 0, none⟩) (([(rdD zT28 (List.drop 0 (List.take (Int.toNat (mnI ((p0).length : Int) 20)) p0)) x511)] : List T28)).length 1]) rfl (spans_Set_Add_calls K bx13 A501 c502 (⟨l503⟩ : T25) (some ⟨bx564, 0, none⟩) 1 ([(rdD zT28 (List.drop 0 (List.take (Int.toNat (mnI ((p0).length : Int) 20)) p0)) x511)] : List T28) _ o562 42 f14 41 f504 hc505 _ (f566.imp fun _ h_ => Own.rd h_) (Nat.le_refl _) (by decide) (by decide)   _ hc571) ?_
      rintro _ w572 ⟨o573, A576, c577, rfl, st574, f575, f578, hc579⟩
      replace f19 := f19.st st574 (by decide)
      replace f24 := f24.st st574 (by decide)
      replace f509 := f509.st st574 (by decide)
      replace f566 := f566.st st574 (by decide)
      replace hs := hs.loc0 st574 (by decide)
      have hk := hk.put 26 (.tuple #[]) rfl
      refine wpListIn_nil ?_
      refine then_n ?_
      refine wpIn_region_lit ?_
      obtain ⟨q580, H⟩ := ifS H
      refine x_run tab hk (k := 8) (lv := [.agg #[.int .i64 ((rdD zT28 (List.drop 0 (List.take (Int.toNat (mnI ((p0).length : Int) 20)) p0)) (IntKind.wrap .i64 ((IntKind.wrap .i64 ((((List.drop 0 (List.take (Int.toNat (mnI ((p0).length : Int) 20)) p0))).length : Int) - 1)) - x511))).From), .int .i64 ((rdD zT28 (List.drop 0 (List.take (Int.toNat (mnI ((p0).length : Int) 20)) p0)) (IntKind.wrap .i64 ((IntKind.wrap .i64 ((((List.drop 0 (List.take (Int.toNat (mnI ((p0).length : Int) 20)) p0))).length : Int) - 1)) - x511))).To)]]) (ks := [0, 3, 4, 17, 18, 34]) (e' := [(0, .slice (some ad560) ((List.drop 0 (List.take (Int.toNat (mnI ((p0).length : Int) 20)) p0))).length c23), (3, .pointer (some ⟨bx13, 0, none⟩)), (4, .pointer (some ⟨bx18, 0, none⟩)), (17, .int .i64 (((List.drop 0 (List.take (Int.toNat (mnI ((p0).length : Int) 20)) p0))).length : Int)), (18, .int .i64 x511), (34, .agg #[.int .i64 ((rdD zT28 (List.drop 0 (List.take (Int.toNat (mnI ((p0).length : Int) 20)) p0)) (IntKind.wrap .i64 ((IntKind.wrap .i64 ((((List.drop 0 (List.take (Int.toNat (mnI ((p0).length : Int) 20)) p0))).length : Int) - 1)) - x511))).From), .int .i64 ((rdD zT28 (List.drop 0 (List.take (Int.toNat (mnI ((p0).length : Int) 20)) p0)) (IntKind.wrap .i64 ((IntKind.wrap .i64 ((((List.drop 0 (List.take (Int.toNat (mnI ((p0).length : Int) 20)) p0))).length : Int) - 1)) - x511))).To)])]) rfl ⟨q580, (load_elem (E := ET28) (i := (IntKind.wrap .i64 ((IntKind.wrap .i64 ((((List.drop 0 (List.take (Int.toNat (mnI ((p0).length : Int) 20)) p0))).length : Int) - 1)) - x511))) (dx := zT28) tab rfl rfl f24.now q580), trivial⟩ fun a hk => ?_
      refine x_op hk rfl ?_
      refine op_slice (o := o573) tab hk (vs := [.agg #[.int .i64 ((rdD zT28 (List.drop 0 (List.take (Int.toNat (mnI ((p0).length : Int) 20)) p0)) (IntKind.wrap .i64 ((IntKind.wrap .i64 ((((List.drop 0 (List.take (Int.toNat (mnI ((p0).length : Int) 20)) p0))).length : Int) - 1)) - x511))).From), .int .i64 ((rdD zT28 (List.drop 0 (List.take (Int.toNat (mnI ((p0).length : Int) 20)) p0)) (IntKind.wrap .i64 ((IntKind.wrap .i64 ((((List.drop 0 (List.take (Int.toNat (mnI ((p0).length : Int) 20)) p0))).length : Int) - 1)) - x511))).To)]]) (cs := [.int .i64 ((rdD zT28 (List.drop 0 (List.take (Int.toNat (mnI ((p0).length : Int) 20)) p0)) (IntKind.wrap .i64 ((IntKind.wrap .i64 ((((List.drop 0 (List.take (Int.toNat (mnI ((p0).length : Int) 20)) p0))).length : Int) - 1)) - x511))).From), .int .i64 ((rdD zT28 (List.drop 0 (List.take (Int.toNat (mnI ((p0).length : Int) 20)) p0)) (IntKind.wrap .i64 ((IntKind.wrap .i64 ((((List.drop 0 (List.take (Int.toNat (mnI ((p0).length : Int) 20)) p0))).length : Int) - 1)) - x511))).To)]) rfl rfl rfl rfl rfl rfl rfl rfl rfl 48 fun bx584 w581 o582 st583 f585 => ?_
      replace f19 := f19.st st583 (by decide)
      replace f24 := f24.st st583 (by decide)
      replace f509 := f509.st st583 (by decide)
      replace f575 := f575.st st583 (by decide)
      replace f578 := f578.st st583 (by decide)
      replace hs := hs.loc0 st583 (by decide)
      have f586 : Ft (Own ET28 29 (.slice (some ⟨bx584, 0, none⟩) (([(rdD zT28 (List.drop 0 (List.take (Int.toNat (mnI ((p0).length : Int) 20)) p0)) (IntKind.wrap .i64 ((IntKind.wrap .i64 ((((List.drop 0 (List.take (Int.toNat (mnI ((p0).length : Int) 20)) p0))).length : Int) - 1)) - x511)))] : List T28)).length 1) ([(rdD zT28 (List.drop 0 (List.take (Int.toNat (mnI ((p0).length : Int) 20)) p0)) (IntKind.wrap .i64 ((IntKind.wrap .i64 ((((List.drop 0 (List.take (Int.toNat (mnI ((p0).length : Int) 20)) p0))).length : Int) - 1)) - x511)))] : List T28)) w581 o582 48 := f585.imp fun _ h_ => Own.of_box h_ rfl (by simp)
      have hk := hk.put 35 (.slice (some ⟨bx584, 0, none⟩) (([(rdD zT28 (List.drop 0 (List.take (Int.toNat (mnI ((p0).length : Int) 20)) p0)) (IntKind.wrap .i64 ((IntKind.wrap .i64 ((((List.drop 0 (List.take (Int.toNat (mnI ((p0).length : Int) 20)) p0))).length : Int) - 1)) - x511)))] : List T28)).length 1) rfl
      refine x_op hk rfl ?_
      obtain ⟨t590, hc591, H⟩ := bindS H
      refine op_call hk ent_9 (vs := [.pointer (some ⟨bx18, 0, none⟩), .slice (some ⟨bx584, 0, none⟩) (([(rdD zT28 (List.drop 0 (List.take (Int.toNat (mnI ((p0).length : Int) 20)) p0)) (IntKind.wrap .i64 ((IntKind.wrap .i64 ((((List.drop 0 (List.take (Int.toNat (mnI ((p0).length : Int) 20)) p0))).length : Int) - 1)) - x511)))] : List T28)).length 1]) rfl (spans_Set_Add_calls K bx18 A506 c507 (⟨l508⟩ : T25) (some ⟨bx584, 0, none⟩) 1 ([(rdD zT28 (List.drop 0 (List.take (Int.toNat (mnI ((p0).length : Int) 20)) p0)) (IntKind.wrap .i64 ((IntKind.wrap .i64 ((((List.drop 0 (List.take (Int.toNat (mnI ((p0).length : Int) 20)) p0))).length : Int) - 1)) - x511)))] : List T28) _ o582 44 f19 43 f509 hc510 _ (f586.imp fun _ h_ => Own.rd h_) (Nat.le_refl _) (by decide) (by decide)   _ hc591) ?_
      rintro _ w592 ⟨o593, A596, c597, rfl, st594, f595, f598, hc599⟩
      replace f24 := f24.st st594 (by decide)
      replace f575 := f575.st st594 (by decide)
      replace f578 := f578.st st594 (by decide)
      replace f586 := f586.st st594 (by decide)
      replace hs := hs.loc0 st594 (by decide)
      have hk := hk.put 36 (.tuple #[]) rfl
      refine wpListIn_nil ?_
      refine blk_n ?_
      refine then_n ?_
      refine wpIn_region_lit ?_
      refine x_run tab hk (k := 2) (lv := []) (ks := [0, 3, 4, 17, 18]) (e' := [(0, .slice (some ad560) ((List.drop 0 (List.take (Int.toNat (mnI ((p0).length : Int) 20)) p0))).length c23), (3, .pointer (some ⟨bx13, 0, none⟩)), (4, .pointer (some ⟨bx18, 0, none⟩)), (17, .int .i64 (((List.drop 0 (List.take (Int.toNat (mnI ((p0).length : Int) 20)) p0))).length : Int)), (18, .int .i64 (IntKind.wrap .i64 (x511 + 1)))]) rfl trivial fun a hk => ?_
      refine wpListIn_nil ?_
      refine then_n ?_
      exact ⟨k555, Nat.le_refl _, o593, A576, c577, t570.l, A596, c597, t590.l, (IntKind.wrap .i64 (x511 + 1)), (by exact Kn.pick (ks := [0, 3, 4, 17, 18]) hk rfl), hs, f575, f595, f24, f578, f598, hc579, hc599, (hlp557 ▸ H)⟩
  · rw [b9] at hk H
    replace H := bifT H
    refine x_if hk (b := true) rfl ?_
    refine (show Code.wpIn _ _ _ _ _ _ _ from ?_)
    refine x_seq ?_
    refine wpIn_region_lit ?_
    refine x_run tab hk (k := 1) (lv := []) (ks := [2]) (e' := [(2, .bool false)]) rfl trivial fun a hk => ?_
    refine wpListIn_nil ?_
    refine then_n ?_
    refine wpIn_ret ?_
    refine then_r ?_
    obtain rfl := Option.some.inj H
    exact x_retG hk (rs := [.tmp 2]) (vs := [.bool false]) rfl ⟨rfl, trivial⟩ ⟨fun b_ => if b_ < w.heap.size then o b_ else (fun _ => 0) (o7 b_), rfl, hs.close0 o (fun _ => 0)⟩

end Go.Proofs.Ytjbdijgenhhgaaa
