/- Walks, printed by an own program: the machine's calls compute the plain functions. -/
import Derived.Test.YtmgopcmdljhjoaaW1
set_option linter.unusedVariables false
set_option linter.unusedSimpArgs false
namespace Go.Proofs.Ytmgopcmdljhjoaa
open Go Go.Proofs.XC
/-! (*tidewrack/fetch.Fetch).Ask -/
theorem fetch_Fetch_Ask_calls (K : Nat) (bp0 : Nat) (bq0_0 : Nat) (Ap0_0 : Option Addr) (cp0_0 : Nat) (p0 : T50) (p1 : Int) (p2 : Int) (w : World) (o : Nat → Nat) (Lp0 : Nat) (hp0 : Ft (Bx bp0 51 [.int .i64 p0.most, .int .i64 p0.every, .int .i64 p0.due, .pointer (some ⟨bq0_0, 0, none⟩)]) w o Lp0) (Lp0_0 : Nat) (hp0_0 : Ft (Own ET30 43 (.slice Ap0_0 (p0.want_l).length cp0_0) p0.want_l) w o Lp0_0) (hcp0_0 : (p0.want_l).length ≤ cp0_0) (Lq0_0 : Nat) (hq0_0 : Ft (Bx bq0_0 49 [.slice Ap0_0 (p0.want_l).length cp0_0]) w o Lq0_0) (hd0 : ([Lp0, Lp0_0, Lq0_0] : List Nat).Nodup) (R0 : Nat) (r : (List T30) × T50) (H : fetch_Fetch_Ask K p0 p1 p2 = some r) :
    Calls Try.prog 13 #[.pointer (some ⟨bp0, 0, none⟩), .int .i64 p1, .int .i64 p2] w (Ret fun v_ w' => ∃ o' : Nat → Nat, ∃ A0 : Option Addr, ∃ c0 : Nat, ∃ b0 : Nat, ∃ A1 : Option Addr, ∃ c1 : Nat, v_ = .slice A0 (r.1).length c0 ∧ St [Lp0, Lp0_0, Lq0_0] w o w' o' ∧ Ft (Own ET30 43 (.slice A0 (r.1).length c0) r.1) w' o' R0 ∧ (r.1).length ≤ c0 ∧ Ft (Bx bp0 51 [.int .i64 r.2.most, .int .i64 r.2.every, .int .i64 r.2.due, .pointer (some ⟨b0, 0, none⟩)]) w' o' Lp0 ∧ Ft (Bx b0 49 [.slice A1 (r.2.want_l).length c1]) w' o' Lq0_0 ∧ Ft (Own ET30 43 (.slice A1 (r.2.want_l).length c1) r.2.want_l) w' o' Lp0_0 ∧ (r.2.want_l).length ≤ c1) := by
  refine x_enter (vs := [.pointer (some ⟨bp0, 0, none⟩), .int .i64 p1, .int .i64 p2]) Try.func13 rfl rfl rfl fun a hk => ?_
  obtain ⟨oi, hs0, h0, h1, hob, hoz, hoa⟩ := St.startM2 w o (m := 3) hd0 rfl
  have hs := hs0 [1, 2, 3]
  have hom := lab_in hob (MM := [1, 2, 3]) (by decide)
  have f900000 := h1 1 2 hp0_0 rfl rfl
  have f900019 := h1 0 1 hp0 rfl rfl
  have f910000 := h1 2 3 hq0_0 rfl rfl
  clear h0 h1 hs0
  rw [fetch_Fetch_Ask] at H
  refine x_seq ?_
  refine wpIn_region_lit ?_
  refine x_run tab hk (k := 1) (lv := []) (ks := [0, 1, 2]) (e' := [(0, .pointer (some ⟨bp0, 0, none⟩)), (1, .int .i64 p1), (2, .int .i64 p2)]) rfl trivial fun a hk => ?_
  refine wpListIn_nil ?_
  refine then_n ?_
  refine x_seq ?_
  refine wpIn_region_lit ?_
  refine x_run tab hk (k := 6) (lv := [.pointer (some ⟨bq0_0, 0, none⟩)]) (ks := [0, 1, 11, 13]) (e' := [(0, .pointer (some ⟨bp0, 0, none⟩)), (1, .int .i64 p1), (11, .pointer (some ⟨bq0_0, 0, none⟩)), (13, .agg #[.int .i64 0, .int .i64 p2])]) rfl ⟨(load1 tab rfl ((Bx.cell f900019.now 3).trans rfl)), trivial⟩ fun a hk => ?_
  refine x_op hk rfl ?_
  obtain ⟨t4, hc5, H⟩ := bindS H
  refine op_call hk ent_25 (vs := [.pointer (some ⟨bq0_0, 0, none⟩), .agg #[.int .i64 0, .int .i64 p2]]) rfl (spans_Set_In_calls K bq0_0 Ap0_0 cp0_0 (⟨p0.want_l⟩ : T48) (⟨0, p2⟩ : T30) _ oi 3 f910000 _ (f900000.imp fun _ h_ => Own.rd h_) hcp0_0 4  _ hc5) ?_
  rintro _ w6 ⟨o7, A9, c10, rfl, st8, f11, hc12⟩
  replace f900000 := f900000.st st8 (by decide)
  replace f900019 := f900019.st st8 (by decide)
  replace f910000 := f910000.st st8 (by decide)
  replace hs := hs.locM st8 (by decide) hom
  have hk := hk.put 14 (.slice A9 (t4).length c10) rfl
  refine x_run tab hk (k := 1) (lv := []) (ks := [0, 1, 7]) (e' := [(0, .pointer (some ⟨bp0, 0, none⟩)), (1, .int .i64 p1), (7, .slice A9 (t4).length c10)]) rfl trivial fun a hk => ?_
  refine wpListIn_nil ?_
  refine then_n ?_
  refine x_mid (fun a_ w_ => ∃ o18 : Nat → Nat, Kn 40 a_ [(0, .pointer (some ⟨bp0, 0, none⟩)), (1, .int .i64 p1), (7, .slice A9 (t4).length c10)] ∧ St [1, 2, 3] w oi w_ o18 ∧ Ft (Own ET30 43 (.slice A9 (t4).length c10) t4) w_ o18 5 ∧ Ft (Own ET30 43 (.slice Ap0_0 (p0.want_l).length cp0_0) p0.want_l) w_ o18 2 ∧ Ft (Bx bp0 51 [.int .i64 p0.most, .int .i64 p0.every, .int .i64 p0.due, .pointer (some ⟨bq0_0, 0, none⟩)]) w_ o18 1 ∧ Ft (Bx bq0_0 49 [.slice Ap0_0 (p0.want_l).length cp0_0]) w_ o18 3 ∧ fetch_Fetch_Ask_j1 p0 p1 t4 = some r) ?_ ?_
  rotate_left
  · rintro a w19 ⟨o18, hk, hs, f11, f900000, f900019, f910000, H⟩
    rw [fetch_Fetch_Ask_j1] at H
    refine x_seq ?_
    refine wpIn_region_lit ?_
    refine x_run tab hk (k := 9) (lv := [.int .i64 p0.every]) (ks := [7, 32, 34]) (e' := [(7, .slice A9 (t4).length c10), (32, .int .i64 (IntKind.wrap .i64 (p1 + p0.every))), (34, .pointer (some ((⟨bp0, 0, none⟩ : Addr).add 2)))]) rfl ⟨(load1 tab rfl ((Bx.cell f900019.now 1).trans rfl)), trivial⟩ fun a hk => ?_
    refine x_op hk rfl ?_
    refine op_store tab hk (t := 3) (v := .int .i64 (IntKind.wrap .i64 (p1 + p0.every))) (b := bp0) (k := 2) (cs' := [.int .i64 p0.most, .int .i64 p0.every, .int .i64 (IntKind.wrap .i64 (p1 + p0.every)), .pointer (some ⟨bq0_0, 0, none⟩)]) rfl rfl rfl rfl rfl rfl f900019 rfl rfl fun w20 o21 st22 f900019_ => ?_
    replace f11 := f11.st st22 (by decide)
    replace f900000 := f900000.st st22 (by decide)
    replace f910000 := f910000.st st22 (by decide)
    replace hs := hs.locM st22 (by decide) hom
    replace f900019 := f900019_
    refine wpListIn_nil ?_
    refine then_n ?_
    refine x_seq ?_
    refine wpIn_region_lit ?_
    obtain ⟨q23, H⟩ := ifS H
    obtain ⟨q24, H⟩ := ifS H
    obtain ⟨A25, c26, ak28, f27, hc29⟩ := ask_take (P := Try.prog) tab (t := 38) rfl rfl f11 hc12 (k := .i64) (mnI ((t4).length : Int) 8) q23 q24
    refine x_run tab hk (k := 6) (lv := [.slice A25 ((List.take (Int.toNat (mnI ((t4).length : Int) 8)) t4)).length c26]) (ks := [6]) (e' := [(6, .slice A25 ((List.take (Int.toNat (mnI ((t4).length : Int) 8)) t4)).length c26)]) rfl ⟨(ak28 rfl rfl _), trivial⟩ fun a hk => ?_
    refine wpListIn_nil ?_
    refine then_n ?_
    refine wpIn_ret ?_
    obtain rfl := Option.some.inj H
    exact x_retG hk (rs := [.tmp 6]) (vs := [.slice A25 ((List.take (Int.toNat (mnI ((t4).length : Int) 8)) t4)).length c26]) rfl ⟨rfl, trivial⟩ ⟨cl w oi o [1, 2, 3] (fun l_ => if l_ = 1 then Lp0 else if l_ = 2 then Lp0_0 else if l_ = 3 then Lq0_0 else if l_ = 5 then R0 else 0) o21, A25, c26, bq0_0, Ap0_0, cp0_0, rfl, hs.closeM hoz (by decide) (fun l_ => if l_ = 1 then Lp0 else if l_ = 2 then Lp0_0 else if l_ = 3 then Lq0_0 else if l_ = 5 then R0 else 0), hs.closeM_ft (o := o) (ρ := fun l_ => if l_ = 1 then Lp0 else if l_ = 2 then Lp0_0 else if l_ = 3 then Lq0_0 else if l_ = 5 then R0 else 0) f27 (lab_none hob rfl) rfl, hc29, hs.closeM_ft (o := o) (ρ := fun l_ => if l_ = 1 then Lp0 else if l_ = 2 then Lp0_0 else if l_ = 3 then Lq0_0 else if l_ = 5 then R0 else 0) f900019 (lab_at hoa (i := 0) rfl) rfl, hs.closeM_ft (o := o) (ρ := fun l_ => if l_ = 1 then Lp0 else if l_ = 2 then Lp0_0 else if l_ = 3 then Lq0_0 else if l_ = 5 then R0 else 0) f910000 (lab_at hoa (i := 2) rfl) rfl, hs.closeM_ft (o := o) (ρ := fun l_ => if l_ = 1 then Lp0 else if l_ = 2 then Lp0_0 else if l_ = 3 then Lq0_0 else if l_ = 5 then R0 else 0) f900000 (lab_at hoa (i := 1) rfl) rfl, hcp0_0⟩
  refine x_seq ?_
  refine wpIn_region_lit ?_
  refine x_run tab hk (k := 4) (lv := []) (ks := [0, 1, 7, 18]) (e' := [(0, .pointer (some ⟨bp0, 0, none⟩)), (1, .int .i64 p1), (7, .slice A9 (t4).length c10), (18, .bool (((t4).length : Int) == (0 : Int)))]) rfl trivial fun a hk => ?_
  cases b30 : (((t4).length : Int) == (0 : Int))
  · rw [b30] at hk H
    replace H := bifF H
    refine x_run tab hk (k := 7) (lv := [.int .i64 p0.due]) (ks := [0, 1, 7, 25]) (e' := [(0, .pointer (some ⟨bp0, 0, none⟩)), (1, .int .i64 p1), (7, .slice A9 (t4).length c10), (25, .bool (decide (p1 < p0.due)))]) rfl ⟨(load1 tab rfl ((Bx.cell f900019.now 2).trans rfl)), trivial⟩ fun a hk => ?_
    refine wpListIn_nil ?_
    refine then_n ?_
    cases b31 : (decide (p1 < p0.due))
    · rw [b31] at hk H
      replace H := bifF H
      refine x_if hk (b := false) rfl ?_
      refine (show Code.wpIn _ _ _ _ _ _ _ from ?_)
      refine wpIn_skip ?_
      refine then_n ?_
      exact ⟨(fun b_ => (fun l_ => if l_ = 4 then 5 else l_) (o7 b_)), (by exact Kn.pick (ks := [0, 1, 7]) hk rfl), (hs.relabM hob (fun l_ => if l_ = 4 then 5 else l_) (by decide)), (f11.relab (fun l_ => if l_ = 4 then 5 else l_) rfl), (f900000.relab (fun l_ => if l_ = 4 then 5 else l_) rfl), (f900019.relab (fun l_ => if l_ = 4 then 5 else l_) rfl), (f910000.relab (fun l_ => if l_ = 4 then 5 else l_) rfl), H⟩
    · rw [b31] at hk H
      replace H := bifT H
      refine x_if hk (b := true) rfl ?_
      refine (show Code.wpIn _ _ _ _ _ _ _ from ?_)
      refine x_seq ?_
      refine wpIn_region_lit ?_
      refine x_run tab hk (k := 1) (lv := []) (ks := [6]) (e' := [(6, .slice none 0 0)]) rfl trivial fun a hk => ?_
      refine wpListIn_nil ?_
      refine then_n ?_
      refine wpIn_ret ?_
      refine then_r ?_
      obtain rfl := Option.some.inj H
      exact x_retG hk (rs := [.tmp 6]) (vs := [.slice none 0 0]) rfl ⟨rfl, trivial⟩ ⟨cl w oi o [1, 2, 3] (fun l_ => if l_ = 1 then Lp0 else if l_ = 2 then Lp0_0 else if l_ = 3 then Lq0_0 else 0) o7, none, 0, bq0_0, Ap0_0, cp0_0, rfl, hs.closeM hoz (by decide) (fun l_ => if l_ = 1 then Lp0 else if l_ = 2 then Lp0_0 else if l_ = 3 then Lq0_0 else 0), (Ft.of_all (fun _ => Own.nil _ _ _) _ _ _), (by simp), hs.closeM_ft (o := o) (ρ := fun l_ => if l_ = 1 then Lp0 else if l_ = 2 then Lp0_0 else if l_ = 3 then Lq0_0 else 0) f900019 (lab_at hoa (i := 0) rfl) rfl, hs.closeM_ft (o := o) (ρ := fun l_ => if l_ = 1 then Lp0 else if l_ = 2 then Lp0_0 else if l_ = 3 then Lq0_0 else 0) f910000 (lab_at hoa (i := 2) rfl) rfl, hs.closeM_ft (o := o) (ρ := fun l_ => if l_ = 1 then Lp0 else if l_ = 2 then Lp0_0 else if l_ = 3 then Lq0_0 else 0) f900000 (lab_at hoa (i := 1) rfl) rfl, hcp0_0⟩
  · rw [b30] at hk H
    replace H := bifT H
    refine x_run tab hk (k := 7) (lv := []) (ks := [0, 1, 7, 25]) (e' := [(0, .pointer (some ⟨bp0, 0, none⟩)), (1, .int .i64 p1), (7, .slice A9 (t4).length c10), (25, .bool true)]) rfl trivial fun a hk => ?_
    refine wpListIn_nil ?_
    refine then_n ?_
    refine x_if hk (b := true) rfl ?_
    refine (show Code.wpIn _ _ _ _ _ _ _ from ?_)
    refine x_seq ?_
    refine wpIn_region_lit ?_
    refine x_run tab hk (k := 1) (lv := []) (ks := [6]) (e' := [(6, .slice none 0 0)]) rfl trivial fun a hk => ?_
    refine wpListIn_nil ?_
    refine then_n ?_
    refine wpIn_ret ?_
    refine then_r ?_
    obtain rfl := Option.some.inj H
    exact x_retG hk (rs := [.tmp 6]) (vs := [.slice none 0 0]) rfl ⟨rfl, trivial⟩ ⟨cl w oi o [1, 2, 3] (fun l_ => if l_ = 1 then Lp0 else if l_ = 2 then Lp0_0 else if l_ = 3 then Lq0_0 else 0) o7, none, 0, bq0_0, Ap0_0, cp0_0, rfl, hs.closeM hoz (by decide) (fun l_ => if l_ = 1 then Lp0 else if l_ = 2 then Lp0_0 else if l_ = 3 then Lq0_0 else 0), (Ft.of_all (fun _ => Own.nil _ _ _) _ _ _), (by simp), hs.closeM_ft (o := o) (ρ := fun l_ => if l_ = 1 then Lp0 else if l_ = 2 then Lp0_0 else if l_ = 3 then Lq0_0 else 0) f900019 (lab_at hoa (i := 0) rfl) rfl, hs.closeM_ft (o := o) (ρ := fun l_ => if l_ = 1 then Lp0 else if l_ = 2 then Lp0_0 else if l_ = 3 then Lq0_0 else 0) f910000 (lab_at hoa (i := 2) rfl) rfl, hs.closeM_ft (o := o) (ρ := fun l_ => if l_ = 1 then Lp0 else if l_ = 2 then Lp0_0 else if l_ = 3 then Lq0_0 else 0) f900000 (lab_at hoa (i := 1) rfl) rfl, hcp0_0⟩

/-! (*tidewrack/spans.Set).Has$1 -/
theorem spans_Set_Has_1_calls (p0 : T30) (bp1 : Nat) (p1 : Int) (w : World) (o : Nat → Nat) (Lp1 : Nat) (hp1 : Ft (Bx bp1 3 [.int .i64 p1]) w o Lp1)  (r : Bool) (H : spans_Set_Has_1 p0 p1 = some r) :
    Calls Try.prog 39 #[.agg #[.int .i64 p0.From, .int .i64 p0.To], .pointer (some ⟨bp1, 0, none⟩)] w (Ret fun v_ w' => ∃ o' : Nat → Nat, v_ = .bool r ∧ St [] w o w' o') := by
  refine x_enter (vs := [.agg #[.int .i64 p0.From, .int .i64 p0.To], .pointer (some ⟨bp1, 0, none⟩)]) Try.func39 rfl rfl rfl fun a hk => ?_
  obtain ⟨o0, hs, h0⟩ := St.start w o
  have f9500020 := h0 _ _ hp1
  clear h0
  rw [spans_Set_Has_1] at H
  refine x_seq ?_
  refine wpIn_region_lit ?_
  refine x_op hk rfl ?_
  refine op_box (o := o0) (t := 43) (v := .agg #[.int .i64 p0.From, .int .i64 p0.To]) (cs := [.int .i64 p0.From, .int .i64 p0.To]) hk rfl rfl 1 fun bx4 w1 o2 st3 f5 => ?_
  replace f9500020 := f9500020.st st3 (by decide)
  replace hs := hs.loc0 st3 (by decide)
  have hk := hk.put 2 (.pointer (some ⟨bx4, 0, none⟩)) rfl
  refine x_run tab hk (k := 1) (lv := []) (ks := [1, 2]) (e' := [(1, .pointer (some ⟨bp1, 0, none⟩)), (2, .pointer (some ⟨bx4, 0, none⟩))]) rfl trivial fun a hk => ?_
  refine wpListIn_nil ?_
  refine then_n ?_
  refine x_seq ?_
  refine wpIn_region_lit ?_
  refine x_run tab hk (k := 5) (lv := [.int .i64 p1, .int .i64 p0.From]) (ks := [1, 2, 8]) (e' := [(1, .pointer (some ⟨bp1, 0, none⟩)), (2, .pointer (some ⟨bx4, 0, none⟩)), (8, .bool (decide (p1 ≥ p0.From)))]) rfl ⟨(load1 tab rfl ((Bx.cell f9500020.now 0).trans rfl)), (load1 tab rfl ((Bx.cell f5.now 0).trans rfl)), trivial⟩ fun a hk => ?_
  cases b6 : (decide (p1 ≥ p0.From))
  · rw [b6] at hk H
    replace H := bifF H
    refine x_run tab hk (k := 6) (lv := []) (ks := [3]) (e' := [(3, .bool false)]) rfl trivial fun a hk => ?_
    refine wpListIn_nil ?_
    refine then_n ?_
    refine wpIn_ret ?_
    obtain rfl := Option.some.inj H
    exact x_retG hk (rs := [.tmp 3]) (vs := [.bool false]) rfl ⟨rfl, trivial⟩ ⟨fun b_ => if b_ < w.heap.size then o b_ else (fun _ => 0) (o2 b_), rfl, hs.close0 o (fun _ => 0)⟩
  · rw [b6] at hk H
    replace H := bifT H
    refine x_run tab hk (k := 6) (lv := [.int .i64 p1, .int .i64 p0.To]) (ks := [3]) (e' := [(3, .bool (decide (p1 < p0.To)))]) rfl ⟨(load1 tab rfl ((Bx.cell f9500020.now 0).trans rfl)), (load1 tab rfl ((Bx.cell f5.now 1).trans rfl)), trivial⟩ fun a hk => ?_
    refine wpListIn_nil ?_
    refine then_n ?_
    refine wpIn_ret ?_
    obtain rfl := Option.some.inj H
    exact x_retG hk (rs := [.tmp 3]) (vs := [.bool (decide (p1 < p0.To))]) rfl ⟨rfl, trivial⟩ ⟨fun b_ => if b_ < w.heap.size then o b_ else (fun _ => 0) (o2 b_), rfl, hs.close0 o (fun _ => 0)⟩

/-! slices.IndexFunc[[]tidewrack/spans.Span,tidewrack/spans.Span] -/
theorem slices_IndexFunc_of39_calls (K : Nat) (Ap0 : Option Addr) (cp0 : Nat) (p0 : List T30) (bp1_0 : Nat) (p1_0 : Int) (w : World) (o : Nat → Nat) (Lp0 : Nat) (hp0 : Ft (RdC ET30 Ap0 p0) w o Lp0) (hcp0 : (p0).length ≤ cp0) (Lp1_0 : Nat) (hp1_0 : Ft (Bx bp1_0 3 [.int .i64 p1_0]) w o Lp1_0)  (r : Int) (H : slices_IndexFunc_of39 K p0 p1_0 = some r) :
    Calls Try.prog 44 #[.slice Ap0 (p0).length cp0, .func (.func 39) #[] #[.pointer (some ⟨bp1_0, 0, none⟩)]] w (Ret fun v_ w' => ∃ o' : Nat → Nat, v_ = .int .i64 r ∧ St [] w o w' o') := by
  refine x_enter (vs := [.slice Ap0 (p0).length cp0, .func (.func 39) #[] #[.pointer (some ⟨bp1_0, 0, none⟩)]]) Try.func44 rfl rfl rfl fun a hk => ?_
  obtain ⟨o0, hs, h0⟩ := St.start w o
  have f900000 := h0 _ _ hp0
  have f9500020 := h0 _ _ hp1_0
  clear h0
  rw [slices_IndexFunc_of39] at H
  refine x_seq ?_
  refine wpIn_region_lit ?_
  refine x_run tab hk (k := 1) (lv := []) (ks := [0, 1]) (e' := [(0, .slice Ap0 (p0).length cp0), (1, .func (.func 39) #[] #[.pointer (some ⟨bp1_0, 0, none⟩)])]) rfl trivial fun a hk => ?_
  refine wpListIn_nil ?_
  refine then_n ?_
  refine x_mid (fun a_ w_ => ∃ o49 : Nat → Nat, Kn 19 a_ [] ∧ St [] w (fun _ => 0) w_ o49 ∧ slices_IndexFunc_of39_j1 = some r) ?_ ?_
  rotate_left
  · rintro a w50 ⟨o49, hk, hs, H⟩
    rw [slices_IndexFunc_of39_j1] at H
    refine x_seq ?_
    refine wpIn_region_lit ?_
    refine x_run tab hk (k := 1) (lv := []) (ks := [4]) (e' := [(4, .int .i64 (-1))]) rfl trivial fun a hk => ?_
    refine wpListIn_nil ?_
    refine then_n ?_
    refine wpIn_ret ?_
    obtain rfl := Option.some.inj H
    exact x_retG hk (rs := [.tmp 4]) (vs := [.int .i64 (-1)]) rfl ⟨rfl, trivial⟩ ⟨fun b_ => if b_ < w.heap.size then o b_ else (fun _ => 0) (o49 b_), rfl, hs.close0 o (fun _ => 0)⟩
  refine x_seq ?_
  refine wpIn_region_lit ?_
  refine x_run tab hk (k := 3) (lv := []) (ks := [0, 1, 7, 8]) (e' := [(0, .slice Ap0 (p0).length cp0), (1, .func (.func 39) #[] #[.pointer (some ⟨bp1_0, 0, none⟩)]), (7, .int .i64 ((p0).length : Int)), (8, .int .i64 0)]) rfl trivial fun a hk => ?_
  refine wpListIn_nil ?_
  refine then_n ?_
  refine wpIn_block ?_
  refine x_loop (fun j_ a_ w_ => ∃ o66 : Nat → Nat, ∃ x67 : Int, Kn 19 a_ [(0, .slice Ap0 (p0).length cp0), (1, .func (.func 39) #[] #[.pointer (some ⟨bp1_0, 0, none⟩)]), (7, .int .i64 ((p0).length : Int)), (8, .int .i64 x67)] ∧ St [] w (fun _ => 0) w_ o66 ∧ Ft (RdC ET30 Ap0 p0) w_ o66 0 ∧ Ft (Bx bp1_0 3 [.int .i64 p1_0]) w_ o66 0 ∧ slices_IndexFunc_of39_l2 p0 p1_0 j_ x67 = some r) (k := K) ⟨o0, 0, (by exact Kn.pick (ks := [0, 1, 7, 8]) hk rfl), hs, f900000, f9500020, H⟩ (by rintro _ _ ⟨_, _, _, _, _, _, H_⟩; exact absurd (show (none : Option Int) = some r from H_) (by simp)) ?_
  rintro k81 a w80 ⟨o66, x67, hk, hs, f900000, f9500020, H⟩
  rw [slices_IndexFunc_of39_l2] at H
  obtain ⟨lp82, hlp83⟩ : ∃ lp_, lp_ = slices_IndexFunc_of39_l2 p0 p1_0 k81 := ⟨_, rfl⟩
  rw [← hlp83] at H
  refine x_seq ?_
  refine wpIn_region_lit ?_
  refine x_run tab hk (k := 1) (lv := []) (ks := [0, 1, 7, 8, 9]) (e' := [(0, .slice Ap0 (p0).length cp0), (1, .func (.func 39) #[] #[.pointer (some ⟨bp1_0, 0, none⟩)]), (7, .int .i64 ((p0).length : Int)), (8, .int .i64 x67), (9, .bool (decide (x67 < ((p0).length : Int))))]) rfl trivial fun a hk => ?_
  refine wpListIn_nil ?_
  refine then_n ?_
  refine x_seq ?_
  cases b84 : (decide (x67 < ((p0).length : Int)))
  · rw [b84] at hk H
    replace H := bifF H
    refine x_if hk (b := false) rfl ?_
    refine (show Code.wpIn _ _ _ _ _ _ _ from ?_)
    refine wpIn_exit ?_
    refine then_x ?_
    refine then_x ?_
    refine blk_x ?_
    refine then_n ?_
    exact ⟨o66, (by exact Kn.pick (ks := []) hk rfl), hs, H⟩
  · rw [b84] at hk H
    replace H := bifT H
    refine x_if hk (b := true) rfl ?_
    refine (show Code.wpIn _ _ _ _ _ _ _ from ?_)
    refine wpIn_skip ?_
    refine then_n ?_
    refine x_seq ?_
    refine wpIn_block ?_
    refine x_seq ?_
    refine wpIn_region_lit ?_
    refine x_run tab hk (k := 2) (lv := []) (ks := [0, 1, 5, 7, 8]) (e' := [(0, .slice Ap0 (p0).length cp0), (1, .func (.func 39) #[] #[.pointer (some ⟨bp1_0, 0, none⟩)]), (5, .int .i64 x67), (7, .int .i64 ((p0).length : Int)), (8, .int .i64 x67)]) rfl trivial fun a hk => ?_
    refine wpListIn_nil ?_
    refine then_n ?_
    refine x_seq ?_
    refine wpIn_region_lit ?_
    obtain ⟨q85, H⟩ := ifS H
    obtain ⟨ad86, hAad86⟩ := RdC.addr f900000.now q85
    have hk_C := hk
    have f900000_C := f900000
    have f9500020_C := f9500020
    subst hAad86
    have hk := hk_C
    clear hk_C
    have f900000 := f900000_C
    clear f900000_C
    have f9500020 := f9500020_C
    clear f9500020_C
    refine x_run tab hk (k := 5) (lv := [.agg #[.int .i64 ((rdD zT30 p0 x67).From), .int .i64 ((rdD zT30 p0 x67).To)]]) (ks := [0, 1, 5, 7, 8, 11, 15]) (e' := [(0, .slice (some ad86) (p0).length cp0), (1, .func (.func 39) #[] #[.pointer (some ⟨bp1_0, 0, none⟩)]), (5, .int .i64 x67), (7, .int .i64 ((p0).length : Int)), (8, .int .i64 x67), (11, .func (.func 39) #[] #[.pointer (some ⟨bp1_0, 0, none⟩)]), (15, .agg #[.int .i64 ((rdD zT30 p0 x67).From), .int .i64 ((rdD zT30 p0 x67).To)])]) rfl ⟨q85, (load_elem (E := ET30) (i := x67) (dx := zT30) tab rfl rfl f900000.now q85), trivial⟩ fun a hk => ?_
    refine x_op hk rfl ?_
    obtain ⟨t90, hc91, H⟩ := bindS H
    refine op_callv hk ent_39 rfl (vs := [.agg #[.int .i64 ((rdD zT30 p0 x67).From), .int .i64 ((rdD zT30 p0 x67).To)]]) rfl (spans_Set_Has_1_calls (rdD zT30 p0 x67) bp1_0 p1_0 _ o66 0 f9500020   _ hc91) ?_
    rintro _ w92 ⟨o93, rfl, st94⟩
    replace f900000 := f900000.st st94 (by decide)
    replace f9500020 := f9500020.st st94 (by decide)
    replace hs := hs.loc0 st94 (by decide)
    have hk := hk.put 16 (.bool t90) rfl
    refine wpListIn_nil ?_
    refine then_n ?_
    cases b95 : t90
    · rw [b95] at hk H
      replace H := bifF H
      refine x_if hk (b := false) rfl ?_
      refine (show Code.wpIn _ _ _ _ _ _ _ from ?_)
      refine wpIn_skip ?_
      refine blk_n ?_
      refine then_n ?_
      refine wpIn_region_lit ?_
      refine x_run tab hk (k := 2) (lv := []) (ks := [0, 1, 7, 8]) (e' := [(0, .slice (some ad86) (p0).length cp0), (1, .func (.func 39) #[] #[.pointer (some ⟨bp1_0, 0, none⟩)]), (7, .int .i64 ((p0).length : Int)), (8, .int .i64 (IntKind.wrap .i64 (x67 + 1)))]) rfl trivial fun a hk => ?_
      refine wpListIn_nil ?_
      refine then_n ?_
      exact ⟨k81, Nat.le_refl _, o93, (IntKind.wrap .i64 (x67 + 1)), (by exact Kn.pick (ks := [0, 1, 7, 8]) hk rfl), hs, f900000, f9500020, (hlp83 ▸ H)⟩
    · rw [b95] at hk H
      replace H := bifT H
      refine x_if hk (b := true) rfl ?_
      refine (show Code.wpIn _ _ _ _ _ _ _ from ?_)
      refine x_seq ?_
      refine wpIn_region_lit ?_
      refine x_run tab hk (k := 2) (lv := []) (ks := [4]) (e' := [(4, .int .i64 x67)]) rfl trivial fun a hk => ?_
      refine wpListIn_nil ?_
      refine then_n ?_
      refine wpIn_ret ?_
      refine blk_r ?_
      refine then_r ?_
      refine then_r ?_
      refine blk_r ?_
      refine then_r ?_
      obtain rfl := Option.some.inj H
      exact x_retG hk (rs := [.tmp 4]) (vs := [.int .i64 x67]) rfl ⟨rfl, trivial⟩ ⟨fun b_ => if b_ < w.heap.size then o b_ else (fun _ => 0) (o93 b_), rfl, hs.close0 o (fun _ => 0)⟩

/-! slices.ContainsFunc[[]tidewrack/spans.Span,tidewrack/spans.Span] -/
theorem slices_ContainsFunc_of39_calls (K : Nat) (Ap0 : Option Addr) (cp0 : Nat) (p0 : List T30) (bp1_0 : Nat) (p1_0 : Int) (w : World) (o : Nat → Nat) (Lp0 : Nat) (hp0 : Ft (RdC ET30 Ap0 p0) w o Lp0) (hcp0 : (p0).length ≤ cp0) (Lp1_0 : Nat) (hp1_0 : Ft (Bx bp1_0 3 [.int .i64 p1_0]) w o Lp1_0)  (r : Bool) (H : slices_ContainsFunc_of39 K p0 p1_0 = some r) :
    Calls Try.prog 38 #[.slice Ap0 (p0).length cp0, .func (.func 39) #[] #[.pointer (some ⟨bp1_0, 0, none⟩)]] w (Ret fun v_ w' => ∃ o' : Nat → Nat, v_ = .bool r ∧ St [] w o w' o') := by
  refine x_enter (vs := [.slice Ap0 (p0).length cp0, .func (.func 39) #[] #[.pointer (some ⟨bp1_0, 0, none⟩)]]) Try.func38 rfl rfl rfl fun a hk => ?_
  obtain ⟨o0, hs, h0⟩ := St.start w o
  have f900000 := h0 _ _ hp0
  have f9500020 := h0 _ _ hp1_0
  clear h0
  rw [slices_ContainsFunc_of39] at H
  refine x_seq ?_
  refine wpIn_region_lit ?_
  refine x_run tab hk (k := 1) (lv := []) (ks := [0, 1]) (e' := [(0, .slice Ap0 (p0).length cp0), (1, .func (.func 39) #[] #[.pointer (some ⟨bp1_0, 0, none⟩)])]) rfl trivial fun a hk => ?_
  refine wpListIn_nil ?_
  refine then_n ?_
  refine x_seq ?_
  refine wpIn_region_lit ?_
  refine x_run tab hk (k := 2) (lv := []) (ks := [5, 6]) (e' := [(5, .slice Ap0 (p0).length cp0), (6, .func (.func 39) #[] #[.pointer (some ⟨bp1_0, 0, none⟩)])]) rfl trivial fun a hk => ?_
  refine x_op hk rfl ?_
  obtain ⟨t4, hc5, H⟩ := bindS H
  refine op_call hk ent_44 (vs := [.slice Ap0 (p0).length cp0, .func (.func 39) #[] #[.pointer (some ⟨bp1_0, 0, none⟩)]]) rfl (slices_IndexFunc_of39_calls K Ap0 cp0 p0 bp1_0 p1_0 _ o0 _ f900000 hcp0 0 f9500020   _ hc5) ?_
  rintro _ w6 ⟨o7, rfl, st8⟩
  replace f900000 := f900000.st st8 (by decide)
  replace f9500020 := f9500020.st st8 (by decide)
  replace hs := hs.loc0 st8 (by decide)
  have hk := hk.put 7 (.int .i64 t4) rfl
  refine x_run tab hk (k := 2) (lv := []) (ks := [4]) (e' := [(4, .bool (decide (t4 ≥ (0 : Int))))]) rfl trivial fun a hk => ?_
  refine wpListIn_nil ?_
  refine then_n ?_
  refine wpIn_ret ?_
  obtain rfl := Option.some.inj H
  exact x_retG hk (rs := [.tmp 4]) (vs := [.bool (decide (t4 ≥ (0 : Int)))]) rfl ⟨rfl, trivial⟩ ⟨fun b_ => if b_ < w.heap.size then o b_ else (fun _ => 0) (o7 b_), rfl, hs.close0 o (fun _ => 0)⟩

/-! (*tidewrack/spans.Set).Has -/
theorem spans_Set_Has_calls (K : Nat) (bp0 : Nat) (Ap0_0 : Option Addr) (cp0_0 : Nat) (p0 : T48) (p1 : Int) (w : World) (o : Nat → Nat) (Lp0 : Nat) (hp0 : Ft (Bx bp0 49 [.slice Ap0_0 (p0.l).length cp0_0]) w o Lp0) (Lp0_0 : Nat) (hp0_0 : Ft (RdC ET30 Ap0_0 p0.l) w o Lp0_0) (hcp0_0 : (p0.l).length ≤ cp0_0)  (r : Bool) (H : spans_Set_Has K p0 p1 = some r) :
    Calls Try.prog 26 #[.pointer (some ⟨bp0, 0, none⟩), .int .i64 p1] w (Ret fun v_ w' => ∃ o' : Nat → Nat, v_ = .bool r ∧ St [] w o w' o') := by
  refine x_enter (vs := [.pointer (some ⟨bp0, 0, none⟩), .int .i64 p1]) Try.func26 rfl rfl rfl fun a hk => ?_
  obtain ⟨o0, hs, h0⟩ := St.start w o
  have f900000 := h0 _ _ hp0_0
  have f900019 := h0 _ _ hp0
  clear h0
  rw [spans_Set_Has] at H
  refine x_seq ?_
  refine wpIn_region_lit ?_
  refine x_op hk rfl ?_
  refine op_box (o := o0) (t := 3) (v := .int .i64 p1) (cs := [.int .i64 p1]) hk rfl rfl 1 fun bx4 w1 o2 st3 f5 => ?_
  replace f900000 := f900000.st st3 (by decide)
  replace f900019 := f900019.st st3 (by decide)
  replace hs := hs.loc0 st3 (by decide)
  have hk := hk.put 3 (.pointer (some ⟨bx4, 0, none⟩)) rfl
  refine x_run tab hk (k := 1) (lv := []) (ks := [0, 3]) (e' := [(0, .pointer (some ⟨bp0, 0, none⟩)), (3, .pointer (some ⟨bx4, 0, none⟩))]) rfl trivial fun a hk => ?_
  refine wpListIn_nil ?_
  refine then_n ?_
  refine x_seq ?_
  refine wpIn_region_lit ?_
  refine x_run tab hk (k := 5) (lv := [.slice Ap0_0 (p0.l).length cp0_0]) (ks := [8, 9]) (e' := [(8, .slice Ap0_0 (p0.l).length cp0_0), (9, .func (.func 39) #[] #[.pointer (some ⟨bx4, 0, none⟩)])]) rfl ⟨(load1 tab rfl ((Bx.cell f900019.now 0).trans rfl)), trivial⟩ fun a hk => ?_
  refine x_op hk rfl ?_
  obtain ⟨t9, hc10, H⟩ := bindS H
  refine op_call hk ent_38 (vs := [.slice Ap0_0 (p0.l).length cp0_0, .func (.func 39) #[] #[.pointer (some ⟨bx4, 0, none⟩)]]) rfl (slices_ContainsFunc_of39_calls K Ap0_0 cp0_0 p0.l bx4 p1 _ o2 _ f900000 hcp0_0 1 f5   _ hc10) ?_
  rintro _ w11 ⟨o12, rfl, st13⟩
  replace f5 := f5.st st13 (by decide)
  replace f900000 := f900000.st st13 (by decide)
  replace f900019 := f900019.st st13 (by decide)
  replace hs := hs.loc0 st13 (by decide)
  have hk := hk.put 10 (.bool t9) rfl
  refine x_run tab hk (k := 1) (lv := []) (ks := [4]) (e' := [(4, .bool t9)]) rfl trivial fun a hk => ?_
  refine wpListIn_nil ?_
  refine then_n ?_
  refine wpIn_ret ?_
  obtain rfl := Option.some.inj H
  exact x_retG hk (rs := [.tmp 4]) (vs := [.bool t9]) rfl ⟨rfl, trivial⟩ ⟨fun b_ => if b_ < w.heap.size then o b_ else (fun _ => 0) (o12 b_), rfl, hs.close0 o (fun _ => 0)⟩

/-! tidewrack/fetch.bit -/
theorem fetch_bit_calls (p0 : Bool) (w : World) (o : Nat → Nat)   (r : Int) (H : fetch_bit p0 = some r) :
    Calls Try.prog 27 #[.bool p0] w (Ret fun v_ w' => ∃ o' : Nat → Nat, v_ = .int .i64 r ∧ St [] w o w' o') := by
  refine x_enter (vs := [.bool p0]) Try.func27 rfl rfl rfl fun a hk => ?_
  obtain ⟨o0, hs, h0⟩ := St.start w o
  clear h0
  rw [fetch_bit] at H
  refine x_seq ?_
  refine wpIn_region_lit ?_
  refine x_run tab hk (k := 1) (lv := []) (ks := [0]) (e' := [(0, .bool p0)]) rfl trivial fun a hk => ?_
  refine wpListIn_nil ?_
  refine then_n ?_
  refine x_seq ?_
  refine x_seq ?_
  refine wpIn_region_lit ?_
  refine x_run tab hk (k := 1) (lv := []) (ks := [3]) (e' := [(3, .bool p0)]) rfl trivial fun a hk => ?_
  refine wpListIn_nil ?_
  refine then_n ?_
  cases b1 : p0
  · rw [b1] at hk H
    replace H := bifF H
    refine x_if hk (b := false) rfl ?_
    refine (show Code.wpIn _ _ _ _ _ _ _ from ?_)
    refine wpIn_skip ?_
    refine then_n ?_
    refine x_seq ?_
    refine wpIn_region_lit ?_
    refine x_run tab hk (k := 1) (lv := []) (ks := [2]) (e' := [(2, .int .i64 0)]) rfl trivial fun a hk => ?_
    refine wpListIn_nil ?_
    refine then_n ?_
    refine wpIn_ret ?_
    obtain rfl := Option.some.inj H
    exact x_retG hk (rs := [.tmp 2]) (vs := [.int .i64 0]) rfl ⟨rfl, trivial⟩ ⟨fun b_ => if b_ < w.heap.size then o b_ else (fun _ => 0) (o0 b_), rfl, hs.close0 o (fun _ => 0)⟩
  · rw [b1] at hk H
    replace H := bifT H
    refine x_if hk (b := true) rfl ?_
    refine (show Code.wpIn _ _ _ _ _ _ _ from ?_)
    refine x_seq ?_
    refine wpIn_region_lit ?_
    refine x_run tab hk (k := 1) (lv := []) (ks := [2]) (e' := [(2, .int .i64 1)]) rfl trivial fun a hk => ?_
    refine wpListIn_nil ?_
    refine then_n ?_
    refine wpIn_ret ?_
    refine then_r ?_
    obtain rfl := Option.some.inj H
    exact x_retG hk (rs := [.tmp 2]) (vs := [.int .i64 1]) rfl ⟨rfl, trivial⟩ ⟨fun b_ => if b_ < w.heap.size then o b_ else (fun _ => 0) (o0 b_), rfl, hs.close0 o (fun _ => 0)⟩

/-! (*tidewrack/fetch.Fetch).Got -/
theorem fetch_Fetch_Got_calls (K : Nat) (bp0 : Nat) (bq0_0 : Nat) (Ap0_0 : Option Addr) (cp0_0 : Nat) (p0 : T50) (p1 : Int) (w : World) (o : Nat → Nat) (Lp0 : Nat) (hp0 : Ft (Bx bp0 51 [.int .i64 p0.most, .int .i64 p0.every, .int .i64 p0.due, .pointer (some ⟨bq0_0, 0, none⟩)]) w o Lp0) (Lp0_0 : Nat) (hp0_0 : Ft (Own ET30 43 (.slice Ap0_0 (p0.want_l).length cp0_0) p0.want_l) w o Lp0_0) (hcp0_0 : (p0.want_l).length ≤ cp0_0) (Lq0_0 : Nat) (hq0_0 : Ft (Bx bq0_0 49 [.slice Ap0_0 (p0.want_l).length cp0_0]) w o Lq0_0) (hd0 : ([Lp0, Lp0_0, Lq0_0] : List Nat).Nodup) (r : Bool × T50) (H : fetch_Fetch_Got K p0 p1 = some r) :
    Calls Try.prog 14 #[.pointer (some ⟨bp0, 0, none⟩), .int .i64 p1] w (Ret fun v_ w' => ∃ o' : Nat → Nat, ∃ b0 : Nat, ∃ A0 : Option Addr, ∃ c0 : Nat, v_ = .bool r.1 ∧ St [Lp0, Lp0_0, Lq0_0] w o w' o' ∧ Ft (Bx bp0 51 [.int .i64 r.2.most, .int .i64 r.2.every, .int .i64 r.2.due, .pointer (some ⟨b0, 0, none⟩)]) w' o' Lp0 ∧ Ft (Bx b0 49 [.slice A0 (r.2.want_l).length c0]) w' o' Lq0_0 ∧ Ft (Own ET30 43 (.slice A0 (r.2.want_l).length c0) r.2.want_l) w' o' Lp0_0 ∧ (r.2.want_l).length ≤ c0) := by
  refine x_enter (vs := [.pointer (some ⟨bp0, 0, none⟩), .int .i64 p1]) Try.func14 rfl rfl rfl fun a hk => ?_
  obtain ⟨oi, hs0, h0, h1, hob, hoz, hoa⟩ := St.startM2 w o (m := 3) hd0 rfl
  have hs := hs0 [1, 2, 3]
  have hom := lab_in hob (MM := [1, 2, 3]) (by decide)
  have f900000 := h1 1 2 hp0_0 rfl rfl
  have f900019 := h1 0 1 hp0 rfl rfl
  have f910000 := h1 2 3 hq0_0 rfl rfl
  clear h0 h1 hs0
  rw [fetch_Fetch_Got] at H
  refine x_seq ?_
  refine wpIn_region_lit ?_
  refine x_run tab hk (k := 1) (lv := []) (ks := [0, 1]) (e' := [(0, .pointer (some ⟨bp0, 0, none⟩)), (1, .int .i64 p1)]) rfl trivial fun a hk => ?_
  refine wpListIn_nil ?_
  refine then_n ?_
  refine x_seq ?_
  refine wpIn_region_lit ?_
  refine x_run tab hk (k := 5) (lv := [.pointer (some ⟨bq0_0, 0, none⟩)]) (ks := [0, 1, 9, 10]) (e' := [(0, .pointer (some ⟨bp0, 0, none⟩)), (1, .int .i64 p1), (9, .pointer (some ⟨bq0_0, 0, none⟩)), (10, .int .i64 p1)]) rfl ⟨(load1 tab rfl ((Bx.cell f900019.now 3).trans rfl)), trivial⟩ fun a hk => ?_
  refine x_op hk rfl ?_
  obtain ⟨t4, hc5, H⟩ := bindS H
  refine op_call hk ent_26 (vs := [.pointer (some ⟨bq0_0, 0, none⟩), .int .i64 p1]) rfl (spans_Set_Has_calls K bq0_0 Ap0_0 cp0_0 (⟨p0.want_l⟩ : T48) p1 _ oi 3 f910000 _ (f900000.imp fun _ h_ => Own.rd h_) hcp0_0   _ hc5) ?_
  rintro _ w6 ⟨o7, rfl, st8⟩
  replace f900000 := f900000.st st8 (by decide)
  replace f900019 := f900019.st st8 (by decide)
  replace f910000 := f910000.st st8 (by decide)
  replace hs := hs.locM st8 (by decide) hom
  have hk := hk.put 11 (.bool t4) rfl
  refine x_run tab hk (k := 1) (lv := []) (ks := [0, 1, 5]) (e' := [(0, .pointer (some ⟨bp0, 0, none⟩)), (1, .int .i64 p1), (5, .bool t4)]) rfl trivial fun a hk => ?_
  refine wpListIn_nil ?_
  refine then_n ?_
  refine x_seq ?_
  refine xd_begin (o := o7) (fun W_ => (Bx bp0 51 [.int .i64 p0.most, .int .i64 p0.every, .int .i64 p0.due, .pointer (some ⟨bq0_0, 0, none⟩)]) W_ ∧ True) mixed rfl rfl fun w63 st64 => ?_
  replace f900000 := f900000.st st64 (by decide)
  replace f900019 := f900019.st st64 (by decide)
  replace f910000 := f910000.st st64 (by decide)
  replace hs := hs.locM st64 (by decide) hom
  refine xd_take tab hk (k := 5) (is := [0, 1, 2, 3, 4, 5, 6, 7]) (ls' := #[true, true, true, true, true, true, true, true, false, false, false, false, false]) (lv := [.pointer (some ⟨bq0_0, 0, none⟩)]) (ks := [5, 15, 16, 17, 19]) (e' := [(5, .bool t4), (15, .pointer (some ⟨bq0_0, 0, none⟩)), (16, .int .i64 p1), (17, .int .i64 p1), (19, .bool (decide (p1 < (1152921504606846976 : Int))))]) (by kernel_rfl) rfl rfl (by kernel_rfl) (np_then np_body) ⟨f900019.now, trivial⟩ (fun W_ hS => ⟨(load1 tab rfl ((Bx.cell hS.1 3).trans rfl)), trivial⟩) fun a hk => ?_
  refine xd_op hk (i := 8) (by kernel_rfl) rfl rfl ?_
  obtain ⟨t68, hc69, H⟩ := bindS H
  refine op_call hk ent_27 (vs := [.bool (decide (p1 < (1152921504606846976 : Int)))]) rfl (fetch_bit_calls (decide (p1 < (1152921504606846976 : Int))) _ o7    _ hc69) ?_
  rintro _ w70 ⟨o71, rfl, st72⟩
  replace f900000 := f900000.st st72 (by decide)
  replace f900019 := f900019.st st72 (by decide)
  replace f910000 := f910000.st st72 (by decide)
  replace hs := hs.locM st72 (by decide) hom
  have hk := hk.put 20 (.int .i64 t68) rfl
  refine ⟨.inr ⟨f900019.now, trivial⟩, ?_⟩
  refine xd_take tab hk (k := 2) (is := [9, 10]) (ls' := #[true, true, true, true, true, true, true, true, true, true, true, false, false]) (lv := []) (ks := [5, 15, 22]) (e' := [(5, .bool t4), (15, .pointer (some ⟨bq0_0, 0, none⟩)), (22, .agg #[.int .i64 p1, .int .i64 (IntKind.wrap .i64 (p1 + t68))])]) (by kernel_rfl) rfl rfl (by kernel_rfl) (np_then np_body) ⟨f900019.now, trivial⟩ (fun W_ hS => trivial) fun a hk => ?_
  refine xd_op hk (i := 11) (by kernel_rfl) rfl rfl ?_
  refine op_slice (o := o71) tab hk (vs := [.agg #[.int .i64 p1, .int .i64 (IntKind.wrap .i64 (p1 + t68))]]) (cs := [.int .i64 p1, .int .i64 (IntKind.wrap .i64 (p1 + t68))]) rfl rfl rfl rfl rfl rfl rfl rfl rfl 6 fun bx76 w73 o74 st75 f77 => ?_
  replace f900000 := f900000.st st75 (by decide)
  replace f900019 := f900019.st st75 (by decide)
  replace f910000 := f910000.st st75 (by decide)
  replace hs := hs.locM st75 (by decide) hom
  have f78 : Ft (Own ET30 43 (.slice (some ⟨bx76, 0, none⟩) (([(⟨p1, (IntKind.wrap .i64 (p1 + t68))⟩ : T30)] : List T30)).length 1) ([(⟨p1, (IntKind.wrap .i64 (p1 + t68))⟩ : T30)] : List T30)) w73 o74 6 := f77.imp fun _ h_ => Own.of_box h_ rfl (by simp)
  have hk := hk.put 23 (.slice (some ⟨bx76, 0, none⟩) (([(⟨p1, (IntKind.wrap .i64 (p1 + t68))⟩ : T30)] : List T30)).length 1) rfl
  refine ⟨.inr ⟨f900019.now, trivial⟩, ?_⟩
  refine xd_op hk (i := 12) (by kernel_rfl) rfl rfl ?_
  obtain ⟨t82, hc83, H⟩ := bindS H
  refine op_call hk ent_23 (vs := [.pointer (some ⟨bq0_0, 0, none⟩), .slice (some ⟨bx76, 0, none⟩) (([(⟨p1, (IntKind.wrap .i64 (p1 + t68))⟩ : T30)] : List T30)).length 1]) rfl (spans_Set_Cut_calls K bq0_0 Ap0_0 cp0_0 (⟨p0.want_l⟩ : T48) (some ⟨bx76, 0, none⟩) 1 ([(⟨p1, (IntKind.wrap .i64 (p1 + t68))⟩ : T30)] : List T30) _ o74 3 f910000 2 f900000 hcp0_0 _ (f78.imp fun _ h_ => Own.rd h_) (Nat.le_refl _) (by decide) (by decide)   _ hc83) ?_
  rintro _ w84 ⟨o85, A88, c89, rfl, st86, f87, f90, hc91⟩
  replace f78 := f78.st st86 (by decide)
  replace f900019 := f900019.st st86 (by decide)
  replace hs := hs.locM st86 (by decide) hom
  have hk := hk.put 24 (.tuple #[]) rfl
  refine ⟨.inr ⟨f900019.now, trivial⟩, ?_⟩
  refine xd_done (by kernel_rfl) ?_
  refine then_n ?_
  refine x_seq ?_
  refine wpIn_region_lit ?_
  refine x_run tab hk (k := 2) (lv := []) (ks := [4]) (e' := [(4, .bool t4)]) rfl trivial fun a hk => ?_
  refine wpListIn_nil ?_
  refine then_n ?_
  refine wpIn_ret ?_
  obtain rfl := Option.some.inj H
  exact x_retG hk (rs := [.tmp 4]) (vs := [.bool t4]) rfl ⟨rfl, trivial⟩ ⟨cl w oi o [1, 2, 3] (fun l_ => if l_ = 1 then Lp0 else if l_ = 2 then Lp0_0 else if l_ = 3 then Lq0_0 else 0) o85, bq0_0, A88, c89, rfl, hs.closeM hoz (by decide) (fun l_ => if l_ = 1 then Lp0 else if l_ = 2 then Lp0_0 else if l_ = 3 then Lq0_0 else 0), hs.closeM_ft (o := o) (ρ := fun l_ => if l_ = 1 then Lp0 else if l_ = 2 then Lp0_0 else if l_ = 3 then Lq0_0 else 0) f900019 (lab_at hoa (i := 0) rfl) rfl, hs.closeM_ft (o := o) (ρ := fun l_ => if l_ = 1 then Lp0 else if l_ = 2 then Lp0_0 else if l_ = 3 then Lq0_0 else 0) f87 (lab_at hoa (i := 2) rfl) rfl, hs.closeM_ft (o := o) (ρ := fun l_ => if l_ = 1 then Lp0 else if l_ = 2 then Lp0_0 else if l_ = 3 then Lq0_0 else 0) f90 (lab_at hoa (i := 1) rfl) rfl, hc91⟩

/-! tidewrack/tidewracklaw21.awake -/
theorem tidewracklaw21_awake_calls (K : Nat)  (w : World) (o : Nat → Nat)   (r : Bool) (H : tidewracklaw21_awake K = some r) :
    Calls Try.prog 4 #[] w (Ret fun v_ w' => ∃ o' : Nat → Nat, v_ = .bool r ∧ St [] w o w' o') := by
  refine x_enter (vs := []) Try.func4 rfl rfl rfl fun a hk => ?_
  obtain ⟨o0, hs, h0⟩ := St.start w o
  clear h0
  rw [tidewracklaw21_awake] at H
  refine x_seq ?_
  refine wpIn_region_lit ?_
  refine x_run tab hk (k := 1) (lv := []) (ks := []) (e' := []) rfl trivial fun a hk => ?_
  refine wpListIn_nil ?_
  refine then_n ?_
  refine x_seq ?_
  refine wpIn_region_lit ?_
  refine x_op hk rfl ?_
  obtain ⟨t4, hc5, H⟩ := bindS H
  refine op_call hk ent_5 (vs := [.int .i64 5, .int .i64 9]) rfl (fetch_New_calls 5 9 _ o0  1 2 3  _ hc5) ?_
  rintro _ w6 ⟨o7, bx9, bx11, A13, c14, rfl, st8, f10, f12, f15, hc16⟩
  replace hs := hs.loc0 st8 (by decide)
  have hk := hk.put 4 (.pointer (some ⟨bx9, 0, none⟩)) rfl
  refine x_run tab hk (k := 1) (lv := []) (ks := [1]) (e' := [(1, .pointer (some ⟨bx9, 0, none⟩))]) rfl trivial fun a hk => ?_
  refine wpListIn_nil ?_
  refine then_n ?_
  refine x_seq ?_
  refine x_seq ?_
  refine wpIn_region_lit ?_
  refine x_run tab hk (k := 2) (lv := []) (ks := [1, 6]) (e' := [(1, .pointer (some ⟨bx9, 0, none⟩)), (6, .bool false)]) rfl trivial fun a hk => ?_
  refine wpListIn_nil ?_
  refine then_n ?_
  refine x_if hk (b := false) rfl ?_
  refine (show Code.wpIn _ _ _ _ _ _ _ from ?_)
  refine wpIn_skip ?_
  refine then_n ?_
  refine x_seq ?_
  refine wpIn_region_lit ?_
  refine x_run tab hk (k := 2) (lv := []) (ks := [1, 7, 8]) (e' := [(1, .pointer (some ⟨bx9, 0, none⟩)), (7, .pointer (some ⟨bx9, 0, none⟩)), (8, .agg #[.int .i64 3, .int .i64 20])]) rfl trivial fun a hk => ?_
  refine x_op hk rfl ?_
  obtain ⟨t20, hc21, H⟩ := bindS H
  refine op_call hk ent_12 (vs := [.pointer (some ⟨bx9, 0, none⟩), .agg #[.int .i64 3, .int .i64 20], .slice none 0 0]) rfl (fetch_Fetch_Want_calls K bx9 bx11 A13 c14 t4 (⟨3, 20⟩ : T30) none 0 ([] : List T30) _ o7 1 f10 3 f15 hc16 2 f12 _ (Ft.of_all (fun _ h_ => absurd h_ (by simp)) _ _ 0) (by simp) (by decide) (by decide)   _ hc21) ?_
  rintro _ w22 ⟨o23, bx26, A28, c29, rfl, st24, f25, f27, f30, hc31⟩
  replace hs := hs.loc0 st24 (by decide)
  have hk := hk.put 9 (.int .i64 t20.1) rfl
  refine x_run tab hk (k := 1) (lv := []) (ks := [1, 2]) (e' := [(1, .pointer (some ⟨bx9, 0, none⟩)), (2, .int .i64 t20.1)]) rfl trivial fun a hk => ?_
  refine wpListIn_nil ?_
  refine then_n ?_
  refine x_seq ?_
  refine wpIn_region_lit ?_
  refine x_run tab hk (k := 1) (lv := []) (ks := [1, 2, 10]) (e' := [(1, .pointer (some ⟨bx9, 0, none⟩)), (2, .int .i64 t20.1), (10, .pointer (some ⟨bx9, 0, none⟩))]) rfl trivial fun a hk => ?_
  refine x_op hk rfl ?_
  obtain ⟨t35, hc36, H⟩ := bindS H
  refine op_call hk ent_13 (vs := [.pointer (some ⟨bx9, 0, none⟩), .int .i64 0, .int .i64 6]) rfl (fetch_Fetch_Ask_calls K bx9 bx26 A28 c29 t20.2 0 6 _ o23 1 f25 3 f30 hc31 2 f27 (by decide) 4  _ hc36) ?_
  rintro _ w37 ⟨o38, A40, c41, bx45, A47, c48, rfl, st39, f42, hc43, f44, f46, f49, hc50⟩
  replace hs := hs.loc0 st39 (by decide)
  have hk := hk.put 11 (.slice A40 (t35.1).length c41) rfl
  refine x_run tab hk (k := 1) (lv := []) (ks := [1, 2, 3]) (e' := [(1, .pointer (some ⟨bx9, 0, none⟩)), (2, .int .i64 t20.1), (3, .slice A40 (t35.1).length c41)]) rfl trivial fun a hk => ?_
  refine wpListIn_nil ?_
  refine then_n ?_
  refine x_seq ?_
  refine wpIn_region_lit ?_
  refine x_run tab hk (k := 3) (lv := []) (ks := [1, 3, 14]) (e' := [(1, .pointer (some ⟨bx9, 0, none⟩)), (3, .slice A40 (t35.1).length c41), (14, .bool (t20.1 == (5 : Int)))]) rfl trivial fun a hk => ?_
  cases b51 : (t20.1 == (5 : Int))
  · rw [b51] at hk H
    replace H := bifF H
    refine x_run tab hk (k := 10) (lv := []) (ks := [1, 19, 24]) (e' := [(1, .pointer (some ⟨bx9, 0, none⟩)), (19, .bool false), (24, undef)]) rfl trivial fun a hk => ?_
    refine x_run tab hk (k := 10) (lv := []) (ks := [1, 32, 34]) (e' := [(1, .pointer (some ⟨bx9, 0, none⟩)), (32, .bool false), (34, undef)]) rfl trivial fun a hk => ?_
    refine x_run tab hk (k := 7) (lv := []) (ks := [0]) (e' := [(0, .bool false)]) rfl trivial fun a hk => ?_
    refine wpListIn_nil ?_
    refine then_n ?_
    refine wpIn_ret ?_
    obtain rfl := Option.some.inj H
    exact x_retG hk (rs := [.tmp 0]) (vs := [.bool false]) rfl ⟨rfl, trivial⟩ ⟨fun b_ => if b_ < w.heap.size then o b_ else (fun _ => 0) (o38 b_), rfl, hs.close0 o (fun _ => 0)⟩
  · rw [b51] at hk H
    replace H := bifT H
    refine x_run tab hk (k := 5) (lv := []) (ks := [1, 3, 19]) (e' := [(1, .pointer (some ⟨bx9, 0, none⟩)), (3, .slice A40 (t35.1).length c41), (19, .bool (((t35.1).length : Int) == (1 : Int)))]) rfl trivial fun a hk => ?_
    cases b52 : (((t35.1).length : Int) == (1 : Int))
    · rw [b52] at hk H
      replace H := bifF H
      refine x_run tab hk (k := 11) (lv := []) (ks := [1, 26, 30]) (e' := [(1, .pointer (some ⟨bx9, 0, none⟩)), (26, .bool false), (30, undef)]) rfl trivial fun a hk => ?_
      refine x_run tab hk (k := 10) (lv := []) (ks := [40]) (e' := [(40, .bool false)]) rfl trivial fun a hk => ?_
      refine x_run tab hk (k := 1) (lv := []) (ks := [0]) (e' := [(0, .bool false)]) rfl trivial fun a hk => ?_
      refine wpListIn_nil ?_
      refine then_n ?_
      refine wpIn_ret ?_
      obtain rfl := Option.some.inj H
      exact x_retG hk (rs := [.tmp 0]) (vs := [.bool false]) rfl ⟨rfl, trivial⟩ ⟨fun b_ => if b_ < w.heap.size then o b_ else (fun _ => 0) (o38 b_), rfl, hs.close0 o (fun _ => 0)⟩
    · rw [b52] at hk H
      replace H := bifT H
      obtain ⟨q53, H⟩ := ifS H
      obtain ⟨ad54, hAad54⟩ := RdC.addr (Own.rd f42.now) q53
      have hk_C := hk
      have f42_C := f42
      have f44_C := f44
      have f46_C := f46
      have f49_C := f49
      subst hAad54
      have hk := hk_C
      clear hk_C
      have f42 := f42_C
      clear f42_C
      have f44 := f44_C
      clear f44_C
      have f46 := f46_C
      clear f46_C
      have f49 := f49_C
      clear f49_C
      refine x_run tab hk (k := 7) (lv := [.agg #[.int .i64 ((rdD zT30 t35.1 0).From), .int .i64 ((rdD zT30 t35.1 0).To)], .bool (eqT30 (rdD zT30 t35.1 0) (⟨3, 6⟩ : T30))]) (ks := [1, 26]) (e' := [(1, .pointer (some ⟨bx9, 0, none⟩)), (26, .bool (eqT30 (rdD zT30 t35.1 0) (⟨3, 6⟩ : T30)))]) rfl ⟨q53, (load_elem (E := ET30) (i := (0 : Int)) (dx := zT30) tab rfl rfl (Own.rd f42.now) q53), (ask_eq tab stood rfl rfl rfl rfl), trivial⟩ fun a hk => ?_
      cases b55 : (eqT30 (rdD zT30 t35.1 0) (⟨3, 6⟩ : T30))
      · rw [b55] at hk H
        replace H := bifF H
        refine x_run tab hk (k := 13) (lv := []) (ks := [36, 39]) (e' := [(36, .bool false), (39, undef)]) rfl trivial fun a hk => ?_
        refine x_run tab hk (k := 2) (lv := []) (ks := [0]) (e' := [(0, .bool false)]) rfl trivial fun a hk => ?_
        refine wpListIn_nil ?_
        refine then_n ?_
        refine wpIn_ret ?_
        obtain rfl := Option.some.inj H
        exact x_retG hk (rs := [.tmp 0]) (vs := [.bool false]) rfl ⟨rfl, trivial⟩ ⟨fun b_ => if b_ < w.heap.size then o b_ else (fun _ => 0) (o38 b_), rfl, hs.close0 o (fun _ => 0)⟩
      · rw [b55] at hk H
        replace H := bifT H
        refine x_run tab hk (k := 1) (lv := []) (ks := [1, 26, 27]) (e' := [(1, .pointer (some ⟨bx9, 0, none⟩)), (26, .bool true), (27, .pointer (some ⟨bx9, 0, none⟩))]) rfl trivial fun a hk => ?_
        refine x_op hk rfl ?_
        obtain ⟨t59, hc60, H⟩ := bindS H
        refine op_call hk ent_13 (vs := [.pointer (some ⟨bx9, 0, none⟩), .int .i64 8, .int .i64 6]) rfl (fetch_Fetch_Ask_calls K bx9 bx45 A47 c48 t35.2 8 6 _ o38 1 f44 3 f49 hc50 2 f46 (by decide) 5  _ hc60) ?_
        rintro _ w61 ⟨o62, A64, c65, bx69, A71, c72, rfl, st63, f66, hc67, f68, f70, f73, hc74⟩
        replace hs := hs.loc0 st63 (by decide)
        have hk := hk.put 28 (.slice A64 (t59.1).length c65) rfl
        refine x_run tab hk (k := 4) (lv := []) (ks := [1, 32]) (e' := [(1, .pointer (some ⟨bx9, 0, none⟩)), (32, .bool (((t59.1).length : Int) == (0 : Int)))]) rfl trivial fun a hk => ?_
        cases b75 : (((t59.1).length : Int) == (0 : Int))
        · rw [b75] at hk H
          replace H := bifF H
          refine x_run tab hk (k := 9) (lv := []) (ks := [0]) (e' := [(0, .bool false)]) rfl trivial fun a hk => ?_
          refine wpListIn_nil ?_
          refine then_n ?_
          refine wpIn_ret ?_
          obtain rfl := Option.some.inj H
          exact x_retG hk (rs := [.tmp 0]) (vs := [.bool false]) rfl ⟨rfl, trivial⟩ ⟨fun b_ => if b_ < w.heap.size then o b_ else (fun _ => 0) (o62 b_), rfl, hs.close0 o (fun _ => 0)⟩
        · rw [b75] at hk H
          replace H := bifT H
          refine x_run tab hk (k := 1) (lv := []) (ks := [1, 32, 33]) (e' := [(1, .pointer (some ⟨bx9, 0, none⟩)), (32, .bool true), (33, .pointer (some ⟨bx9, 0, none⟩))]) rfl trivial fun a hk => ?_
          refine x_op hk rfl ?_
          obtain ⟨t79, hc80, H⟩ := bindS H
          refine op_call hk ent_14 (vs := [.pointer (some ⟨bx9, 0, none⟩), .int .i64 3]) rfl (fetch_Fetch_Got_calls K bx9 bx69 A71 c72 t59.2 3 _ o62 1 f68 3 f73 hc74 2 f70 (by decide)   _ hc80) ?_
          rintro _ w81 ⟨o82, bx85, A87, c88, rfl, st83, f84, f86, f89, hc90⟩
          replace hs := hs.loc0 st83 (by decide)
          have hk := hk.put 34 (.bool t79.1) rfl
          refine x_run tab hk (k := 2) (lv := []) (ks := [1, 36]) (e' := [(1, .pointer (some ⟨bx9, 0, none⟩)), (36, .bool t79.1)]) rfl trivial fun a hk => ?_
          cases b91 : t79.1
          · rw [b91] at hk H
            replace H := bifF H
            refine x_run tab hk (k := 5) (lv := []) (ks := [0]) (e' := [(0, .bool false)]) rfl trivial fun a hk => ?_
            refine wpListIn_nil ?_
            refine then_n ?_
            refine wpIn_ret ?_
            obtain rfl := Option.some.inj H
            exact x_retG hk (rs := [.tmp 0]) (vs := [.bool false]) rfl ⟨rfl, trivial⟩ ⟨fun b_ => if b_ < w.heap.size then o b_ else (fun _ => 0) (o82 b_), rfl, hs.close0 o (fun _ => 0)⟩
          · rw [b91] at hk H
            replace H := bifT H
            refine x_run tab hk (k := 1) (lv := []) (ks := [36, 37]) (e' := [(36, .bool true), (37, .pointer (some ⟨bx9, 0, none⟩))]) rfl trivial fun a hk => ?_
            refine x_op hk rfl ?_
            obtain ⟨t95, hc96, H⟩ := bindS H
            refine op_call hk ent_14 (vs := [.pointer (some ⟨bx9, 0, none⟩), .int .i64 3]) rfl (fetch_Fetch_Got_calls K bx9 bx85 A87 c88 t79.2 3 _ o82 1 f84 3 f89 hc90 2 f86 (by decide)   _ hc96) ?_
            rintro _ w97 ⟨o98, bx101, A103, c104, rfl, st99, f100, f102, f105, hc106⟩
            replace hs := hs.loc0 st99 (by decide)
            have hk := hk.put 38 (.bool t95.1) rfl
            refine x_run tab hk (k := 3) (lv := []) (ks := [0]) (e' := [(0, .bool (!t95.1))]) rfl trivial fun a hk => ?_
            refine wpListIn_nil ?_
            refine then_n ?_
            refine wpIn_ret ?_
            obtain rfl := Option.some.inj H
            exact x_retG hk (rs := [.tmp 0]) (vs := [.bool (!t95.1)]) rfl ⟨rfl, trivial⟩ ⟨fun b_ => if b_ < w.heap.size then o b_ else (fun _ => 0) (o98 b_), rfl, hs.close0 o (fun _ => 0)⟩

/-! tidewrack/tidewrackref21.New -/
theorem tidewrackref21_New_calls (p0 : Int) (p1 : Int) (w : World) (o : Nat → Nat)   (R0 : Nat) (r : T27) (H : tidewrackref21_New p0 p1 = some r) :
    Calls Try.prog 6 #[.int .i64 p0, .int .i64 p1] w (Ret fun v_ w' => ∃ o' : Nat → Nat, ∃ A0 : Option Addr, ∃ c0 : Nat, v_ = .agg #[.int .i64 r.Most, .int .i64 r.Every, .int .i64 r.Due, .slice A0 (r.L).length c0] ∧ St [] w o w' o' ∧ Ft (Own ET30 31 (.slice A0 (r.L).length c0) r.L) w' o' R0 ∧ (r.L).length ≤ c0) := by
  refine x_enter (vs := [.int .i64 p0, .int .i64 p1]) Try.func6 rfl rfl rfl fun a hk => ?_
  obtain ⟨o0, hs, h0⟩ := St.start w o
  clear h0
  rw [tidewrackref21_New] at H
  refine x_seq ?_
  refine wpIn_region_lit ?_
  refine x_op hk rfl ?_
  refine op_alloc (o := o0) tab (t := 28) (cs := [.int .i64 0, .int .i64 0, .int .i64 0, .slice none 0 0]) rfl rfl 1 fun bx4 w1 o2 st3 f5 => ?_
  replace hs := hs.loc0 st3 (by decide)
  have hk := hk.put 4 (.pointer (some ⟨bx4, 0, none⟩)) rfl
  refine wpListIn_nil ?_
  refine then_n ?_
  refine x_seq ?_
  refine wpIn_region_lit ?_
  refine x_run tab hk (k := 7) (lv := []) (ks := [4, 11]) (e' := [(4, .pointer (some ⟨bx4, 0, none⟩)), (11, .agg #[.int .i64 (mxI 1 (mnI p0 65536)), .int .i64 (mxI 1 (mnI p1 1048576)), .int .i64 0, .slice none 0 0])]) rfl trivial fun a hk => ?_
  refine x_op hk rfl ?_
  refine op_store tab hk (t := 28) (v := .agg #[.int .i64 (mxI 1 (mnI p0 65536)), .int .i64 (mxI 1 (mnI p1 1048576)), .int .i64 0, .slice none 0 0]) (b := bx4) (k := 0) (cs' := [.int .i64 (mxI 1 (mnI p0 65536)), .int .i64 (mxI 1 (mnI p1 1048576)), .int .i64 0, .slice none 0 0]) rfl rfl rfl rfl rfl rfl f5 rfl rfl fun w6 o7 st8 f5_ => ?_
  replace hs := hs.loc0 st8 (by decide)
  replace f5 := f5_
  refine wpListIn_nil ?_
  refine then_n ?_
  refine wpIn_ret ?_
  obtain rfl := Option.some.inj H
  exact x_retG hk (rs := [.cell 4 28]) (vs := [.agg #[.int .i64 (mxI 1 (mnI p0 65536)), .int .i64 (mxI 1 (mnI p1 1048576)), .int .i64 0, .slice none 0 0]]) rfl ⟨⟨_, rfl, load_box tab rfl rfl f5.now (k := 0) rfl rfl⟩, trivial⟩ ⟨fun b_ => if b_ < w.heap.size then o b_ else (fun _ => 0) (o7 b_), none, 0, rfl, hs.close0 o (fun _ => 0), (Ft.of_all (fun _ => Own.nil _ _ _) _ _ _), (by simp)⟩

/-! slices.Clone[[]tidewrack/spans.Span,tidewrack/spans.Span] -/
theorem slices_Clone_calls (Ap0 : Option Addr) (cp0 : Nat) (p0 : List T30) (w : World) (o : Nat → Nat) (Lp0 : Nat) (hp0 : Ft (RdC ET30 Ap0 p0) w o Lp0) (hcp0 : (p0).length ≤ cp0)  (R0 : Nat) (r : List T30) (H : slices_Clone p0 = some r) :
    Calls Try.prog 28 #[.slice Ap0 (p0).length cp0] w (Ret fun v_ w' => ∃ o' : Nat → Nat, ∃ A0 : Option Addr, ∃ c0 : Nat, v_ = .slice A0 (r).length c0 ∧ St [] w o w' o' ∧ Ft (Own ET30 43 (.slice A0 (r).length c0) r) w' o' R0 ∧ (r).length ≤ c0) := by
  refine x_enter (vs := [.slice Ap0 (p0).length cp0]) Try.func28 rfl rfl rfl fun a hk => ?_
  obtain ⟨o0, hs, h0⟩ := St.start w o
  have f900000 := h0 _ _ hp0
  clear h0
  rw [slices_Clone] at H
  refine x_seq ?_
  refine wpIn_region_lit ?_
  refine x_run tab hk (k := 1) (lv := []) (ks := [0]) (e' := [(0, .slice Ap0 (p0).length cp0)]) rfl trivial fun a hk => ?_
  refine wpListIn_nil ?_
  refine then_n ?_
  refine x_seq ?_
  refine x_seq ?_
  refine wpIn_region_lit ?_
  refine x_run tab hk (k := 1) (lv := []) (ks := [0, 3]) (e' := [(0, .slice Ap0 (p0).length cp0), (3, .slice Ap0 (p0).length cp0)]) rfl trivial fun a hk => ?_
  rcases none_or Ap0 with hAad1 | ⟨ad1, hAad1⟩
  · have hk_C := hk
    have f900000_C := f900000
    subst hAad1
    have hk := hk_C
    clear hk_C
    have f900000 := f900000_C
    clear f900000_C
    have hz2 : p0 = [] := RdC.none f900000.now
    replace H : (some ([] : List T30)) = some r := by (try rw [hz2] at H); simpa using H
    refine x_run tab hk (k := 1) (lv := []) (ks := [0, 4]) (e' := [(0, .slice none (p0).length cp0), (4, .bool true)]) rfl trivial fun a hk => ?_
    refine wpListIn_nil ?_
    refine then_n ?_
    refine x_if hk (b := true) rfl ?_
    refine (show Code.wpIn _ _ _ _ _ _ _ from ?_)
    refine x_seq ?_
    refine wpIn_region_lit ?_
    refine x_run tab hk (k := 1) (lv := []) (ks := [2]) (e' := [(2, .slice none 0 0)]) rfl trivial fun a hk => ?_
    refine wpListIn_nil ?_
    refine then_n ?_
    refine wpIn_ret ?_
    refine then_r ?_
    obtain rfl := Option.some.inj H
    exact x_retG hk (rs := [.tmp 2]) (vs := [.slice none 0 0]) rfl ⟨rfl, trivial⟩ ⟨fun b_ => if b_ < w.heap.size then o b_ else (fun _ => 0) (o0 b_), none, 0, rfl, hs.close0 o (fun _ => 0), (Ft.of_all (fun _ => Own.nil _ _ _) _ _ _), (by simp)⟩
  · have hk_C := hk
    have f900000_C := f900000
    subst hAad1
    have hk := hk_C
    clear hk_C
    have f900000 := f900000_C
    clear f900000_C
    refine x_run tab hk (k := 1) (lv := []) (ks := [0, 4]) (e' := [(0, .slice (some ad1) (p0).length cp0), (4, .bool false)]) rfl trivial fun a hk => ?_
    refine wpListIn_nil ?_
    refine then_n ?_
    refine x_if hk (b := false) rfl ?_
    refine (show Code.wpIn _ _ _ _ _ _ _ from ?_)
    refine wpIn_skip ?_
    refine then_n ?_
    refine x_seq ?_
    refine wpIn_region_lit ?_
    refine x_op hk rfl ?_
    refine op_slice (o := o0) tab hk (vs := []) (cs := []) rfl rfl rfl rfl rfl rfl rfl rfl rfl 1 fun bx6 w3 o4 st5 f7 => ?_
    replace f900000 := f900000.st st5 (by decide)
    replace hs := hs.loc0 st5 (by decide)
    have f8 : Ft (Own ET30 43 (.slice (some ⟨bx6, 0, none⟩) (([] : List T30)).length 0) ([] : List T30)) w3 o4 1 := f7.imp fun _ h_ => Own.of_box h_ rfl (by simp)
    have hk := hk.put 5 (.slice (some ⟨bx6, 0, none⟩) (([] : List T30)).length 0) rfl
    refine x_run tab hk (k := 1) (lv := []) (ks := [5, 6]) (e' := [(5, .slice (some ⟨bx6, 0, none⟩) (([] : List T30)).length 0), (6, .slice (some ad1) (p0).length cp0)]) rfl trivial fun a hk => ?_
    refine x_op hk rfl ?_
    obtain ⟨q12, H⟩ := ifS H
    refine op_append (o := o4) (E := ET30) (xs := ([] : List T30)) (ys := p0) tab hk rfl rfl rfl rfl rfl rfl rfl f8 f900000.now q12 fun A13 c14 w9 o10 st11 f15 hc16 => ?_
    replace f900000 := f900000.st st11 (by decide)
    replace hs := hs.loc0 st11 (by decide)
    have hk := hk.put 7 (.slice A13 ((([] : List T30) ++ p0)).length c14) rfl
    refine x_run tab hk (k := 1) (lv := []) (ks := [2]) (e' := [(2, .slice A13 ((([] : List T30) ++ p0)).length c14)]) rfl trivial fun a hk => ?_
    refine wpListIn_nil ?_
    refine then_n ?_
    refine wpIn_ret ?_
    obtain rfl := Option.some.inj H
    exact x_retG hk (rs := [.tmp 2]) (vs := [.slice A13 ((([] : List T30) ++ p0)).length c14]) rfl ⟨rfl, trivial⟩ ⟨fun b_ => if b_ < w.heap.size then o b_ else (fun _ => R0) (o10 b_), A13, c14, rfl, hs.close0 o (fun _ => R0), hs.close_ft (o := o) (ρ := fun _ => R0) f15 (by decide) rfl, hc16⟩

/-! (*tidewrack/spans.Set).Clone -/
theorem spans_Set_Clone_calls (bp0 : Nat) (Ap0_0 : Option Addr) (cp0_0 : Nat) (p0 : T48) (w : World) (o : Nat → Nat) (Lp0 : Nat) (hp0 : Ft (Bx bp0 49 [.slice Ap0_0 (p0.l).length cp0_0]) w o Lp0) (Lp0_0 : Nat) (hp0_0 : Ft (RdC ET30 Ap0_0 p0.l) w o Lp0_0) (hcp0_0 : (p0.l).length ≤ cp0_0)  (R0 : Nat) (R1 : Nat) (r : T48) (H : spans_Set_Clone p0 = some r) :
    Calls Try.prog 16 #[.pointer (some ⟨bp0, 0, none⟩)] w (Ret fun v_ w' => ∃ o' : Nat → Nat, ∃ b0 : Nat, ∃ A0 : Option Addr, ∃ c0 : Nat, v_ = .pointer (some ⟨b0, 0, none⟩) ∧ St [] w o w' o' ∧ Ft (Bx b0 49 [.slice A0 (r.l).length c0]) w' o' R0 ∧ Ft (Own ET30 43 (.slice A0 (r.l).length c0) r.l) w' o' R1 ∧ (r.l).length ≤ c0) := by
  refine x_enter (vs := [.pointer (some ⟨bp0, 0, none⟩)]) Try.func16 rfl rfl rfl fun a hk => ?_
  obtain ⟨o0, hs, h0⟩ := St.start w o
  have f900000 := h0 _ _ hp0_0
  have f900019 := h0 _ _ hp0
  clear h0
  rw [spans_Set_Clone] at H
  refine x_seq ?_
  refine wpIn_region_lit ?_
  refine x_run tab hk (k := 1) (lv := []) (ks := [0]) (e' := [(0, .pointer (some ⟨bp0, 0, none⟩))]) rfl trivial fun a hk => ?_
  refine wpListIn_nil ?_
  refine then_n ?_
  refine x_seq ?_
  refine wpIn_region_lit ?_
  refine x_run tab hk (k := 4) (lv := [.slice Ap0_0 (p0.l).length cp0_0]) (ks := [6]) (e' := [(6, .slice Ap0_0 (p0.l).length cp0_0)]) rfl ⟨(load1 tab rfl ((Bx.cell f900019.now 0).trans rfl)), trivial⟩ fun a hk => ?_
  refine x_op hk rfl ?_
  obtain ⟨t4, hc5, H⟩ := bindS H
  refine op_call hk ent_28 (vs := [.slice Ap0_0 (p0.l).length cp0_0]) rfl (slices_Clone_calls Ap0_0 cp0_0 p0.l _ o0 _ f900000 hcp0_0 1  _ hc5) ?_
  rintro _ w6 ⟨o7, A9, c10, rfl, st8, f11, hc12⟩
  replace f900000 := f900000.st st8 (by decide)
  replace f900019 := f900019.st st8 (by decide)
  replace hs := hs.loc0 st8 (by decide)
  have hk := hk.put 7 (.slice A9 (t4).length c10) rfl
  refine x_run tab hk (k := 1) (lv := []) (ks := [8]) (e' := [(8, .agg #[.slice A9 (t4).length c10])]) rfl trivial fun a hk => ?_
  refine x_op hk rfl ?_
  refine op_box (o := o7) (t := 49) (v := .agg #[.slice A9 (t4).length c10]) (cs := [.slice A9 (t4).length c10]) hk rfl rfl 2 fun bx16 w13 o14 st15 f17 => ?_
  replace f11 := f11.st st15 (by decide)
  replace f900000 := f900000.st st15 (by decide)
  replace f900019 := f900019.st st15 (by decide)
  replace hs := hs.loc0 st15 (by decide)
  have hk := hk.put 9 (.pointer (some ⟨bx16, 0, none⟩)) rfl
  refine x_run tab hk (k := 1) (lv := []) (ks := [2]) (e' := [(2, .pointer (some ⟨bx16, 0, none⟩))]) rfl trivial fun a hk => ?_
  refine wpListIn_nil ?_
  refine then_n ?_
  refine wpIn_ret ?_
  obtain rfl := Option.some.inj H
  exact x_retG hk (rs := [.tmp 2]) (vs := [.pointer (some ⟨bx16, 0, none⟩)]) rfl ⟨rfl, trivial⟩ ⟨fun b_ => if b_ < w.heap.size then o b_ else (fun l_ => if l_ = 1 then R1 else if l_ = 2 then R0 else 0) (o14 b_), bx16, A9, c10, rfl, hs.close0 o (fun l_ => if l_ = 1 then R1 else if l_ = 2 then R0 else 0), hs.close_ft (o := o) (ρ := fun l_ => if l_ = 1 then R1 else if l_ = 2 then R0 else 0) f17 (by decide) rfl, hs.close_ft (o := o) (ρ := fun l_ => if l_ = 1 then R1 else if l_ = 2 then R0 else 0) f11 (by decide) rfl, hc12⟩

/-! (*tidewrack/fetch.Fetch).Clone -/
theorem fetch_Fetch_Clone_calls (bp0 : Nat) (bq0_0 : Nat) (Ap0_0 : Option Addr) (cp0_0 : Nat) (p0 : T50) (w : World) (o : Nat → Nat) (Lp0 : Nat) (hp0 : Ft (Bx bp0 51 [.int .i64 p0.most, .int .i64 p0.every, .int .i64 p0.due, .pointer (some ⟨bq0_0, 0, none⟩)]) w o Lp0) (Lp0_0 : Nat) (hp0_0 : Ft (RdC ET30 Ap0_0 p0.want_l) w o Lp0_0) (hcp0_0 : (p0.want_l).length ≤ cp0_0) (Lq0_0 : Nat) (hq0_0 : Ft (Bx bq0_0 49 [.slice Ap0_0 (p0.want_l).length cp0_0]) w o Lq0_0)  (R0 : Nat) (R1 : Nat) (R2 : Nat) (r : T50) (H : fetch_Fetch_Clone p0 = some r) :
    Calls Try.prog 7 #[.pointer (some ⟨bp0, 0, none⟩)] w (Ret fun v_ w' => ∃ o' : Nat → Nat, ∃ b0 : Nat, ∃ b1 : Nat, ∃ A0 : Option Addr, ∃ c0 : Nat, v_ = .pointer (some ⟨b0, 0, none⟩) ∧ St [] w o w' o' ∧ Ft (Bx b0 51 [.int .i64 r.most, .int .i64 r.every, .int .i64 r.due, .pointer (some ⟨b1, 0, none⟩)]) w' o' R0 ∧ Ft (Bx b1 49 [.slice A0 (r.want_l).length c0]) w' o' R1 ∧ Ft (Own ET30 43 (.slice A0 (r.want_l).length c0) r.want_l) w' o' R2 ∧ (r.want_l).length ≤ c0) := by
  refine x_enter (vs := [.pointer (some ⟨bp0, 0, none⟩)]) Try.func7 rfl rfl rfl fun a hk => ?_
  obtain ⟨o0, hs, h0⟩ := St.start w o
  have f900000 := h0 _ _ hp0_0
  have f900019 := h0 _ _ hp0
  have f910000 := h0 _ _ hq0_0
  clear h0
  rw [fetch_Fetch_Clone] at H
  refine x_seq ?_
  refine wpIn_region_lit ?_
  refine x_run tab hk (k := 1) (lv := []) (ks := [0]) (e' := [(0, .pointer (some ⟨bp0, 0, none⟩))]) rfl trivial fun a hk => ?_
  refine wpListIn_nil ?_
  refine then_n ?_
  refine x_seq ?_
  refine wpIn_region_lit ?_
  refine x_run tab hk (k := 3) (lv := [.agg #[.int .i64 p0.most, .int .i64 p0.every, .int .i64 p0.due, .pointer (some ⟨bq0_0, 0, none⟩)]]) (ks := [0, 6]) (e' := [(0, .pointer (some ⟨bp0, 0, none⟩)), (6, .agg #[.int .i64 p0.most, .int .i64 p0.every, .int .i64 p0.due, .pointer (some ⟨bq0_0, 0, none⟩)])]) rfl ⟨(load_box tab rfl rfl f900019.now (k := 0) rfl rfl), trivial⟩ fun a hk => ?_
  refine x_op hk rfl ?_
  refine op_alloc (o := o0) tab (t := 51) (cs := [.int .i64 0, .int .i64 0, .int .i64 0, .pointer none]) rfl rfl 1 fun bx4 w1 o2 st3 f5 => ?_
  replace f900000 := f900000.st st3 (by decide)
  replace f900019 := f900019.st st3 (by decide)
  replace f910000 := f910000.st st3 (by decide)
  replace hs := hs.loc0 st3 (by decide)
  have hk := hk.put 3 (.pointer (some ⟨bx4, 0, none⟩)) rfl
  refine x_op hk rfl ?_
  refine op_store tab hk (t := 51) (v := .agg #[.int .i64 p0.most, .int .i64 p0.every, .int .i64 p0.due, .pointer (some ⟨bq0_0, 0, none⟩)]) (b := bx4) (k := 0) (cs' := [.int .i64 p0.most, .int .i64 p0.every, .int .i64 p0.due, .pointer (some ⟨bq0_0, 0, none⟩)]) rfl rfl rfl rfl rfl rfl f5 rfl rfl fun w6 o7 st8 f5_ => ?_
  replace f900000 := f900000.st st8 (by decide)
  replace f900019 := f900019.st st8 (by decide)
  replace f910000 := f910000.st st8 (by decide)
  replace hs := hs.loc0 st8 (by decide)
  replace f5 := f5_
  refine wpListIn_nil ?_
  refine then_n ?_
  refine x_seq ?_
  refine wpIn_region_lit ?_
  refine x_run tab hk (k := 4) (lv := [.pointer (some ⟨bq0_0, 0, none⟩)]) (ks := [3, 10]) (e' := [(3, .pointer (some ⟨bx4, 0, none⟩)), (10, .pointer (some ⟨bq0_0, 0, none⟩))]) rfl ⟨(load1 tab rfl ((Bx.cell f900019.now 3).trans rfl)), trivial⟩ fun a hk => ?_
  refine x_op hk rfl ?_
  obtain ⟨t12, hc13, H⟩ := bindS H
  refine op_call hk ent_16 (vs := [.pointer (some ⟨bq0_0, 0, none⟩)]) rfl (spans_Set_Clone_calls bq0_0 Ap0_0 cp0_0 (⟨p0.want_l⟩ : T48) _ o7 0 f910000 _ f900000 hcp0_0 2 3  _ hc13) ?_
  rintro _ w14 ⟨o15, bx17, A19, c20, rfl, st16, f18, f21, hc22⟩
  replace f5 := f5.st st16 (by decide)
  replace f900000 := f900000.st st16 (by decide)
  replace f900019 := f900019.st st16 (by decide)
  replace f910000 := f910000.st st16 (by decide)
  replace hs := hs.loc0 st16 (by decide)
  have hk := hk.put 11 (.pointer (some ⟨bx17, 0, none⟩)) rfl
  refine x_run tab hk (k := 1) (lv := []) (ks := [3, 11, 12]) (e' := [(3, .pointer (some ⟨bx4, 0, none⟩)), (11, .pointer (some ⟨bx17, 0, none⟩)), (12, .pointer (some ((⟨bx4, 0, none⟩ : Addr).add 3)))]) rfl trivial fun a hk => ?_
  refine x_op hk rfl ?_
  refine op_store tab hk (t := 47) (v := .pointer (some ⟨bx17, 0, none⟩)) (b := bx4) (k := 3) (cs' := [.int .i64 p0.most, .int .i64 p0.every, .int .i64 p0.due, .pointer (some ⟨bx17, 0, none⟩)]) rfl rfl rfl rfl rfl rfl f5 rfl rfl fun w23 o24 st25 f5_ => ?_
  replace f18 := f18.st st25 (by decide)
  replace f21 := f21.st st25 (by decide)
  replace f900000 := f900000.st st25 (by decide)
  replace f900019 := f900019.st st25 (by decide)
  replace f910000 := f910000.st st25 (by decide)
  replace hs := hs.loc0 st25 (by decide)
  replace f5 := f5_
  refine wpListIn_nil ?_
  refine then_n ?_
  refine x_seq ?_
  refine wpIn_region_lit ?_
  refine x_run tab hk (k := 1) (lv := []) (ks := [2]) (e' := [(2, .pointer (some ⟨bx4, 0, none⟩))]) rfl trivial fun a hk => ?_
  refine wpListIn_nil ?_
  refine then_n ?_
  refine wpIn_ret ?_
  obtain rfl := Option.some.inj H
  exact x_retG hk (rs := [.tmp 2]) (vs := [.pointer (some ⟨bx4, 0, none⟩)]) rfl ⟨rfl, trivial⟩ ⟨fun b_ => if b_ < w.heap.size then o b_ else (fun l_ => if l_ = 1 then R0 else if l_ = 2 then R1 else if l_ = 3 then R2 else 0) (o24 b_), bx4, bx17, A19, c20, rfl, hs.close0 o (fun l_ => if l_ = 1 then R0 else if l_ = 2 then R1 else if l_ = 3 then R2 else 0), hs.close_ft (o := o) (ρ := fun l_ => if l_ = 1 then R0 else if l_ = 2 then R1 else if l_ = 3 then R2 else 0) f5 (by decide) rfl, hs.close_ft (o := o) (ρ := fun l_ => if l_ = 1 then R0 else if l_ = 2 then R1 else if l_ = 3 then R2 else 0) f18 (by decide) rfl, hs.close_ft (o := o) (ρ := fun l_ => if l_ = 1 then R0 else if l_ = 2 then R1 else if l_ = 3 then R2 else 0) f21 (by decide) rfl, hc22⟩

/-! tidewrack/tidewrackref13.near -/
theorem tidewrackref13_near_calls (p0 : Int) (w : World) (o : Nat → Nat)   (r : Int) (H : tidewrackref13_near p0 = some r) :
    Calls Try.prog 47 #[.int .i64 p0] w (Ret fun v_ w' => ∃ o' : Nat → Nat, v_ = .int .i64 r ∧ St [] w o w' o') := by
  refine x_enter (vs := [.int .i64 p0]) Try.func47 rfl rfl rfl fun a hk => ?_
  obtain ⟨o0, hs, h0⟩ := St.start w o
  clear h0
  rw [tidewrackref13_near] at H
  refine x_seq ?_
  refine wpIn_region_lit ?_
  refine x_run tab hk (k := 1) (lv := []) (ks := [0]) (e' := [(0, .int .i64 p0)]) rfl trivial fun a hk => ?_
  refine wpListIn_nil ?_
  refine then_n ?_
  refine x_seq ?_
  refine x_seq ?_
  refine wpIn_region_lit ?_
  refine x_run tab hk (k := 2) (lv := []) (ks := [0, 4]) (e' := [(0, .int .i64 p0), (4, .bool (decide (p0 < (-1152921504606846976))))]) rfl trivial fun a hk => ?_
  refine wpListIn_nil ?_
  refine then_n ?_
  cases b1 : (decide (p0 < (-1152921504606846976)))
  · rw [b1] at hk H
    replace H := bifF H
    refine x_if hk (b := false) rfl ?_
    refine (show Code.wpIn _ _ _ _ _ _ _ from ?_)
    refine wpIn_skip ?_
    refine then_n ?_
    refine x_seq ?_
    refine x_seq ?_
    refine wpIn_region_lit ?_
    refine x_run tab hk (k := 2) (lv := []) (ks := [0, 6]) (e' := [(0, .int .i64 p0), (6, .bool (decide (p0 > (1152921504606846976 : Int))))]) rfl trivial fun a hk => ?_
    refine wpListIn_nil ?_
    refine then_n ?_
    cases b2 : (decide (p0 > (1152921504606846976 : Int)))
    · rw [b2] at hk H
      replace H := bifF H
      refine x_if hk (b := false) rfl ?_
      refine (show Code.wpIn _ _ _ _ _ _ _ from ?_)
      refine wpIn_skip ?_
      refine then_n ?_
      refine x_seq ?_
      refine wpIn_region_lit ?_
      refine x_run tab hk (k := 2) (lv := []) (ks := [2]) (e' := [(2, .int .i64 p0)]) rfl trivial fun a hk => ?_
      refine wpListIn_nil ?_
      refine then_n ?_
      refine wpIn_ret ?_
      obtain rfl := Option.some.inj H
      exact x_retG hk (rs := [.tmp 2]) (vs := [.int .i64 p0]) rfl ⟨rfl, trivial⟩ ⟨fun b_ => if b_ < w.heap.size then o b_ else (fun _ => 0) (o0 b_), rfl, hs.close0 o (fun _ => 0)⟩
    · rw [b2] at hk H
      replace H := bifT H
      refine x_if hk (b := true) rfl ?_
      refine (show Code.wpIn _ _ _ _ _ _ _ from ?_)
      refine x_seq ?_
      refine wpIn_region_lit ?_
      refine x_run tab hk (k := 1) (lv := []) (ks := [2]) (e' := [(2, .int .i64 1152921504606846976)]) rfl trivial fun a hk => ?_
      refine wpListIn_nil ?_
      refine then_n ?_
      refine wpIn_ret ?_
      refine then_r ?_
      obtain rfl := Option.some.inj H
      exact x_retG hk (rs := [.tmp 2]) (vs := [.int .i64 1152921504606846976]) rfl ⟨rfl, trivial⟩ ⟨fun b_ => if b_ < w.heap.size then o b_ else (fun _ => 0) (o0 b_), rfl, hs.close0 o (fun _ => 0)⟩
  · rw [b1] at hk H
    replace H := bifT H
    refine x_if hk (b := true) rfl ?_
    refine (show Code.wpIn _ _ _ _ _ _ _ from ?_)
    refine x_seq ?_
    refine wpIn_region_lit ?_
    refine x_run tab hk (k := 1) (lv := []) (ks := [2]) (e' := [(2, .int .i64 (-1152921504606846976))]) rfl trivial fun a hk => ?_
    refine wpListIn_nil ?_
    refine then_n ?_
    refine wpIn_ret ?_
    refine then_r ?_
    obtain rfl := Option.some.inj H
    exact x_retG hk (rs := [.tmp 2]) (vs := [.int .i64 (-1152921504606846976)]) rfl ⟨rfl, trivial⟩ ⟨fun b_ => if b_ < w.heap.size then o b_ else (fun _ => 0) (o0 b_), rfl, hs.close0 o (fun _ => 0)⟩

/-! tidewrack/tidewrackref13.Fit -/
theorem tidewrackref13_Fit_calls (p0 : T30) (w : World) (o : Nat → Nat)   (r : T30) (H : tidewrackref13_Fit p0 = some r) :
    Calls Try.prog 46 #[.agg #[.int .i64 p0.From, .int .i64 p0.To]] w (Ret fun v_ w' => ∃ o' : Nat → Nat, v_ = .agg #[.int .i64 r.From, .int .i64 r.To] ∧ St [] w o w' o') := by
  refine x_enter (vs := [.agg #[.int .i64 p0.From, .int .i64 p0.To]]) Try.func46 rfl rfl rfl fun a hk => ?_
  obtain ⟨o0, hs, h0⟩ := St.start w o
  clear h0
  rw [tidewrackref13_Fit] at H
  refine x_seq ?_
  refine wpIn_region_lit ?_
  refine x_op hk rfl ?_
  refine op_box (o := o0) (t := 31) (v := .agg #[.int .i64 p0.From, .int .i64 p0.To]) (cs := [.int .i64 p0.From, .int .i64 p0.To]) hk rfl rfl 1 fun bx4 w1 o2 st3 f5 => ?_
  replace hs := hs.loc0 st3 (by decide)
  have hk := hk.put 1 (.pointer (some ⟨bx4, 0, none⟩)) rfl
  refine x_op hk rfl ?_
  refine op_alloc (o := o2) tab (t := 31) (cs := [.int .i64 0, .int .i64 0]) rfl rfl 2 fun bx9 w6 o7 st8 f10 => ?_
  replace f5 := f5.st st8 (by decide)
  replace hs := hs.loc0 st8 (by decide)
  have hk := hk.put 2 (.pointer (some ⟨bx9, 0, none⟩)) rfl
  refine wpListIn_nil ?_
  refine then_n ?_
  refine x_seq ?_
  refine xd_begin (o := o7) (fun W_ => (Bx bx4 31 [.int .i64 p0.From, .int .i64 p0.To]) W_ ∧ True) mixed rfl rfl fun w46 st47 => ?_
  replace f10 := f10.st st47 (by decide)
  replace f5 := f5.st st47 (by decide)
  replace hs := hs.loc0 st47 (by decide)
  refine xd_take tab hk (k := 4) (is := [0, 1, 3, 4]) (ls' := #[true, true, false, true, true, false, false, false]) (lv := [.int .i64 p0.From, .int .i64 p0.To]) (ks := [2, 4, 7]) (e' := [(2, .pointer (some ⟨bx9, 0, none⟩)), (4, .int .i64 p0.From), (7, .int .i64 p0.To)]) (by kernel_rfl) rfl rfl (by kernel_rfl) (np_then np_body) ⟨f5.now, trivial⟩ (fun W_ hS => ⟨(load1 tab rfl ((Bx.cell hS.1 0).trans rfl)), (load1 tab rfl ((Bx.cell hS.1 1).trans rfl)), trivial⟩) fun a hk => ?_
  refine xd_op hk (i := 2) (by kernel_rfl) rfl rfl ?_
  obtain ⟨t51, hc52, H⟩ := bindS H
  refine op_call hk ent_47 (vs := [.int .i64 p0.From]) rfl (tidewrackref13_near_calls p0.From _ o7    _ hc52) ?_
  rintro _ w53 ⟨o54, rfl, st55⟩
  replace f10 := f10.st st55 (by decide)
  replace f5 := f5.st st55 (by decide)
  replace hs := hs.loc0 st55 (by decide)
  have hk := hk.put 5 (.int .i64 t51) rfl
  refine ⟨.inr ⟨f5.now, trivial⟩, ?_⟩
  refine xd_op hk (i := 5) (by kernel_rfl) rfl rfl ?_
  obtain ⟨t59, hc60, H⟩ := bindS H
  refine op_call hk ent_47 (vs := [.int .i64 p0.To]) rfl (tidewrackref13_near_calls p0.To _ o54    _ hc60) ?_
  rintro _ w61 ⟨o62, rfl, st63⟩
  replace f10 := f10.st st63 (by decide)
  replace f5 := f5.st st63 (by decide)
  replace hs := hs.loc0 st63 (by decide)
  have hk := hk.put 8 (.int .i64 t59) rfl
  refine ⟨.inr ⟨f5.now, trivial⟩, ?_⟩
  refine xd_take tab hk (k := 1) (is := [6]) (ls' := #[true, true, true, true, true, true, true, false]) (lv := []) (ks := [2, 9]) (e' := [(2, .pointer (some ⟨bx9, 0, none⟩)), (9, .agg #[.int .i64 t51, .int .i64 t59])]) (by kernel_rfl) rfl rfl (by kernel_rfl) (np_then np_body) ⟨f5.now, trivial⟩ (fun W_ hS => trivial) fun a hk => ?_
  refine xd_op hk (i := 7) (by kernel_rfl) rfl rfl ?_
  refine op_store tab hk (t := 31) (v := .agg #[.int .i64 t51, .int .i64 t59]) (b := bx9) (k := 0) (cs' := [.int .i64 t51, .int .i64 t59]) rfl rfl rfl rfl rfl rfl f10 rfl rfl fun w64 o65 st66 f10_ => ?_
  replace f5 := f5.st st66 (by decide)
  replace hs := hs.loc0 st66 (by decide)
  replace f10 := f10_
  refine ⟨.inl (by kernel_rfl), ?_⟩
  refine xd_done (by kernel_rfl) ?_
  refine then_n ?_
  refine wpIn_ret ?_
  obtain rfl := Option.some.inj H
  exact x_retG hk (rs := [.cell 2 31]) (vs := [.agg #[.int .i64 t51, .int .i64 t59]]) rfl ⟨⟨_, rfl, load_box tab rfl rfl f10.now (k := 0) rfl rfl⟩, trivial⟩ ⟨fun b_ => if b_ < w.heap.size then o b_ else (fun _ => 0) (o65 b_), rfl, hs.close0 o (fun _ => 0)⟩

/-! tidewrack/tidewrackref13.one -/
theorem tidewrackref13_one_calls (p0 : T30) (w : World) (o : Nat → Nat)   (R0 : Nat) (r : List T30) (H : tidewrackref13_one p0 = some r) :
    Calls Try.prog 41 #[.agg #[.int .i64 p0.From, .int .i64 p0.To]] w (Ret fun v_ w' => ∃ o' : Nat → Nat, ∃ A0 : Option Addr, ∃ c0 : Nat, v_ = .slice A0 (r).length c0 ∧ St [] w o w' o' ∧ Ft (Own ET30 31 (.slice A0 (r).length c0) r) w' o' R0 ∧ (r).length ≤ c0) := by
  refine x_enter (vs := [.agg #[.int .i64 p0.From, .int .i64 p0.To]]) Try.func41 rfl rfl rfl fun a hk => ?_
  obtain ⟨o0, hs, h0⟩ := St.start w o
  clear h0
  rw [tidewrackref13_one] at H
  refine x_seq ?_
  refine wpIn_region_lit ?_
  refine x_op hk rfl ?_
  refine op_box (o := o0) (t := 31) (v := .agg #[.int .i64 p0.From, .int .i64 p0.To]) (cs := [.int .i64 p0.From, .int .i64 p0.To]) hk rfl rfl 1 fun bx4 w1 o2 st3 f5 => ?_
  replace hs := hs.loc0 st3 (by decide)
  have hk := hk.put 1 (.pointer (some ⟨bx4, 0, none⟩)) rfl
  refine x_run tab hk (k := 1) (lv := []) (ks := [1]) (e' := [(1, .pointer (some ⟨bx4, 0, none⟩))]) rfl trivial fun a hk => ?_
  refine wpListIn_nil ?_
  refine then_n ?_
  refine x_seq ?_
  refine wpIn_region_lit ?_
  refine x_run tab hk (k := 1) (lv := [.agg #[.int .i64 p0.From, .int .i64 p0.To]]) (ks := [1, 3]) (e' := [(1, .pointer (some ⟨bx4, 0, none⟩)), (3, .agg #[.int .i64 p0.From, .int .i64 p0.To])]) rfl ⟨(load_box tab rfl rfl f5.now (k := 0) rfl rfl), trivial⟩ fun a hk => ?_
  refine x_op hk rfl ?_
  obtain ⟨t9, hc10, H⟩ := bindS H
  refine op_call hk ent_46 (vs := [.agg #[.int .i64 p0.From, .int .i64 p0.To]]) rfl (tidewrackref13_Fit_calls p0 _ o2    _ hc10) ?_
  rintro _ w11 ⟨o12, rfl, st13⟩
  replace f5 := f5.st st13 (by decide)
  replace hs := hs.loc0 st13 (by decide)
  have hk := hk.put 4 (.agg #[.int .i64 t9.From, .int .i64 t9.To]) rfl
  refine x_op hk rfl ?_
  refine op_store tab hk (t := 31) (v := .agg #[.int .i64 t9.From, .int .i64 t9.To]) (b := bx4) (k := 0) (cs' := [.int .i64 t9.From, .int .i64 t9.To]) rfl rfl rfl rfl rfl rfl f5 rfl rfl fun w14 o15 st16 f5_ => ?_
  replace hs := hs.loc0 st16 (by decide)
  replace f5 := f5_
  refine wpListIn_nil ?_
  refine then_n ?_
  refine x_seq ?_
  refine x_seq ?_
  refine wpIn_region_lit ?_
  refine x_run tab hk (k := 5) (lv := [.int .i64 t9.To, .int .i64 t9.From]) (ks := [1, 9]) (e' := [(1, .pointer (some ⟨bx4, 0, none⟩)), (9, .bool (decide (t9.To ≤ t9.From)))]) rfl ⟨(load1 tab rfl ((Bx.cell f5.now 1).trans rfl)), (load1 tab rfl ((Bx.cell f5.now 0).trans rfl)), trivial⟩ fun a hk => ?_
  refine wpListIn_nil ?_
  refine then_n ?_
  cases b17 : (decide (t9.To ≤ t9.From))
  · rw [b17] at hk H
    replace H := bifF H
    refine x_if hk (b := false) rfl ?_
    refine (show Code.wpIn _ _ _ _ _ _ _ from ?_)
    refine wpIn_skip ?_
    refine then_n ?_
    refine x_seq ?_
    refine wpIn_region_lit ?_
    refine x_run tab hk (k := 1) (lv := [.agg #[.int .i64 t9.From, .int .i64 t9.To]]) (ks := [10]) (e' := [(10, .agg #[.int .i64 t9.From, .int .i64 t9.To])]) rfl ⟨(load_box tab rfl rfl f5.now (k := 0) rfl rfl), trivial⟩ fun a hk => ?_
    refine x_op hk rfl ?_
    refine op_slice (o := o15) tab hk (vs := [.agg #[.int .i64 t9.From, .int .i64 t9.To]]) (cs := [.int .i64 t9.From, .int .i64 t9.To]) rfl rfl rfl rfl rfl rfl rfl rfl rfl 2 fun bx21 w18 o19 st20 f22 => ?_
    replace hs := hs.loc0 st20 (by decide)
    have f23 : Ft (Own ET30 31 (.slice (some ⟨bx21, 0, none⟩) (([t9] : List T30)).length 1) ([t9] : List T30)) w18 o19 2 := f22.imp fun _ h_ => Own.of_box h_ rfl (by simp)
    have hk := hk.put 11 (.slice (some ⟨bx21, 0, none⟩) (([t9] : List T30)).length 1) rfl
    refine x_run tab hk (k := 1) (lv := []) (ks := [2]) (e' := [(2, .slice (some ⟨bx21, 0, none⟩) (([t9] : List T30)).length 1)]) rfl trivial fun a hk => ?_
    refine wpListIn_nil ?_
    refine then_n ?_
    refine wpIn_ret ?_
    obtain rfl := Option.some.inj H
    exact x_retG hk (rs := [.tmp 2]) (vs := [.slice (some ⟨bx21, 0, none⟩) (([t9] : List T30)).length 1]) rfl ⟨rfl, trivial⟩ ⟨fun b_ => if b_ < w.heap.size then o b_ else (fun _ => R0) (o19 b_), (some ⟨bx21, 0, none⟩), 1, rfl, hs.close0 o (fun _ => R0), hs.close_ft (o := o) (ρ := fun _ => R0) f23 (by decide) rfl, (Nat.le_refl _)⟩
  · rw [b17] at hk H
    replace H := bifT H
    refine x_if hk (b := true) rfl ?_
    refine (show Code.wpIn _ _ _ _ _ _ _ from ?_)
    refine x_seq ?_
    refine wpIn_region_lit ?_
    refine x_run tab hk (k := 1) (lv := []) (ks := [2]) (e' := [(2, .slice none 0 0)]) rfl trivial fun a hk => ?_
    refine wpListIn_nil ?_
    refine then_n ?_
    refine wpIn_ret ?_
    refine then_r ?_
    obtain rfl := Option.some.inj H
    exact x_retG hk (rs := [.tmp 2]) (vs := [.slice none 0 0]) rfl ⟨rfl, trivial⟩ ⟨fun b_ => if b_ < w.heap.size then o b_ else (fun _ => 0) (o15 b_), none, 0, rfl, hs.close0 o (fun _ => 0), (Ft.of_all (fun _ => Own.nil _ _ _) _ _ _), (by simp)⟩

/-! tidewrack/tidewrackref13.Has -/
theorem tidewrackref13_Has_calls (K : Nat) (Ap0 : Option Addr) (cp0 : Nat) (p0 : List T30) (p1 : Int) (w : World) (o : Nat → Nat) (Lp0 : Nat) (hp0 : Ft (RdC ET30 Ap0 p0) w o Lp0) (hcp0 : (p0).length ≤ cp0)  (r : Bool) (H : tidewrackref13_Has K p0 p1 = some r) :
    Calls Try.prog 31 #[.slice Ap0 (p0).length cp0, .int .i64 p1] w (Ret fun v_ w' => ∃ o' : Nat → Nat, v_ = .bool r ∧ St [] w o w' o') := by
  refine x_enter (vs := [.slice Ap0 (p0).length cp0, .int .i64 p1]) Try.func31 rfl rfl rfl fun a hk => ?_
  obtain ⟨o0, hs, h0⟩ := St.start w o
  have f900000 := h0 _ _ hp0
  clear h0
  rw [tidewrackref13_Has] at H
  refine x_seq ?_
  refine wpIn_region_lit ?_
  refine x_run tab hk (k := 1) (lv := []) (ks := [0, 1]) (e' := [(0, .slice Ap0 (p0).length cp0), (1, .int .i64 p1)]) rfl trivial fun a hk => ?_
  refine wpListIn_nil ?_
  refine then_n ?_
  refine x_mid (fun a_ w_ => ∃ o52 : Nat → Nat, Kn 24 a_ [] ∧ St [] w (fun _ => 0) w_ o52 ∧ tidewrackref13_Has_j1 = some r) ?_ ?_
  rotate_left
  · rintro a w53 ⟨o52, hk, hs, H⟩
    rw [tidewrackref13_Has_j1] at H
    refine x_seq ?_
    refine wpIn_region_lit ?_
    refine x_run tab hk (k := 1) (lv := []) (ks := [4]) (e' := [(4, .bool false)]) rfl trivial fun a hk => ?_
    refine wpListIn_nil ?_
    refine then_n ?_
    refine wpIn_ret ?_
    obtain rfl := Option.some.inj H
    exact x_retG hk (rs := [.tmp 4]) (vs := [.bool false]) rfl ⟨rfl, trivial⟩ ⟨fun b_ => if b_ < w.heap.size then o b_ else (fun _ => 0) (o52 b_), rfl, hs.close0 o (fun _ => 0)⟩
  refine x_seq ?_
  refine wpIn_region_lit ?_
  refine x_run tab hk (k := 3) (lv := []) (ks := [1, 7, 8, 9]) (e' := [(1, .int .i64 p1), (7, .slice Ap0 (p0).length cp0), (8, .int .i64 ((p0).length : Int)), (9, .int .i64 0)]) rfl trivial fun a hk => ?_
  refine wpListIn_nil ?_
  refine then_n ?_
  refine wpIn_block ?_
  refine x_loop (fun j_ a_ w_ => ∃ o70 : Nat → Nat, ∃ x71 : Int, Kn 24 a_ [(1, .int .i64 p1), (7, .slice Ap0 (p0).length cp0), (8, .int .i64 ((p0).length : Int)), (9, .int .i64 x71)] ∧ St [] w (fun _ => 0) w_ o70 ∧ Ft (RdC ET30 Ap0 p0) w_ o70 0 ∧ tidewrackref13_Has_l2 p0 p1 j_ x71 = some r) (k := K) ⟨o0, 0, (by exact Kn.pick (ks := [1, 7, 8, 9]) hk rfl), hs, f900000, H⟩ (by rintro _ _ ⟨_, _, _, _, _, H_⟩; exact absurd (show (none : Option Bool) = some r from H_) (by simp)) ?_
  rintro k86 a w85 ⟨o70, x71, hk, hs, f900000, H⟩
  rw [tidewrackref13_Has_l2] at H
  obtain ⟨lp87, hlp88⟩ : ∃ lp_, lp_ = tidewrackref13_Has_l2 p0 p1 k86 := ⟨_, rfl⟩
  rw [← hlp88] at H
  refine x_seq ?_
  refine wpIn_region_lit ?_
  refine x_run tab hk (k := 1) (lv := []) (ks := [1, 7, 8, 9, 10]) (e' := [(1, .int .i64 p1), (7, .slice Ap0 (p0).length cp0), (8, .int .i64 ((p0).length : Int)), (9, .int .i64 x71), (10, .bool (decide (x71 < ((p0).length : Int))))]) rfl trivial fun a hk => ?_
  refine wpListIn_nil ?_
  refine then_n ?_
  refine x_seq ?_
  cases b89 : (decide (x71 < ((p0).length : Int)))
  · rw [b89] at hk H
    replace H := bifF H
    refine x_if hk (b := false) rfl ?_
    refine (show Code.wpIn _ _ _ _ _ _ _ from ?_)
    refine wpIn_exit ?_
    refine then_x ?_
    refine then_x ?_
    refine blk_x ?_
    refine then_n ?_
    exact ⟨o70, (by exact Kn.pick (ks := []) hk rfl), hs, H⟩
  · rw [b89] at hk H
    replace H := bifT H
    refine x_if hk (b := true) rfl ?_
    refine (show Code.wpIn _ _ _ _ _ _ _ from ?_)
    refine wpIn_skip ?_
    refine then_n ?_
    refine x_seq ?_
    refine wpIn_block ?_
    refine x_seq ?_
    refine wpIn_region_lit ?_
    obtain ⟨q90, H⟩ := ifS H
    obtain ⟨ad91, hAad91⟩ := RdC.addr f900000.now q90
    have hk_C := hk
    have f900000_C := f900000
    subst hAad91
    have hk := hk_C
    clear hk_C
    have f900000 := f900000_C
    clear f900000_C
    refine x_run tab hk (k := 2) (lv := [.agg #[.int .i64 ((rdD zT30 p0 x71).From), .int .i64 ((rdD zT30 p0 x71).To)]]) (ks := [1, 7, 8, 9, 12]) (e' := [(1, .int .i64 p1), (7, .slice (some ad91) (p0).length cp0), (8, .int .i64 ((p0).length : Int)), (9, .int .i64 x71), (12, .agg #[.int .i64 ((rdD zT30 p0 x71).From), .int .i64 ((rdD zT30 p0 x71).To)])]) rfl ⟨q90, (load_elem (E := ET30) (i := x71) (dx := zT30) tab rfl rfl f900000.now q90), trivial⟩ fun a hk => ?_
    refine x_op hk rfl ?_
    refine op_alloc (o := o70) tab (t := 31) (cs := [.int .i64 0, .int .i64 0]) rfl rfl 6 fun bx95 w92 o93 st94 f96 => ?_
    replace f900000 := f900000.st st94 (by decide)
    replace hs := hs.loc0 st94 (by decide)
    have hk := hk.put 6 (.pointer (some ⟨bx95, 0, none⟩)) rfl
    refine x_op hk rfl ?_
    refine op_store tab hk (t := 31) (v := .agg #[.int .i64 ((rdD zT30 p0 x71).From), .int .i64 ((rdD zT30 p0 x71).To)]) (b := bx95) (k := 0) (cs' := [.int .i64 ((rdD zT30 p0 x71).From), .int .i64 ((rdD zT30 p0 x71).To)]) rfl rfl rfl rfl rfl rfl f96 rfl rfl fun w97 o98 st99 f96_ => ?_
    replace f900000 := f900000.st st99 (by decide)
    replace hs := hs.loc0 st99 (by decide)
    replace f96 := f96_
    refine wpListIn_nil ?_
    refine then_n ?_
    refine x_seq ?_
    refine wpIn_region_lit ?_
    refine x_run tab hk (k := 5) (lv := [.int .i64 ((rdD zT30 p0 x71).From)]) (ks := [1, 6, 7, 8, 9, 17]) (e' := [(1, .int .i64 p1), (6, .pointer (some ⟨bx95, 0, none⟩)), (7, .slice (some ad91) (p0).length cp0), (8, .int .i64 ((p0).length : Int)), (9, .int .i64 x71), (17, .bool (decide (p1 ≥ ((rdD zT30 p0 x71).From))))]) rfl ⟨(load1 tab rfl ((Bx.cell f96.now 0).trans rfl)), trivial⟩ fun a hk => ?_
    cases b100 : (decide (p1 ≥ ((rdD zT30 p0 x71).From)))
    · rw [b100] at hk H
      replace H := bifF H
      refine x_run tab hk (k := 5) (lv := []) (ks := [1, 7, 8, 9, 22]) (e' := [(1, .int .i64 p1), (7, .slice (some ad91) (p0).length cp0), (8, .int .i64 ((p0).length : Int)), (9, .int .i64 x71), (22, .bool false)]) rfl trivial fun a hk => ?_
      refine wpListIn_nil ?_
      refine then_n ?_
      refine x_if hk (b := false) rfl ?_
      refine (show Code.wpIn _ _ _ _ _ _ _ from ?_)
      refine wpIn_skip ?_
      refine blk_n ?_
      refine then_n ?_
      refine wpIn_region_lit ?_
      refine x_run tab hk (k := 2) (lv := []) (ks := [1, 7, 8, 9]) (e' := [(1, .int .i64 p1), (7, .slice (some ad91) (p0).length cp0), (8, .int .i64 ((p0).length : Int)), (9, .int .i64 (IntKind.wrap .i64 (x71 + 1)))]) rfl trivial fun a hk => ?_
      refine wpListIn_nil ?_
      refine then_n ?_
      exact ⟨k86, Nat.le_refl _, o98, (IntKind.wrap .i64 (x71 + 1)), (by exact Kn.pick (ks := [1, 7, 8, 9]) hk rfl), hs, f900000, (hlp88 ▸ H)⟩
    · rw [b100] at hk H
      replace H := bifT H
      refine x_run tab hk (k := 5) (lv := [.int .i64 ((rdD zT30 p0 x71).To)]) (ks := [1, 7, 8, 9, 22]) (e' := [(1, .int .i64 p1), (7, .slice (some ad91) (p0).length cp0), (8, .int .i64 ((p0).length : Int)), (9, .int .i64 x71), (22, .bool (decide (p1 < ((rdD zT30 p0 x71).To))))]) rfl ⟨(load1 tab rfl ((Bx.cell f96.now 1).trans rfl)), trivial⟩ fun a hk => ?_
      refine wpListIn_nil ?_
      refine then_n ?_
      cases b101 : (decide (p1 < ((rdD zT30 p0 x71).To)))
      · rw [b101] at hk H
        replace H := bifF H
        refine x_if hk (b := false) rfl ?_
        refine (show Code.wpIn _ _ _ _ _ _ _ from ?_)
        refine wpIn_skip ?_
        refine blk_n ?_
        refine then_n ?_
        refine wpIn_region_lit ?_
        refine x_run tab hk (k := 2) (lv := []) (ks := [1, 7, 8, 9]) (e' := [(1, .int .i64 p1), (7, .slice (some ad91) (p0).length cp0), (8, .int .i64 ((p0).length : Int)), (9, .int .i64 (IntKind.wrap .i64 (x71 + 1)))]) rfl trivial fun a hk => ?_
        refine wpListIn_nil ?_
        refine then_n ?_
        exact ⟨k86, Nat.le_refl _, o98, (IntKind.wrap .i64 (x71 + 1)), (by exact Kn.pick (ks := [1, 7, 8, 9]) hk rfl), hs, f900000, (hlp88 ▸ H)⟩
      · rw [b101] at hk H
        replace H := bifT H
        refine x_if hk (b := true) rfl ?_
        refine (show Code.wpIn _ _ _ _ _ _ _ from ?_)
        refine x_seq ?_
        refine wpIn_region_lit ?_
        refine x_run tab hk (k := 1) (lv := []) (ks := [4]) (e' := [(4, .bool true)]) rfl trivial fun a hk => ?_
        refine wpListIn_nil ?_
        refine then_n ?_
        refine wpIn_ret ?_
        refine blk_r ?_
        refine then_r ?_
        refine then_r ?_
        refine blk_r ?_
        refine then_r ?_
        obtain rfl := Option.some.inj H
        exact x_retG hk (rs := [.tmp 4]) (vs := [.bool true]) rfl ⟨rfl, trivial⟩ ⟨fun b_ => if b_ < w.heap.size then o b_ else (fun _ => 0) (o98 b_), rfl, hs.close0 o (fun _ => 0)⟩

/-! tidewrack/tidewrackref13.keep -/
theorem tidewrackref13_keep_calls (p0 : Int) (p1 : Bool) (p2 : Bool) (w : World) (o : Nat → Nat)   (r : Bool) (H : tidewrackref13_keep p0 p1 p2 = some r) :
    Calls Try.prog 45 #[.int .i64 p0, .bool p1, .bool p2] w (Ret fun v_ w' => ∃ o' : Nat → Nat, v_ = .bool r ∧ St [] w o w' o') := by
  refine x_enter (vs := [.int .i64 p0, .bool p1, .bool p2]) Try.func45 rfl rfl rfl fun a hk => ?_
  obtain ⟨o0, hs, h0⟩ := St.start w o
  clear h0
  rw [tidewrackref13_keep] at H
  refine x_seq ?_
  refine wpIn_region_lit ?_
  refine x_run tab hk (k := 1) (lv := []) (ks := [0, 1, 2]) (e' := [(0, .int .i64 p0), (1, .bool p1), (2, .bool p2)]) rfl trivial fun a hk => ?_
  refine wpListIn_nil ?_
  refine then_n ?_
  refine x_seq ?_
  refine x_seq ?_
  refine wpIn_region_lit ?_
  refine x_run tab hk (k := 1) (lv := []) (ks := [1, 2, 7]) (e' := [(1, .bool p1), (2, .bool p2), (7, .int .i64 p0)]) rfl trivial fun a hk => ?_
  refine wpListIn_nil ?_
  refine then_n ?_
  refine wpIn_block ?_
  refine x_seq ?_
  refine wpIn_region_lit ?_
  refine x_run tab hk (k := 2) (lv := []) (ks := [1, 2, 7, 8]) (e' := [(1, .bool p1), (2, .bool p2), (7, .int .i64 p0), (8, .bool (p0 == (0 : Int)))]) rfl trivial fun a hk => ?_
  refine wpListIn_nil ?_
  refine then_n ?_
  cases b1 : (p0 == (0 : Int))
  · rw [b1] at hk H
    replace H := bifF H
    refine x_if hk (b := false) rfl ?_
    refine (show Code.wpIn _ _ _ _ _ _ _ from ?_)
    refine x_seq ?_
    refine wpIn_region_lit ?_
    refine x_run tab hk (k := 2) (lv := []) (ks := [1, 2, 7, 14]) (e' := [(1, .bool p1), (2, .bool p2), (7, .int .i64 p0), (14, .bool (p0 == (1 : Int)))]) rfl trivial fun a hk => ?_
    refine wpListIn_nil ?_
    refine then_n ?_
    cases b2 : (p0 == (1 : Int))
    · rw [b2] at hk H
      replace H := bifF H
      refine x_if hk (b := false) rfl ?_
      refine (show Code.wpIn _ _ _ _ _ _ _ from ?_)
      refine x_seq ?_
      refine wpIn_region_lit ?_
      refine x_run tab hk (k := 2) (lv := []) (ks := [1, 2, 21]) (e' := [(1, .bool p1), (2, .bool p2), (21, .bool (p0 == (2 : Int)))]) rfl trivial fun a hk => ?_
      refine wpListIn_nil ?_
      refine then_n ?_
      cases b3 : (p0 == (2 : Int))
      · rw [b3] at hk H
        replace H := bifF H
        refine x_if hk (b := false) rfl ?_
        refine (show Code.wpIn _ _ _ _ _ _ _ from ?_)
        refine wpIn_skip ?_
        refine blk_n ?_
        refine then_n ?_
        refine x_seq ?_
        refine wpIn_region_lit ?_
        refine x_run tab hk (k := 3) (lv := []) (ks := [2, 29]) (e' := [(2, .bool p2), (29, .bool (!p1))]) rfl trivial fun a hk => ?_
        cases b4 : (!p1)
        · rw [b4] at hk H
          replace H := bifF H
          refine x_run tab hk (k := 3) (lv := []) (ks := [6]) (e' := [(6, .bool false)]) rfl trivial fun a hk => ?_
          refine wpListIn_nil ?_
          refine then_n ?_
          refine wpIn_ret ?_
          obtain rfl := Option.some.inj H
          exact x_retG hk (rs := [.tmp 6]) (vs := [.bool false]) rfl ⟨rfl, trivial⟩ ⟨fun b_ => if b_ < w.heap.size then o b_ else (fun _ => 0) (o0 b_), rfl, hs.close0 o (fun _ => 0)⟩
        · rw [b4] at hk H
          replace H := bifT H
          refine x_run tab hk (k := 3) (lv := []) (ks := [6]) (e' := [(6, .bool p2)]) rfl trivial fun a hk => ?_
          refine wpListIn_nil ?_
          refine then_n ?_
          refine wpIn_ret ?_
          obtain rfl := Option.some.inj H
          exact x_retG hk (rs := [.tmp 6]) (vs := [.bool p2]) rfl ⟨rfl, trivial⟩ ⟨fun b_ => if b_ < w.heap.size then o b_ else (fun _ => 0) (o0 b_), rfl, hs.close0 o (fun _ => 0)⟩
      · rw [b3] at hk H
        replace H := bifT H
        refine x_if hk (b := true) rfl ?_
        refine (show Code.wpIn _ _ _ _ _ _ _ from ?_)
        refine x_seq ?_
        refine wpIn_region_lit ?_
        refine x_run tab hk (k := 2) (lv := []) (ks := [2, 24]) (e' := [(2, .bool p2), (24, .bool p1)]) rfl trivial fun a hk => ?_
        cases b5 : p1
        · rw [b5] at hk H
          replace H := bifF H
          refine x_run tab hk (k := 3) (lv := []) (ks := [6]) (e' := [(6, .bool false)]) rfl trivial fun a hk => ?_
          refine wpListIn_nil ?_
          refine then_n ?_
          refine wpIn_ret ?_
          refine blk_r ?_
          refine then_r ?_
          obtain rfl := Option.some.inj H
          exact x_retG hk (rs := [.tmp 6]) (vs := [.bool false]) rfl ⟨rfl, trivial⟩ ⟨fun b_ => if b_ < w.heap.size then o b_ else (fun _ => 0) (o0 b_), rfl, hs.close0 o (fun _ => 0)⟩
        · rw [b5] at hk H
          replace H := bifT H
          refine x_run tab hk (k := 3) (lv := []) (ks := [6]) (e' := [(6, .bool p2)]) rfl trivial fun a hk => ?_
          refine wpListIn_nil ?_
          refine then_n ?_
          refine wpIn_ret ?_
          refine blk_r ?_
          refine then_r ?_
          obtain rfl := Option.some.inj H
          exact x_retG hk (rs := [.tmp 6]) (vs := [.bool p2]) rfl ⟨rfl, trivial⟩ ⟨fun b_ => if b_ < w.heap.size then o b_ else (fun _ => 0) (o0 b_), rfl, hs.close0 o (fun _ => 0)⟩
    · rw [b2] at hk H
      replace H := bifT H
      refine x_if hk (b := true) rfl ?_
      refine (show Code.wpIn _ _ _ _ _ _ _ from ?_)
      refine x_seq ?_
      refine wpIn_region_lit ?_
      refine x_run tab hk (k := 2) (lv := []) (ks := [2, 17]) (e' := [(2, .bool p2), (17, .bool p1)]) rfl trivial fun a hk => ?_
      cases b6 : p1
      · rw [b6] at hk H
        replace H := bifF H
        refine x_run tab hk (k := 4) (lv := []) (ks := [6]) (e' := [(6, .bool false)]) rfl trivial fun a hk => ?_
        refine wpListIn_nil ?_
        refine then_n ?_
        refine wpIn_ret ?_
        refine blk_r ?_
        refine then_r ?_
        obtain rfl := Option.some.inj H
        exact x_retG hk (rs := [.tmp 6]) (vs := [.bool false]) rfl ⟨rfl, trivial⟩ ⟨fun b_ => if b_ < w.heap.size then o b_ else (fun _ => 0) (o0 b_), rfl, hs.close0 o (fun _ => 0)⟩
      · rw [b6] at hk H
        replace H := bifT H
        refine x_run tab hk (k := 4) (lv := []) (ks := [6]) (e' := [(6, .bool (!p2))]) rfl trivial fun a hk => ?_
        refine wpListIn_nil ?_
        refine then_n ?_
        refine wpIn_ret ?_
        refine blk_r ?_
        refine then_r ?_
        obtain rfl := Option.some.inj H
        exact x_retG hk (rs := [.tmp 6]) (vs := [.bool (!p2)]) rfl ⟨rfl, trivial⟩ ⟨fun b_ => if b_ < w.heap.size then o b_ else (fun _ => 0) (o0 b_), rfl, hs.close0 o (fun _ => 0)⟩
  · rw [b1] at hk H
    replace H := bifT H
    refine x_if hk (b := true) rfl ?_
    refine (show Code.wpIn _ _ _ _ _ _ _ from ?_)
    refine x_seq ?_
    refine wpIn_region_lit ?_
    refine x_run tab hk (k := 2) (lv := []) (ks := [2, 11]) (e' := [(2, .bool p2), (11, .bool p1)]) rfl trivial fun a hk => ?_
    cases b7 : p1
    · rw [b7] at hk H
      replace H := bifF H
      refine x_run tab hk (k := 3) (lv := []) (ks := [6]) (e' := [(6, .bool p2)]) rfl trivial fun a hk => ?_
      refine wpListIn_nil ?_
      refine then_n ?_
      refine wpIn_ret ?_
      refine blk_r ?_
      refine then_r ?_
      obtain rfl := Option.some.inj H
      exact x_retG hk (rs := [.tmp 6]) (vs := [.bool p2]) rfl ⟨rfl, trivial⟩ ⟨fun b_ => if b_ < w.heap.size then o b_ else (fun _ => 0) (o0 b_), rfl, hs.close0 o (fun _ => 0)⟩
    · rw [b7] at hk H
      replace H := bifT H
      refine x_run tab hk (k := 3) (lv := []) (ks := [6]) (e' := [(6, .bool true)]) rfl trivial fun a hk => ?_
      refine wpListIn_nil ?_
      refine then_n ?_
      refine wpIn_ret ?_
      refine blk_r ?_
      refine then_r ?_
      obtain rfl := Option.some.inj H
      exact x_retG hk (rs := [.tmp 6]) (vs := [.bool true]) rfl ⟨rfl, trivial⟩ ⟨fun b_ => if b_ < w.heap.size then o b_ else (fun _ => 0) (o0 b_), rfl, hs.close0 o (fun _ => 0)⟩

/-! tidewrack/tidewrackref13.build -/
set_option maxHeartbeats 4000000 in
set_option maxRecDepth 20000 in
theorem tidewrackref13_build_calls (K : Nat) (Ap0 : Option Addr) (cp0 : Nat) (p0 : List T30) (Ap1 : Option Addr) (cp1 : Nat) (p1 : List T30) (p2 : Int) (w : World) (o : Nat → Nat) (Lp0 : Nat) (hp0 : Ft (RdC ET30 Ap0 p0) w o Lp0) (hcp0 : (p0).length ≤ cp0) (Lp1 : Nat) (hp1 : Ft (RdC ET30 Ap1 p1) w o Lp1) (hcp1 : (p1).length ≤ cp1)  (R0 : Nat) (r : List T30) (H : tidewrackref13_build K p0 p1 p2 = some r) :
    Calls Try.prog 40 #[.slice Ap0 (p0).length cp0, .slice Ap1 (p1).length cp1, .int .i64 p2] w (Ret fun v_ w' => ∃ o' : Nat → Nat, ∃ A0 : Option Addr, ∃ c0 : Nat, v_ = .slice A0 (r).length c0 ∧ St [] w o w' o' ∧ Ft (Own ET30 31 (.slice A0 (r).length c0) r) w' o' R0 ∧ (r).length ≤ c0) := by
  refine x_enter (vs := [.slice Ap0 (p0).length cp0, .slice Ap1 (p1).length cp1, .int .i64 p2]) Try.func40 rfl rfl rfl fun a hk => ?_
  obtain ⟨o0, hs, h0⟩ := St.start w o
  have f900000 := h0 _ _ hp0
  have f900020 := h0 _ _ hp1
  clear h0
  rw [tidewrackref13_build] at H
  refine x_seq ?_
  refine wpIn_region_lit ?_
  refine x_run tab hk (k := 1) (lv := []) (ks := [0, 1, 2]) (e' := [(0, .slice Ap0 (p0).length cp0), (1, .slice Ap1 (p1).length cp1), (2, .int .i64 p2)]) rfl trivial fun a hk => ?_
  refine wpListIn_nil ?_
  refine then_n ?_
  refine x_seq ?_
  refine wpIn_region_lit ?_
  refine x_op hk rfl ?_
  refine op_slice (o := o0) tab hk (vs := []) (cs := []) rfl rfl rfl rfl rfl rfl rfl rfl rfl 1 fun bx4 w1 o2 st3 f5 => ?_
  replace f900000 := f900000.st st3 (by decide)
  replace f900020 := f900020.st st3 (by decide)
  replace hs := hs.loc0 st3 (by decide)
  have f6 : Ft (Own (encInt .i64) 3 (.slice (some ⟨bx4, 0, none⟩) (([] : List Int)).length 0) ([] : List Int)) w1 o2 1 := f5.imp fun _ h_ => Own.of_box h_ rfl (by simp)
  have hk := hk.put 17 (.slice (some ⟨bx4, 0, none⟩) (([] : List Int)).length 0) rfl
  refine x_run tab hk (k := 1) (lv := []) (ks := [0, 1, 2, 7]) (e' := [(0, .slice Ap0 (p0).length cp0), (1, .slice Ap1 (p1).length cp1), (2, .int .i64 p2), (7, .slice (some ⟨bx4, 0, none⟩) (([] : List Int)).length 0)]) rfl trivial fun a hk => ?_
  refine wpListIn_nil ?_
  refine then_n ?_
  refine x_mid (fun a_ w_ => ∃ o7055 : Nat → Nat, ∃ A7056 : Option Addr, ∃ c7057 : Nat, ∃ l7058 : List Int, Kn 132 a_ [(0, .slice Ap0 (p0).length cp0), (1, .slice Ap1 (p1).length cp1), (2, .int .i64 p2), (7, .slice A7056 (l7058).length c7057)] ∧ St [] w (fun _ => 0) w_ o7055 ∧ Ft (Own (encInt .i64) 3 (.slice A7056 (l7058).length c7057) l7058) w_ o7055 871 ∧ Ft (RdC ET30 Ap0 p0) w_ o7055 0 ∧ Ft (RdC ET30 Ap1 p1) w_ o7055 0 ∧ (l7058).length ≤ c7057 ∧ tidewrackref13_build_j1 K p0 p1 p2 l7058 = some r) ?_ ?_
  rotate_left
  · rintro a w7061 ⟨o7055, A7056, c7057, l7058, hk, hs, f7059, f900000, f900020, hc7060, H⟩
    rw [tidewrackref13_build_j1] at H
    refine x_seq ?_
    refine wpIn_region_lit ?_
    refine x_op hk rfl ?_
    refine op_slice (o := o7055) tab hk (vs := []) (cs := []) rfl rfl rfl rfl rfl rfl rfl rfl rfl 872 fun bx7065 w7062 o7063 st7064 f7066 => ?_
    replace f7059 := f7059.st st7064 (by decide)
    replace f900000 := f900000.st st7064 (by decide)
    replace f900020 := f900020.st st7064 (by decide)
    replace hs := hs.loc0 st7064 (by decide)
    have f7067 : Ft (Own ET30 31 (.slice (some ⟨bx7065, 0, none⟩) (([] : List T30)).length 0) ([] : List T30)) w7062 o7063 872 := f7066.imp fun _ h_ => Own.of_box h_ rfl (by simp)
    have hk := hk.put 76 (.slice (some ⟨bx7065, 0, none⟩) (([] : List T30)).length 0) rfl
    refine x_run tab hk (k := 1) (lv := []) (ks := [0, 1, 2, 7, 13]) (e' := [(0, .slice Ap0 (p0).length cp0), (1, .slice Ap1 (p1).length cp1), (2, .int .i64 p2), (7, .slice A7056 (l7058).length c7057), (13, .slice (some ⟨bx7065, 0, none⟩) (([] : List T30)).length 0)]) rfl trivial fun a hk => ?_
    refine wpListIn_nil ?_
    refine then_n ?_
    refine x_mid (fun a_ w_ => ∃ o7287 : Nat → Nat, ∃ A7288 : Option Addr, ∃ c7289 : Nat, ∃ l7290 : List T30, Kn 132 a_ [(13, .slice A7288 (l7290).length c7289)] ∧ St [] w (fun _ => 0) w_ o7287 ∧ Ft (Own ET30 31 (.slice A7288 (l7290).length c7289) l7290) w_ o7287 886 ∧ (l7290).length ≤ c7289 ∧ tidewrackref13_build_j2 l7290 = some r) ?_ ?_
    rotate_left
    · rintro a w7293 ⟨o7287, A7288, c7289, l7290, hk, hs, f7291, hc7292, H⟩
      rw [tidewrackref13_build_j2] at H
      refine x_seq ?_
      refine wpIn_region_lit ?_
      refine x_run tab hk (k := 2) (lv := []) (ks := [6]) (e' := [(6, .slice A7288 (l7290).length c7289)]) rfl trivial fun a hk => ?_
      refine wpListIn_nil ?_
      refine then_n ?_
      refine wpIn_ret ?_
      obtain rfl := Option.some.inj H
      exact x_retG hk (rs := [.tmp 6]) (vs := [.slice A7288 (l7290).length c7289]) rfl ⟨rfl, trivial⟩ ⟨fun b_ => if b_ < w.heap.size then o b_ else (fun _ => R0) (o7287 b_), A7288, c7289, rfl, hs.close0 o (fun _ => R0), hs.close_ft (o := o) (ρ := fun _ => R0) f7291 (by decide) rfl, hc7292⟩
    refine x_seq ?_
    refine wpIn_region_lit ?_
    refine x_run tab hk (k := 1) (lv := []) (ks := [0, 1, 2, 7, 13, 14]) (e' := [(0, .slice Ap0 (p0).length cp0), (1, .slice Ap1 (p1).length cp1), (2, .int .i64 p2), (7, .slice A7056 (l7058).length c7057), (13, .slice (some ⟨bx7065, 0, none⟩) (([] : List T30)).length 0), (14, .int .i64 0)]) rfl trivial fun a hk => ?_
    refine wpListIn_nil ?_
    refine then_n ?_
    refine wpIn_block ?_
    refine x_loop (fun j_ a_ w_ => ∃ o7360 : Nat → Nat, ∃ A7361 : Option Addr, ∃ c7362 : Nat, ∃ l7363 : List T30, ∃ x7366 : Int, Kn 132 a_ [(0, .slice Ap0 (p0).length cp0), (1, .slice Ap1 (p1).length cp1), (2, .int .i64 p2), (7, .slice A7056 (l7058).length c7057), (13, .slice A7361 (l7363).length c7362), (14, .int .i64 x7366)] ∧ St [] w (fun _ => 0) w_ o7360 ∧ Ft (Own (encInt .i64) 3 (.slice A7056 (l7058).length c7057) l7058) w_ o7360 892 ∧ Ft (Own ET30 31 (.slice A7361 (l7363).length c7362) l7363) w_ o7360 893 ∧ Ft (RdC ET30 Ap0 p0) w_ o7360 0 ∧ Ft (RdC ET30 Ap1 p1) w_ o7360 0 ∧ (l7363).length ≤ c7362 ∧ tidewrackref13_build_l3 K p0 p1 p2 l7058 j_ l7363 x7366 = some r) (k := K) ⟨(fun b_ => (fun l_ => if l_ = 871 then 892 else if l_ = 872 then 893 else l_) (o7063 b_)), (some ⟨bx7065, 0, none⟩), 0, ([] : List T30), 0, (by exact Kn.pick (ks := [0, 1, 2, 7, 13, 14]) hk rfl), (hs.relab0 (fun l_ => if l_ = 871 then 892 else if l_ = 872 then 893 else l_) rfl), (f7059.relab (fun l_ => if l_ = 871 then 892 else if l_ = 872 then 893 else l_) rfl), (f7067.relab (fun l_ => if l_ = 871 then 892 else if l_ = 872 then 893 else l_) rfl), (f900000.relab (fun l_ => if l_ = 871 then 892 else if l_ = 872 then 893 else l_) rfl), (f900020.relab (fun l_ => if l_ = 871 then 892 else if l_ = 872 then 893 else l_) rfl), (Nat.le_refl _), H⟩ (by rintro _ _ ⟨_, _, _, _, _, _, _, _, _, _, _, _, H_⟩; exact absurd (show (none : Option (List T30)) = some r from H_) (by simp)) ?_
    rintro k7434 a w7433 ⟨o7360, A7361, c7362, l7363, x7366, hk, hs, f7059, f7364, f900000, f900020, hc7365, H⟩
    rw [tidewrackref13_build_l3] at H
    obtain ⟨lp7435, hlp7436⟩ : ∃ lp_, lp_ = tidewrackref13_build_l3 K p0 p1 p2 l7058 k7434 := ⟨_, rfl⟩
    rw [← hlp7436] at H
    refine x_seq ?_
    refine x_seq ?_
    refine wpIn_region_lit ?_
    refine x_run tab hk (k := 5) (lv := []) (ks := [0, 1, 2, 7, 13, 14, 81]) (e' := [(0, .slice Ap0 (p0).length cp0), (1, .slice Ap1 (p1).length cp1), (2, .int .i64 p2), (7, .slice A7056 (l7058).length c7057), (13, .slice A7361 (l7363).length c7362), (14, .int .i64 x7366), (81, .bool (decide ((IntKind.wrap .i64 (x7366 + 1)) < ((l7058).length : Int))))]) rfl trivial fun a hk => ?_
    refine wpListIn_nil ?_
    refine then_n ?_
    cases b7437 : (decide ((IntKind.wrap .i64 (x7366 + 1)) < ((l7058).length : Int)))
    · rw [b7437] at hk H
      replace H := bifF H
      refine x_if hk (b := false) rfl ?_
      refine (show Code.wpIn _ _ _ _ _ _ _ from ?_)
      refine wpIn_exit ?_
      refine then_x ?_
      refine then_x ?_
      refine blk_x ?_
      refine then_n ?_
      exact ⟨(fun b_ => (fun l_ => if l_ = 893 then 886 else l_) (o7360 b_)), A7361, c7362, l7363, (by exact Kn.pick (ks := [13]) hk rfl), (hs.relab0 (fun l_ => if l_ = 893 then 886 else l_) rfl), (f7364.relab (fun l_ => if l_ = 893 then 886 else l_) rfl), hc7365, H⟩
    · rw [b7437] at hk H
      replace H := bifT H
      refine x_if hk (b := true) rfl ?_
      refine (show Code.wpIn _ _ _ _ _ _ _ from ?_)
      refine wpIn_skip ?_
      refine then_n ?_
      refine x_seq ?_
      refine wpIn_block ?_
      refine x_seq ?_
      refine wpIn_region_lit ?_
      obtain ⟨q7438, H⟩ := ifS H
      obtain ⟨ad7439, hAad7439⟩ := RdC.addr (Own.rd f7059.now) q7438
      have hk_C := hk
      have f7059_C := f7059
      have f7364_C := f7364
      have f900000_C := f900000
      have f900020_C := f900020
      subst hAad7439
      have hk := hk_C
      clear hk_C
      have f7059 := f7059_C
      clear f7059_C
      have f7364 := f7364_C
      clear f7364_C
      have f900000 := f900000_C
      clear f900000_C
      have f900020 := f900020_C
      clear f900020_C
      refine x_run tab hk (k := 5) (lv := [.int .i64 (rdD 0 l7058 x7366)]) (ks := [0, 1, 2, 7, 13, 14, 15]) (e' := [(0, .slice Ap0 (p0).length cp0), (1, .slice Ap1 (p1).length cp1), (2, .int .i64 p2), (7, .slice (some ad7439) (l7058).length c7057), (13, .slice A7361 (l7363).length c7362), (14, .int .i64 x7366), (15, .int .i64 (rdD 0 l7058 x7366))]) rfl ⟨q7438, (load1 tab rfl (RdC.at0 (E := (encInt .i64)) (d := 0) (i := x7366) (Own.rd f7059.now) q7438 rfl)), trivial⟩ fun a hk => ?_
      refine wpListIn_nil ?_
      refine then_n ?_
      refine x_seq ?_
      refine x_seq ?_
      refine wpIn_region_lit ?_
      refine x_run tab hk (k := 3) (lv := []) (ks := [0, 1, 2, 7, 13, 14, 15, 88, 89, 90]) (e' := [(0, .slice Ap0 (p0).length cp0), (1, .slice Ap1 (p1).length cp1), (2, .int .i64 p2), (7, .slice (some ad7439) (l7058).length c7057), (13, .slice A7361 (l7363).length c7362), (14, .int .i64 x7366), (15, .int .i64 (rdD 0 l7058 x7366)), (88, .int .i64 p2), (89, .slice Ap0 (p0).length cp0), (90, .int .i64 (rdD 0 l7058 x7366))]) rfl trivial fun a hk => ?_
      refine x_op hk rfl ?_
      obtain ⟨t7443, hc7444, H⟩ := bindS H
      refine op_call hk ent_31 (vs := [.slice Ap0 (p0).length cp0, .int .i64 (rdD 0 l7058 x7366)]) rfl (tidewrackref13_Has_calls K Ap0 cp0 p0 (rdD 0 l7058 x7366) _ o7360 _ f900000 hcp0   _ hc7444) ?_
      rintro _ w7445 ⟨o7446, rfl, st7447⟩
      replace f7059 := f7059.st st7447 (by decide)
      replace f7364 := f7364.st st7447 (by decide)
      replace f900000 := f900000.st st7447 (by decide)
      replace f900020 := f900020.st st7447 (by decide)
      replace hs := hs.loc0 st7447 (by decide)
      have hk := hk.put 91 (.bool t7443) rfl
      refine x_run tab hk (k := 2) (lv := []) (ks := [0, 1, 2, 7, 13, 14, 15, 88, 91, 92, 93]) (e' := [(0, .slice Ap0 (p0).length cp0), (1, .slice Ap1 (p1).length cp1), (2, .int .i64 p2), (7, .slice (some ad7439) (l7058).length c7057), (13, .slice A7361 (l7363).length c7362), (14, .int .i64 x7366), (15, .int .i64 (rdD 0 l7058 x7366)), (88, .int .i64 p2), (91, .bool t7443), (92, .slice Ap1 (p1).length cp1), (93, .int .i64 (rdD 0 l7058 x7366))]) rfl trivial fun a hk => ?_
      refine x_op hk rfl ?_
      obtain ⟨t7451, hc7452, H⟩ := bindS H
      refine op_call hk ent_31 (vs := [.slice Ap1 (p1).length cp1, .int .i64 (rdD 0 l7058 x7366)]) rfl (tidewrackref13_Has_calls K Ap1 cp1 p1 (rdD 0 l7058 x7366) _ o7446 _ f900020 hcp1   _ hc7452) ?_
      rintro _ w7453 ⟨o7454, rfl, st7455⟩
      replace f7059 := f7059.st st7455 (by decide)
      replace f7364 := f7364.st st7455 (by decide)
      replace f900000 := f900000.st st7455 (by decide)
      replace f900020 := f900020.st st7455 (by decide)
      replace hs := hs.loc0 st7455 (by decide)
      have hk := hk.put 94 (.bool t7451) rfl
      refine x_op hk rfl ?_
      obtain ⟨t7459, hc7460, H⟩ := bindS H
      refine op_call hk ent_45 (vs := [.int .i64 p2, .bool t7443, .bool t7451]) rfl (tidewrackref13_keep_calls p2 t7443 t7451 _ o7454    _ hc7460) ?_
      rintro _ w7461 ⟨o7462, rfl, st7463⟩
      replace f7059 := f7059.st st7463 (by decide)
      replace f7364 := f7364.st st7463 (by decide)
      replace f900000 := f900000.st st7463 (by decide)
      replace f900020 := f900020.st st7463 (by decide)
      replace hs := hs.loc0 st7463 (by decide)
      have hk := hk.put 95 (.bool t7459) rfl
      refine x_run tab hk (k := 1) (lv := []) (ks := [0, 1, 2, 7, 13, 14, 15, 96]) (e' := [(0, .slice Ap0 (p0).length cp0), (1, .slice Ap1 (p1).length cp1), (2, .int .i64 p2), (7, .slice (some ad7439) (l7058).length c7057), (13, .slice A7361 (l7363).length c7362), (14, .int .i64 x7366), (15, .int .i64 (rdD 0 l7058 x7366)), (96, .bool (!t7459))]) rfl trivial fun a hk => ?_
      refine wpListIn_nil ?_
      refine then_n ?_
      cases b7464 : (!t7459)
      · rw [b7464] at hk H
        replace H := bifF H
        refine x_if hk (b := false) rfl ?_
        refine (show Code.wpIn _ _ _ _ _ _ _ from ?_)
        refine wpIn_skip ?_
        refine then_n ?_
        refine x_seq ?_
        refine wpIn_region_lit ?_
        refine x_run tab hk (k := 3) (lv := []) (ks := [0, 1, 2, 7, 13, 14, 15, 16]) (e' := [(0, .slice Ap0 (p0).length cp0), (1, .slice Ap1 (p1).length cp1), (2, .int .i64 p2), (7, .slice (some ad7439) (l7058).length c7057), (13, .slice A7361 (l7363).length c7362), (14, .int .i64 x7366), (15, .int .i64 (rdD 0 l7058 x7366)), (16, .int .i64 ((l7363).length : Int))]) rfl trivial fun a hk => ?_
        refine wpListIn_nil ?_
        refine then_n ?_
        refine x_mid (fun a_ w_ => ∃ o7474 : Nat → Nat, ∃ x7475 : Bool, Kn 132 a_ [(0, .slice Ap0 (p0).length cp0), (1, .slice Ap1 (p1).length cp1), (2, .int .i64 p2), (7, .slice (some ad7439) (l7058).length c7057), (13, .slice A7361 (l7363).length c7362), (14, .int .i64 x7366), (15, .int .i64 (rdD 0 l7058 x7366)), (16, .int .i64 ((l7363).length : Int)), (110, .bool x7475)] ∧ St [] w (fun _ => 0) w_ o7474 ∧ Ft (Own (encInt .i64) 3 (.slice (some ad7439) (l7058).length c7057) l7058) w_ o7474 897 ∧ Ft (Own ET30 31 (.slice A7361 (l7363).length c7362) l7363) w_ o7474 898 ∧ Ft (RdC ET30 Ap0 p0) w_ o7474 0 ∧ Ft (RdC ET30 Ap1 p1) w_ o7474 0 ∧ tidewrackref13_build_j4 l7058 l7363 x7366 lp7435 x7475 = some r) ?_ ?_
        rotate_left
        · rintro a w7476 ⟨o7474, x7475, hk, hs, f7059, f7364, f900000, f900020, H⟩
          rw [tidewrackref13_build_j4] at H
          cases b7477 : x7475
          · rw [b7477] at hk H
            replace H := bifF H
            refine x_if hk (b := false) rfl ?_
            refine (show Code.wpIn _ _ _ _ _ _ _ from ?_)
            refine wpIn_region_lit ?_
            obtain ⟨q7478, H⟩ := ifS H
            refine x_run tab hk (k := 8) (lv := [.int .i64 (rdD 0 l7058 (IntKind.wrap .i64 (x7366 + 1)))]) (ks := [0, 1, 2, 7, 14, 121, 128]) (e' := [(0, .slice Ap0 (p0).length cp0), (1, .slice Ap1 (p1).length cp1), (2, .int .i64 p2), (7, .slice (some ad7439) (l7058).length c7057), (14, .int .i64 x7366), (121, .slice A7361 (l7363).length c7362), (128, .agg #[.int .i64 (rdD 0 l7058 x7366), .int .i64 (rdD 0 l7058 (IntKind.wrap .i64 (x7366 + 1)))])]) rfl ⟨q7478, (load1 tab rfl (RdC.at0 (E := (encInt .i64)) (d := 0) (i := (IntKind.wrap .i64 (x7366 + 1))) (Own.rd f7059.now) q7478 rfl)), trivial⟩ fun a hk => ?_
            refine x_op hk rfl ?_
            refine op_slice (o := o7474) tab hk (vs := [.agg #[.int .i64 (rdD 0 l7058 x7366), .int .i64 (rdD 0 l7058 (IntKind.wrap .i64 (x7366 + 1)))]]) (cs := [.int .i64 (rdD 0 l7058 x7366), .int .i64 (rdD 0 l7058 (IntKind.wrap .i64 (x7366 + 1)))]) rfl rfl rfl rfl rfl rfl rfl rfl rfl 899 fun bx7482 w7479 o7480 st7481 f7483 => ?_
            replace f7059 := f7059.st st7481 (by decide)
            replace f7364 := f7364.st st7481 (by decide)
            replace f900000 := f900000.st st7481 (by decide)
            replace f900020 := f900020.st st7481 (by decide)
            replace hs := hs.loc0 st7481 (by decide)
            have f7484 : Ft (Own ET30 31 (.slice (some ⟨bx7482, 0, none⟩) (([(⟨(rdD 0 l7058 x7366), (rdD 0 l7058 (IntKind.wrap .i64 (x7366 + 1)))⟩ : T30)] : List T30)).length 1) ([(⟨(rdD 0 l7058 x7366), (rdD 0 l7058 (IntKind.wrap .i64 (x7366 + 1)))⟩ : T30)] : List T30)) w7479 o7480 899 := f7483.imp fun _ h_ => Own.of_box h_ rfl (by simp)
            have hk := hk.put 129 (.slice (some ⟨bx7482, 0, none⟩) (([(⟨(rdD 0 l7058 x7366), (rdD 0 l7058 (IntKind.wrap .i64 (x7366 + 1)))⟩ : T30)] : List T30)).length 1) rfl
            refine x_op hk rfl ?_
            obtain ⟨q7488, H⟩ := ifS H
            refine op_append (o := o7480) (E := ET30) (xs := l7363) (ys := ([(⟨(rdD 0 l7058 x7366), (rdD 0 l7058 (IntKind.wrap .i64 (x7366 + 1)))⟩ : T30)] : List T30)) tab hk rfl rfl rfl rfl rfl rfl rfl f7364 (Own.rd f7484.now) q7488 fun A7489 c7490 w7485 o7486 st7487 f7491 hc7492 => ?_
            replace f7059 := f7059.st st7487 (by decide)
            replace f7484 := f7484.st st7487 (by decide)
            replace f900000 := f900000.st st7487 (by decide)
            replace f900020 := f900020.st st7487 (by decide)
            replace hs := hs.loc0 st7487 (by decide)
            have hk := hk.put 130 (.slice A7489 ((l7363 ++ ([(⟨(rdD 0 l7058 x7366), (rdD 0 l7058 (IntKind.wrap .i64 (x7366 + 1)))⟩ : T30)] : List T30))).length c7490) rfl
            refine x_run tab hk (k := 1) (lv := []) (ks := [0, 1, 2, 7, 13, 14]) (e' := [(0, .slice Ap0 (p0).length cp0), (1, .slice Ap1 (p1).length cp1), (2, .int .i64 p2), (7, .slice (some ad7439) (l7058).length c7057), (13, .slice A7489 ((l7363 ++ ([(⟨(rdD 0 l7058 x7366), (rdD 0 l7058 (IntKind.wrap .i64 (x7366 + 1)))⟩ : T30)] : List T30))).length c7490), (14, .int .i64 x7366)]) rfl trivial fun a hk => ?_
            refine wpListIn_nil ?_
            refine blk_n ?_
            refine then_n ?_
            refine wpIn_region_lit ?_
            refine x_run tab hk (k := 3) (lv := []) (ks := [0, 1, 2, 7, 13, 14]) (e' := [(0, .slice Ap0 (p0).length cp0), (1, .slice Ap1 (p1).length cp1), (2, .int .i64 p2), (7, .slice (some ad7439) (l7058).length c7057), (13, .slice A7489 ((l7363 ++ ([(⟨(rdD 0 l7058 x7366), (rdD 0 l7058 (IntKind.wrap .i64 (x7366 + 1)))⟩ : T30)] : List T30))).length c7490), (14, .int .i64 (IntKind.wrap .i64 (x7366 + 1)))]) rfl trivial fun a hk => ?_
            refine wpListIn_nil ?_
            refine then_n ?_
            exact ⟨k7434, Nat.le_refl _, (fun b_ => (fun l_ => if l_ = 897 then 892 else if l_ = 898 then 893 else l_) (o7486 b_)), A7489, c7490, (l7363 ++ ([(⟨(rdD 0 l7058 x7366), (rdD 0 l7058 (IntKind.wrap .i64 (x7366 + 1)))⟩ : T30)] : List T30)), (IntKind.wrap .i64 (x7366 + 1)), (by exact Kn.pick (ks := [0, 1, 2, 7, 13, 14]) hk rfl), (hs.relab0 (fun l_ => if l_ = 897 then 892 else if l_ = 898 then 893 else l_) rfl), (f7059.relab (fun l_ => if l_ = 897 then 892 else if l_ = 898 then 893 else l_) rfl), (f7491.relab (fun l_ => if l_ = 897 then 892 else if l_ = 898 then 893 else l_) rfl), (f900000.relab (fun l_ => if l_ = 897 then 892 else if l_ = 898 then 893 else l_) rfl), (f900020.relab (fun l_ => if l_ = 897 then 892 else if l_ = 898 then 893 else l_) rfl), hc7492, (hlp7436 ▸ H)⟩
          · rw [b7477] at hk H
            replace H := bifT H
            refine x_if hk (b := true) rfl ?_
            refine (show Code.wpIn _ _ _ _ _ _ _ from ?_)
            refine wpIn_region_lit ?_
            obtain ⟨q7493, H⟩ := ifS H
            obtain ⟨q7494, H⟩ := ifS H
            obtain ⟨ad7495, hAad7495⟩ := RdC.addr (Own.rd f7364.now) q7494
            have hk_C := hk
            have f7059_C := f7059
            have f7364_C := f7364
            have f900000_C := f900000
            have f900020_C := f900020
            subst hAad7495
            have hk := hk_C
            clear hk_C
            have f7059 := f7059_C
            clear f7059_C
            have f7364 := f7364_C
            clear f7364_C
            have f900000 := f900000_C
            clear f900000_C
            have f900020 := f900020_C
            clear f900020_C
            refine x_run tab hk (k := 10) (lv := [.int .i64 (rdD 0 l7058 (IntKind.wrap .i64 (x7366 + 1)))]) (ks := [0, 1, 2, 7, 13, 14, 118, 120]) (e' := [(0, .slice Ap0 (p0).length cp0), (1, .slice Ap1 (p1).length cp1), (2, .int .i64 p2), (7, .slice (some ad7439) (l7058).length c7057), (13, .slice (some ad7495) (l7363).length c7362), (14, .int .i64 x7366), (118, .int .i64 (rdD 0 l7058 (IntKind.wrap .i64 (x7366 + 1)))), (120, .pointer (some ((ad7495.add (Int.toNat (IntKind.wrap .i64 (((l7363).length : Int) - 1)) * 2)).add 1)))]) rfl ⟨q7493, (load1 tab rfl (RdC.at0 (E := (encInt .i64)) (d := 0) (i := (IntKind.wrap .i64 (x7366 + 1))) (Own.rd f7059.now) q7493 rfl)), q7494, trivial⟩ fun a hk => ?_
            refine x_op hk rfl ?_
            refine op_storeO tab hk (E := ET30) (i := (IntKind.wrap .i64 (((l7363).length : Int) - 1))) (j := 1) (dx := zT30) (y' := (⟨(rdD zT30 l7363 (IntKind.wrap .i64 (((l7363).length : Int) - 1))).From, (rdD 0 l7058 (IntKind.wrap .i64 (x7366 + 1)))⟩ : T30)) rfl rfl rfl f7364 rfl q7494 rfl rfl rfl rfl fun w7496 o7497 st7498 f7364_ => ?_
            replace f7059 := f7059.st st7498 (by decide)
            replace f900000 := f900000.st st7498 (by decide)
            replace f900020 := f900020.st st7498 (by decide)
            replace hs := hs.loc0 st7498 (by decide)
            replace f7364 := f7364_
            have hl7499 : (List.set l7363 (Int.toNat (IntKind.wrap .i64 (((l7363).length : Int) - 1))) (⟨(rdD zT30 l7363 (IntKind.wrap .i64 (((l7363).length : Int) - 1))).From, (rdD 0 l7058 (IntKind.wrap .i64 (x7366 + 1)))⟩ : T30)).length = (l7363).length := List.length_set
            replace hk := Kn.re hk [0, 1, 2, 7, 13, 14, 118] (e2 := [(0, .slice Ap0 (p0).length cp0), (1, .slice Ap1 (p1).length cp1), (2, .int .i64 p2), (7, .slice (some ad7439) (l7058).length c7057), (13, .slice (some ad7495) ((List.set l7363 (Int.toNat (IntKind.wrap .i64 (((l7363).length : Int) - 1))) (⟨(rdD zT30 l7363 (IntKind.wrap .i64 (((l7363).length : Int) - 1))).From, (rdD 0 l7058 (IntKind.wrap .i64 (x7366 + 1)))⟩ : T30))).length c7362), (14, .int .i64 x7366), (118, .int .i64 (rdD 0 l7058 (IntKind.wrap .i64 (x7366 + 1))))]) rfl (by rw [hl7499])
            refine wpListIn_nil ?_
            refine blk_n ?_
            refine then_n ?_
            refine wpIn_region_lit ?_
            refine x_run tab hk (k := 3) (lv := []) (ks := [0, 1, 2, 7, 13, 14]) (e' := [(0, .slice Ap0 (p0).length cp0), (1, .slice Ap1 (p1).length cp1), (2, .int .i64 p2), (7, .slice (some ad7439) (l7058).length c7057), (13, .slice (some ad7495) ((List.set l7363 (Int.toNat (IntKind.wrap .i64 (((l7363).length : Int) - 1))) (⟨(rdD zT30 l7363 (IntKind.wrap .i64 (((l7363).length : Int) - 1))).From, (rdD 0 l7058 (IntKind.wrap .i64 (x7366 + 1)))⟩ : T30))).length c7362), (14, .int .i64 (IntKind.wrap .i64 (x7366 + 1)))]) rfl trivial fun a hk => ?_
            refine wpListIn_nil ?_
            refine then_n ?_
            exact ⟨k7434, Nat.le_refl _, (fun b_ => (fun l_ => if l_ = 897 then 892 else if l_ = 898 then 893 else l_) (o7497 b_)), (some ad7495), c7362, (List.set l7363 (Int.toNat (IntKind.wrap .i64 (((l7363).length : Int) - 1))) (⟨(rdD zT30 l7363 (IntKind.wrap .i64 (((l7363).length : Int) - 1))).From, (rdD 0 l7058 (IntKind.wrap .i64 (x7366 + 1)))⟩ : T30)), (IntKind.wrap .i64 (x7366 + 1)), (by exact Kn.pick (ks := [0, 1, 2, 7, 13, 14]) hk rfl), (hs.relab0 (fun l_ => if l_ = 897 then 892 else if l_ = 898 then 893 else l_) rfl), (f7059.relab (fun l_ => if l_ = 897 then 892 else if l_ = 898 then 893 else l_) rfl), (f7364.relab (fun l_ => if l_ = 897 then 892 else if l_ = 898 then 893 else l_) rfl), (f900000.relab (fun l_ => if l_ = 897 then 892 else if l_ = 898 then 893 else l_) rfl), (f900020.relab (fun l_ => if l_ = 897 then 892 else if l_ = 898 then 893 else l_) rfl), (by rw [List.length_set]; exact hc7365), (hlp7436 ▸ H)⟩
        refine wpIn_region_lit ?_
        refine x_run tab hk (k := 3) (lv := []) (ks := [0, 1, 2, 7, 13, 14, 15, 16, 101]) (e' := [(0, .slice Ap0 (p0).length cp0), (1, .slice Ap1 (p1).length cp1), (2, .int .i64 p2), (7, .slice (some ad7439) (l7058).length c7057), (13, .slice A7361 (l7363).length c7362), (14, .int .i64 x7366), (15, .int .i64 (rdD 0 l7058 x7366)), (16, .int .i64 ((l7363).length : Int)), (101, .bool (decide (((l7363).length : Int) > (0 : Int))))]) rfl trivial fun a hk => ?_
        cases b7500 : (decide (((l7363).length : Int) > (0 : Int)))
        · rw [b7500] at hk H
          replace H := bifF H
          refine x_run tab hk (k := 9) (lv := []) (ks := [0, 1, 2, 7, 13, 14, 15, 16, 110]) (e' := [(0, .slice Ap0 (p0).length cp0), (1, .slice Ap1 (p1).length cp1), (2, .int .i64 p2), (7, .slice (some ad7439) (l7058).length c7057), (13, .slice A7361 (l7363).length c7362), (14, .int .i64 x7366), (15, .int .i64 (rdD 0 l7058 x7366)), (16, .int .i64 ((l7363).length : Int)), (110, .bool false)]) rfl trivial fun a hk => ?_
          refine wpListIn_nil ?_
          refine then_n ?_
          exact ⟨(fun b_ => (fun l_ => if l_ = 892 then 897 else if l_ = 893 then 898 else l_) (o7462 b_)), false, (by exact Kn.pick (ks := [0, 1, 2, 7, 13, 14, 15, 16, 110]) hk rfl), (hs.relab0 (fun l_ => if l_ = 892 then 897 else if l_ = 893 then 898 else l_) rfl), (f7059.relab (fun l_ => if l_ = 892 then 897 else if l_ = 893 then 898 else l_) rfl), (f7364.relab (fun l_ => if l_ = 892 then 897 else if l_ = 893 then 898 else l_) rfl), (f900000.relab (fun l_ => if l_ = 892 then 897 else if l_ = 893 then 898 else l_) rfl), (f900020.relab (fun l_ => if l_ = 892 then 897 else if l_ = 893 then 898 else l_) rfl), H⟩
        · rw [b7500] at hk H
          replace H := bifT H
          obtain ⟨q7501, H⟩ := ifS H
          obtain ⟨ad7502, hAad7502⟩ := RdC.addr (Own.rd f7364.now) q7501
          have hk_C := hk
          have f7059_C := f7059
          have f7364_C := f7364
          have f900000_C := f900000
          have f900020_C := f900020
          subst hAad7502
          have hk := hk_C
          clear hk_C
          have f7059 := f7059_C
          clear f7059_C
          have f7364 := f7364_C
          clear f7364_C
          have f900000 := f900000_C
          clear f900000_C
          have f900020 := f900020_C
          clear f900020_C
          refine x_run tab hk (k := 9) (lv := [.int .i64 ((rdD zT30 l7363 (IntKind.wrap .i64 (((l7363).length : Int) - 1))).To)]) (ks := [0, 1, 2, 7, 13, 14, 15, 16, 110]) (e' := [(0, .slice Ap0 (p0).length cp0), (1, .slice Ap1 (p1).length cp1), (2, .int .i64 p2), (7, .slice (some ad7439) (l7058).length c7057), (13, .slice (some ad7502) (l7363).length c7362), (14, .int .i64 x7366), (15, .int .i64 (rdD 0 l7058 x7366)), (16, .int .i64 ((l7363).length : Int)), (110, .bool (((rdD zT30 l7363 (IntKind.wrap .i64 (((l7363).length : Int) - 1))).To) == (rdD 0 l7058 x7366)))]) rfl ⟨q7501, (load1 tab rfl (RdC.at (E := ET30) (d := zT30) (i := (IntKind.wrap .i64 (((l7363).length : Int) - 1))) (j := 1) (Own.rd f7364.now) q7501 rfl)), trivial⟩ fun a hk => ?_
          refine wpListIn_nil ?_
          refine then_n ?_
          exact ⟨(fun b_ => (fun l_ => if l_ = 892 then 897 else if l_ = 893 then 898 else l_) (o7462 b_)), (((rdD zT30 l7363 (IntKind.wrap .i64 (((l7363).length : Int) - 1))).To) == (rdD 0 l7058 x7366)), (by exact Kn.pick (ks := [0, 1, 2, 7, 13, 14, 15, 16, 110]) hk rfl), (hs.relab0 (fun l_ => if l_ = 892 then 897 else if l_ = 893 then 898 else l_) rfl), (f7059.relab (fun l_ => if l_ = 892 then 897 else if l_ = 893 then 898 else l_) rfl), (f7364.relab (fun l_ => if l_ = 892 then 897 else if l_ = 893 then 898 else l_) rfl), (f900000.relab (fun l_ => if l_ = 892 then 897 else if l_ = 893 then 898 else l_) rfl), (f900020.relab (fun l_ => if l_ = 892 then 897 else if l_ = 893 then 898 else l_) rfl), H⟩
      · rw [b7464] at hk H
        replace H := bifT H
        refine x_if hk (b := true) rfl ?_
        refine (show Code.wpIn _ _ _ _ _ _ _ from ?_)
        refine wpIn_exit ?_
        refine then_x ?_
        refine blk_x ?_
        refine then_n ?_
        refine wpIn_region_lit ?_
        refine x_run tab hk (k := 3) (lv := []) (ks := [0, 1, 2, 7, 13, 14]) (e' := [(0, .slice Ap0 (p0).length cp0), (1, .slice Ap1 (p1).length cp1), (2, .int .i64 p2), (7, .slice (some ad7439) (l7058).length c7057), (13, .slice A7361 (l7363).length c7362), (14, .int .i64 (IntKind.wrap .i64 (x7366 + 1)))]) rfl trivial fun a hk => ?_
        refine wpListIn_nil ?_
        refine then_n ?_
        exact ⟨k7434, Nat.le_refl _, o7462, A7361, c7362, l7363, (IntKind.wrap .i64 (x7366 + 1)), (by exact Kn.pick (ks := [0, 1, 2, 7, 13, 14]) hk rfl), hs, f7059, f7364, f900000, f900020, hc7365, (hlp7436 ▸ H)⟩
  refine x_seq ?_
  refine wpIn_region_lit ?_
  refine x_op hk rfl ?_
  refine op_slice (o := o2) tab hk (vs := []) (cs := []) rfl rfl rfl rfl rfl rfl rfl rfl rfl 900 fun bx7506 w7503 o7504 st7505 f7507 => ?_
  replace f6 := f6.st st7505 (by decide)
  replace f900000 := f900000.st st7505 (by decide)
  replace f900020 := f900020.st st7505 (by decide)
  replace hs := hs.loc0 st7505 (by decide)
  have f7508 : Ft (Own ET30 31 (.slice (some ⟨bx7506, 0, none⟩) (([] : List T30)).length 0) ([] : List T30)) w7503 o7504 900 := f7507.imp fun _ h_ => Own.of_box h_ rfl (by simp)
  have hk := hk.put 18 (.slice (some ⟨bx7506, 0, none⟩) (([] : List T30)).length 0) rfl
  refine x_run tab hk (k := 1) (lv := []) (ks := [0, 1, 2, 7, 18, 19]) (e' := [(0, .slice Ap0 (p0).length cp0), (1, .slice Ap1 (p1).length cp1), (2, .int .i64 p2), (7, .slice (some ⟨bx4, 0, none⟩) (([] : List Int)).length 0), (18, .slice (some ⟨bx7506, 0, none⟩) (([] : List T30)).length 0), (19, .slice Ap0 (p0).length cp0)]) rfl trivial fun a hk => ?_
  refine x_op hk rfl ?_
  obtain ⟨q7512, H⟩ := ifS H
  refine op_append (o := o7504) (E := ET30) (xs := ([] : List T30)) (ys := p0) tab hk rfl rfl rfl rfl rfl rfl rfl f7508 f900000.now q7512 fun A7513 c7514 w7509 o7510 st7511 f7515 hc7516 => ?_
  replace f6 := f6.st st7511 (by decide)
  replace f900000 := f900000.st st7511 (by decide)
  replace f900020 := f900020.st st7511 (by decide)
  replace hs := hs.loc0 st7511 (by decide)
  have hk := hk.put 20 (.slice A7513 ((([] : List T30) ++ p0)).length c7514) rfl
  refine x_run tab hk (k := 1) (lv := []) (ks := [0, 1, 2, 7, 20, 21]) (e' := [(0, .slice Ap0 (p0).length cp0), (1, .slice Ap1 (p1).length cp1), (2, .int .i64 p2), (7, .slice (some ⟨bx4, 0, none⟩) (([] : List Int)).length 0), (20, .slice A7513 ((([] : List T30) ++ p0)).length c7514), (21, .slice Ap1 (p1).length cp1)]) rfl trivial fun a hk => ?_
  refine x_op hk rfl ?_
  obtain ⟨q7520, H⟩ := ifS H
  refine op_append (o := o7510) (E := ET30) (xs := (([] : List T30) ++ p0)) (ys := p1) tab hk rfl rfl rfl rfl rfl rfl rfl f7515 f900020.now q7520 fun A7521 c7522 w7517 o7518 st7519 f7523 hc7524 => ?_
  replace f6 := f6.st st7519 (by decide)
  replace f900000 := f900000.st st7519 (by decide)
  replace f900020 := f900020.st st7519 (by decide)
  replace hs := hs.loc0 st7519 (by decide)
  have hk := hk.put 22 (.slice A7521 (((([] : List T30) ++ p0) ++ p1)).length c7522) rfl
  refine x_run tab hk (k := 2) (lv := []) (ks := [0, 1, 2, 7, 22, 23, 24]) (e' := [(0, .slice Ap0 (p0).length cp0), (1, .slice Ap1 (p1).length cp1), (2, .int .i64 p2), (7, .slice (some ⟨bx4, 0, none⟩) (([] : List Int)).length 0), (22, .slice A7521 (((([] : List T30) ++ p0) ++ p1)).length c7522), (23, .int .i64 ((((([] : List T30) ++ p0) ++ p1)).length : Int)), (24, .int .i64 0)]) rfl trivial fun a hk => ?_
  refine wpListIn_nil ?_
  refine then_n ?_
  refine wpIn_block ?_
  refine x_loop (fun j_ a_ w_ => ∃ o9818 : Nat → Nat, ∃ A9819 : Option Addr, ∃ c9820 : Nat, ∃ l9821 : List Int, ∃ A9824 : Option Addr, ∃ c9825 : Nat, ∃ x9828 : Int, Kn 132 a_ [(0, .slice Ap0 (p0).length cp0), (1, .slice Ap1 (p1).length cp1), (2, .int .i64 p2), (7, .slice A9819 (l9821).length c9820), (22, .slice A9824 (((([] : List T30) ++ p0) ++ p1)).length c9825), (23, .int .i64 ((((([] : List T30) ++ p0) ++ p1)).length : Int)), (24, .int .i64 x9828)] ∧ St [] w (fun _ => 0) w_ o9818 ∧ Ft (RdC ET30 Ap0 p0) w_ o9818 0 ∧ Ft (RdC ET30 Ap1 p1) w_ o9818 0 ∧ Ft (Own (encInt .i64) 3 (.slice A9819 (l9821).length c9820) l9821) w_ o9818 1191 ∧ Ft (Own ET30 31 (.slice A9824 (((([] : List T30) ++ p0) ++ p1)).length c9825) ((([] : List T30) ++ p0) ++ p1)) w_ o9818 1192 ∧ (l9821).length ≤ c9820 ∧ (((([] : List T30) ++ p0) ++ p1)).length ≤ c9825 ∧ tidewrackref13_build_l5 K p0 p1 p2 j_ l9821 x9828 = some r) (k := K) ⟨(fun b_ => (fun l_ => if l_ = 1 then 1191 else if l_ = 900 then 1192 else l_) (o7518 b_)), (some ⟨bx4, 0, none⟩), 0, ([] : List Int), A7521, c7522, 0, (by exact Kn.pick (ks := [0, 1, 2, 7, 22, 23, 24]) hk rfl), (hs.relab0 (fun l_ => if l_ = 1 then 1191 else if l_ = 900 then 1192 else l_) rfl), (f900000.relab (fun l_ => if l_ = 1 then 1191 else if l_ = 900 then 1192 else l_) rfl), (f900020.relab (fun l_ => if l_ = 1 then 1191 else if l_ = 900 then 1192 else l_) rfl), (f6.relab (fun l_ => if l_ = 1 then 1191 else if l_ = 900 then 1192 else l_) rfl), (f7523.relab (fun l_ => if l_ = 1 then 1191 else if l_ = 900 then 1192 else l_) rfl), (Nat.le_refl _), hc7524, H⟩ (by rintro _ _ ⟨_, _, _, _, _, _, _, _, _, _, _, _, _, _, _, H_⟩; exact absurd (show (none : Option (List T30)) = some r from H_) (by simp)) ?_
  rintro k12184 a w12183 ⟨o9818, A9819, c9820, l9821, A9824, c9825, x9828, hk, hs, f900000, f900020, f9822, f9826, hc9823, hc9827, H⟩
  rw [tidewrackref13_build_l5] at H
  obtain ⟨lp12185, hlp12186⟩ : ∃ lp_, lp_ = tidewrackref13_build_l5 K p0 p1 p2 k12184 := ⟨_, rfl⟩
  rw [← hlp12186] at H
  refine x_seq ?_
  refine wpIn_region_lit ?_
  refine x_run tab hk (k := 1) (lv := []) (ks := [0, 1, 2, 7, 22, 23, 24, 25]) (e' := [(0, .slice Ap0 (p0).length cp0), (1, .slice Ap1 (p1).length cp1), (2, .int .i64 p2), (7, .slice A9819 (l9821).length c9820), (22, .slice A9824 (((([] : List T30) ++ p0) ++ p1)).length c9825), (23, .int .i64 ((((([] : List T30) ++ p0) ++ p1)).length : Int)), (24, .int .i64 x9828), (25, .bool (decide (x9828 < ((((([] : List T30) ++ p0) ++ p1)).length : Int))))]) rfl trivial fun a hk => ?_
  refine wpListIn_nil ?_
  refine then_n ?_
  refine x_seq ?_
  cases b12187 : (decide (x9828 < ((((([] : List T30) ++ p0) ++ p1)).length : Int)))
  · rw [b12187] at hk H
    replace H := bifF H
    refine x_if hk (b := false) rfl ?_
    refine (show Code.wpIn _ _ _ _ _ _ _ from ?_)
    refine wpIn_exit ?_
    refine then_x ?_
    refine then_x ?_
    refine blk_x ?_
    refine then_n ?_
    exact ⟨(fun b_ => (fun l_ => if l_ = 1191 then 871 else l_) (o9818 b_)), A9819, c9820, l9821, (by exact Kn.pick (ks := [0, 1, 2, 7]) hk rfl), (hs.relab0 (fun l_ => if l_ = 1191 then 871 else l_) rfl), (f9822.relab (fun l_ => if l_ = 1191 then 871 else l_) rfl), (f900000.relab (fun l_ => if l_ = 1191 then 871 else l_) rfl), (f900020.relab (fun l_ => if l_ = 1191 then 871 else l_) rfl), hc9823, H⟩
  · rw [b12187] at hk H
    replace H := bifT H
    refine x_if hk (b := true) rfl ?_
    refine (show Code.wpIn _ _ _ _ _ _ _ from ?_)
    refine wpIn_skip ?_
    refine then_n ?_
    refine x_mid (fun a_ w_ => ∃ o13366 : Nat → Nat, ∃ A13367 : Option Addr, ∃ c13368 : Nat, ∃ l13369 : List Int, ∃ A13372 : Option Addr, ∃ c13373 : Nat, Kn 132 a_ [(0, .slice Ap0 (p0).length cp0), (1, .slice Ap1 (p1).length cp1), (2, .int .i64 p2), (7, .slice A13367 (l13369).length c13368), (22, .slice A13372 (((([] : List T30) ++ p0) ++ p1)).length c13373), (23, .int .i64 ((((([] : List T30) ++ p0) ++ p1)).length : Int)), (24, .int .i64 x9828)] ∧ St [] w (fun _ => 0) w_ o13366 ∧ Ft (Own (encInt .i64) 3 (.slice A13367 (l13369).length c13368) l13369) w_ o13366 1624 ∧ Ft (Own ET30 31 (.slice A13372 (((([] : List T30) ++ p0) ++ p1)).length c13373) ((([] : List T30) ++ p0) ++ p1)) w_ o13366 1625 ∧ Ft (RdC ET30 Ap0 p0) w_ o13366 0 ∧ Ft (RdC ET30 Ap1 p1) w_ o13366 0 ∧ (l13369).length ≤ c13368 ∧ (((([] : List T30) ++ p0) ++ p1)).length ≤ c13373 ∧ tidewrackref13_build_j6 x9828 lp12185 l13369 = some r) ?_ ?_
    rotate_left
    · rintro a w13376 ⟨o13366, A13367, c13368, l13369, A13372, c13373, hk, hs, f13370, f13374, f900000, f900020, hc13371, hc13375, H⟩
      rw [tidewrackref13_build_j6] at H
      refine wpIn_region_lit ?_
      refine x_run tab hk (k := 2) (lv := []) (ks := [0, 1, 2, 7, 22, 23, 24]) (e' := [(0, .slice Ap0 (p0).length cp0), (1, .slice Ap1 (p1).length cp1), (2, .int .i64 p2), (7, .slice A13367 (l13369).length c13368), (22, .slice A13372 (((([] : List T30) ++ p0) ++ p1)).length c13373), (23, .int .i64 ((((([] : List T30) ++ p0) ++ p1)).length : Int)), (24, .int .i64 (IntKind.wrap .i64 (x9828 + 1)))]) rfl trivial fun a hk => ?_
      refine wpListIn_nil ?_
      refine then_n ?_
      exact ⟨k12184, Nat.le_refl _, (fun b_ => (fun l_ => if l_ = 1624 then 1191 else if l_ = 1625 then 1192 else l_) (o13366 b_)), A13367, c13368, l13369, A13372, c13373, (IntKind.wrap .i64 (x9828 + 1)), (by exact Kn.pick (ks := [0, 1, 2, 7, 22, 23, 24]) hk rfl), (hs.relab0 (fun l_ => if l_ = 1624 then 1191 else if l_ = 1625 then 1192 else l_) rfl), (f900000.relab (fun l_ => if l_ = 1624 then 1191 else if l_ = 1625 then 1192 else l_) rfl), (f900020.relab (fun l_ => if l_ = 1624 then 1191 else if l_ = 1625 then 1192 else l_) rfl), (f13370.relab (fun l_ => if l_ = 1624 then 1191 else if l_ = 1625 then 1192 else l_) rfl), (f13374.relab (fun l_ => if l_ = 1624 then 1191 else if l_ = 1625 then 1192 else l_) rfl), hc13371, hc13375, (hlp12186 ▸ H)⟩
    refine wpIn_block ?_
    refine x_seq ?_
    refine wpIn_region_lit ?_
    obtain ⟨q13377, H⟩ := ifS H
    obtain ⟨ad13378, hAad13378⟩ := RdC.addr (Own.rd f9826.now) q13377
    have hk_C := hk
    have f900000_C := f900000
    have f900020_C := f900020
    have f9822_C := f9822
    have f9826_C := f9826
    subst hAad13378
    have hk := hk_C
    clear hk_C
    have f900000 := f900000_C
    clear f900000_C
    have f900020 := f900020_C
    clear f900020_C
    have f9822 := f9822_C
    clear f9822_C
    have f9826 := f9826_C
    clear f9826_C
    refine x_run tab hk (k := 2) (lv := [.agg #[.int .i64 ((rdD zT30 ((([] : List T30) ++ p0) ++ p1) x9828).From), .int .i64 ((rdD zT30 ((([] : List T30) ++ p0) ++ p1) x9828).To)]]) (ks := [0, 1, 2, 7, 22, 23, 24, 27]) (e' := [(0, .slice Ap0 (p0).length cp0), (1, .slice Ap1 (p1).length cp1), (2, .int .i64 p2), (7, .slice A9819 (l9821).length c9820), (22, .slice (some ad13378) (((([] : List T30) ++ p0) ++ p1)).length c9825), (23, .int .i64 ((((([] : List T30) ++ p0) ++ p1)).length : Int)), (24, .int .i64 x9828), (27, .agg #[.int .i64 ((rdD zT30 ((([] : List T30) ++ p0) ++ p1) x9828).From), .int .i64 ((rdD zT30 ((([] : List T30) ++ p0) ++ p1) x9828).To)])]) rfl ⟨q13377, (load_elem (E := ET30) (i := x9828) (dx := zT30) tab rfl rfl (Own.rd f9826.now) q13377), trivial⟩ fun a hk => ?_
    refine x_op hk rfl ?_
    refine op_alloc (o := o9818) tab (t := 31) (cs := [.int .i64 0, .int .i64 0]) rfl rfl 1626 fun bx13382 w13379 o13380 st13381 f13383 => ?_
    replace f900000 := f900000.st st13381 (by decide)
    replace f900020 := f900020.st st13381 (by decide)
    replace f9822 := f9822.st st13381 (by decide)
    replace f9826 := f9826.st st13381 (by decide)
    replace hs := hs.loc0 st13381 (by decide)
    have hk := hk.put 9 (.pointer (some ⟨bx13382, 0, none⟩)) rfl
    refine x_op hk rfl ?_
    refine op_store tab hk (t := 31) (v := .agg #[.int .i64 ((rdD zT30 ((([] : List T30) ++ p0) ++ p1) x9828).From), .int .i64 ((rdD zT30 ((([] : List T30) ++ p0) ++ p1) x9828).To)]) (b := bx13382) (k := 0) (cs' := [.int .i64 ((rdD zT30 ((([] : List T30) ++ p0) ++ p1) x9828).From), .int .i64 ((rdD zT30 ((([] : List T30) ++ p0) ++ p1) x9828).To)]) rfl rfl rfl rfl rfl rfl f13383 rfl rfl fun w13384 o13385 st13386 f13383_ => ?_
    replace f900000 := f900000.st st13386 (by decide)
    replace f900020 := f900020.st st13386 (by decide)
    replace f9822 := f9822.st st13386 (by decide)
    replace f9826 := f9826.st st13386 (by decide)
    replace hs := hs.loc0 st13386 (by decide)
    replace f13383 := f13383_
    refine wpListIn_nil ?_
    refine then_n ?_
    refine x_seq ?_
    refine wpIn_region_lit ?_
    refine x_run tab hk (k := 4) (lv := [.int .i64 ((rdD zT30 ((([] : List T30) ++ p0) ++ p1) x9828).From), .int .i64 ((rdD zT30 ((([] : List T30) ++ p0) ++ p1) x9828).To)]) (ks := [0, 1, 2, 7, 22, 23, 24, 29, 31]) (e' := [(0, .slice Ap0 (p0).length cp0), (1, .slice Ap1 (p1).length cp1), (2, .int .i64 p2), (7, .slice A9819 (l9821).length c9820), (22, .slice (some ad13378) (((([] : List T30) ++ p0) ++ p1)).length c9825), (23, .int .i64 ((((([] : List T30) ++ p0) ++ p1)).length : Int)), (24, .int .i64 x9828), (29, .int .i64 ((rdD zT30 ((([] : List T30) ++ p0) ++ p1) x9828).From)), (31, .int .i64 ((rdD zT30 ((([] : List T30) ++ p0) ++ p1) x9828).To))]) rfl ⟨(load1 tab rfl ((Bx.cell f13383.now 0).trans rfl)), (load1 tab rfl ((Bx.cell f13383.now 1).trans rfl)), trivial⟩ fun a hk => ?_
    refine x_op hk rfl ?_
    refine op_slice (o := o13385) tab hk (vs := [.int .i64 ((rdD zT30 ((([] : List T30) ++ p0) ++ p1) x9828).From), .int .i64 ((rdD zT30 ((([] : List T30) ++ p0) ++ p1) x9828).To)]) (cs := [.int .i64 ((rdD zT30 ((([] : List T30) ++ p0) ++ p1) x9828).From), .int .i64 ((rdD zT30 ((([] : List T30) ++ p0) ++ p1) x9828).To)]) rfl rfl rfl rfl rfl rfl rfl rfl rfl 1627 fun bx13390 w13387 o13388 st13389 f13391 => ?_
    replace f900000 := f900000.st st13389 (by decide)
    replace f900020 := f900020.st st13389 (by decide)
    replace f9822 := f9822.st st13389 (by decide)
    replace f9826 := f9826.st st13389 (by decide)
    replace hs := hs.loc0 st13389 (by decide)
    have f13392 : Ft (Own (encInt .i64) 3 (.slice (some ⟨bx13390, 0, none⟩) (([(rdD zT30 ((([] : List T30) ++ p0) ++ p1) x9828).From, (rdD zT30 ((([] : List T30) ++ p0) ++ p1) x9828).To] : List Int)).length 2) ([(rdD zT30 ((([] : List T30) ++ p0) ++ p1) x9828).From, (rdD zT30 ((([] : List T30) ++ p0) ++ p1) x9828).To] : List Int)) w13387 o13388 1627 := f13391.imp fun _ h_ => Own.of_box h_ rfl (by simp)
    have hk := hk.put 32 (.slice (some ⟨bx13390, 0, none⟩) (([(rdD zT30 ((([] : List T30) ++ p0) ++ p1) x9828).From, (rdD zT30 ((([] : List T30) ++ p0) ++ p1) x9828).To] : List Int)).length 2) rfl
    refine x_run tab hk (k := 2) (lv := []) (ks := [0, 1, 2, 7, 22, 23, 24, 32, 33, 34]) (e' := [(0, .slice Ap0 (p0).length cp0), (1, .slice Ap1 (p1).length cp1), (2, .int .i64 p2), (7, .slice A9819 (l9821).length c9820), (22, .slice (some ad13378) (((([] : List T30) ++ p0) ++ p1)).length c9825), (23, .int .i64 ((((([] : List T30) ++ p0) ++ p1)).length : Int)), (24, .int .i64 x9828), (32, .slice (some ⟨bx13390, 0, none⟩) (([(rdD zT30 ((([] : List T30) ++ p0) ++ p1) x9828).From, (rdD zT30 ((([] : List T30) ++ p0) ++ p1) x9828).To] : List Int)).length 2), (33, .int .i64 ((([(rdD zT30 ((([] : List T30) ++ p0) ++ p1) x9828).From, (rdD zT30 ((([] : List T30) ++ p0) ++ p1) x9828).To] : List Int)).length : Int)), (34, .int .i64 0)]) rfl trivial fun a hk => ?_
    refine wpListIn_nil ?_
    refine then_n ?_
    refine wpIn_block ?_
    refine x_loop (fun j_ a_ w_ => ∃ o13774 : Nat → Nat, ∃ A13775 : Option Addr, ∃ c13776 : Nat, ∃ l13777 : List Int, ∃ x13780 : Int, Kn 132 a_ [(0, .slice Ap0 (p0).length cp0), (1, .slice Ap1 (p1).length cp1), (2, .int .i64 p2), (7, .slice A13775 (l13777).length c13776), (22, .slice (some ad13378) (((([] : List T30) ++ p0) ++ p1)).length c9825), (23, .int .i64 ((((([] : List T30) ++ p0) ++ p1)).length : Int)), (24, .int .i64 x9828), (32, .slice (some ⟨bx13390, 0, none⟩) (([(rdD zT30 ((([] : List T30) ++ p0) ++ p1) x9828).From, (rdD zT30 ((([] : List T30) ++ p0) ++ p1) x9828).To] : List Int)).length 2), (33, .int .i64 ((([(rdD zT30 ((([] : List T30) ++ p0) ++ p1) x9828).From, (rdD zT30 ((([] : List T30) ++ p0) ++ p1) x9828).To] : List Int)).length : Int)), (34, .int .i64 x13780)] ∧ St [] w (fun _ => 0) w_ o13774 ∧ Ft (Own (encInt .i64) 3 (.slice (some ⟨bx13390, 0, none⟩) (([(rdD zT30 ((([] : List T30) ++ p0) ++ p1) x9828).From, (rdD zT30 ((([] : List T30) ++ p0) ++ p1) x9828).To] : List Int)).length 2) ([(rdD zT30 ((([] : List T30) ++ p0) ++ p1) x9828).From, (rdD zT30 ((([] : List T30) ++ p0) ++ p1) x9828).To] : List Int)) w_ o13774 1678 ∧ Ft (Own (encInt .i64) 3 (.slice A13775 (l13777).length c13776) l13777) w_ o13774 1676 ∧ Ft (RdC ET30 Ap0 p0) w_ o13774 0 ∧ Ft (RdC ET30 Ap1 p1) w_ o13774 0 ∧ Ft (Own ET30 31 (.slice (some ad13378) (((([] : List T30) ++ p0) ++ p1)).length c9825) ((([] : List T30) ++ p0) ++ p1)) w_ o13774 1677 ∧ (l13777).length ≤ c13776 ∧ tidewrackref13_build_l7 K p0 p1 x9828 lp12185 j_ l13777 x13780 = some r) (k := K) ⟨(fun b_ => (fun l_ => if l_ = 1191 then 1676 else if l_ = 1192 then 1677 else if l_ = 1627 then 1678 else l_) (o13388 b_)), A9819, c9820, l9821, 0, (by exact Kn.pick (ks := [0, 1, 2, 7, 22, 23, 24, 32, 33, 34]) hk rfl), (hs.relab0 (fun l_ => if l_ = 1191 then 1676 else if l_ = 1192 then 1677 else if l_ = 1627 then 1678 else l_) rfl), (f13392.relab (fun l_ => if l_ = 1191 then 1676 else if l_ = 1192 then 1677 else if l_ = 1627 then 1678 else l_) rfl), (f9822.relab (fun l_ => if l_ = 1191 then 1676 else if l_ = 1192 then 1677 else if l_ = 1627 then 1678 else l_) rfl), (f900000.relab (fun l_ => if l_ = 1191 then 1676 else if l_ = 1192 then 1677 else if l_ = 1627 then 1678 else l_) rfl), (f900020.relab (fun l_ => if l_ = 1191 then 1676 else if l_ = 1192 then 1677 else if l_ = 1627 then 1678 else l_) rfl), (f9826.relab (fun l_ => if l_ = 1191 then 1676 else if l_ = 1192 then 1677 else if l_ = 1627 then 1678 else l_) rfl), hc9823, H⟩ (by rintro _ _ ⟨_, _, _, _, _, _, _, _, _, _, _, _, _, H_⟩; exact absurd (show (none : Option (List T30)) = some r from H_) (by simp)) ?_
    rintro k14160 a w14159 ⟨o13774, A13775, c13776, l13777, x13780, hk, hs, f13392, f13778, f900000, f900020, f9826, hc13779, H⟩
    rw [tidewrackref13_build_l7] at H
    obtain ⟨lp14161, hlp14162⟩ : ∃ lp_, lp_ = tidewrackref13_build_l7 K p0 p1 x9828 lp12185 k14160 := ⟨_, rfl⟩
    rw [← hlp14162] at H
    refine x_seq ?_
    refine wpIn_region_lit ?_
    refine x_run tab hk (k := 1) (lv := []) (ks := [0, 1, 2, 7, 22, 23, 24, 32, 33, 34, 35]) (e' := [(0, .slice Ap0 (p0).length cp0), (1, .slice Ap1 (p1).length cp1), (2, .int .i64 p2), (7, .slice A13775 (l13777).length c13776), (22, .slice (some ad13378) (((([] : List T30) ++ p0) ++ p1)).length c9825), (23, .int .i64 ((((([] : List T30) ++ p0) ++ p1)).length : Int)), (24, .int .i64 x9828), (32, .slice (some ⟨bx13390, 0, none⟩) (([(rdD zT30 ((([] : List T30) ++ p0) ++ p1) x9828).From, (rdD zT30 ((([] : List T30) ++ p0) ++ p1) x9828).To] : List Int)).length 2), (33, .int .i64 ((([(rdD zT30 ((([] : List T30) ++ p0) ++ p1) x9828).From, (rdD zT30 ((([] : List T30) ++ p0) ++ p1) x9828).To] : List Int)).length : Int)), (34, .int .i64 x13780), (35, .bool (decide (x13780 < ((([(rdD zT30 ((([] : List T30) ++ p0) ++ p1) x9828).From, (rdD zT30 ((([] : List T30) ++ p0) ++ p1) x9828).To] : List Int)).length : Int))))]) rfl trivial fun a hk => ?_
    refine wpListIn_nil ?_
    refine then_n ?_
    refine x_seq ?_
    cases b14163 : (decide (x13780 < ((([(rdD zT30 ((([] : List T30) ++ p0) ++ p1) x9828).From, (rdD zT30 ((([] : List T30) ++ p0) ++ p1) x9828).To] : List Int)).length : Int)))
    · rw [b14163] at hk H
      replace H := bifF H
      refine x_if hk (b := false) rfl ?_
      refine (show Code.wpIn _ _ _ _ _ _ _ from ?_)
      refine wpIn_exit ?_
      refine then_x ?_
      refine then_x ?_
      refine blk_x ?_
      refine blk_n ?_
      refine then_n ?_
      exact ⟨(fun b_ => (fun l_ => if l_ = 1676 then 1624 else if l_ = 1677 then 1625 else l_) (o13774 b_)), A13775, c13776, l13777, (some ad13378), c9825, (by exact Kn.pick (ks := [0, 1, 2, 7, 22, 23, 24]) hk rfl), (hs.relab0 (fun l_ => if l_ = 1676 then 1624 else if l_ = 1677 then 1625 else l_) rfl), (f13778.relab (fun l_ => if l_ = 1676 then 1624 else if l_ = 1677 then 1625 else l_) rfl), (f9826.relab (fun l_ => if l_ = 1676 then 1624 else if l_ = 1677 then 1625 else l_) rfl), (f900000.relab (fun l_ => if l_ = 1676 then 1624 else if l_ = 1677 then 1625 else l_) rfl), (f900020.relab (fun l_ => if l_ = 1676 then 1624 else if l_ = 1677 then 1625 else l_) rfl), hc13779, hc9827, H⟩
    · rw [b14163] at hk H
      replace H := bifT H
      refine x_if hk (b := true) rfl ?_
      refine (show Code.wpIn _ _ _ _ _ _ _ from ?_)
      refine wpIn_skip ?_
      refine then_n ?_
      refine x_mid (fun a_ w_ => ∃ o14354 : Nat → Nat, ∃ A14355 : Option Addr, ∃ c14356 : Nat, ∃ l14357 : List Int, Kn 132 a_ [(0, .slice Ap0 (p0).length cp0), (1, .slice Ap1 (p1).length cp1), (2, .int .i64 p2), (7, .slice A14355 (l14357).length c14356), (22, .slice (some ad13378) (((([] : List T30) ++ p0) ++ p1)).length c9825), (23, .int .i64 ((((([] : List T30) ++ p0) ++ p1)).length : Int)), (24, .int .i64 x9828), (32, .slice (some ⟨bx13390, 0, none⟩) (([(rdD zT30 ((([] : List T30) ++ p0) ++ p1) x9828).From, (rdD zT30 ((([] : List T30) ++ p0) ++ p1) x9828).To] : List Int)).length 2), (33, .int .i64 ((([(rdD zT30 ((([] : List T30) ++ p0) ++ p1) x9828).From, (rdD zT30 ((([] : List T30) ++ p0) ++ p1) x9828).To] : List Int)).length : Int)), (34, .int .i64 x13780)] ∧ St [] w (fun _ => 0) w_ o14354 ∧ Ft (Own (encInt .i64) 3 (.slice (some ⟨bx13390, 0, none⟩) (([(rdD zT30 ((([] : List T30) ++ p0) ++ p1) x9828).From, (rdD zT30 ((([] : List T30) ++ p0) ++ p1) x9828).To] : List Int)).length 2) ([(rdD zT30 ((([] : List T30) ++ p0) ++ p1) x9828).From, (rdD zT30 ((([] : List T30) ++ p0) ++ p1) x9828).To] : List Int)) w_ o14354 1747 ∧ Ft (Own (encInt .i64) 3 (.slice A14355 (l14357).length c14356) l14357) w_ o14354 1745 ∧ Ft (RdC ET30 Ap0 p0) w_ o14354 0 ∧ Ft (RdC ET30 Ap1 p1) w_ o14354 0 ∧ Ft (Own ET30 31 (.slice (some ad13378) (((([] : List T30) ++ p0) ++ p1)).length c9825) ((([] : List T30) ++ p0) ++ p1)) w_ o14354 1746 ∧ (l14357).length ≤ c14356 ∧ tidewrackref13_build_j8 x13780 lp14161 l14357 = some r) ?_ ?_
      rotate_left
      · rintro a w14360 ⟨o14354, A14355, c14356, l14357, hk, hs, f13392, f14358, f900000, f900020, f9826, hc14359, H⟩
        rw [tidewrackref13_build_j8] at H
        refine wpIn_region_lit ?_
        refine x_run tab hk (k := 2) (lv := []) (ks := [0, 1, 2, 7, 22, 23, 24, 32, 33, 34]) (e' := [(0, .slice Ap0 (p0).length cp0), (1, .slice Ap1 (p1).length cp1), (2, .int .i64 p2), (7, .slice A14355 (l14357).length c14356), (22, .slice (some ad13378) (((([] : List T30) ++ p0) ++ p1)).length c9825), (23, .int .i64 ((((([] : List T30) ++ p0) ++ p1)).length : Int)), (24, .int .i64 x9828), (32, .slice (some ⟨bx13390, 0, none⟩) (([(rdD zT30 ((([] : List T30) ++ p0) ++ p1) x9828).From, (rdD zT30 ((([] : List T30) ++ p0) ++ p1) x9828).To] : List Int)).length 2), (33, .int .i64 ((([(rdD zT30 ((([] : List T30) ++ p0) ++ p1) x9828).From, (rdD zT30 ((([] : List T30) ++ p0) ++ p1) x9828).To] : List Int)).length : Int)), (34, .int .i64 (IntKind.wrap .i64 (x13780 + 1)))]) rfl trivial fun a hk => ?_
        refine wpListIn_nil ?_
        refine then_n ?_
        exact ⟨k14160, Nat.le_refl _, (fun b_ => (fun l_ => if l_ = 1745 then 1676 else if l_ = 1746 then 1677 else if l_ = 1747 then 1678 else l_) (o14354 b_)), A14355, c14356, l14357, (IntKind.wrap .i64 (x13780 + 1)), (by exact Kn.pick (ks := [0, 1, 2, 7, 22, 23, 24, 32, 33, 34]) hk rfl), (hs.relab0 (fun l_ => if l_ = 1745 then 1676 else if l_ = 1746 then 1677 else if l_ = 1747 then 1678 else l_) rfl), (f13392.relab (fun l_ => if l_ = 1745 then 1676 else if l_ = 1746 then 1677 else if l_ = 1747 then 1678 else l_) rfl), (f14358.relab (fun l_ => if l_ = 1745 then 1676 else if l_ = 1746 then 1677 else if l_ = 1747 then 1678 else l_) rfl), (f900000.relab (fun l_ => if l_ = 1745 then 1676 else if l_ = 1746 then 1677 else if l_ = 1747 then 1678 else l_) rfl), (f900020.relab (fun l_ => if l_ = 1745 then 1676 else if l_ = 1746 then 1677 else if l_ = 1747 then 1678 else l_) rfl), (f9826.relab (fun l_ => if l_ = 1745 then 1676 else if l_ = 1746 then 1677 else if l_ = 1747 then 1678 else l_) rfl), hc14359, (hlp14162 ▸ H)⟩
      refine wpIn_block ?_
      refine x_seq ?_
      refine wpIn_region_lit ?_
      obtain ⟨q14361, H⟩ := ifS H
      refine x_run tab hk (k := 3) (lv := [.int .i64 (rdD 0 ([(rdD zT30 ((([] : List T30) ++ p0) ++ p1) x9828).From, (rdD zT30 ((([] : List T30) ++ p0) ++ p1) x9828).To] : List Int) x13780)]) (ks := [0, 1, 2, 7, 11, 22, 23, 24, 32, 33, 34]) (e' := [(0, .slice Ap0 (p0).length cp0), (1, .slice Ap1 (p1).length cp1), (2, .int .i64 p2), (7, .slice A13775 (l13777).length c13776), (11, .int .i64 (rdD 0 ([(rdD zT30 ((([] : List T30) ++ p0) ++ p1) x9828).From, (rdD zT30 ((([] : List T30) ++ p0) ++ p1) x9828).To] : List Int) x13780)), (22, .slice (some ad13378) (((([] : List T30) ++ p0) ++ p1)).length c9825), (23, .int .i64 ((((([] : List T30) ++ p0) ++ p1)).length : Int)), (24, .int .i64 x9828), (32, .slice (some ⟨bx13390, 0, none⟩) (([(rdD zT30 ((([] : List T30) ++ p0) ++ p1) x9828).From, (rdD zT30 ((([] : List T30) ++ p0) ++ p1) x9828).To] : List Int)).length 2), (33, .int .i64 ((([(rdD zT30 ((([] : List T30) ++ p0) ++ p1) x9828).From, (rdD zT30 ((([] : List T30) ++ p0) ++ p1) x9828).To] : List Int)).length : Int)), (34, .int .i64 x13780)]) rfl ⟨q14361, (load1 tab rfl (RdC.at0 (E := (encInt .i64)) (d := 0) (i := x13780) (Own.rd f13392.now) q14361 rfl)), trivial⟩ fun a hk => ?_
      refine wpListIn_nil ?_
      refine then_n ?_
      refine x_seq ?_
      refine wpIn_region_lit ?_
      refine x_run tab hk (k := 1) (lv := []) (ks := [0, 1, 2, 7, 11, 12, 22, 23, 24, 32, 33, 34]) (e' := [(0, .slice Ap0 (p0).length cp0), (1, .slice Ap1 (p1).length cp1), (2, .int .i64 p2), (7, .slice A13775 (l13777).length c13776), (11, .int .i64 (rdD 0 ([(rdD zT30 ((([] : List T30) ++ p0) ++ p1) x9828).From, (rdD zT30 ((([] : List T30) ++ p0) ++ p1) x9828).To] : List Int) x13780)), (12, .int .i64 0), (22, .slice (some ad13378) (((([] : List T30) ++ p0) ++ p1)).length c9825), (23, .int .i64 ((((([] : List T30) ++ p0) ++ p1)).length : Int)), (24, .int .i64 x9828), (32, .slice (some ⟨bx13390, 0, none⟩) (([(rdD zT30 ((([] : List T30) ++ p0) ++ p1) x9828).From, (rdD zT30 ((([] : List T30) ++ p0) ++ p1) x9828).To] : List Int)).length 2), (33, .int .i64 ((([(rdD zT30 ((([] : List T30) ++ p0) ++ p1) x9828).From, (rdD zT30 ((([] : List T30) ++ p0) ++ p1) x9828).To] : List Int)).length : Int)), (34, .int .i64 x13780)]) rfl trivial fun a hk => ?_
      refine wpListIn_nil ?_
      refine then_n ?_
      refine x_mid (fun a_ w_ => ∃ o14389 : Nat → Nat, ∃ x14390 : Int, Kn 132 a_ [(0, .slice Ap0 (p0).length cp0), (1, .slice Ap1 (p1).length cp1), (2, .int .i64 p2), (7, .slice A13775 (l13777).length c13776), (11, .int .i64 (rdD 0 ([(rdD zT30 ((([] : List T30) ++ p0) ++ p1) x9828).From, (rdD zT30 ((([] : List T30) ++ p0) ++ p1) x9828).To] : List Int) x13780)), (12, .int .i64 x14390), (22, .slice (some ad13378) (((([] : List T30) ++ p0) ++ p1)).length c9825), (23, .int .i64 ((((([] : List T30) ++ p0) ++ p1)).length : Int)), (24, .int .i64 x9828), (32, .slice (some ⟨bx13390, 0, none⟩) (([(rdD zT30 ((([] : List T30) ++ p0) ++ p1) x9828).From, (rdD zT30 ((([] : List T30) ++ p0) ++ p1) x9828).To] : List Int)).length 2), (33, .int .i64 ((([(rdD zT30 ((([] : List T30) ++ p0) ++ p1) x9828).From, (rdD zT30 ((([] : List T30) ++ p0) ++ p1) x9828).To] : List Int)).length : Int)), (34, .int .i64 x13780)] ∧ St [] w (fun _ => 0) w_ o14389 ∧ Ft (Own (encInt .i64) 3 (.slice (some ⟨bx13390, 0, none⟩) (([(rdD zT30 ((([] : List T30) ++ p0) ++ p1) x9828).From, (rdD zT30 ((([] : List T30) ++ p0) ++ p1) x9828).To] : List Int)).length 2) ([(rdD zT30 ((([] : List T30) ++ p0) ++ p1) x9828).From, (rdD zT30 ((([] : List T30) ++ p0) ++ p1) x9828).To] : List Int)) w_ o14389 1756 ∧ Ft (Own (encInt .i64) 3 (.slice A13775 (l13777).length c13776) l13777) w_ o14389 1754 ∧ Ft (RdC ET30 Ap0 p0) w_ o14389 0 ∧ Ft (RdC ET30 Ap1 p1) w_ o14389 0 ∧ Ft (Own ET30 31 (.slice (some ad13378) (((([] : List T30) ++ p0) ++ p1)).length c9825) ((([] : List T30) ++ p0) ++ p1)) w_ o14389 1755 ∧ tidewrackref13_build_j9 p0 p1 x9828 l13777 x13780 lp14161 x14390 = some r) ?_ ?_
      rotate_left
      · rintro a w14391 ⟨o14389, x14390, hk, hs, f13392, f13778, f900000, f900020, f9826, H⟩
        rw [tidewrackref13_build_j9] at H
        refine x_mid (fun a_ w_ => ∃ o14405 : Nat → Nat, ∃ A14406 : Option Addr, ∃ c14407 : Nat, ∃ x14410 : Bool, Kn 132 a_ [(0, .slice Ap0 (p0).length cp0), (1, .slice Ap1 (p1).length cp1), (2, .int .i64 p2), (7, .slice A14406 (l13777).length c14407), (11, .int .i64 (rdD 0 ([(rdD zT30 ((([] : List T30) ++ p0) ++ p1) x9828).From, (rdD zT30 ((([] : List T30) ++ p0) ++ p1) x9828).To] : List Int) x13780)), (12, .int .i64 x14390), (22, .slice (some ad13378) (((([] : List T30) ++ p0) ++ p1)).length c9825), (23, .int .i64 ((((([] : List T30) ++ p0) ++ p1)).length : Int)), (24, .int .i64 x9828), (32, .slice (some ⟨bx13390, 0, none⟩) (([(rdD zT30 ((([] : List T30) ++ p0) ++ p1) x9828).From, (rdD zT30 ((([] : List T30) ++ p0) ++ p1) x9828).To] : List Int)).length 2), (33, .int .i64 ((([(rdD zT30 ((([] : List T30) ++ p0) ++ p1) x9828).From, (rdD zT30 ((([] : List T30) ++ p0) ++ p1) x9828).To] : List Int)).length : Int)), (34, .int .i64 x13780), (63, .bool x14410)] ∧ St [] w (fun _ => 0) w_ o14405 ∧ Ft (Own (encInt .i64) 3 (.slice (some ⟨bx13390, 0, none⟩) (([(rdD zT30 ((([] : List T30) ++ p0) ++ p1) x9828).From, (rdD zT30 ((([] : List T30) ++ p0) ++ p1) x9828).To] : List Int)).length 2) ([(rdD zT30 ((([] : List T30) ++ p0) ++ p1) x9828).From, (rdD zT30 ((([] : List T30) ++ p0) ++ p1) x9828).To] : List Int)) w_ o14405 1759 ∧ Ft (Own (encInt .i64) 3 (.slice A14406 (l13777).length c14407) l13777) w_ o14405 1757 ∧ Ft (RdC ET30 Ap0 p0) w_ o14405 0 ∧ Ft (RdC ET30 Ap1 p1) w_ o14405 0 ∧ Ft (Own ET30 31 (.slice (some ad13378) (((([] : List T30) ++ p0) ++ p1)).length c9825) ((([] : List T30) ++ p0) ++ p1)) w_ o14405 1758 ∧ (l13777).length ≤ c14407 ∧ tidewrackref13_build_j10 p0 p1 x9828 l13777 x13780 lp14161 x14390 x14410 = some r) ?_ ?_
        rotate_left
        · rintro a w14411 ⟨o14405, A14406, c14407, x14410, hk, hs, f13392, f14408, f900000, f900020, f9826, hc14409, H⟩
          rw [tidewrackref13_build_j10] at H
          cases b14412 : x14410
          · rw [b14412] at hk H
            replace H := bifF H
            refine x_if hk (b := false) rfl ?_
            refine (show Code.wpIn _ _ _ _ _ _ _ from ?_)
            refine wpIn_skip ?_
            refine blk_n ?_
            refine then_n ?_
            exact ⟨(fun b_ => (fun l_ => if l_ = 1757 then 1745 else if l_ = 1758 then 1746 else if l_ = 1759 then 1747 else l_) (o14405 b_)), A14406, c14407, l13777, (by exact Kn.pick (ks := [0, 1, 2, 7, 22, 23, 24, 32, 33, 34]) hk rfl), (hs.relab0 (fun l_ => if l_ = 1757 then 1745 else if l_ = 1758 then 1746 else if l_ = 1759 then 1747 else l_) rfl), (f13392.relab (fun l_ => if l_ = 1757 then 1745 else if l_ = 1758 then 1746 else if l_ = 1759 then 1747 else l_) rfl), (f14408.relab (fun l_ => if l_ = 1757 then 1745 else if l_ = 1758 then 1746 else if l_ = 1759 then 1747 else l_) rfl), (f900000.relab (fun l_ => if l_ = 1757 then 1745 else if l_ = 1758 then 1746 else if l_ = 1759 then 1747 else l_) rfl), (f900020.relab (fun l_ => if l_ = 1757 then 1745 else if l_ = 1758 then 1746 else if l_ = 1759 then 1747 else l_) rfl), (f9826.relab (fun l_ => if l_ = 1757 then 1745 else if l_ = 1758 then 1746 else if l_ = 1759 then 1747 else l_) rfl), hc14409, H⟩
          · rw [b14412] at hk H
            replace H := bifT H
            refine x_if hk (b := true) rfl ?_
            refine (show Code.wpIn _ _ _ _ _ _ _ from ?_)
            refine xd_begin (o := o14405) (fun W_ => True) mixed rfl rfl fun w14481 st14482 => ?_
            replace f13392 := f13392.st st14482 (by decide)
            replace f14408 := f14408.st st14482 (by decide)
            replace f900000 := f900000.st st14482 (by decide)
            replace f900020 := f900020.st st14482 (by decide)
            replace f9826 := f9826.st st14482 (by decide)
            replace hs := hs.loc0 st14482 (by decide)
            obtain ⟨q14483, H⟩ := ifS H
            obtain ⟨q14484, H⟩ := ifS H
            obtain ⟨A14485, c14486, ak14488, f14487, hc14489⟩ := ask_take (P := Try.prog) tab (t := 76) rfl rfl f14408 hc14409 (k := .i64) x14390 q14483 q14484
            obtain ⟨A14490, c14491, ak14493, f14492, hc14494⟩ := ask_cut (P := Try.prog) tab (t := 76) rfl rfl (f14408.imp fun _ h_ => Own.rd h_) hc14409 (some (.int .i64 x14390)) none rfl ⟨q14483, (by have := q14484; omega), trivial⟩ (by have := q14483; have := q14484; omega) (Nat.le_refl _)
            refine xd_take tab hk (k := 4) (is := [0, 1, 2, 3, 5, 6, 7]) (ls' := #[true, true, true, true, false, true, true, true, false, false, false]) (lv := [.slice A14485 ((List.take (Int.toNat x14390) l13777)).length c14486, .slice A14490 ((List.drop (Int.toNat x14390) (List.take (l13777).length l13777))).length c14491]) (ks := [0, 1, 2, 7, 22, 23, 24, 32, 33, 34, 66, 67, 71]) (e' := [(0, .slice Ap0 (p0).length cp0), (1, .slice Ap1 (p1).length cp1), (2, .int .i64 p2), (7, .slice A14406 (l13777).length c14407), (22, .slice (some ad13378) (((([] : List T30) ++ p0) ++ p1)).length c9825), (23, .int .i64 ((((([] : List T30) ++ p0) ++ p1)).length : Int)), (24, .int .i64 x9828), (32, .slice (some ⟨bx13390, 0, none⟩) (([(rdD zT30 ((([] : List T30) ++ p0) ++ p1) x9828).From, (rdD zT30 ((([] : List T30) ++ p0) ++ p1) x9828).To] : List Int)).length 2), (33, .int .i64 ((([(rdD zT30 ((([] : List T30) ++ p0) ++ p1) x9828).From, (rdD zT30 ((([] : List T30) ++ p0) ++ p1) x9828).To] : List Int)).length : Int)), (34, .int .i64 x13780), (66, .slice A14485 ((List.take (Int.toNat x14390) l13777)).length c14486), (67, .int .i64 (rdD 0 ([(rdD zT30 ((([] : List T30) ++ p0) ++ p1) x9828).From, (rdD zT30 ((([] : List T30) ++ p0) ++ p1) x9828).To] : List Int) x13780)), (71, .slice A14490 ((List.drop (Int.toNat x14390) (List.take (l13777).length l13777))).length c14491)]) (by kernel_rfl) rfl rfl (by kernel_rfl) (np_blk (np_then (np_then (np_blk (np_blk (np_then (np_then (np_blk (np_then np_body))))))))) trivial (fun W_ hS => ⟨(ak14488 rfl rfl _), (ak14493 rfl rfl rfl _), trivial⟩) fun a hk => ?_
            refine xd_op hk (i := 4) (by kernel_rfl) rfl rfl ?_
            refine op_slice (o := o14405) tab hk (vs := [.int .i64 (rdD 0 ([(rdD zT30 ((([] : List T30) ++ p0) ++ p1) x9828).From, (rdD zT30 ((([] : List T30) ++ p0) ++ p1) x9828).To] : List Int) x13780)]) (cs := [.int .i64 (rdD 0 ([(rdD zT30 ((([] : List T30) ++ p0) ++ p1) x9828).From, (rdD zT30 ((([] : List T30) ++ p0) ++ p1) x9828).To] : List Int) x13780)]) rfl rfl rfl rfl rfl rfl rfl rfl rfl 1762 fun bx14498 w14495 o14496 st14497 f14499 => ?_
            replace f13392 := f13392.st st14497 (by decide)
            replace f14408 := f14408.st st14497 (by decide)
            replace f14487 := f14487.st st14497 (by decide)
            replace f14492 := f14492.st st14497 (by decide)
            replace f900000 := f900000.st st14497 (by decide)
            replace f900020 := f900020.st st14497 (by decide)
            replace f9826 := f9826.st st14497 (by decide)
            replace hs := hs.loc0 st14497 (by decide)
            have f14500 : Ft (Own (encInt .i64) 3 (.slice (some ⟨bx14498, 0, none⟩) (([(rdD 0 ([(rdD zT30 ((([] : List T30) ++ p0) ++ p1) x9828).From, (rdD zT30 ((([] : List T30) ++ p0) ++ p1) x9828).To] : List Int) x13780)] : List Int)).length 1) ([(rdD 0 ([(rdD zT30 ((([] : List T30) ++ p0) ++ p1) x9828).From, (rdD zT30 ((([] : List T30) ++ p0) ++ p1) x9828).To] : List Int) x13780)] : List Int)) w14495 o14496 1762 := f14499.imp fun _ h_ => Own.of_box h_ rfl (by simp)
            have hk := hk.put 68 (.slice (some ⟨bx14498, 0, none⟩) (([(rdD 0 ([(rdD zT30 ((([] : List T30) ++ p0) ++ p1) x9828).From, (rdD zT30 ((([] : List T30) ++ p0) ++ p1) x9828).To] : List Int) x13780)] : List Int)).length 1) rfl
            refine ⟨.inr trivial, ?_⟩
            refine xd_op hk (i := 8) (by kernel_rfl) rfl rfl ?_
            obtain ⟨q14504, H⟩ := ifS H
            refine op_append (o := o14496) (E := (encInt .i64)) (xs := ([(rdD 0 ([(rdD zT30 ((([] : List T30) ++ p0) ++ p1) x9828).From, (rdD zT30 ((([] : List T30) ++ p0) ++ p1) x9828).To] : List Int) x13780)] : List Int)) (ys := (List.drop (Int.toNat x14390) (List.take (l13777).length l13777))) tab hk rfl rfl rfl rfl rfl rfl rfl f14500 f14492.now q14504 fun A14505 c14506 w14501 o14502 st14503 f14507 hc14508 => ?_
            replace f13392 := f13392.st st14503 (by decide)
            replace f14408 := f14408.st st14503 (by decide)
            replace f14487 := f14487.st st14503 (by decide)
            replace f14492 := f14492.st st14503 (by decide)
            replace f900000 := f900000.st st14503 (by decide)
            replace f900020 := f900020.st st14503 (by decide)
            replace f9826 := f9826.st st14503 (by decide)
            replace hs := hs.loc0 st14503 (by decide)
            have hk := hk.put 72 (.slice A14505 ((([(rdD 0 ([(rdD zT30 ((([] : List T30) ++ p0) ++ p1) x9828).From, (rdD zT30 ((([] : List T30) ++ p0) ++ p1) x9828).To] : List Int) x13780)] : List Int) ++ (List.drop (Int.toNat x14390) (List.take (l13777).length l13777)))).length c14506) rfl
            refine ⟨.inr trivial, ?_⟩
            refine xd_op hk (i := 9) (by kernel_rfl) rfl rfl ?_
            obtain ⟨q14512, H⟩ := ifS H
            refine op_append (o := o14502) (E := (encInt .i64)) (xs := (List.take (Int.toNat x14390) l13777)) (ys := (([(rdD 0 ([(rdD zT30 ((([] : List T30) ++ p0) ++ p1) x9828).From, (rdD zT30 ((([] : List T30) ++ p0) ++ p1) x9828).To] : List Int) x13780)] : List Int) ++ (List.drop (Int.toNat x14390) (List.take (l13777).length l13777)))) tab hk rfl rfl rfl rfl rfl rfl rfl f14487 (Own.rd f14507.now) q14512 fun A14513 c14514 w14509 o14510 st14511 f14515 hc14516 => ?_
            replace f13392 := f13392.st st14511 (by decide)
            replace f14507 := f14507.st st14511 (by decide)
            replace f900000 := f900000.st st14511 (by decide)
            replace f900020 := f900020.st st14511 (by decide)
            replace f9826 := f9826.st st14511 (by decide)
            replace hs := hs.loc0 st14511 (by decide)
            have hk := hk.put 73 (.slice A14513 (((List.take (Int.toNat x14390) l13777) ++ (([(rdD 0 ([(rdD zT30 ((([] : List T30) ++ p0) ++ p1) x9828).From, (rdD zT30 ((([] : List T30) ++ p0) ++ p1) x9828).To] : List Int) x13780)] : List Int) ++ (List.drop (Int.toNat x14390) (List.take (l13777).length l13777))))).length c14514) rfl
            refine ⟨.inr trivial, ?_⟩
            refine xd_take tab hk (k := 0) (is := [10]) (ls' := #[true, true, true, true, true, true, true, true, true, true, true]) (lv := []) (ks := [0, 1, 2, 7, 22, 23, 24, 32, 33, 34]) (e' := [(0, .slice Ap0 (p0).length cp0), (1, .slice Ap1 (p1).length cp1), (2, .int .i64 p2), (7, .slice A14513 (((List.take (Int.toNat x14390) l13777) ++ (([(rdD 0 ([(rdD zT30 ((([] : List T30) ++ p0) ++ p1) x9828).From, (rdD zT30 ((([] : List T30) ++ p0) ++ p1) x9828).To] : List Int) x13780)] : List Int) ++ (List.drop (Int.toNat x14390) (List.take (l13777).length l13777))))).length c14514), (22, .slice (some ad13378) (((([] : List T30) ++ p0) ++ p1)).length c9825), (23, .int .i64 ((((([] : List T30) ++ p0) ++ p1)).length : Int)), (24, .int .i64 x9828), (32, .slice (some ⟨bx13390, 0, none⟩) (([(rdD zT30 ((([] : List T30) ++ p0) ++ p1) x9828).From, (rdD zT30 ((([] : List T30) ++ p0) ++ p1) x9828).To] : List Int)).length 2), (33, .int .i64 ((([(rdD zT30 ((([] : List T30) ++ p0) ++ p1) x9828).From, (rdD zT30 ((([] : List T30) ++ p0) ++ p1) x9828).To] : List Int)).length : Int)), (34, .int .i64 x13780)]) (by kernel_rfl) rfl rfl (by kernel_rfl) (np_blk (np_then (np_then (np_blk (np_blk (np_then (np_then (np_blk (np_then np_body))))))))) trivial (fun W_ hS => trivial) fun a hk => ?_
            refine xd_done (by kernel_rfl) ?_
            refine blk_n ?_
            refine then_n ?_
            exact ⟨(fun b_ => (fun l_ => if l_ = 1757 then 1745 else if l_ = 1758 then 1746 else if l_ = 1759 then 1747 else l_) (o14510 b_)), A14513, c14514, ((List.take (Int.toNat x14390) l13777) ++ (([(rdD 0 ([(rdD zT30 ((([] : List T30) ++ p0) ++ p1) x9828).From, (rdD zT30 ((([] : List T30) ++ p0) ++ p1) x9828).To] : List Int) x13780)] : List Int) ++ (List.drop (Int.toNat x14390) (List.take (l13777).length l13777)))), (by exact Kn.pick (ks := [0, 1, 2, 7, 22, 23, 24, 32, 33, 34]) hk rfl), (hs.relab0 (fun l_ => if l_ = 1757 then 1745 else if l_ = 1758 then 1746 else if l_ = 1759 then 1747 else l_) rfl), (f13392.relab (fun l_ => if l_ = 1757 then 1745 else if l_ = 1758 then 1746 else if l_ = 1759 then 1747 else l_) rfl), (f14515.relab (fun l_ => if l_ = 1757 then 1745 else if l_ = 1758 then 1746 else if l_ = 1759 then 1747 else l_) rfl), (f900000.relab (fun l_ => if l_ = 1757 then 1745 else if l_ = 1758 then 1746 else if l_ = 1759 then 1747 else l_) rfl), (f900020.relab (fun l_ => if l_ = 1757 then 1745 else if l_ = 1758 then 1746 else if l_ = 1759 then 1747 else l_) rfl), (f9826.relab (fun l_ => if l_ = 1757 then 1745 else if l_ = 1758 then 1746 else if l_ = 1759 then 1747 else l_) rfl), hc14516, H⟩
        refine wpIn_region_lit ?_
        refine x_run tab hk (k := 5) (lv := []) (ks := [0, 1, 2, 7, 11, 12, 22, 23, 24, 32, 33, 34, 56]) (e' := [(0, .slice Ap0 (p0).length cp0), (1, .slice Ap1 (p1).length cp1), (2, .int .i64 p2), (7, .slice A13775 (l13777).length c13776), (11, .int .i64 (rdD 0 ([(rdD zT30 ((([] : List T30) ++ p0) ++ p1) x9828).From, (rdD zT30 ((([] : List T30) ++ p0) ++ p1) x9828).To] : List Int) x13780)), (12, .int .i64 x14390), (22, .slice (some ad13378) (((([] : List T30) ++ p0) ++ p1)).length c9825), (23, .int .i64 ((((([] : List T30) ++ p0) ++ p1)).length : Int)), (24, .int .i64 x9828), (32, .slice (some ⟨bx13390, 0, none⟩) (([(rdD zT30 ((([] : List T30) ++ p0) ++ p1) x9828).From, (rdD zT30 ((([] : List T30) ++ p0) ++ p1) x9828).To] : List Int)).length 2), (33, .int .i64 ((([(rdD zT30 ((([] : List T30) ++ p0) ++ p1) x9828).From, (rdD zT30 ((([] : List T30) ++ p0) ++ p1) x9828).To] : List Int)).length : Int)), (34, .int .i64 x13780), (56, .bool (x14390 == ((l13777).length : Int)))]) rfl trivial fun a hk => ?_
        cases b14517 : (x14390 == ((l13777).length : Int))
        · rw [b14517] at hk H
          replace H := bifF H
          obtain ⟨q14518, H⟩ := ifS H
          obtain ⟨ad14519, hAad14519⟩ := RdC.addr (Own.rd f13778.now) q14518
          have hk_C := hk
          have f13392_C := f13392
          have f13778_C := f13778
          have f900000_C := f900000
          have f900020_C := f900020
          have f9826_C := f9826
          subst hAad14519
          have hk := hk_C
          clear hk_C
          have f13392 := f13392_C
          clear f13392_C
          have f13778 := f13778_C
          clear f13778_C
          have f900000 := f900000_C
          clear f900000_C
          have f900020 := f900020_C
          clear f900020_C
          have f9826 := f9826_C
          clear f9826_C
          refine x_run tab hk (k := 7) (lv := [.int .i64 (rdD 0 l13777 x14390)]) (ks := [0, 1, 2, 7, 11, 12, 22, 23, 24, 32, 33, 34, 63]) (e' := [(0, .slice Ap0 (p0).length cp0), (1, .slice Ap1 (p1).length cp1), (2, .int .i64 p2), (7, .slice (some ad14519) (l13777).length c13776), (11, .int .i64 (rdD 0 ([(rdD zT30 ((([] : List T30) ++ p0) ++ p1) x9828).From, (rdD zT30 ((([] : List T30) ++ p0) ++ p1) x9828).To] : List Int) x13780)), (12, .int .i64 x14390), (22, .slice (some ad13378) (((([] : List T30) ++ p0) ++ p1)).length c9825), (23, .int .i64 ((((([] : List T30) ++ p0) ++ p1)).length : Int)), (24, .int .i64 x9828), (32, .slice (some ⟨bx13390, 0, none⟩) (([(rdD zT30 ((([] : List T30) ++ p0) ++ p1) x9828).From, (rdD zT30 ((([] : List T30) ++ p0) ++ p1) x9828).To] : List Int)).length 2), (33, .int .i64 ((([(rdD zT30 ((([] : List T30) ++ p0) ++ p1) x9828).From, (rdD zT30 ((([] : List T30) ++ p0) ++ p1) x9828).To] : List Int)).length : Int)), (34, .int .i64 x13780), (63, .bool ((rdD 0 l13777 x14390) != (rdD 0 ([(rdD zT30 ((([] : List T30) ++ p0) ++ p1) x9828).From, (rdD zT30 ((([] : List T30) ++ p0) ++ p1) x9828).To] : List Int) x13780)))]) rfl ⟨q14518, (load1 tab rfl (RdC.at0 (E := (encInt .i64)) (d := 0) (i := x14390) (Own.rd f13778.now) q14518 rfl)), trivial⟩ fun a hk => ?_
          refine wpListIn_nil ?_
          refine then_n ?_
          exact ⟨(fun b_ => (fun l_ => if l_ = 1754 then 1757 else if l_ = 1755 then 1758 else if l_ = 1756 then 1759 else l_) (o14389 b_)), (some ad14519), c13776, ((rdD 0 l13777 x14390) != (rdD 0 ([(rdD zT30 ((([] : List T30) ++ p0) ++ p1) x9828).From, (rdD zT30 ((([] : List T30) ++ p0) ++ p1) x9828).To] : List Int) x13780)), (by exact Kn.pick (ks := [0, 1, 2, 7, 11, 12, 22, 23, 24, 32, 33, 34, 63]) hk rfl), (hs.relab0 (fun l_ => if l_ = 1754 then 1757 else if l_ = 1755 then 1758 else if l_ = 1756 then 1759 else l_) rfl), (f13392.relab (fun l_ => if l_ = 1754 then 1757 else if l_ = 1755 then 1758 else if l_ = 1756 then 1759 else l_) rfl), (f13778.relab (fun l_ => if l_ = 1754 then 1757 else if l_ = 1755 then 1758 else if l_ = 1756 then 1759 else l_) rfl), (f900000.relab (fun l_ => if l_ = 1754 then 1757 else if l_ = 1755 then 1758 else if l_ = 1756 then 1759 else l_) rfl), (f900020.relab (fun l_ => if l_ = 1754 then 1757 else if l_ = 1755 then 1758 else if l_ = 1756 then 1759 else l_) rfl), (f9826.relab (fun l_ => if l_ = 1754 then 1757 else if l_ = 1755 then 1758 else if l_ = 1756 then 1759 else l_) rfl), hc13779, H⟩
        · rw [b14517] at hk H
          replace H := bifT H
          refine x_run tab hk (k := 7) (lv := []) (ks := [0, 1, 2, 7, 11, 12, 22, 23, 24, 32, 33, 34, 63]) (e' := [(0, .slice Ap0 (p0).length cp0), (1, .slice Ap1 (p1).length cp1), (2, .int .i64 p2), (7, .slice A13775 (l13777).length c13776), (11, .int .i64 (rdD 0 ([(rdD zT30 ((([] : List T30) ++ p0) ++ p1) x9828).From, (rdD zT30 ((([] : List T30) ++ p0) ++ p1) x9828).To] : List Int) x13780)), (12, .int .i64 x14390), (22, .slice (some ad13378) (((([] : List T30) ++ p0) ++ p1)).length c9825), (23, .int .i64 ((((([] : List T30) ++ p0) ++ p1)).length : Int)), (24, .int .i64 x9828), (32, .slice (some ⟨bx13390, 0, none⟩) (([(rdD zT30 ((([] : List T30) ++ p0) ++ p1) x9828).From, (rdD zT30 ((([] : List T30) ++ p0) ++ p1) x9828).To] : List Int)).length 2), (33, .int .i64 ((([(rdD zT30 ((([] : List T30) ++ p0) ++ p1) x9828).From, (rdD zT30 ((([] : List T30) ++ p0) ++ p1) x9828).To] : List Int)).length : Int)), (34, .int .i64 x13780), (63, .bool true)]) rfl trivial fun a hk => ?_
          refine wpListIn_nil ?_
          refine then_n ?_
          exact ⟨(fun b_ => (fun l_ => if l_ = 1754 then 1757 else if l_ = 1755 then 1758 else if l_ = 1756 then 1759 else l_) (o14389 b_)), A13775, c13776, true, (by exact Kn.pick (ks := [0, 1, 2, 7, 11, 12, 22, 23, 24, 32, 33, 34, 63]) hk rfl), (hs.relab0 (fun l_ => if l_ = 1754 then 1757 else if l_ = 1755 then 1758 else if l_ = 1756 then 1759 else l_) rfl), (f13392.relab (fun l_ => if l_ = 1754 then 1757 else if l_ = 1755 then 1758 else if l_ = 1756 then 1759 else l_) rfl), (f13778.relab (fun l_ => if l_ = 1754 then 1757 else if l_ = 1755 then 1758 else if l_ = 1756 then 1759 else l_) rfl), (f900000.relab (fun l_ => if l_ = 1754 then 1757 else if l_ = 1755 then 1758 else if l_ = 1756 then 1759 else l_) rfl), (f900020.relab (fun l_ => if l_ = 1754 then 1757 else if l_ = 1755 then 1758 else if l_ = 1756 then 1759 else l_) rfl), (f9826.relab (fun l_ => if l_ = 1754 then 1757 else if l_ = 1755 then 1758 else if l_ = 1756 then 1759 else l_) rfl), hc13779, H⟩
      refine wpIn_block ?_
      refine x_loop (fun j_ a_ w_ => ∃ o14527 : Nat → Nat, ∃ x14528 : Int, Kn 132 a_ [(0, .slice Ap0 (p0).length cp0), (1, .slice Ap1 (p1).length cp1), (2, .int .i64 p2), (7, .slice A13775 (l13777).length c13776), (11, .int .i64 (rdD 0 ([(rdD zT30 ((([] : List T30) ++ p0) ++ p1) x9828).From, (rdD zT30 ((([] : List T30) ++ p0) ++ p1) x9828).To] : List Int) x13780)), (12, .int .i64 x14528), (22, .slice (some ad13378) (((([] : List T30) ++ p0) ++ p1)).length c9825), (23, .int .i64 ((((([] : List T30) ++ p0) ++ p1)).length : Int)), (24, .int .i64 x9828), (32, .slice (some ⟨bx13390, 0, none⟩) (([(rdD zT30 ((([] : List T30) ++ p0) ++ p1) x9828).From, (rdD zT30 ((([] : List T30) ++ p0) ++ p1) x9828).To] : List Int)).length 2), (33, .int .i64 ((([(rdD zT30 ((([] : List T30) ++ p0) ++ p1) x9828).From, (rdD zT30 ((([] : List T30) ++ p0) ++ p1) x9828).To] : List Int)).length : Int)), (34, .int .i64 x13780)] ∧ St [] w (fun _ => 0) w_ o14527 ∧ Ft (Own (encInt .i64) 3 (.slice (some ⟨bx13390, 0, none⟩) (([(rdD zT30 ((([] : List T30) ++ p0) ++ p1) x9828).From, (rdD zT30 ((([] : List T30) ++ p0) ++ p1) x9828).To] : List Int)).length 2) ([(rdD zT30 ((([] : List T30) ++ p0) ++ p1) x9828).From, (rdD zT30 ((([] : List T30) ++ p0) ++ p1) x9828).To] : List Int)) w_ o14527 1768 ∧ Ft (Own (encInt .i64) 3 (.slice A13775 (l13777).length c13776) l13777) w_ o14527 1766 ∧ Ft (RdC ET30 Ap0 p0) w_ o14527 0 ∧ Ft (RdC ET30 Ap1 p1) w_ o14527 0 ∧ Ft (Own ET30 31 (.slice (some ad13378) (((([] : List T30) ++ p0) ++ p1)).length c9825) ((([] : List T30) ++ p0) ++ p1)) w_ o14527 1767 ∧ tidewrackref13_build_l11 p0 p1 x9828 l13777 x13780 lp14161 j_ x14528 = some r) (k := K) ⟨(fun b_ => (fun l_ => if l_ = 1676 then 1766 else if l_ = 1677 then 1767 else if l_ = 1678 then 1768 else l_) (o13774 b_)), 0, (by exact Kn.pick (ks := [0, 1, 2, 7, 11, 12, 22, 23, 24, 32, 33, 34]) hk rfl), (hs.relab0 (fun l_ => if l_ = 1676 then 1766 else if l_ = 1677 then 1767 else if l_ = 1678 then 1768 else l_) rfl), (f13392.relab (fun l_ => if l_ = 1676 then 1766 else if l_ = 1677 then 1767 else if l_ = 1678 then 1768 else l_) rfl), (f13778.relab (fun l_ => if l_ = 1676 then 1766 else if l_ = 1677 then 1767 else if l_ = 1678 then 1768 else l_) rfl), (f900000.relab (fun l_ => if l_ = 1676 then 1766 else if l_ = 1677 then 1767 else if l_ = 1678 then 1768 else l_) rfl), (f900020.relab (fun l_ => if l_ = 1676 then 1766 else if l_ = 1677 then 1767 else if l_ = 1678 then 1768 else l_) rfl), (f9826.relab (fun l_ => if l_ = 1676 then 1766 else if l_ = 1677 then 1767 else if l_ = 1678 then 1768 else l_) rfl), H⟩ (by rintro _ _ ⟨_, _, _, _, _, _, _, _, _, H_⟩; exact absurd (show (none : Option (List T30)) = some r from H_) (by simp)) ?_
      rintro k14534 a w14533 ⟨o14527, x14528, hk, hs, f13392, f13778, f900000, f900020, f9826, H⟩
      rw [tidewrackref13_build_l11] at H
      obtain ⟨lp14535, hlp14536⟩ : ∃ lp_, lp_ = tidewrackref13_build_l11 p0 p1 x9828 l13777 x13780 lp14161 k14534 := ⟨_, rfl⟩
      rw [← hlp14536] at H
      refine x_seq ?_
      refine x_seq ?_
      refine wpIn_region_lit ?_
      refine x_run tab hk (k := 5) (lv := []) (ks := [0, 1, 2, 7, 11, 12, 22, 23, 24, 32, 33, 34, 42]) (e' := [(0, .slice Ap0 (p0).length cp0), (1, .slice Ap1 (p1).length cp1), (2, .int .i64 p2), (7, .slice A13775 (l13777).length c13776), (11, .int .i64 (rdD 0 ([(rdD zT30 ((([] : List T30) ++ p0) ++ p1) x9828).From, (rdD zT30 ((([] : List T30) ++ p0) ++ p1) x9828).To] : List Int) x13780)), (12, .int .i64 x14528), (22, .slice (some ad13378) (((([] : List T30) ++ p0) ++ p1)).length c9825), (23, .int .i64 ((((([] : List T30) ++ p0) ++ p1)).length : Int)), (24, .int .i64 x9828), (32, .slice (some ⟨bx13390, 0, none⟩) (([(rdD zT30 ((([] : List T30) ++ p0) ++ p1) x9828).From, (rdD zT30 ((([] : List T30) ++ p0) ++ p1) x9828).To] : List Int)).length 2), (33, .int .i64 ((([(rdD zT30 ((([] : List T30) ++ p0) ++ p1) x9828).From, (rdD zT30 ((([] : List T30) ++ p0) ++ p1) x9828).To] : List Int)).length : Int)), (34, .int .i64 x13780), (42, .bool (decide (x14528 < ((l13777).length : Int))))]) rfl trivial fun a hk => ?_
      cases b14537 : (decide (x14528 < ((l13777).length : Int)))
      · rw [b14537] at hk H
        replace H := bifF H
        refine x_run tab hk (k := 7) (lv := []) (ks := [0, 1, 2, 7, 11, 12, 22, 23, 24, 32, 33, 34, 49]) (e' := [(0, .slice Ap0 (p0).length cp0), (1, .slice Ap1 (p1).length cp1), (2, .int .i64 p2), (7, .slice A13775 (l13777).length c13776), (11, .int .i64 (rdD 0 ([(rdD zT30 ((([] : List T30) ++ p0) ++ p1) x9828).From, (rdD zT30 ((([] : List T30) ++ p0) ++ p1) x9828).To] : List Int) x13780)), (12, .int .i64 x14528), (22, .slice (some ad13378) (((([] : List T30) ++ p0) ++ p1)).length c9825), (23, .int .i64 ((((([] : List T30) ++ p0) ++ p1)).length : Int)), (24, .int .i64 x9828), (32, .slice (some ⟨bx13390, 0, none⟩) (([(rdD zT30 ((([] : List T30) ++ p0) ++ p1) x9828).From, (rdD zT30 ((([] : List T30) ++ p0) ++ p1) x9828).To] : List Int)).length 2), (33, .int .i64 ((([(rdD zT30 ((([] : List T30) ++ p0) ++ p1) x9828).From, (rdD zT30 ((([] : List T30) ++ p0) ++ p1) x9828).To] : List Int)).length : Int)), (34, .int .i64 x13780), (49, .bool false)]) rfl trivial fun a hk => ?_
        refine wpListIn_nil ?_
        refine then_n ?_
        refine x_if hk (b := false) rfl ?_
        refine (show Code.wpIn _ _ _ _ _ _ _ from ?_)
        refine wpIn_exit ?_
        refine then_x ?_
        refine then_x ?_
        refine blk_x ?_
        refine then_n ?_
        exact ⟨(fun b_ => (fun l_ => if l_ = 1766 then 1754 else if l_ = 1767 then 1755 else if l_ = 1768 then 1756 else l_) (o14527 b_)), x14528, (by exact Kn.pick (ks := [0, 1, 2, 7, 11, 12, 22, 23, 24, 32, 33, 34]) hk rfl), (hs.relab0 (fun l_ => if l_ = 1766 then 1754 else if l_ = 1767 then 1755 else if l_ = 1768 then 1756 else l_) rfl), (f13392.relab (fun l_ => if l_ = 1766 then 1754 else if l_ = 1767 then 1755 else if l_ = 1768 then 1756 else l_) rfl), (f13778.relab (fun l_ => if l_ = 1766 then 1754 else if l_ = 1767 then 1755 else if l_ = 1768 then 1756 else l_) rfl), (f900000.relab (fun l_ => if l_ = 1766 then 1754 else if l_ = 1767 then 1755 else if l_ = 1768 then 1756 else l_) rfl), (f900020.relab (fun l_ => if l_ = 1766 then 1754 else if l_ = 1767 then 1755 else if l_ = 1768 then 1756 else l_) rfl), (f9826.relab (fun l_ => if l_ = 1766 then 1754 else if l_ = 1767 then 1755 else if l_ = 1768 then 1756 else l_) rfl), H⟩
      · rw [b14537] at hk H
        replace H := bifT H
        obtain ⟨q14538, H⟩ := ifS H
        obtain ⟨ad14539, hAad14539⟩ := RdC.addr (Own.rd f13778.now) q14538
        have hk_C := hk
        have f13392_C := f13392
        have f13778_C := f13778
        have f900000_C := f900000
        have f900020_C := f900020
        have f9826_C := f9826
        subst hAad14539
        have hk := hk_C
        clear hk_C
        have f13392 := f13392_C
        clear f13392_C
        have f13778 := f13778_C
        clear f13778_C
        have f900000 := f900000_C
        clear f900000_C
        have f900020 := f900020_C
        clear f900020_C
        have f9826 := f9826_C
        clear f9826_C
        refine x_run tab hk (k := 7) (lv := [.int .i64 (rdD 0 l13777 x14528)]) (ks := [0, 1, 2, 7, 11, 12, 22, 23, 24, 32, 33, 34, 49]) (e' := [(0, .slice Ap0 (p0).length cp0), (1, .slice Ap1 (p1).length cp1), (2, .int .i64 p2), (7, .slice (some ad14539) (l13777).length c13776), (11, .int .i64 (rdD 0 ([(rdD zT30 ((([] : List T30) ++ p0) ++ p1) x9828).From, (rdD zT30 ((([] : List T30) ++ p0) ++ p1) x9828).To] : List Int) x13780)), (12, .int .i64 x14528), (22, .slice (some ad13378) (((([] : List T30) ++ p0) ++ p1)).length c9825), (23, .int .i64 ((((([] : List T30) ++ p0) ++ p1)).length : Int)), (24, .int .i64 x9828), (32, .slice (some ⟨bx13390, 0, none⟩) (([(rdD zT30 ((([] : List T30) ++ p0) ++ p1) x9828).From, (rdD zT30 ((([] : List T30) ++ p0) ++ p1) x9828).To] : List Int)).length 2), (33, .int .i64 ((([(rdD zT30 ((([] : List T30) ++ p0) ++ p1) x9828).From, (rdD zT30 ((([] : List T30) ++ p0) ++ p1) x9828).To] : List Int)).length : Int)), (34, .int .i64 x13780), (49, .bool (decide ((rdD 0 l13777 x14528) < (rdD 0 ([(rdD zT30 ((([] : List T30) ++ p0) ++ p1) x9828).From, (rdD zT30 ((([] : List T30) ++ p0) ++ p1) x9828).To] : List Int) x13780))))]) rfl ⟨q14538, (load1 tab rfl (RdC.at0 (E := (encInt .i64)) (d := 0) (i := x14528) (Own.rd f13778.now) q14538 rfl)), trivial⟩ fun a hk => ?_
        refine wpListIn_nil ?_
        refine then_n ?_
        cases b14540 : (decide ((rdD 0 l13777 x14528) < (rdD 0 ([(rdD zT30 ((([] : List T30) ++ p0) ++ p1) x9828).From, (rdD zT30 ((([] : List T30) ++ p0) ++ p1) x9828).To] : List Int) x13780)))
        · rw [b14540] at hk H
          replace H := bifF H
          refine x_if hk (b := false) rfl ?_
          refine (show Code.wpIn _ _ _ _ _ _ _ from ?_)
          refine wpIn_exit ?_
          refine then_x ?_
          refine then_x ?_
          refine blk_x ?_
          refine then_n ?_
          exact ⟨(fun b_ => (fun l_ => if l_ = 1766 then 1754 else if l_ = 1767 then 1755 else if l_ = 1768 then 1756 else l_) (o14527 b_)), x14528, (by exact Kn.pick (ks := [0, 1, 2, 7, 11, 12, 22, 23, 24, 32, 33, 34]) hk rfl), (hs.relab0 (fun l_ => if l_ = 1766 then 1754 else if l_ = 1767 then 1755 else if l_ = 1768 then 1756 else l_) rfl), (f13392.relab (fun l_ => if l_ = 1766 then 1754 else if l_ = 1767 then 1755 else if l_ = 1768 then 1756 else l_) rfl), (f13778.relab (fun l_ => if l_ = 1766 then 1754 else if l_ = 1767 then 1755 else if l_ = 1768 then 1756 else l_) rfl), (f900000.relab (fun l_ => if l_ = 1766 then 1754 else if l_ = 1767 then 1755 else if l_ = 1768 then 1756 else l_) rfl), (f900020.relab (fun l_ => if l_ = 1766 then 1754 else if l_ = 1767 then 1755 else if l_ = 1768 then 1756 else l_) rfl), (f9826.relab (fun l_ => if l_ = 1766 then 1754 else if l_ = 1767 then 1755 else if l_ = 1768 then 1756 else l_) rfl), H⟩
        · rw [b14540] at hk H
          replace H := bifT H
          refine x_if hk (b := true) rfl ?_
          refine (show Code.wpIn _ _ _ _ _ _ _ from ?_)
          refine wpIn_skip ?_
          refine then_n ?_
          refine wpIn_block ?_
          refine wpIn_region_lit ?_
          refine x_run tab hk (k := 3) (lv := []) (ks := [0, 1, 2, 7, 11, 12, 22, 23, 24, 32, 33, 34]) (e' := [(0, .slice Ap0 (p0).length cp0), (1, .slice Ap1 (p1).length cp1), (2, .int .i64 p2), (7, .slice (some ad14539) (l13777).length c13776), (11, .int .i64 (rdD 0 ([(rdD zT30 ((([] : List T30) ++ p0) ++ p1) x9828).From, (rdD zT30 ((([] : List T30) ++ p0) ++ p1) x9828).To] : List Int) x13780)), (12, .int .i64 (IntKind.wrap .i64 (x14528 + 1))), (22, .slice (some ad13378) (((([] : List T30) ++ p0) ++ p1)).length c9825), (23, .int .i64 ((((([] : List T30) ++ p0) ++ p1)).length : Int)), (24, .int .i64 x9828), (32, .slice (some ⟨bx13390, 0, none⟩) (([(rdD zT30 ((([] : List T30) ++ p0) ++ p1) x9828).From, (rdD zT30 ((([] : List T30) ++ p0) ++ p1) x9828).To] : List Int)).length 2), (33, .int .i64 ((([(rdD zT30 ((([] : List T30) ++ p0) ++ p1) x9828).From, (rdD zT30 ((([] : List T30) ++ p0) ++ p1) x9828).To] : List Int)).length : Int)), (34, .int .i64 x13780)]) rfl trivial fun a hk => ?_
          refine wpListIn_nil ?_
          refine blk_n ?_
          refine then_n ?_
          exact ⟨k14534, Nat.le_refl _, o14527, (IntKind.wrap .i64 (x14528 + 1)), (by exact Kn.pick (ks := [0, 1, 2, 7, 11, 12, 22, 23, 24, 32, 33, 34]) hk rfl), hs, f13392, f13778, f900000, f900020, f9826, (hlp14536 ▸ H)⟩

/-! tidewrack/tidewrackref13.Add -/
theorem tidewrackref13_Add_calls (K : Nat) (Ap0 : Option Addr) (cp0 : Nat) (p0 : List T30) (p1 : T30) (w : World) (o : Nat → Nat) (Lp0 : Nat) (hp0 : Ft (RdC ET30 Ap0 p0) w o Lp0) (hcp0 : (p0).length ≤ cp0)  (R0 : Nat) (r : List T30) (H : tidewrackref13_Add K p0 p1 = some r) :
    Calls Try.prog 29 #[.slice Ap0 (p0).length cp0, .agg #[.int .i64 p1.From, .int .i64 p1.To]] w (Ret fun v_ w' => ∃ o' : Nat → Nat, ∃ A0 : Option Addr, ∃ c0 : Nat, v_ = .slice A0 (r).length c0 ∧ St [] w o w' o' ∧ Ft (Own ET30 31 (.slice A0 (r).length c0) r) w' o' R0 ∧ (r).length ≤ c0) := by
  refine x_enter (vs := [.slice Ap0 (p0).length cp0, .agg #[.int .i64 p1.From, .int .i64 p1.To]]) Try.func29 rfl rfl rfl fun a hk => ?_
  obtain ⟨o0, hs, h0⟩ := St.start w o
  have f900000 := h0 _ _ hp0
  clear h0
  rw [tidewrackref13_Add] at H
  refine x_seq ?_
  refine wpIn_region_lit ?_
  refine x_op hk rfl ?_
  refine op_box (o := o0) (t := 31) (v := .agg #[.int .i64 p1.From, .int .i64 p1.To]) (cs := [.int .i64 p1.From, .int .i64 p1.To]) hk rfl rfl 1 fun bx4 w1 o2 st3 f5 => ?_
  replace f900000 := f900000.st st3 (by decide)
  replace hs := hs.loc0 st3 (by decide)
  have hk := hk.put 3 (.pointer (some ⟨bx4, 0, none⟩)) rfl
  refine x_run tab hk (k := 1) (lv := []) (ks := [0, 3]) (e' := [(0, .slice Ap0 (p0).length cp0), (3, .pointer (some ⟨bx4, 0, none⟩))]) rfl trivial fun a hk => ?_
  refine wpListIn_nil ?_
  refine then_n ?_
  refine x_seq ?_
  refine wpIn_region_lit ?_
  refine x_run tab hk (k := 2) (lv := [.agg #[.int .i64 p1.From, .int .i64 p1.To]]) (ks := [5, 6]) (e' := [(5, .slice Ap0 (p0).length cp0), (6, .agg #[.int .i64 p1.From, .int .i64 p1.To])]) rfl ⟨(load_box tab rfl rfl f5.now (k := 0) rfl rfl), trivial⟩ fun a hk => ?_
  refine x_op hk rfl ?_
  obtain ⟨t9, hc10, H⟩ := bindS H
  refine op_call hk ent_41 (vs := [.agg #[.int .i64 p1.From, .int .i64 p1.To]]) rfl (tidewrackref13_one_calls p1 _ o2  2  _ hc10) ?_
  rintro _ w11 ⟨o12, A14, c15, rfl, st13, f16, hc17⟩
  replace f900000 := f900000.st st13 (by decide)
  replace hs := hs.loc0 st13 (by decide)
  have hk := hk.put 7 (.slice A14 (t9).length c15) rfl
  refine x_op hk rfl ?_
  obtain ⟨t21, hc22, H⟩ := bindS H
  refine op_call hk ent_40 (vs := [.slice Ap0 (p0).length cp0, .slice A14 (t9).length c15, .int .i64 0]) rfl (tidewrackref13_build_calls K Ap0 cp0 p0 A14 c15 t9 0 _ o12 _ f900000 hcp0 _ (f16.imp fun _ h_ => Own.rd h_) hc17 3  _ hc22) ?_
  rintro _ w23 ⟨o24, A26, c27, rfl, st25, f28, hc29⟩
  replace f16 := f16.st st25 (by decide)
  replace f900000 := f900000.st st25 (by decide)
  replace hs := hs.loc0 st25 (by decide)
  have hk := hk.put 8 (.slice A26 (t21).length c27) rfl
  refine x_run tab hk (k := 1) (lv := []) (ks := [4]) (e' := [(4, .slice A26 (t21).length c27)]) rfl trivial fun a hk => ?_
  refine wpListIn_nil ?_
  refine then_n ?_
  refine wpIn_ret ?_
  obtain rfl := Option.some.inj H
  exact x_retG hk (rs := [.tmp 4]) (vs := [.slice A26 (t21).length c27]) rfl ⟨rfl, trivial⟩ ⟨fun b_ => if b_ < w.heap.size then o b_ else (fun _ => R0) (o24 b_), A26, c27, rfl, hs.close0 o (fun _ => R0), hs.close_ft (o := o) (ρ := fun _ => R0) f28 (by decide) rfl, hc29⟩

/-! tidewrack/tidewrackref13.Cut -/
theorem tidewrackref13_Cut_calls (K : Nat) (Ap0 : Option Addr) (cp0 : Nat) (p0 : List T30) (p1 : T30) (w : World) (o : Nat → Nat) (Lp0 : Nat) (hp0 : Ft (RdC ET30 Ap0 p0) w o Lp0) (hcp0 : (p0).length ≤ cp0)  (R0 : Nat) (r : List T30) (H : tidewrackref13_Cut K p0 p1 = some r) :
    Calls Try.prog 30 #[.slice Ap0 (p0).length cp0, .agg #[.int .i64 p1.From, .int .i64 p1.To]] w (Ret fun v_ w' => ∃ o' : Nat → Nat, ∃ A0 : Option Addr, ∃ c0 : Nat, v_ = .slice A0 (r).length c0 ∧ St [] w o w' o' ∧ Ft (Own ET30 31 (.slice A0 (r).length c0) r) w' o' R0 ∧ (r).length ≤ c0) := by
  refine x_enter (vs := [.slice Ap0 (p0).length cp0, .agg #[.int .i64 p1.From, .int .i64 p1.To]]) Try.func30 rfl rfl rfl fun a hk => ?_
  obtain ⟨o0, hs, h0⟩ := St.start w o
  have f900000 := h0 _ _ hp0
  clear h0
  rw [tidewrackref13_Cut] at H
  refine x_seq ?_
  refine wpIn_region_lit ?_
  refine x_op hk rfl ?_
  refine op_box (o := o0) (t := 31) (v := .agg #[.int .i64 p1.From, .int .i64 p1.To]) (cs := [.int .i64 p1.From, .int .i64 p1.To]) hk rfl rfl 1 fun bx4 w1 o2 st3 f5 => ?_
  replace f900000 := f900000.st st3 (by decide)
  replace hs := hs.loc0 st3 (by decide)
  have hk := hk.put 3 (.pointer (some ⟨bx4, 0, none⟩)) rfl
  refine x_run tab hk (k := 1) (lv := []) (ks := [0, 3]) (e' := [(0, .slice Ap0 (p0).length cp0), (3, .pointer (some ⟨bx4, 0, none⟩))]) rfl trivial fun a hk => ?_
  refine wpListIn_nil ?_
  refine then_n ?_
  refine x_seq ?_
  refine wpIn_region_lit ?_
  refine x_run tab hk (k := 2) (lv := [.agg #[.int .i64 p1.From, .int .i64 p1.To]]) (ks := [5, 6]) (e' := [(5, .slice Ap0 (p0).length cp0), (6, .agg #[.int .i64 p1.From, .int .i64 p1.To])]) rfl ⟨(load_box tab rfl rfl f5.now (k := 0) rfl rfl), trivial⟩ fun a hk => ?_
  refine x_op hk rfl ?_
  obtain ⟨t9, hc10, H⟩ := bindS H
  refine op_call hk ent_41 (vs := [.agg #[.int .i64 p1.From, .int .i64 p1.To]]) rfl (tidewrackref13_one_calls p1 _ o2  2  _ hc10) ?_
  rintro _ w11 ⟨o12, A14, c15, rfl, st13, f16, hc17⟩
  replace f900000 := f900000.st st13 (by decide)
  replace hs := hs.loc0 st13 (by decide)
  have hk := hk.put 7 (.slice A14 (t9).length c15) rfl
  refine x_op hk rfl ?_
  obtain ⟨t21, hc22, H⟩ := bindS H
  refine op_call hk ent_40 (vs := [.slice Ap0 (p0).length cp0, .slice A14 (t9).length c15, .int .i64 1]) rfl (tidewrackref13_build_calls K Ap0 cp0 p0 A14 c15 t9 1 _ o12 _ f900000 hcp0 _ (f16.imp fun _ h_ => Own.rd h_) hc17 3  _ hc22) ?_
  rintro _ w23 ⟨o24, A26, c27, rfl, st25, f28, hc29⟩
  replace f16 := f16.st st25 (by decide)
  replace f900000 := f900000.st st25 (by decide)
  replace hs := hs.loc0 st25 (by decide)
  have hk := hk.put 8 (.slice A26 (t21).length c27) rfl
  refine x_run tab hk (k := 1) (lv := []) (ks := [4]) (e' := [(4, .slice A26 (t21).length c27)]) rfl trivial fun a hk => ?_
  refine wpListIn_nil ?_
  refine then_n ?_
  refine wpIn_ret ?_
  obtain rfl := Option.some.inj H
  exact x_retG hk (rs := [.tmp 4]) (vs := [.slice A26 (t21).length c27]) rfl ⟨rfl, trivial⟩ ⟨fun b_ => if b_ < w.heap.size then o b_ else (fun _ => R0) (o24 b_), A26, c27, rfl, hs.close0 o (fun _ => R0), hs.close_ft (o := o) (ρ := fun _ => R0) f28 (by decide) rfl, hc29⟩

/-! tidewrack/tidewrackref21.Want -/
theorem tidewrackref21_Want_calls (K : Nat) (Ap0_0 : Option Addr) (cp0_0 : Nat) (p0 : T27) (p1 : T30) (Ap2 : Option Addr) (cp2 : Nat) (p2 : List T30) (w : World) (o : Nat → Nat) (Lp0_0 : Nat) (hp0_0 : Ft (RdC ET30 Ap0_0 p0.L) w o Lp0_0) (hcp0_0 : (p0.L).length ≤ cp0_0) (Lp2 : Nat) (hp2 : Ft (RdC ET30 Ap2 p2) w o Lp2) (hcp2 : (p2).length ≤ cp2)  (R0 : Nat) (r : T27) (H : tidewrackref21_Want K p0 p1 p2 = some r) :
    Calls Try.prog 17 #[.agg #[.int .i64 p0.Most, .int .i64 p0.Every, .int .i64 p0.Due, .slice Ap0_0 (p0.L).length cp0_0], .agg #[.int .i64 p1.From, .int .i64 p1.To], .slice Ap2 (p2).length cp2] w (Ret fun v_ w' => ∃ o' : Nat → Nat, ∃ A0 : Option Addr, ∃ c0 : Nat, v_ = .agg #[.int .i64 r.Most, .int .i64 r.Every, .int .i64 r.Due, .slice A0 (r.L).length c0] ∧ St [] w o w' o' ∧ Ft (Own ET30 31 (.slice A0 (r.L).length c0) r.L) w' o' R0 ∧ (r.L).length ≤ c0) := by
  refine x_enter (vs := [.agg #[.int .i64 p0.Most, .int .i64 p0.Every, .int .i64 p0.Due, .slice Ap0_0 (p0.L).length cp0_0], .agg #[.int .i64 p1.From, .int .i64 p1.To], .slice Ap2 (p2).length cp2]) Try.func17 rfl rfl rfl fun a hk => ?_
  obtain ⟨o0, hs, h0⟩ := St.start w o
  have f900000 := h0 _ _ hp0_0
  have f900040 := h0 _ _ hp2
  clear h0
  rw [tidewrackref21_Want] at H
  refine x_seq ?_
  refine wpIn_region_lit ?_
  refine x_op hk rfl ?_
  refine op_box (o := o0) (t := 28) (v := .agg #[.int .i64 p0.Most, .int .i64 p0.Every, .int .i64 p0.Due, .slice Ap0_0 (p0.L).length cp0_0]) (cs := [.int .i64 p0.Most, .int .i64 p0.Every, .int .i64 p0.Due, .slice Ap0_0 (p0.L).length cp0_0]) hk rfl rfl 1 fun bx4 w1 o2 st3 f5 => ?_
  replace f900000 := f900000.st st3 (by decide)
  replace f900040 := f900040.st st3 (by decide)
  replace hs := hs.loc0 st3 (by decide)
  have hk := hk.put 3 (.pointer (some ⟨bx4, 0, none⟩)) rfl
  refine x_op hk rfl ?_
  refine op_box (o := o2) (t := 31) (v := .agg #[.int .i64 p1.From, .int .i64 p1.To]) (cs := [.int .i64 p1.From, .int .i64 p1.To]) hk rfl rfl 2 fun bx9 w6 o7 st8 f10 => ?_
  replace f5 := f5.st st8 (by decide)
  replace f900000 := f900000.st st8 (by decide)
  replace f900040 := f900040.st st8 (by decide)
  replace hs := hs.loc0 st8 (by decide)
  have hk := hk.put 4 (.pointer (some ⟨bx9, 0, none⟩)) rfl
  refine x_op hk rfl ?_
  refine op_alloc (o := o7) tab (t := 28) (cs := [.int .i64 0, .int .i64 0, .int .i64 0, .slice none 0 0]) rfl rfl 3 fun bx14 w11 o12 st13 f15 => ?_
  replace f10 := f10.st st13 (by decide)
  replace f5 := f5.st st13 (by decide)
  replace f900000 := f900000.st st13 (by decide)
  replace f900040 := f900040.st st13 (by decide)
  replace hs := hs.loc0 st13 (by decide)
  have hk := hk.put 6 (.pointer (some ⟨bx14, 0, none⟩)) rfl
  refine wpListIn_nil ?_
  refine then_n ?_
  refine x_seq ?_
  refine wpIn_region_lit ?_
  refine x_run tab hk (k := 5) (lv := [.int .i64 p1.From]) (ks := [2, 3, 4, 6, 7]) (e' := [(2, .slice Ap2 (p2).length cp2), (3, .pointer (some ⟨bx4, 0, none⟩)), (4, .pointer (some ⟨bx9, 0, none⟩)), (6, .pointer (some ⟨bx14, 0, none⟩)), (7, .int .i64 (mxI 0 (mnI p1.From 1152921504606846976)))]) rfl ⟨(load1 tab rfl ((Bx.cell f10.now 0).trans rfl)), trivial⟩ fun a hk => ?_
  refine wpListIn_nil ?_
  refine then_n ?_
  refine x_seq ?_
  refine wpIn_region_lit ?_
  refine x_run tab hk (k := 10) (lv := [.int .i64 p1.To, .int .i64 p0.Most]) (ks := [2, 3, 6, 7, 8]) (e' := [(2, .slice Ap2 (p2).length cp2), (3, .pointer (some ⟨bx4, 0, none⟩)), (6, .pointer (some ⟨bx14, 0, none⟩)), (7, .int .i64 (mxI 0 (mnI p1.From 1152921504606846976))), (8, .int .i64 (mnI (mxI 0 (mnI p1.To 1152921504606846976)) (IntKind.wrap .i64 ((mxI 0 (mnI p1.From 1152921504606846976)) + p0.Most))))]) rfl ⟨(load1 tab rfl ((Bx.cell f10.now 1).trans rfl)), (load1 tab rfl ((Bx.cell f5.now 0).trans rfl)), trivial⟩ fun a hk => ?_
  refine wpListIn_nil ?_
  refine then_n ?_
  refine x_seq ?_
  refine wpIn_region_lit ?_
  refine x_run tab hk (k := 1) (lv := []) (ks := [2, 3, 6, 7, 8, 24]) (e' := [(2, .slice Ap2 (p2).length cp2), (3, .pointer (some ⟨bx4, 0, none⟩)), (6, .pointer (some ⟨bx14, 0, none⟩)), (7, .int .i64 (mxI 0 (mnI p1.From 1152921504606846976))), (8, .int .i64 (mnI (mxI 0 (mnI p1.To 1152921504606846976)) (IntKind.wrap .i64 ((mxI 0 (mnI p1.From 1152921504606846976)) + p0.Most)))), (24, .pointer (some ((⟨bx4, 0, none⟩ : Addr).add 2)))]) rfl trivial fun a hk => ?_
  refine x_op hk rfl ?_
  refine op_store tab hk (t := 3) (v := .int .i64 0) (b := bx4) (k := 2) (cs' := [.int .i64 p0.Most, .int .i64 p0.Every, .int .i64 0, .slice Ap0_0 (p0.L).length cp0_0]) rfl rfl rfl rfl rfl rfl f5 rfl rfl fun w16 o17 st18 f5_ => ?_
  replace f15 := f15.st st18 (by decide)
  replace f900000 := f900000.st st18 (by decide)
  replace f900040 := f900040.st st18 (by decide)
  replace hs := hs.loc0 st18 (by decide)
  replace f5 := f5_
  refine wpListIn_nil ?_
  refine then_n ?_
  refine x_seq ?_
  refine wpIn_region_lit ?_
  refine x_run tab hk (k := 3) (lv := []) (ks := [2, 3, 6, 27]) (e' := [(2, .slice Ap2 (p2).length cp2), (3, .pointer (some ⟨bx4, 0, none⟩)), (6, .pointer (some ⟨bx14, 0, none⟩)), (27, .agg #[.int .i64 (mxI 0 (mnI p1.From 1152921504606846976)), .int .i64 (mnI (mxI 0 (mnI p1.To 1152921504606846976)) (IntKind.wrap .i64 ((mxI 0 (mnI p1.From 1152921504606846976)) + p0.Most)))])]) rfl trivial fun a hk => ?_
  refine x_op hk rfl ?_
  obtain ⟨t22, hc23, H⟩ := bindS H
  refine op_call hk ent_29 (vs := [.slice none 0 0, .agg #[.int .i64 (mxI 0 (mnI p1.From 1152921504606846976)), .int .i64 (mnI (mxI 0 (mnI p1.To 1152921504606846976)) (IntKind.wrap .i64 ((mxI 0 (mnI p1.From 1152921504606846976)) + p0.Most)))]]) rfl (tidewrackref13_Add_calls K none 0 ([] : List T30) (⟨(mxI 0 (mnI p1.From 1152921504606846976)), (mnI (mxI 0 (mnI p1.To 1152921504606846976)) (IntKind.wrap .i64 ((mxI 0 (mnI p1.From 1152921504606846976)) + p0.Most)))⟩ : T30) _ o17 _ (Ft.of_all (fun _ h_ => absurd h_ (by simp)) _ _ 0) (by simp) 4  _ hc23) ?_
  rintro _ w24 ⟨o25, A27, c28, rfl, st26, f29, hc30⟩
  replace f15 := f15.st st26 (by decide)
  replace f5 := f5.st st26 (by decide)
  replace f900000 := f900000.st st26 (by decide)
  replace f900040 := f900040.st st26 (by decide)
  replace hs := hs.loc0 st26 (by decide)
  have hk := hk.put 28 (.slice A27 (t22).length c28) rfl
  refine x_run tab hk (k := 1) (lv := []) (ks := [2, 3, 6, 28, 29]) (e' := [(2, .slice Ap2 (p2).length cp2), (3, .pointer (some ⟨bx4, 0, none⟩)), (6, .pointer (some ⟨bx14, 0, none⟩)), (28, .slice A27 (t22).length c28), (29, .pointer (some ((⟨bx4, 0, none⟩ : Addr).add 3)))]) rfl trivial fun a hk => ?_
  refine x_op hk rfl ?_
  refine op_store tab hk (t := 26) (v := .slice A27 (t22).length c28) (b := bx4) (k := 3) (cs' := [.int .i64 p0.Most, .int .i64 p0.Every, .int .i64 0, .slice A27 (t22).length c28]) rfl rfl rfl rfl rfl rfl f5 rfl rfl fun w31 o32 st33 f5_ => ?_
  replace f15 := f15.st st33 (by decide)
  replace f29 := f29.st st33 (by decide)
  replace f900000 := f900000.st st33 (by decide)
  replace f900040 := f900040.st st33 (by decide)
  replace hs := hs.loc0 st33 (by decide)
  replace f5 := f5_
  refine wpListIn_nil ?_
  refine then_n ?_
  refine x_mid (fun a_ w_ => ∃ o136 : Nat → Nat, ∃ A137 : Option Addr, ∃ c138 : Nat, ∃ l139 : List T30, Kn 43 a_ [(3, .pointer (some ⟨bx4, 0, none⟩)), (6, .pointer (some ⟨bx14, 0, none⟩))] ∧ St [] w (fun _ => 0) w_ o136 ∧ Ft (Own ET30 31 (.slice A137 (l139).length c138) l139) w_ o136 17 ∧ Ft (Bx bx14 28 [.int .i64 0, .int .i64 0, .int .i64 0, .slice none 0 0]) w_ o136 19 ∧ Ft (Bx bx4 28 [.int .i64 p0.Most, .int .i64 p0.Every, .int .i64 0, .slice A137 (l139).length c138]) w_ o136 18 ∧ (l139).length ≤ c138 ∧ tidewrackref21_Want_j1 p0 l139 = some r) ?_ ?_
  rotate_left
  · rintro a w142 ⟨o136, A137, c138, l139, hk, hs, f140, f15, f5, hc141, H⟩
    rw [tidewrackref21_Want_j1] at H
    refine x_seq ?_
    refine wpIn_region_lit ?_
    refine x_run tab hk (k := 1) (lv := [.agg #[.int .i64 p0.Most, .int .i64 p0.Every, .int .i64 0, .slice A137 (l139).length c138]]) (ks := [6, 42]) (e' := [(6, .pointer (some ⟨bx14, 0, none⟩)), (42, .agg #[.int .i64 p0.Most, .int .i64 p0.Every, .int .i64 0, .slice A137 (l139).length c138])]) rfl ⟨(load_box tab rfl rfl f5.now (k := 0) rfl rfl), trivial⟩ fun a hk => ?_
    refine x_op hk rfl ?_
    refine op_store tab hk (t := 28) (v := .agg #[.int .i64 p0.Most, .int .i64 p0.Every, .int .i64 0, .slice A137 (l139).length c138]) (b := bx14) (k := 0) (cs' := [.int .i64 p0.Most, .int .i64 p0.Every, .int .i64 0, .slice A137 (l139).length c138]) rfl rfl rfl rfl rfl rfl f15 rfl rfl fun w143 o144 st145 f15_ => ?_
    replace f140 := f140.st st145 (by decide)
    replace hs := hs.loc0 st145 (by decide)
    replace f15 := f15_
    refine wpListIn_nil ?_
    refine then_n ?_
    refine wpIn_ret ?_
    obtain rfl := Option.some.inj H
    exact x_retG hk (rs := [.cell 6 28]) (vs := [.agg #[.int .i64 p0.Most, .int .i64 p0.Every, .int .i64 0, .slice A137 (l139).length c138]]) rfl ⟨⟨_, rfl, load_box tab rfl rfl f15.now (k := 0) rfl rfl⟩, trivial⟩ ⟨fun b_ => if b_ < w.heap.size then o b_ else (fun _ => R0) (o144 b_), A137, c138, rfl, hs.close0 o (fun _ => R0), hs.close_ft (o := o) (ρ := fun _ => R0) f140 (by decide) rfl, hc141⟩
  refine x_seq ?_
  refine wpIn_region_lit ?_
  refine x_run tab hk (k := 3) (lv := []) (ks := [3, 6, 30, 31, 32]) (e' := [(3, .pointer (some ⟨bx4, 0, none⟩)), (6, .pointer (some ⟨bx14, 0, none⟩)), (30, .slice Ap2 (p2).length cp2), (31, .int .i64 ((p2).length : Int)), (32, .int .i64 0)]) rfl trivial fun a hk => ?_
  refine wpListIn_nil ?_
  refine then_n ?_
  refine wpIn_block ?_
  refine x_loop (fun j_ a_ w_ => ∃ o175 : Nat → Nat, ∃ A176 : Option Addr, ∃ c177 : Nat, ∃ l178 : List T30, ∃ x181 : Int, Kn 43 a_ [(3, .pointer (some ⟨bx4, 0, none⟩)), (6, .pointer (some ⟨bx14, 0, none⟩)), (30, .slice Ap2 (p2).length cp2), (31, .int .i64 ((p2).length : Int)), (32, .int .i64 x181)] ∧ St [] w (fun _ => 0) w_ o175 ∧ Ft (Bx bx14 28 [.int .i64 0, .int .i64 0, .int .i64 0, .slice none 0 0]) w_ o175 27 ∧ Ft (Own ET30 31 (.slice A176 (l178).length c177) l178) w_ o175 25 ∧ Ft (Bx bx4 28 [.int .i64 p0.Most, .int .i64 p0.Every, .int .i64 0, .slice A176 (l178).length c177]) w_ o175 26 ∧ Ft (RdC ET30 Ap2 p2) w_ o175 0 ∧ (l178).length ≤ c177 ∧ tidewrackref21_Want_l2 K p0 p2 j_ l178 x181 = some r) (k := K) ⟨(fun b_ => (fun l_ => if l_ = 1 then 26 else if l_ = 3 then 27 else if l_ = 4 then 25 else l_) (o32 b_)), A27, c28, t22, 0, (by exact Kn.pick (ks := [3, 6, 30, 31, 32]) hk rfl), (hs.relab0 (fun l_ => if l_ = 1 then 26 else if l_ = 3 then 27 else if l_ = 4 then 25 else l_) rfl), (f15.relab (fun l_ => if l_ = 1 then 26 else if l_ = 3 then 27 else if l_ = 4 then 25 else l_) rfl), (f29.relab (fun l_ => if l_ = 1 then 26 else if l_ = 3 then 27 else if l_ = 4 then 25 else l_) rfl), (f5.relab (fun l_ => if l_ = 1 then 26 else if l_ = 3 then 27 else if l_ = 4 then 25 else l_) rfl), (f900040.relab (fun l_ => if l_ = 1 then 26 else if l_ = 3 then 27 else if l_ = 4 then 25 else l_) rfl), hc30, H⟩ (by rintro _ _ ⟨_, _, _, _, _, _, _, _, _, _, _, _, H_⟩; exact absurd (show (none : Option T27) = some r from H_) (by simp)) ?_
  rintro k209 a w208 ⟨o175, A176, c177, l178, x181, hk, hs, f15, f179, f5, f900040, hc180, H⟩
  rw [tidewrackref21_Want_l2] at H
  obtain ⟨lp210, hlp211⟩ : ∃ lp_, lp_ = tidewrackref21_Want_l2 K p0 p2 k209 := ⟨_, rfl⟩
  rw [← hlp211] at H
  refine x_seq ?_
  refine wpIn_region_lit ?_
  refine x_run tab hk (k := 1) (lv := []) (ks := [3, 6, 30, 31, 32, 33]) (e' := [(3, .pointer (some ⟨bx4, 0, none⟩)), (6, .pointer (some ⟨bx14, 0, none⟩)), (30, .slice Ap2 (p2).length cp2), (31, .int .i64 ((p2).length : Int)), (32, .int .i64 x181), (33, .bool (decide (x181 < ((p2).length : Int))))]) rfl trivial fun a hk => ?_
  refine wpListIn_nil ?_
  refine then_n ?_
  refine x_seq ?_
  cases b212 : (decide (x181 < ((p2).length : Int)))
  · rw [b212] at hk H
    replace H := bifF H
    refine x_if hk (b := false) rfl ?_
    refine (show Code.wpIn _ _ _ _ _ _ _ from ?_)
    refine wpIn_exit ?_
    refine then_x ?_
    refine then_x ?_
    refine blk_x ?_
    refine then_n ?_
    exact ⟨(fun b_ => (fun l_ => if l_ = 25 then 17 else if l_ = 26 then 18 else if l_ = 27 then 19 else l_) (o175 b_)), A176, c177, l178, (by exact Kn.pick (ks := [3, 6]) hk rfl), (hs.relab0 (fun l_ => if l_ = 25 then 17 else if l_ = 26 then 18 else if l_ = 27 then 19 else l_) rfl), (f179.relab (fun l_ => if l_ = 25 then 17 else if l_ = 26 then 18 else if l_ = 27 then 19 else l_) rfl), (f15.relab (fun l_ => if l_ = 25 then 17 else if l_ = 26 then 18 else if l_ = 27 then 19 else l_) rfl), (f5.relab (fun l_ => if l_ = 25 then 17 else if l_ = 26 then 18 else if l_ = 27 then 19 else l_) rfl), hc180, H⟩
  · rw [b212] at hk H
    replace H := bifT H
    refine x_if hk (b := true) rfl ?_
    refine (show Code.wpIn _ _ _ _ _ _ _ from ?_)
    refine wpIn_skip ?_
    refine then_n ?_
    refine x_seq ?_
    refine wpIn_block ?_
    refine x_seq ?_
    refine wpIn_region_lit ?_
    obtain ⟨q213, H⟩ := ifS H
    obtain ⟨ad214, hAad214⟩ := RdC.addr f900040.now q213
    have hk_C := hk
    have f15_C := f15
    have f179_C := f179
    have f5_C := f5
    have f900040_C := f900040
    subst hAad214
    have hk := hk_C
    clear hk_C
    have f15 := f15_C
    clear f15_C
    have f179 := f179_C
    clear f179_C
    have f5 := f5_C
    clear f5_C
    have f900040 := f900040_C
    clear f900040_C
    refine x_run tab hk (k := 2) (lv := [.agg #[.int .i64 ((rdD zT30 p2 x181).From), .int .i64 ((rdD zT30 p2 x181).To)]]) (ks := [3, 6, 30, 31, 32, 35]) (e' := [(3, .pointer (some ⟨bx4, 0, none⟩)), (6, .pointer (some ⟨bx14, 0, none⟩)), (30, .slice (some ad214) (p2).length cp2), (31, .int .i64 ((p2).length : Int)), (32, .int .i64 x181), (35, .agg #[.int .i64 ((rdD zT30 p2 x181).From), .int .i64 ((rdD zT30 p2 x181).To)])]) rfl ⟨q213, (load_elem (E := ET30) (i := x181) (dx := zT30) tab rfl rfl f900040.now q213), trivial⟩ fun a hk => ?_
    refine x_op hk rfl ?_
    refine op_alloc (o := o175) tab (t := 31) (cs := [.int .i64 0, .int .i64 0]) rfl rfl 30 fun bx218 w215 o216 st217 f219 => ?_
    replace f15 := f15.st st217 (by decide)
    replace f179 := f179.st st217 (by decide)
    replace f5 := f5.st st217 (by decide)
    replace f900040 := f900040.st st217 (by decide)
    replace hs := hs.loc0 st217 (by decide)
    have hk := hk.put 10 (.pointer (some ⟨bx218, 0, none⟩)) rfl
    refine x_op hk rfl ?_
    refine op_store tab hk (t := 31) (v := .agg #[.int .i64 ((rdD zT30 p2 x181).From), .int .i64 ((rdD zT30 p2 x181).To)]) (b := bx218) (k := 0) (cs' := [.int .i64 ((rdD zT30 p2 x181).From), .int .i64 ((rdD zT30 p2 x181).To)]) rfl rfl rfl rfl rfl rfl f219 rfl rfl fun w220 o221 st222 f219_ => ?_
    replace f15 := f15.st st222 (by decide)
    replace f179 := f179.st st222 (by decide)
    replace f5 := f5.st st222 (by decide)
    replace f900040 := f900040.st st222 (by decide)
    replace hs := hs.loc0 st222 (by decide)
    replace f219 := f219_
    refine wpListIn_nil ?_
    refine then_n ?_
    refine wpIn_region_lit ?_
    refine x_run tab hk (k := 3) (lv := [.slice A176 (l178).length c177, .agg #[.int .i64 ((rdD zT30 p2 x181).From), .int .i64 ((rdD zT30 p2 x181).To)]]) (ks := [3, 6, 30, 31, 32, 37, 38]) (e' := [(3, .pointer (some ⟨bx4, 0, none⟩)), (6, .pointer (some ⟨bx14, 0, none⟩)), (30, .slice (some ad214) (p2).length cp2), (31, .int .i64 ((p2).length : Int)), (32, .int .i64 x181), (37, .slice A176 (l178).length c177), (38, .agg #[.int .i64 ((rdD zT30 p2 x181).From), .int .i64 ((rdD zT30 p2 x181).To)])]) rfl ⟨(load1 tab rfl ((Bx.cell f5.now 3).trans rfl)), (load_box tab rfl rfl f219.now (k := 0) rfl rfl), trivial⟩ fun a hk => ?_
    refine x_op hk rfl ?_
    obtain ⟨t226, hc227, H⟩ := bindS H
    refine op_call hk ent_30 (vs := [.slice A176 (l178).length c177, .agg #[.int .i64 ((rdD zT30 p2 x181).From), .int .i64 ((rdD zT30 p2 x181).To)]]) rfl (tidewrackref13_Cut_calls K A176 c177 l178 (rdD zT30 p2 x181) _ o221 _ (f179.imp fun _ h_ => Own.rd h_) hc180 31  _ hc227) ?_
    rintro _ w228 ⟨o229, A231, c232, rfl, st230, f233, hc234⟩
    replace f15 := f15.st st230 (by decide)
    replace f179 := f179.st st230 (by decide)
    replace f5 := f5.st st230 (by decide)
    replace f900040 := f900040.st st230 (by decide)
    replace hs := hs.loc0 st230 (by decide)
    have hk := hk.put 39 (.slice A231 (t226).length c232) rfl
    refine x_run tab hk (k := 1) (lv := []) (ks := [3, 6, 30, 31, 32, 39, 40]) (e' := [(3, .pointer (some ⟨bx4, 0, none⟩)), (6, .pointer (some ⟨bx14, 0, none⟩)), (30, .slice (some ad214) (p2).length cp2), (31, .int .i64 ((p2).length : Int)), (32, .int .i64 x181), (39, .slice A231 (t226).length c232), (40, .pointer (some ((⟨bx4, 0, none⟩ : Addr).add 3)))]) rfl trivial fun a hk => ?_
    refine x_op hk rfl ?_
    refine op_store tab hk (t := 26) (v := .slice A231 (t226).length c232) (b := bx4) (k := 3) (cs' := [.int .i64 p0.Most, .int .i64 p0.Every, .int .i64 0, .slice A231 (t226).length c232]) rfl rfl rfl rfl rfl rfl f5 rfl rfl fun w235 o236 st237 f5_ => ?_
    replace f15 := f15.st st237 (by decide)
    replace f179 := f179.st st237 (by decide)
    replace f233 := f233.st st237 (by decide)
    replace f900040 := f900040.st st237 (by decide)
    replace hs := hs.loc0 st237 (by decide)
    replace f5 := f5_
    refine wpListIn_nil ?_
    refine blk_n ?_
    refine then_n ?_
    refine wpIn_region_lit ?_
    refine x_run tab hk (k := 2) (lv := []) (ks := [3, 6, 30, 31, 32]) (e' := [(3, .pointer (some ⟨bx4, 0, none⟩)), (6, .pointer (some ⟨bx14, 0, none⟩)), (30, .slice (some ad214) (p2).length cp2), (31, .int .i64 ((p2).length : Int)), (32, .int .i64 (IntKind.wrap .i64 (x181 + 1)))]) rfl trivial fun a hk => ?_
    refine wpListIn_nil ?_
    refine then_n ?_
    exact ⟨k209, Nat.le_refl _, (fun b_ => (fun l_ => if l_ = 31 then 25 else l_) (o236 b_)), A231, c232, t226, (IntKind.wrap .i64 (x181 + 1)), (by exact Kn.pick (ks := [3, 6, 30, 31, 32]) hk rfl), (hs.relab0 (fun l_ => if l_ = 31 then 25 else l_) rfl), (f15.relab (fun l_ => if l_ = 31 then 25 else l_) rfl), (f233.relab (fun l_ => if l_ = 31 then 25 else l_) rfl), (f5.relab (fun l_ => if l_ = 31 then 25 else l_) rfl), (f900040.relab (fun l_ => if l_ = 31 then 25 else l_) rfl), hc234, (hlp211 ▸ H)⟩

end Go.Proofs.Ytmgopcmdljhjoaa
