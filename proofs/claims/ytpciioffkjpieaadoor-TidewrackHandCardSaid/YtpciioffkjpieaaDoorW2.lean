/- Walks, printed by an own program: the machine's calls compute the plain functions. -/
import Derived.Test.YtpciioffkjpieaaDoorW1
set_option linter.unusedVariables false
set_option linter.unusedSimpArgs false
namespace Go.Proofs.YtpciioffkjpieaaDoor
open Go Go.Proofs.XC
/-! slices.Clone[[]tidewrack/spans.Span,tidewrack/spans.Span] -/
theorem slices_Clone'_calls (Ap0 : Option Addr) (cp0 : Nat) (p0 : List T67) (w : World) (o : Nat → Nat) (Lp0 : Nat) (hp0 : Ft (RdC ET67 Ap0 p0) w o Lp0) (hcp0 : (p0).length ≤ cp0)  (R0 : Nat) (r : List T67) (H : slices_Clone' p0 = some r) :
    Calls Tryd.prog 89 #[.slice Ap0 (p0).length cp0] w (Ret fun v_ w' => ∃ o' : Nat → Nat, ∃ A0 : Option Addr, ∃ c0 : Nat, v_ = .slice A0 (r).length c0 ∧ St [] w o w' o' ∧ Ft (Own ET67 68 (.slice A0 (r).length c0) r) w' o' R0 ∧ (r).length ≤ c0) := by
  refine x_enter (vs := [.slice Ap0 (p0).length cp0]) Tryd.func89 rfl rfl rfl fun a hk => ?_
  obtain ⟨o0, hs, h0⟩ := St.start w o
  have f900000 := h0 _ _ hp0
  clear h0
  rw [slices_Clone'] at H
  refine x_seq ?_
  refine wpIn_region_lit ?_
  refine x_run tab hk (k := 1) (lv := []) (ks := [0]) (e' := [(0, .slice Ap0 (p0).length cp0)]) rfl trivial fun a hk => ?_
  refine wpListIn_nil ?_
  refine then_n ?_
  refine x_seq ?_
  refine x_seq ?_
  refine wpIn_region_lit ?_
  refine x_run tab hk (k := 1) (lv := []) (ks := [0, 3]) (e' := [(0, .slice Ap0 (p0).length cp0), (3, .slice Ap0 (p0).length cp0)]) rfl trivial fun a hk => ?_
  rcases none_or Ap0 with hAad1 | ⟨ad1, hAad1⟩
  · have hk_C := hk
    have f900000_C := f900000
    subst hAad1
    have hk := hk_C
    clear hk_C
    have f900000 := f900000_C
    clear f900000_C
    have hz2 : p0 = [] := RdC.none f900000.now
    replace H : (some ([] : List T67)) = some r := by (try rw [hz2] at H); simpa using H
    refine x_run tab hk (k := 1) (lv := []) (ks := [0, 4]) (e' := [(0, .slice none (p0).length cp0), (4, .bool true)]) rfl trivial fun a hk => ?_
    refine wpListIn_nil ?_
    refine then_n ?_
    refine x_if hk (b := true) rfl ?_
    refine (show Code.wpIn _ _ _ _ _ _ _ from ?_)
    refine x_seq ?_
    refine wpIn_region_lit ?_
    refine x_run tab hk (k := 1) (lv := []) (ks := [2]) (e' := [(2, .slice none 0 0)]) rfl trivial fun a hk => ?_
    refine wpListIn_nil ?_
    refine then_n ?_
    refine wpIn_ret ?_
    refine then_r ?_
    obtain rfl := Option.some.inj H
    exact x_retG hk (rs := [.tmp 2]) (vs := [.slice none 0 0]) rfl ⟨rfl, trivial⟩ ⟨fun b_ => if b_ < w.heap.size then o b_ else (fun _ => 0) (o0 b_), none, 0, rfl, hs.close0 o (fun _ => 0), (Ft.of_all (fun _ => Own.nil _ _ _) _ _ _), (by simp)⟩
  · have hk_C := hk
    have f900000_C := f900000
    subst hAad1
    have hk := hk_C
    clear hk_C
    have f900000 := f900000_C
    clear f900000_C
    refine x_run tab hk (k := 1) (lv := []) (ks := [0, 4]) (e' := [(0, .slice (some ad1) (p0).length cp0), (4, .bool false)]) rfl trivial fun a hk => ?_
    refine wpListIn_nil ?_
    refine then_n ?_
    refine x_if hk (b := false) rfl ?_
    refine (show Code.wpIn _ _ _ _ _ _ _ from ?_)
    refine wpIn_skip ?_
    refine then_n ?_
    refine x_seq ?_
    refine wpIn_region_lit ?_
    refine x_op hk rfl ?_
    refine op_slice (o := o0) tab hk (vs := []) (cs := []) rfl rfl rfl rfl rfl rfl rfl rfl rfl 1 fun bx6 w3 o4 st5 f7 => ?_
    replace f900000 := f900000.st st5 (by decide)
    replace hs := hs.loc0 st5 (by decide)
    have f8 : Ft (Own ET67 68 (.slice (some ⟨bx6, 0, none⟩) (([] : List T67)).length 0) ([] : List T67)) w3 o4 1 := f7.imp fun _ h_ => Own.of_box h_ rfl (by simp)
    have hk := hk.put 5 (.slice (some ⟨bx6, 0, none⟩) (([] : List T67)).length 0) rfl
    refine x_run tab hk (k := 1) (lv := []) (ks := [5, 6]) (e' := [(5, .slice (some ⟨bx6, 0, none⟩) (([] : List T67)).length 0), (6, .slice (some ad1) (p0).length cp0)]) rfl trivial fun a hk => ?_
    refine x_op hk rfl ?_
    obtain ⟨q12, H⟩ := ifS H
    refine op_append (o := o4) (E := ET67) (xs := ([] : List T67)) (ys := p0) tab hk rfl rfl rfl rfl rfl rfl rfl f8 f900000.now q12 fun A13 c14 w9 o10 st11 f15 hc16 => ?_
    replace f900000 := f900000.st st11 (by decide)
    replace hs := hs.loc0 st11 (by decide)
    have hk := hk.put 7 (.slice A13 ((([] : List T67) ++ p0)).length c14) rfl
    refine x_run tab hk (k := 1) (lv := []) (ks := [2]) (e' := [(2, .slice A13 ((([] : List T67) ++ p0)).length c14)]) rfl trivial fun a hk => ?_
    refine wpListIn_nil ?_
    refine then_n ?_
    refine wpIn_ret ?_
    obtain rfl := Option.some.inj H
    exact x_retG hk (rs := [.tmp 2]) (vs := [.slice A13 ((([] : List T67) ++ p0)).length c14]) rfl ⟨rfl, trivial⟩ ⟨fun b_ => if b_ < w.heap.size then o b_ else (fun _ => R0) (o10 b_), A13, c14, rfl, hs.close0 o (fun _ => R0), hs.close_ft (o := o) (ρ := fun _ => R0) f15 (by decide) rfl, hc16⟩

/-! (*tidewrack/spans.Set).Spans -/
theorem spans_Set_Spans_calls (bp0 : Nat) (Ap0_0 : Option Addr) (cp0_0 : Nat) (p0 : T63) (w : World) (o : Nat → Nat) (Lp0 : Nat) (hp0 : Ft (Bx bp0 64 [.slice Ap0_0 (p0.l).length cp0_0]) w o Lp0) (Lp0_0 : Nat) (hp0_0 : Ft (RdC ET67 Ap0_0 p0.l) w o Lp0_0) (hcp0_0 : (p0.l).length ≤ cp0_0)  (R0 : Nat) (r : List T67) (H : spans_Set_Spans p0 = some r) :
    Calls Tryd.prog 57 #[.pointer (some ⟨bp0, 0, none⟩)] w (Ret fun v_ w' => ∃ o' : Nat → Nat, ∃ A0 : Option Addr, ∃ c0 : Nat, v_ = .slice A0 (r).length c0 ∧ St [] w o w' o' ∧ Ft (Own ET67 68 (.slice A0 (r).length c0) r) w' o' R0 ∧ (r).length ≤ c0) := by
  refine x_enter (vs := [.pointer (some ⟨bp0, 0, none⟩)]) Tryd.func57 rfl rfl rfl fun a hk => ?_
  obtain ⟨o0, hs, h0⟩ := St.start w o
  have f900000 := h0 _ _ hp0_0
  have f900019 := h0 _ _ hp0
  clear h0
  rw [spans_Set_Spans] at H
  refine x_seq ?_
  refine wpIn_region_lit ?_
  refine x_run tab hk (k := 1) (lv := []) (ks := [0]) (e' := [(0, .pointer (some ⟨bp0, 0, none⟩))]) rfl trivial fun a hk => ?_
  refine wpListIn_nil ?_
  refine then_n ?_
  refine x_seq ?_
  refine wpIn_region_lit ?_
  refine x_run tab hk (k := 4) (lv := [.slice Ap0_0 (p0.l).length cp0_0]) (ks := [6]) (e' := [(6, .slice Ap0_0 (p0.l).length cp0_0)]) rfl ⟨(load1 tab rfl ((Bx.cell f900019.now 0).trans rfl)), trivial⟩ fun a hk => ?_
  refine x_op hk rfl ?_
  obtain ⟨t4, hc5, H⟩ := bindS H
  refine op_call hk ent_89 (vs := [.slice Ap0_0 (p0.l).length cp0_0]) rfl (slices_Clone'_calls Ap0_0 cp0_0 p0.l _ o0 _ f900000 hcp0_0 1  _ hc5) ?_
  rintro _ w6 ⟨o7, A9, c10, rfl, st8, f11, hc12⟩
  replace f900000 := f900000.st st8 (by decide)
  replace f900019 := f900019.st st8 (by decide)
  replace hs := hs.loc0 st8 (by decide)
  have hk := hk.put 7 (.slice A9 (t4).length c10) rfl
  refine x_run tab hk (k := 1) (lv := []) (ks := [2]) (e' := [(2, .slice A9 (t4).length c10)]) rfl trivial fun a hk => ?_
  refine wpListIn_nil ?_
  refine then_n ?_
  refine wpIn_ret ?_
  obtain rfl := Option.some.inj H
  exact x_retG hk (rs := [.tmp 2]) (vs := [.slice A9 (t4).length c10]) rfl ⟨rfl, trivial⟩ ⟨fun b_ => if b_ < w.heap.size then o b_ else (fun _ => R0) (o7 b_), A9, c10, rfl, hs.close0 o (fun _ => R0), hs.close_ft (o := o) (ρ := fun _ => R0) f11 (by decide) rfl, hc12⟩

/-! (*tidewrack/cache.Cache).Spans -/
theorem cache_Cache_Spans_calls (K : Nat) (bp0 : Nat) (Ap0_0 : Option Addr) (cp0_0 : Nat) (p0 : T118) (w : World) (o : Nat → Nat) (LF : Nat) (Lp0 : Nat) (hp0 : Ft (Bx bp0 119 [.int .i64 p0.most, .int .i64 p0.now, mv Ap0_0]) w o Lp0) (Lp0_0 : Nat) (hp0_0 : MpN dT129 true Ap0_0 p0.l w o Lp0_0 LF) (hcp0_0 : (p0.l).length ≤ cp0_0) (hd0 : ([LF] : List Nat).Nodup) (hd1 : Lp0_0 ∉ [LF]) (hd2 : Lp0 ∉ [LF]) (R0 : Nat) (r : List T67) (H : cache_Cache_Spans K p0 = some r) :
    Calls Tryd.prog 22 #[.pointer (some ⟨bp0, 0, none⟩)] w (Ret fun v_ w' => ∃ o' : Nat → Nat, ∃ A0 : Option Addr, ∃ c0 : Nat, v_ = .slice A0 (r).length c0 ∧ St [] w o w' o' ∧ Ft (Own ET67 68 (.slice A0 (r).length c0) r) w' o' R0 ∧ (r).length ≤ c0) := by
  refine x_enter (vs := [.pointer (some ⟨bp0, 0, none⟩)]) Tryd.func22 rfl rfl rfl fun a hk => ?_
  obtain ⟨oi, hs0, h0, h1, hob, hoz, hoa⟩ := St.startM2 w o (m := 1) hd0 rfl
  have hs := hs0 []
  have f900000 := hp0_0.conv (fun P_ => h0 P_ _ hd1) (fun _ h_ => h1 0 1 h_ rfl rfl)
  have f900019 := h0 _ _ hd2 hp0
  clear h0 h1 hs0
  rw [cache_Cache_Spans] at H
  refine x_seq ?_
  refine wpIn_region_lit ?_
  refine x_run tab hk (k := 1) (lv := []) (ks := [0]) (e' := [(0, .pointer (some ⟨bp0, 0, none⟩))]) rfl trivial fun a hk => ?_
  refine wpListIn_nil ?_
  refine then_n ?_
  refine x_seq ?_
  refine wpIn_region_lit ?_
  refine x_op hk rfl ?_
  refine op_alloc (o := oi) tab (t := 64) (cs := [.slice none 0 0]) rfl rfl 2 fun bx4 w1 o2 st3 f5 => ?_
  replace f900000 := f900000.st st3 (by decide)
  replace f900019 := f900019.st st3 (by decide)
  replace hs := hs.locQ st3 hob rfl
  have hk := hk.put 3 (.pointer (some ⟨bx4, 0, none⟩)) rfl
  refine wpListIn_nil ?_
  refine then_n ?_
  refine x_mid (fun a_ w_ => ∃ o121 : Nat → Nat, ∃ A122 : Option Addr, ∃ c123 : Nat, ∃ l124 : List T67, Kn 21 a_ [(3, .pointer (some ⟨bx4, 0, none⟩))] ∧ St [] w oi w_ o121 ∧ Ft (Own ET67 68 (.slice A122 (l124).length c123) l124) w_ o121 14 ∧ Ft (Bx bx4 64 [.slice A122 (l124).length c123]) w_ o121 15 ∧ MpN dT129 true Ap0_0 p0.l w_ o121 0 1 ∧ Ft (Bx bp0 119 [.int .i64 p0.most, .int .i64 p0.now, mv Ap0_0]) w_ o121 0 ∧ (l124).length ≤ c123 ∧ cache_Cache_Spans_j1 l124 = some r) ?_ ?_
  rotate_left
  · rintro a w127 ⟨o121, A122, c123, l124, hk, hs, f125, f5, f900000, f900019, hc126, H⟩
    rw [cache_Cache_Spans_j1] at H
    refine x_seq ?_
    refine wpIn_region_lit ?_
    refine x_op hk rfl ?_
    obtain ⟨t131, hc132, H⟩ := bindS H
    refine op_call hk ent_57 (vs := [.pointer (some ⟨bx4, 0, none⟩)]) rfl (spans_Set_Spans_calls bx4 A122 c123 (⟨l124⟩ : T63) _ o121 15 f5 _ (f125.imp fun _ h_ => Own.rd h_) hc126 16  _ hc132) ?_
    rintro _ w133 ⟨o134, A136, c137, rfl, st135, f138, hc139⟩
    replace f125 := f125.st st135 (by decide)
    replace f5 := f5.st st135 (by decide)
    replace f900000 := f900000.st st135 (by decide)
    replace f900019 := f900019.st st135 (by decide)
    replace hs := hs.locQ st135 hob rfl
    have hk := hk.put 20 (.slice A136 (t131).length c137) rfl
    refine x_run tab hk (k := 1) (lv := []) (ks := [2]) (e' := [(2, .slice A136 (t131).length c137)]) rfl trivial fun a hk => ?_
    refine wpListIn_nil ?_
    refine then_n ?_
    refine wpIn_ret ?_
    obtain rfl := Option.some.inj H
    exact x_retG hk (rs := [.tmp 2]) (vs := [.slice A136 (t131).length c137]) rfl ⟨rfl, trivial⟩ ⟨cl w oi o [] (fun l_ => if l_ = 1 then LF else if l_ = 16 then R0 else 0) o134, A136, c137, rfl, hs.closeF (Lm := []) (Sh := []) hoa rfl (fun l_ => if l_ = 1 then LF else if l_ = 16 then R0 else 0), hs.closeM_ft (o := o) (ρ := fun l_ => if l_ = 1 then LF else if l_ = 16 then R0 else 0) f138 (lab_none hob rfl) rfl, hc139⟩
  refine x_seq ?_
  refine wpIn_region_lit ?_
  refine x_run tab hk (k := 4) (lv := [mv Ap0_0]) (ks := [3, 8]) (e' := [(3, .pointer (some ⟨bx4, 0, none⟩)), (8, mv Ap0_0)]) rfl ⟨(load1 tab rfl ((Bx.cell f900019.now 2).trans rfl)), trivial⟩ fun a hk => ?_
  refine x_op hk rfl ?_
  obtain ⟨q143, H⟩ := ifS H
  refine op_mrange (o := o2) tab hk rfl rfl rfl f900000 q143 17 fun r144 w140 o141 st142 f145 => ?_
  replace f5 := f5.st st142 (by decide)
  replace f900000 := f900000.st st142 (by decide)
  replace f900019 := f900019.st st142 (by decide)
  replace hs := hs.locQ st142 hob rfl
  have hk := hk.put 9 (.pointer (some ⟨r144, 0, none⟩)) rfl
  refine wpListIn_nil ?_
  refine then_n ?_
  refine wpIn_block ?_
  refine x_loop (fun j_ a_ w_ => ∃ o176 : Nat → Nat, ∃ A177 : Option Addr, ∃ c178 : Nat, ∃ l179 : List T67, ∃ A182 : Option Addr, ∃ c183 : Nat, ∃ l184 : List Int, Kn 21 a_ [(3, .pointer (some ⟨bx4, 0, none⟩)), (9, .pointer A182)] ∧ St [] w oi w_ o176 ∧ Ft (Own ET67 68 (.slice A177 (l179).length c178) l179) w_ o176 22 ∧ MRng Tryd.prog 3 A182 l184 w_ o176 24 0 ∧ Ft (Bx bx4 64 [.slice A177 (l179).length c178]) w_ o176 23 ∧ MpN dT129 true Ap0_0 p0.l w_ o176 0 1 ∧ Ft (Bx bp0 119 [.int .i64 p0.most, .int .i64 p0.now, mv Ap0_0]) w_ o176 0 ∧ (l179).length ≤ c178 ∧ (l184).length ≤ c183 ∧ cache_Cache_Spans_l2 K j_ l179 l184 = some r) (k := K) ⟨(fun b_ => (fun l_ => if l_ = 2 then 23 else if l_ = 17 then 24 else l_) (o141 b_)), none, 0, ([] : List T67), (some ⟨r144, 0, none⟩), ((M.keys p0.l).length), (M.keys p0.l), (by exact Kn.pick (ks := [3, 9]) hk rfl), (hs.relabM hob (fun l_ => if l_ = 2 then 23 else if l_ = 17 then 24 else l_) (by decide)), (Ft.of_all (fun _ => Own.nil _ _ _) _ _ _), (f145.relab (fun l_ => if l_ = 2 then 23 else if l_ = 17 then 24 else l_) rfl), (f5.relab (fun l_ => if l_ = 2 then 23 else if l_ = 17 then 24 else l_) rfl), (f900000.relab (fun l_ => if l_ = 2 then 23 else if l_ = 17 then 24 else l_) rfl), (f900019.relab (fun l_ => if l_ = 2 then 23 else if l_ = 17 then 24 else l_) rfl), (by simp), (Nat.le_refl _), H⟩ (by rintro _ _ ⟨_, _, _, _, _, _, _, _, _, _, _, _, _, _, _, _, H_⟩; exact absurd (show (none : Option (List T67)) = some r from H_) (by simp)) ?_
  rintro k215 a w214 ⟨o176, A177, c178, l179, A182, c183, l184, hk, hs, f180, f185, f5, f900000, f900019, hc181, hc186, H⟩
  rw [cache_Cache_Spans_l2] at H
  obtain ⟨lp216, hlp217⟩ : ∃ lp_, lp_ = cache_Cache_Spans_l2 K k215 := ⟨_, rfl⟩
  rw [← hlp217] at H
  refine x_seq ?_
  refine wpIn_region_lit ?_
  refine x_op hk rfl ?_
  refine op_mnext hk (tab.u (t := 3) rfl) rfl f185 (by decide) (fun hz222 => ?_) (fun kk218 v219 w223 hm220 st224 f225 hE221 => ?_)
  · replace H := none_left H hz222
    have hk := hk.put 10 (.tuple #[.bool false]) rfl
    refine x_run tab hk (k := 1) (lv := []) (ks := [3, 9, 11]) (e' := [(3, .pointer (some ⟨bx4, 0, none⟩)), (9, .pointer A182), (11, .bool false)]) rfl trivial fun a hk => ?_
    refine wpListIn_nil ?_
    refine then_n ?_
    refine x_seq ?_
    refine x_if hk (b := false) rfl ?_
    refine (show Code.wpIn _ _ _ _ _ _ _ from ?_)
    refine wpIn_exit ?_
    refine then_x ?_
    refine then_x ?_
    refine blk_x ?_
    refine then_n ?_
    exact ⟨(fun b_ => (fun l_ => if l_ = 22 then 14 else if l_ = 23 then 15 else l_) (o176 b_)), A177, c178, l179, (by exact Kn.pick (ks := [3]) hk rfl), (hs.relabM hob (fun l_ => if l_ = 22 then 14 else if l_ = 23 then 15 else l_) (by decide)), (f180.relab (fun l_ => if l_ = 22 then 14 else if l_ = 23 then 15 else l_) rfl), (f5.relab (fun l_ => if l_ = 22 then 14 else if l_ = 23 then 15 else l_) rfl), (f900000.relab (fun l_ => if l_ = 22 then 14 else if l_ = 23 then 15 else l_) rfl), (f900019.relab (fun l_ => if l_ = 22 then 14 else if l_ = 23 then 15 else l_) rfl), hc181, H⟩
  · replace H := more_left H hm220
    replace f180 := f180.st st224 (by decide)
    replace f5 := f5.st st224 (by decide)
    replace f900000 := f900000.st st224 (by decide)
    replace f900019 := f900019.st st224 (by decide)
    replace hs := hs.locQ st224 hob rfl
    have hk := hk.put 10 (.tuple #[.bool true, .int .i64 kk218, v219]) rfl
    refine x_run tab hk (k := 1) (lv := []) (ks := [3, 9, 11]) (e' := [(3, .pointer (some ⟨bx4, 0, none⟩)), (9, .pointer A182), (11, .bool true)]) rfl trivial fun a hk => ?_
    refine wpListIn_nil ?_
    refine then_n ?_
    refine x_seq ?_
    refine x_if hk (b := true) rfl ?_
    refine (show Code.wpIn _ _ _ _ _ _ _ from ?_)
    refine wpIn_skip ?_
    refine then_n ?_
    refine wpIn_block ?_
    refine x_seq ?_
    refine wpIn_region_lit ?_
    refine x_run tab hk (k := 3) (lv := [.tuple #[.int .i64 kk218, v219]]) (ks := [3, 4, 9]) (e' := [(3, .pointer (some ⟨bx4, 0, none⟩)), (4, .int .i64 kk218), (9, .pointer A182)]) rfl ⟨(ask_entry rfl hE221), trivial⟩ fun a hk => ?_
    refine wpListIn_nil ?_
    refine then_n ?_
    refine wpIn_region_lit ?_
    refine x_run tab hk (k := 4) (lv := []) (ks := [3, 9, 17]) (e' := [(3, .pointer (some ⟨bx4, 0, none⟩)), (9, .pointer A182), (17, .agg #[.int .i64 kk218, .int .i64 (IntKind.wrap .i64 (kk218 + 1))])]) rfl trivial fun a hk => ?_
    refine x_op hk rfl ?_
    refine op_slice (o := o176) tab hk (vs := [.agg #[.int .i64 kk218, .int .i64 (IntKind.wrap .i64 (kk218 + 1))]]) (cs := [.int .i64 kk218, .int .i64 (IntKind.wrap .i64 (kk218 + 1))]) rfl rfl rfl rfl rfl rfl rfl rfl rfl 26 fun bx229 w226 o227 st228 f230 => ?_
    replace f180 := f180.st st228 (by decide)
    replace f225 := f225.st st228 (by decide)
    replace f5 := f5.st st228 (by decide)
    replace f900000 := f900000.st st228 (by decide)
    replace f900019 := f900019.st st228 (by decide)
    replace hs := hs.locQ st228 hob rfl
    have f231 : Ft (Own ET67 68 (.slice (some ⟨bx229, 0, none⟩) (([(⟨kk218, (IntKind.wrap .i64 (kk218 + 1))⟩ : T67)] : List T67)).length 1) ([(⟨kk218, (IntKind.wrap .i64 (kk218 + 1))⟩ : T67)] : List T67)) w226 o227 26 := f230.imp fun _ h_ => Own.of_box h_ rfl (by simp)
    have hk := hk.put 18 (.slice (some ⟨bx229, 0, none⟩) (([(⟨kk218, (IntKind.wrap .i64 (kk218 + 1))⟩ : T67)] : List T67)).length 1) rfl
    refine x_op hk rfl ?_
    obtain ⟨t235, hc236, H⟩ := bindS H
    refine op_call hk ent_21 (vs := [.pointer (some ⟨bx4, 0, none⟩), .slice (some ⟨bx229, 0, none⟩) (([(⟨kk218, (IntKind.wrap .i64 (kk218 + 1))⟩ : T67)] : List T67)).length 1]) rfl (spans_Set_Add_calls K bx4 A177 c178 (⟨l179⟩ : T63) (some ⟨bx229, 0, none⟩) 1 ([(⟨kk218, (IntKind.wrap .i64 (kk218 + 1))⟩ : T67)] : List T67) _ o227 23 f5 22 f180 hc181 _ (f231.imp fun _ h_ => Own.rd h_) (Nat.le_refl _) (by decide) (by decide)   _ hc236) ?_
    rintro _ w237 ⟨o238, A241, c242, rfl, st239, f240, f243, hc244⟩
    replace f225 := f225.st st239 (by decide)
    replace f231 := f231.st st239 (by decide)
    replace f900000 := f900000.st st239 (by decide)
    replace f900019 := f900019.st st239 (by decide)
    replace hs := hs.locQ st239 hob rfl
    have hk := hk.put 19 (.tuple #[]) rfl
    refine wpListIn_nil ?_
    refine blk_n ?_
    refine then_n ?_
    exact ⟨k215, Nat.le_refl _, o238, A241, c242, t235.l, A182, c183, (List.erase l184 kk218), (by exact Kn.pick (ks := [3, 9]) hk rfl), hs, f243, f225, f240, f900000, f900019, hc244, (Nat.le_trans List.length_erase_le hc186), (hlp217 ▸ H)⟩

/-! (tidewrack/spans.Span).both -/
theorem spans_Span_both_calls (p0 : T67) (p1 : T67) (w : World) (o : Nat → Nat)   (r : T67) (H : spans_Span_both p0 p1 = some r) :
    Calls Tryd.prog 58 #[.agg #[.int .i64 p0.From, .int .i64 p0.To], .agg #[.int .i64 p1.From, .int .i64 p1.To]] w (Ret fun v_ w' => ∃ o' : Nat → Nat, v_ = .agg #[.int .i64 r.From, .int .i64 r.To] ∧ St [] w o w' o') := by
  refine x_enter (vs := [.agg #[.int .i64 p0.From, .int .i64 p0.To], .agg #[.int .i64 p1.From, .int .i64 p1.To]]) Tryd.func58 rfl rfl rfl fun a hk => ?_
  obtain ⟨o0, hs, h0⟩ := St.start w o
  clear h0
  rw [spans_Span_both] at H
  refine x_seq ?_
  refine wpIn_region_lit ?_
  refine x_op hk rfl ?_
  refine op_box (o := o0) (t := 68) (v := .agg #[.int .i64 p0.From, .int .i64 p0.To]) (cs := [.int .i64 p0.From, .int .i64 p0.To]) hk rfl rfl 1 fun bx4 w1 o2 st3 f5 => ?_
  replace hs := hs.loc0 st3 (by decide)
  have hk := hk.put 2 (.pointer (some ⟨bx4, 0, none⟩)) rfl
  refine x_op hk rfl ?_
  refine op_box (o := o2) (t := 68) (v := .agg #[.int .i64 p1.From, .int .i64 p1.To]) (cs := [.int .i64 p1.From, .int .i64 p1.To]) hk rfl rfl 2 fun bx9 w6 o7 st8 f10 => ?_
  replace f5 := f5.st st8 (by decide)
  replace hs := hs.loc0 st8 (by decide)
  have hk := hk.put 3 (.pointer (some ⟨bx9, 0, none⟩)) rfl
  refine x_op hk rfl ?_
  refine op_alloc (o := o7) tab (t := 68) (cs := [.int .i64 0, .int .i64 0]) rfl rfl 3 fun bx14 w11 o12 st13 f15 => ?_
  replace f10 := f10.st st13 (by decide)
  replace f5 := f5.st st13 (by decide)
  replace hs := hs.loc0 st13 (by decide)
  have hk := hk.put 4 (.pointer (some ⟨bx14, 0, none⟩)) rfl
  refine wpListIn_nil ?_
  refine then_n ?_
  refine x_seq ?_
  refine wpIn_region_lit ?_
  refine x_run tab hk (k := 10) (lv := [.int .i64 p0.From, .int .i64 p1.From, .int .i64 p0.To, .int .i64 p1.To]) (ks := [4, 9, 14]) (e' := [(4, .pointer (some ⟨bx14, 0, none⟩)), (9, .int .i64 (mxI p0.From p1.From)), (14, .int .i64 (mnI p0.To p1.To))]) rfl ⟨(load1 tab rfl ((Bx.cell f5.now 0).trans rfl)), (load1 tab rfl ((Bx.cell f10.now 0).trans rfl)), (load1 tab rfl ((Bx.cell f5.now 1).trans rfl)), (load1 tab rfl ((Bx.cell f10.now 1).trans rfl)), trivial⟩ fun a hk => ?_
  refine x_run tab hk (k := 1) (lv := []) (ks := [4, 15]) (e' := [(4, .pointer (some ⟨bx14, 0, none⟩)), (15, .agg #[.int .i64 (mxI p0.From p1.From), .int .i64 (mnI p0.To p1.To)])]) rfl trivial fun a hk => ?_
  refine x_op hk rfl ?_
  refine op_store tab hk (t := 68) (v := .agg #[.int .i64 (mxI p0.From p1.From), .int .i64 (mnI p0.To p1.To)]) (b := bx14) (k := 0) (cs' := [.int .i64 (mxI p0.From p1.From), .int .i64 (mnI p0.To p1.To)]) rfl rfl rfl rfl rfl rfl f15 rfl rfl fun w16 o17 st18 f15_ => ?_
  replace hs := hs.loc0 st18 (by decide)
  replace f15 := f15_
  refine wpListIn_nil ?_
  refine then_n ?_
  refine wpIn_ret ?_
  obtain rfl := Option.some.inj H
  exact x_retG hk (rs := [.cell 4 68]) (vs := [.agg #[.int .i64 (mxI p0.From p1.From), .int .i64 (mnI p0.To p1.To)]]) rfl ⟨⟨_, rfl, load_box tab rfl rfl f15.now (k := 0) rfl rfl⟩, trivial⟩ ⟨fun b_ => if b_ < w.heap.size then o b_ else (fun _ => 0) (o17 b_), rfl, hs.close0 o (fun _ => 0)⟩

/-! (*tidewrack/spans.Set).In -/
theorem spans_Set_In_calls (K : Nat) (bp0 : Nat) (Ap0_0 : Option Addr) (cp0_0 : Nat) (p0 : T63) (p1 : T67) (w : World) (o : Nat → Nat) (Lp0 : Nat) (hp0 : Ft (Bx bp0 64 [.slice Ap0_0 (p0.l).length cp0_0]) w o Lp0) (Lp0_0 : Nat) (hp0_0 : Ft (RdC ET67 Ap0_0 p0.l) w o Lp0_0) (hcp0_0 : (p0.l).length ≤ cp0_0)  (R0 : Nat) (r : List T67) (H : spans_Set_In K p0 p1 = some r) :
    Calls Tryd.prog 23 #[.pointer (some ⟨bp0, 0, none⟩), .agg #[.int .i64 p1.From, .int .i64 p1.To]] w (Ret fun v_ w' => ∃ o' : Nat → Nat, ∃ A0 : Option Addr, ∃ c0 : Nat, v_ = .slice A0 (r).length c0 ∧ St [] w o w' o' ∧ Ft (Own ET67 68 (.slice A0 (r).length c0) r) w' o' R0 ∧ (r).length ≤ c0) := by
  refine x_enter (vs := [.pointer (some ⟨bp0, 0, none⟩), .agg #[.int .i64 p1.From, .int .i64 p1.To]]) Tryd.func23 rfl rfl rfl fun a hk => ?_
  obtain ⟨o0, hs, h0⟩ := St.start w o
  have f900000 := h0 _ _ hp0_0
  have f900019 := h0 _ _ hp0
  clear h0
  rw [spans_Set_In] at H
  refine x_seq ?_
  refine wpIn_region_lit ?_
  refine x_op hk rfl ?_
  refine op_box (o := o0) (t := 68) (v := .agg #[.int .i64 p1.From, .int .i64 p1.To]) (cs := [.int .i64 p1.From, .int .i64 p1.To]) hk rfl rfl 1 fun bx4 w1 o2 st3 f5 => ?_
  replace f900000 := f900000.st st3 (by decide)
  replace f900019 := f900019.st st3 (by decide)
  replace hs := hs.loc0 st3 (by decide)
  have hk := hk.put 3 (.pointer (some ⟨bx4, 0, none⟩)) rfl
  refine x_run tab hk (k := 1) (lv := []) (ks := [0, 3]) (e' := [(0, .pointer (some ⟨bp0, 0, none⟩)), (3, .pointer (some ⟨bx4, 0, none⟩))]) rfl trivial fun a hk => ?_
  refine wpListIn_nil ?_
  refine then_n ?_
  refine x_seq ?_
  refine wpIn_region_lit ?_
  refine x_run tab hk (k := 1) (lv := []) (ks := [0, 3, 5]) (e' := [(0, .pointer (some ⟨bp0, 0, none⟩)), (3, .pointer (some ⟨bx4, 0, none⟩)), (5, .slice none 0 0)]) rfl trivial fun a hk => ?_
  refine wpListIn_nil ?_
  refine then_n ?_
  refine x_mid (fun a_ w_ => ∃ o1380 : Nat → Nat, ∃ A1381 : Option Addr, ∃ c1382 : Nat, ∃ l1383 : List T67, Kn 31 a_ [(5, .slice A1381 (l1383).length c1382)] ∧ St [] w (fun _ => 0) w_ o1380 ∧ Ft (Own ET67 68 (.slice A1381 (l1383).length c1382) l1383) w_ o1380 148 ∧ Ft (RdC ET67 Ap0_0 p0.l) w_ o1380 0 ∧ Ft (Bx bp0 64 [.slice Ap0_0 (p0.l).length cp0_0]) w_ o1380 0 ∧ (l1383).length ≤ c1382 ∧ spans_Set_In_j1 l1383 = some r) ?_ ?_
  rotate_left
  · rintro a w1386 ⟨o1380, A1381, c1382, l1383, hk, hs, f1384, f900000, f900019, hc1385, H⟩
    rw [spans_Set_In_j1] at H
    refine x_seq ?_
    refine wpIn_region_lit ?_
    refine x_run tab hk (k := 2) (lv := []) (ks := [4]) (e' := [(4, .slice A1381 (l1383).length c1382)]) rfl trivial fun a hk => ?_
    refine wpListIn_nil ?_
    refine then_n ?_
    refine wpIn_ret ?_
    obtain rfl := Option.some.inj H
    exact x_retG hk (rs := [.tmp 4]) (vs := [.slice A1381 (l1383).length c1382]) rfl ⟨rfl, trivial⟩ ⟨fun b_ => if b_ < w.heap.size then o b_ else (fun _ => R0) (o1380 b_), A1381, c1382, rfl, hs.close0 o (fun _ => R0), hs.close_ft (o := o) (ρ := fun _ => R0) f1384 (by decide) rfl, hc1385⟩
  refine x_seq ?_
  refine wpIn_region_lit ?_
  refine x_run tab hk (k := 6) (lv := [.slice Ap0_0 (p0.l).length cp0_0]) (ks := [3, 5, 12, 13, 14]) (e' := [(3, .pointer (some ⟨bx4, 0, none⟩)), (5, .slice none 0 0), (12, .slice Ap0_0 (p0.l).length cp0_0), (13, .int .i64 ((p0.l).length : Int)), (14, .int .i64 0)]) rfl ⟨(load1 tab rfl ((Bx.cell f900019.now 0).trans rfl)), trivial⟩ fun a hk => ?_
  refine wpListIn_nil ?_
  refine then_n ?_
  refine wpIn_block ?_
  refine x_loop (fun j_ a_ w_ => ∃ o1840 : Nat → Nat, ∃ A1841 : Option Addr, ∃ c1842 : Nat, ∃ l1843 : List T67, ∃ x1846 : Int, Kn 31 a_ [(3, .pointer (some ⟨bx4, 0, none⟩)), (5, .slice A1841 (l1843).length c1842), (12, .slice Ap0_0 (p0.l).length cp0_0), (13, .int .i64 ((p0.l).length : Int)), (14, .int .i64 x1846)] ∧ St [] w (fun _ => 0) w_ o1840 ∧ Ft (Own ET67 68 (.slice A1841 (l1843).length c1842) l1843) w_ o1840 193 ∧ Ft (Bx bx4 68 [.int .i64 p1.From, .int .i64 p1.To]) w_ o1840 192 ∧ Ft (RdC ET67 Ap0_0 p0.l) w_ o1840 0 ∧ Ft (Bx bp0 64 [.slice Ap0_0 (p0.l).length cp0_0]) w_ o1840 0 ∧ (l1843).length ≤ c1842 ∧ spans_Set_In_l2 p0 p1 j_ l1843 x1846 = some r) (k := K) ⟨(fun b_ => (fun l_ => if l_ = 1 then 192 else l_) (o2 b_)), none, 0, ([] : List T67), 0, (by exact Kn.pick (ks := [3, 5, 12, 13, 14]) hk rfl), (hs.relab0 (fun l_ => if l_ = 1 then 192 else l_) rfl), (Ft.of_all (fun _ => Own.nil _ _ _) _ _ _), (f5.relab (fun l_ => if l_ = 1 then 192 else l_) rfl), (f900000.relab (fun l_ => if l_ = 1 then 192 else l_) rfl), (f900019.relab (fun l_ => if l_ = 1 then 192 else l_) rfl), (by simp), H⟩ (by rintro _ _ ⟨_, _, _, _, _, _, _, _, _, _, _, _, H_⟩; exact absurd (show (none : Option (List T67)) = some r from H_) (by simp)) ?_
  rintro k2298 a w2297 ⟨o1840, A1841, c1842, l1843, x1846, hk, hs, f1844, f5, f900000, f900019, hc1845, H⟩
  rw [spans_Set_In_l2] at H
  obtain ⟨lp2299, hlp2300⟩ : ∃ lp_, lp_ = spans_Set_In_l2 p0 p1 k2298 := ⟨_, rfl⟩
  rw [← hlp2300] at H
  refine x_seq ?_
  refine wpIn_region_lit ?_
  refine x_run tab hk (k := 1) (lv := []) (ks := [3, 5, 12, 13, 14, 15]) (e' := [(3, .pointer (some ⟨bx4, 0, none⟩)), (5, .slice A1841 (l1843).length c1842), (12, .slice Ap0_0 (p0.l).length cp0_0), (13, .int .i64 ((p0.l).length : Int)), (14, .int .i64 x1846), (15, .bool (decide (x1846 < ((p0.l).length : Int))))]) rfl trivial fun a hk => ?_
  refine wpListIn_nil ?_
  refine then_n ?_
  refine x_seq ?_
  cases b2301 : (decide (x1846 < ((p0.l).length : Int)))
  · rw [b2301] at hk H
    replace H := bifF H
    refine x_if hk (b := false) rfl ?_
    refine (show Code.wpIn _ _ _ _ _ _ _ from ?_)
    refine wpIn_exit ?_
    refine then_x ?_
    refine then_x ?_
    refine blk_x ?_
    refine then_n ?_
    exact ⟨(fun b_ => (fun l_ => if l_ = 193 then 148 else l_) (o1840 b_)), A1841, c1842, l1843, (by exact Kn.pick (ks := [5]) hk rfl), (hs.relab0 (fun l_ => if l_ = 193 then 148 else l_) rfl), (f1844.relab (fun l_ => if l_ = 193 then 148 else l_) rfl), (f900000.relab (fun l_ => if l_ = 193 then 148 else l_) rfl), (f900019.relab (fun l_ => if l_ = 193 then 148 else l_) rfl), hc1845, H⟩
  · rw [b2301] at hk H
    replace H := bifT H
    refine x_if hk (b := true) rfl ?_
    refine (show Code.wpIn _ _ _ _ _ _ _ from ?_)
    refine wpIn_skip ?_
    refine then_n ?_
    refine x_seq ?_
    refine wpIn_block ?_
    refine x_seq ?_
    refine wpIn_region_lit ?_
    obtain ⟨q2302, H⟩ := ifS H
    obtain ⟨ad2303, hAad2303⟩ := RdC.addr f900000.now q2302
    have hk_C := hk
    have f1844_C := f1844
    have f5_C := f5
    have f900000_C := f900000
    have f900019_C := f900019
    subst hAad2303
    have hk := hk_C
    clear hk_C
    have f1844 := f1844_C
    clear f1844_C
    have f5 := f5_C
    clear f5_C
    have f900000 := f900000_C
    clear f900000_C
    have f900019 := f900019_C
    clear f900019_C
    refine x_run tab hk (k := 2) (lv := [.agg #[.int .i64 ((rdD zT67 p0.l x1846).From), .int .i64 ((rdD zT67 p0.l x1846).To)]]) (ks := [3, 5, 12, 13, 14, 17]) (e' := [(3, .pointer (some ⟨bx4, 0, none⟩)), (5, .slice A1841 (l1843).length c1842), (12, .slice (some ad2303) (p0.l).length cp0_0), (13, .int .i64 ((p0.l).length : Int)), (14, .int .i64 x1846), (17, .agg #[.int .i64 ((rdD zT67 p0.l x1846).From), .int .i64 ((rdD zT67 p0.l x1846).To)])]) rfl ⟨q2302, (load_elem (E := ET67) (i := x1846) (dx := zT67) tab rfl rfl f900000.now q2302), trivial⟩ fun a hk => ?_
    refine x_op hk rfl ?_
    refine op_alloc (o := o1840) tab (t := 68) (cs := [.int .i64 0, .int .i64 0]) rfl rfl 244 fun bx2307 w2304 o2305 st2306 f2308 => ?_
    replace f1844 := f1844.st st2306 (by decide)
    replace f5 := f5.st st2306 (by decide)
    replace f900000 := f900000.st st2306 (by decide)
    replace f900019 := f900019.st st2306 (by decide)
    replace hs := hs.loc0 st2306 (by decide)
    have hk := hk.put 7 (.pointer (some ⟨bx2307, 0, none⟩)) rfl
    refine x_op hk rfl ?_
    refine op_store tab hk (t := 68) (v := .agg #[.int .i64 ((rdD zT67 p0.l x1846).From), .int .i64 ((rdD zT67 p0.l x1846).To)]) (b := bx2307) (k := 0) (cs' := [.int .i64 ((rdD zT67 p0.l x1846).From), .int .i64 ((rdD zT67 p0.l x1846).To)]) rfl rfl rfl rfl rfl rfl f2308 rfl rfl fun w2309 o2310 st2311 f2308_ => ?_
    replace f1844 := f1844.st st2311 (by decide)
    replace f5 := f5.st st2311 (by decide)
    replace f900000 := f900000.st st2311 (by decide)
    replace f900019 := f900019.st st2311 (by decide)
    replace hs := hs.loc0 st2311 (by decide)
    replace f2308 := f2308_
    refine wpListIn_nil ?_
    refine then_n ?_
    refine x_seq ?_
    refine x_cut (fun a_ w_ => ∃ o2532 : Nat → Nat, ∃ bx2533 : Nat, ∃ x2535 : T67, Kn 31 a_ [(3, .pointer (some ⟨bx4, 0, none⟩)), (5, .slice A1841 (l1843).length c1842), (8, .pointer (some ⟨bx2533, 0, none⟩)), (12, .slice (some ad2303) (p0.l).length cp0_0), (13, .int .i64 ((p0.l).length : Int)), (14, .int .i64 x1846)] ∧ St [] w (fun _ => 0) w_ o2532 ∧ Ft (Own ET67 68 (.slice A1841 (l1843).length c1842) l1843) w_ o2532 269 ∧ Ft (Bx bx2533 68 [.int .i64 x2535.From, .int .i64 x2535.To]) w_ o2532 270 ∧ Ft (Bx bx4 68 [.int .i64 p1.From, .int .i64 p1.To]) w_ o2532 268 ∧ Ft (RdC ET67 (some ad2303) p0.l) w_ o2532 0 ∧ Ft (Bx bp0 64 [.slice (some ad2303) (p0.l).length cp0_0]) w_ o2532 0 ∧ spans_Set_In_j3 l1843 x1846 lp2299 x2535 = some r) ?_ ?_
    rotate_left
    · rintro a w2536 ⟨o2532, bx2533, x2535, hk, hs, f1844, f2534, f5, f900000, f900019, H⟩
      rw [spans_Set_In_j3] at H
      refine then_n ?_
      refine x_seq ?_
      refine wpIn_region_lit ?_
      refine x_run tab hk (k := 1) (lv := [.agg #[.int .i64 x2535.From, .int .i64 x2535.To]]) (ks := [3, 5, 8, 12, 13, 14, 22]) (e' := [(3, .pointer (some ⟨bx4, 0, none⟩)), (5, .slice A1841 (l1843).length c1842), (8, .pointer (some ⟨bx2533, 0, none⟩)), (12, .slice (some ad2303) (p0.l).length cp0_0), (13, .int .i64 ((p0.l).length : Int)), (14, .int .i64 x1846), (22, .agg #[.int .i64 x2535.From, .int .i64 x2535.To])]) rfl ⟨(load_box tab rfl rfl f2534.now (k := 0) rfl rfl), trivial⟩ fun a hk => ?_
      refine x_op hk rfl ?_
      obtain ⟨t2540, hc2541, H⟩ := bindS H
      refine op_call hk ent_55 (vs := [.agg #[.int .i64 x2535.From, .int .i64 x2535.To]]) rfl (spans_Span_empty_calls x2535 _ o2532    _ hc2541) ?_
      rintro _ w2542 ⟨o2543, rfl, st2544⟩
      replace f1844 := f1844.st st2544 (by decide)
      replace f2534 := f2534.st st2544 (by decide)
      replace f5 := f5.st st2544 (by decide)
      replace f900000 := f900000.st st2544 (by decide)
      replace f900019 := f900019.st st2544 (by decide)
      replace hs := hs.loc0 st2544 (by decide)
      have hk := hk.put 23 (.bool t2540) rfl
      refine x_run tab hk (k := 1) (lv := []) (ks := [3, 5, 8, 12, 13, 14, 24]) (e' := [(3, .pointer (some ⟨bx4, 0, none⟩)), (5, .slice A1841 (l1843).length c1842), (8, .pointer (some ⟨bx2533, 0, none⟩)), (12, .slice (some ad2303) (p0.l).length cp0_0), (13, .int .i64 ((p0.l).length : Int)), (14, .int .i64 x1846), (24, .bool (!t2540))]) rfl trivial fun a hk => ?_
      refine wpListIn_nil ?_
      refine then_n ?_
      cases b2545 : (!t2540)
      · rw [b2545] at hk H
        replace H := bifF H
        refine x_if hk (b := false) rfl ?_
        refine (show Code.wpIn _ _ _ _ _ _ _ from ?_)
        refine wpIn_skip ?_
        refine blk_n ?_
        refine then_n ?_
        refine wpIn_region_lit ?_
        refine x_run tab hk (k := 2) (lv := []) (ks := [3, 5, 12, 13, 14]) (e' := [(3, .pointer (some ⟨bx4, 0, none⟩)), (5, .slice A1841 (l1843).length c1842), (12, .slice (some ad2303) (p0.l).length cp0_0), (13, .int .i64 ((p0.l).length : Int)), (14, .int .i64 (IntKind.wrap .i64 (x1846 + 1)))]) rfl trivial fun a hk => ?_
        refine wpListIn_nil ?_
        refine then_n ?_
        exact ⟨k2298, Nat.le_refl _, (fun b_ => (fun l_ => if l_ = 268 then 192 else if l_ = 269 then 193 else l_) (o2543 b_)), A1841, c1842, l1843, (IntKind.wrap .i64 (x1846 + 1)), (by exact Kn.pick (ks := [3, 5, 12, 13, 14]) hk rfl), (hs.relab0 (fun l_ => if l_ = 268 then 192 else if l_ = 269 then 193 else l_) rfl), (f1844.relab (fun l_ => if l_ = 268 then 192 else if l_ = 269 then 193 else l_) rfl), (f5.relab (fun l_ => if l_ = 268 then 192 else if l_ = 269 then 193 else l_) rfl), (f900000.relab (fun l_ => if l_ = 268 then 192 else if l_ = 269 then 193 else l_) rfl), (f900019.relab (fun l_ => if l_ = 268 then 192 else if l_ = 269 then 193 else l_) rfl), hc1845, (hlp2300 ▸ H)⟩
      · rw [b2545] at hk H
        replace H := bifT H
        refine x_if hk (b := true) rfl ?_
        refine (show Code.wpIn _ _ _ _ _ _ _ from ?_)
        refine wpIn_region_lit ?_
        refine x_run tab hk (k := 2) (lv := [.agg #[.int .i64 x2535.From, .int .i64 x2535.To]]) (ks := [3, 12, 13, 14, 25, 26]) (e' := [(3, .pointer (some ⟨bx4, 0, none⟩)), (12, .slice (some ad2303) (p0.l).length cp0_0), (13, .int .i64 ((p0.l).length : Int)), (14, .int .i64 x1846), (25, .slice A1841 (l1843).length c1842), (26, .agg #[.int .i64 x2535.From, .int .i64 x2535.To])]) rfl ⟨(load_box tab rfl rfl f2534.now (k := 0) rfl rfl), trivial⟩ fun a hk => ?_
        refine x_op hk rfl ?_
        refine op_slice (o := o2543) tab hk (vs := [.agg #[.int .i64 x2535.From, .int .i64 x2535.To]]) (cs := [.int .i64 x2535.From, .int .i64 x2535.To]) rfl rfl rfl rfl rfl rfl rfl rfl rfl 271 fun bx2549 w2546 o2547 st2548 f2550 => ?_
        replace f1844 := f1844.st st2548 (by decide)
        replace f5 := f5.st st2548 (by decide)
        replace f900000 := f900000.st st2548 (by decide)
        replace f900019 := f900019.st st2548 (by decide)
        replace hs := hs.loc0 st2548 (by decide)
        have f2551 : Ft (Own ET67 68 (.slice (some ⟨bx2549, 0, none⟩) (([x2535] : List T67)).length 1) ([x2535] : List T67)) w2546 o2547 271 := f2550.imp fun _ h_ => Own.of_box h_ rfl (by simp)
        have hk := hk.put 27 (.slice (some ⟨bx2549, 0, none⟩) (([x2535] : List T67)).length 1) rfl
        refine x_op hk rfl ?_
        obtain ⟨q2555, H⟩ := ifS H
        refine op_append (o := o2547) (E := ET67) (xs := l1843) (ys := ([x2535] : List T67)) tab hk rfl rfl rfl rfl rfl rfl rfl f1844 (Own.rd f2551.now) q2555 fun A2556 c2557 w2552 o2553 st2554 f2558 hc2559 => ?_
        replace f2551 := f2551.st st2554 (by decide)
        replace f5 := f5.st st2554 (by decide)
        replace f900000 := f900000.st st2554 (by decide)
        replace f900019 := f900019.st st2554 (by decide)
        replace hs := hs.loc0 st2554 (by decide)
        have hk := hk.put 28 (.slice A2556 ((l1843 ++ ([x2535] : List T67))).length c2557) rfl
        refine x_run tab hk (k := 1) (lv := []) (ks := [3, 5, 12, 13, 14]) (e' := [(3, .pointer (some ⟨bx4, 0, none⟩)), (5, .slice A2556 ((l1843 ++ ([x2535] : List T67))).length c2557), (12, .slice (some ad2303) (p0.l).length cp0_0), (13, .int .i64 ((p0.l).length : Int)), (14, .int .i64 x1846)]) rfl trivial fun a hk => ?_
        refine wpListIn_nil ?_
        refine blk_n ?_
        refine then_n ?_
        refine wpIn_region_lit ?_
        refine x_run tab hk (k := 2) (lv := []) (ks := [3, 5, 12, 13, 14]) (e' := [(3, .pointer (some ⟨bx4, 0, none⟩)), (5, .slice A2556 ((l1843 ++ ([x2535] : List T67))).length c2557), (12, .slice (some ad2303) (p0.l).length cp0_0), (13, .int .i64 ((p0.l).length : Int)), (14, .int .i64 (IntKind.wrap .i64 (x1846 + 1)))]) rfl trivial fun a hk => ?_
        refine wpListIn_nil ?_
        refine then_n ?_
        exact ⟨k2298, Nat.le_refl _, (fun b_ => (fun l_ => if l_ = 268 then 192 else if l_ = 269 then 193 else l_) (o2553 b_)), A2556, c2557, (l1843 ++ ([x2535] : List T67)), (IntKind.wrap .i64 (x1846 + 1)), (by exact Kn.pick (ks := [3, 5, 12, 13, 14]) hk rfl), (hs.relab0 (fun l_ => if l_ = 268 then 192 else if l_ = 269 then 193 else l_) rfl), (f2558.relab (fun l_ => if l_ = 268 then 192 else if l_ = 269 then 193 else l_) rfl), (f5.relab (fun l_ => if l_ = 268 then 192 else if l_ = 269 then 193 else l_) rfl), (f900000.relab (fun l_ => if l_ = 268 then 192 else if l_ = 269 then 193 else l_) rfl), (f900019.relab (fun l_ => if l_ = 268 then 192 else if l_ = 269 then 193 else l_) rfl), hc2559, (hlp2300 ▸ H)⟩
    obtain ⟨t2584, hc2585, H⟩ := bindS H
    obtain ⟨t2592, hc2593, H⟩ := bindS H
    refine xd_begin (o := o2310) (fun W_ => (Bx bx2307 68 [.int .i64 ((rdD zT67 p0.l x1846).From), .int .i64 ((rdD zT67 p0.l x1846).To)]) W_ ∧ (Bx bx4 68 [.int .i64 p1.From, .int .i64 p1.To]) W_ ∧ True) mixed rfl rfl fun w2659 st2660 => ?_
    replace f1844 := f1844.st st2660 (by decide)
    replace f2308 := f2308.st st2660 (by decide)
    replace f5 := f5.st st2660 (by decide)
    replace f900000 := f900000.st st2660 (by decide)
    replace f900019 := f900019.st st2660 (by decide)
    replace hs := hs.loc0 st2660 (by decide)
    refine xd_abs fun G hG => ?_
    have N2684 : ∀ (a_ : Act) (w_ : World), (∃ o2682 : Nat → Nat, Kn 31 a_ [(3, .pointer (some ⟨bx4, 0, none⟩)), (5, .slice A1841 (l1843).length c1842), (12, .slice (some ad2303) (p0.l).length cp0_0), (13, .int .i64 ((p0.l).length : Int)), (14, .int .i64 x1846), (21, .agg #[.int .i64 t2592.From, .int .i64 t2592.To])] ∧ St [] w (fun _ => 0) w_ o2682 ∧ Ft (Own ET67 68 (.slice A1841 (l1843).length c1842) l1843) w_ o2682 282 ∧ Ft (Bx bx2307 68 [.int .i64 ((rdD zT67 p0.l x1846).From), .int .i64 ((rdD zT67 p0.l x1846).To)]) w_ o2682 281 ∧ Ft (Bx bx4 68 [.int .i64 p1.From, .int .i64 p1.To]) w_ o2682 280 ∧ Ft (RdC ET67 (some ad2303) p0.l) w_ o2682 0 ∧ Ft (Bx bp0 64 [.slice (some ad2303) (p0.l).length cp0_0]) w_ o2682 0) → G 2 #[true, true, true, true, false, false] a_ w_ := by
      rintro a w2683 ⟨o2682, hk, hs, f1844, f2308, f5, f900000, f900019⟩
      refine xd_of hG ?_
      refine xd_op hk (i := 4) (by kernel_rfl) rfl rfl ?_
      refine op_alloc (o := o2682) tab (t := 68) (cs := [.int .i64 0, .int .i64 0]) rfl rfl 283 fun bx2688 w2685 o2686 st2687 f2689 => ?_
      replace f1844 := f1844.st st2687 (by decide)
      replace f2308 := f2308.st st2687 (by decide)
      replace f5 := f5.st st2687 (by decide)
      replace f900000 := f900000.st st2687 (by decide)
      replace f900019 := f900019.st st2687 (by decide)
      replace hs := hs.loc0 st2687 (by decide)
      have hk := hk.put 8 (.pointer (some ⟨bx2688, 0, none⟩)) rfl
      refine ⟨.inr ⟨f2308.now, f5.now, trivial⟩, ?_⟩
      refine xd_op hk (i := 5) (by kernel_rfl) rfl rfl ?_
      refine op_store tab hk (t := 68) (v := .agg #[.int .i64 t2592.From, .int .i64 t2592.To]) (b := bx2688) (k := 0) (cs' := [.int .i64 t2592.From, .int .i64 t2592.To]) rfl rfl rfl rfl rfl rfl f2689 rfl rfl fun w2690 o2691 st2692 f2689_ => ?_
      replace f1844 := f1844.st st2692 (by decide)
      replace f2308 := f2308.st st2692 (by decide)
      replace f5 := f5.st st2692 (by decide)
      replace f900000 := f900000.st st2692 (by decide)
      replace f900019 := f900019.st st2692 (by decide)
      replace hs := hs.loc0 st2692 (by decide)
      replace f2689 := f2689_
      refine ⟨.inl (by kernel_rfl), ?_⟩
      refine xd_done (by kernel_rfl) ?_
      refine then_n ?_
      exact ⟨(fun b_ => (fun l_ => if l_ = 280 then 268 else if l_ = 282 then 269 else if l_ = 283 then 270 else l_) (o2691 b_)), bx2688, t2592, (by exact Kn.pick (ks := [3, 5, 8, 12, 13, 14]) hk rfl), (hs.relab0 (fun l_ => if l_ = 280 then 268 else if l_ = 282 then 269 else if l_ = 283 then 270 else l_) rfl), (f1844.relab (fun l_ => if l_ = 280 then 268 else if l_ = 282 then 269 else if l_ = 283 then 270 else l_) rfl), (f2689.relab (fun l_ => if l_ = 280 then 268 else if l_ = 282 then 269 else if l_ = 283 then 270 else l_) rfl), (f5.relab (fun l_ => if l_ = 280 then 268 else if l_ = 282 then 269 else if l_ = 283 then 270 else l_) rfl), (f900000.relab (fun l_ => if l_ = 280 then 268 else if l_ = 282 then 269 else if l_ = 283 then 270 else l_) rfl), (f900019.relab (fun l_ => if l_ = 280 then 268 else if l_ = 282 then 269 else if l_ = 283 then 270 else l_) rfl), H⟩
    have N2709 : ∀ (a_ : Act) (w_ : World), (∃ o2705 : Nat → Nat, ∃ bx2706 : Nat, Kn 31 a_ [(3, .pointer (some ⟨bx4, 0, none⟩)), (5, .slice A1841 (l1843).length c1842), (8, .pointer (some ⟨bx2706, 0, none⟩)), (12, .slice (some ad2303) (p0.l).length cp0_0), (13, .int .i64 ((p0.l).length : Int)), (14, .int .i64 x1846), (18, .agg #[.int .i64 ((rdD zT67 p0.l x1846).From), .int .i64 ((rdD zT67 p0.l x1846).To)]), (20, .agg #[.int .i64 t2584.From, .int .i64 t2584.To])] ∧ St [] w (fun _ => 0) w_ o2705 ∧ Ft (Own ET67 68 (.slice A1841 (l1843).length c1842) l1843) w_ o2705 287 ∧ Ft (Bx bx2307 68 [.int .i64 ((rdD zT67 p0.l x1846).From), .int .i64 ((rdD zT67 p0.l x1846).To)]) w_ o2705 286 ∧ Ft (Bx bx2706 68 [.int .i64 0, .int .i64 0]) w_ o2705 288 ∧ Ft (Bx bx4 68 [.int .i64 p1.From, .int .i64 p1.To]) w_ o2705 285 ∧ Ft (RdC ET67 (some ad2303) p0.l) w_ o2705 0 ∧ Ft (Bx bp0 64 [.slice (some ad2303) (p0.l).length cp0_0]) w_ o2705 0) → G 2 #[true, true, true, false, true, false] a_ w_ := by
      rintro a w2708 ⟨o2705, bx2706, hk, hs, f1844, f2308, f2707, f5, f900000, f900019⟩
      refine xd_of hG ?_
      refine xd_op hk (i := 3) (by kernel_rfl) rfl rfl ?_
      refine op_call hk ent_58 (vs := [.agg #[.int .i64 ((rdD zT67 p0.l x1846).From), .int .i64 ((rdD zT67 p0.l x1846).To)], .agg #[.int .i64 t2584.From, .int .i64 t2584.To]]) rfl (spans_Span_both_calls (rdD zT67 p0.l x1846) t2584 _ o2705    _ hc2593) ?_
      rintro _ w2713 ⟨o2714, rfl, st2715⟩
      replace f1844 := f1844.st st2715 (by decide)
      replace f2308 := f2308.st st2715 (by decide)
      replace f2707 := f2707.st st2715 (by decide)
      replace f5 := f5.st st2715 (by decide)
      replace f900000 := f900000.st st2715 (by decide)
      replace f900019 := f900019.st st2715 (by decide)
      replace hs := hs.loc0 st2715 (by decide)
      have hk := hk.put 21 (.agg #[.int .i64 t2592.From, .int .i64 t2592.To]) rfl
      refine ⟨.inr ⟨f2308.now, f5.now, trivial⟩, ?_⟩
      refine xd_op hk (i := 5) (by kernel_rfl) rfl rfl ?_
      refine op_store tab hk (t := 68) (v := .agg #[.int .i64 t2592.From, .int .i64 t2592.To]) (b := bx2706) (k := 0) (cs' := [.int .i64 t2592.From, .int .i64 t2592.To]) rfl rfl rfl rfl rfl rfl f2707 rfl rfl fun w2716 o2717 st2718 f2707_ => ?_
      replace f1844 := f1844.st st2718 (by decide)
      replace f2308 := f2308.st st2718 (by decide)
      replace f5 := f5.st st2718 (by decide)
      replace f900000 := f900000.st st2718 (by decide)
      replace f900019 := f900019.st st2718 (by decide)
      replace hs := hs.loc0 st2718 (by decide)
      replace f2707 := f2707_
      refine ⟨.inl (by kernel_rfl), ?_⟩
      refine xd_done (by kernel_rfl) ?_
      refine then_n ?_
      exact ⟨(fun b_ => (fun l_ => if l_ = 285 then 268 else if l_ = 287 then 269 else if l_ = 288 then 270 else l_) (o2717 b_)), bx2706, t2592, (by exact Kn.pick (ks := [3, 5, 8, 12, 13, 14]) hk rfl), (hs.relab0 (fun l_ => if l_ = 285 then 268 else if l_ = 287 then 269 else if l_ = 288 then 270 else l_) rfl), (f1844.relab (fun l_ => if l_ = 285 then 268 else if l_ = 287 then 269 else if l_ = 288 then 270 else l_) rfl), (f2707.relab (fun l_ => if l_ = 285 then 268 else if l_ = 287 then 269 else if l_ = 288 then 270 else l_) rfl), (f5.relab (fun l_ => if l_ = 285 then 268 else if l_ = 287 then 269 else if l_ = 288 then 270 else l_) rfl), (f900000.relab (fun l_ => if l_ = 285 then 268 else if l_ = 287 then 269 else if l_ = 288 then 270 else l_) rfl), (f900019.relab (fun l_ => if l_ = 285 then 268 else if l_ = 287 then 269 else if l_ = 288 then 270 else l_) rfl), H⟩
    have N2672 : ∀ (a_ : Act) (w_ : World), (∃ o2670 : Nat → Nat, Kn 31 a_ [(3, .pointer (some ⟨bx4, 0, none⟩)), (5, .slice A1841 (l1843).length c1842), (12, .slice (some ad2303) (p0.l).length cp0_0), (13, .int .i64 ((p0.l).length : Int)), (14, .int .i64 x1846), (18, .agg #[.int .i64 ((rdD zT67 p0.l x1846).From), .int .i64 ((rdD zT67 p0.l x1846).To)]), (20, .agg #[.int .i64 t2584.From, .int .i64 t2584.To])] ∧ St [] w (fun _ => 0) w_ o2670 ∧ Ft (Own ET67 68 (.slice A1841 (l1843).length c1842) l1843) w_ o2670 279 ∧ Ft (Bx bx2307 68 [.int .i64 ((rdD zT67 p0.l x1846).From), .int .i64 ((rdD zT67 p0.l x1846).To)]) w_ o2670 278 ∧ Ft (Bx bx4 68 [.int .i64 p1.From, .int .i64 p1.To]) w_ o2670 277 ∧ Ft (RdC ET67 (some ad2303) p0.l) w_ o2670 0 ∧ Ft (Bx bp0 64 [.slice (some ad2303) (p0.l).length cp0_0]) w_ o2670 0) → G 3 #[true, true, true, false, false, false] a_ w_ := by
      rintro a w2671 ⟨o2670, hk, hs, f1844, f2308, f5, f900000, f900019⟩
      refine xd_of hG ?_
      refine xd_each [3, 4] (by kernel_rfl) rfl ⟨?_, ?_, trivial⟩
      · refine xd_one hk rfl rfl ?_
        refine op_call hk ent_58 (vs := [.agg #[.int .i64 ((rdD zT67 p0.l x1846).From), .int .i64 ((rdD zT67 p0.l x1846).To)], .agg #[.int .i64 t2584.From, .int .i64 t2584.To]]) rfl (spans_Span_both_calls (rdD zT67 p0.l x1846) t2584 _ o2670    _ hc2593) ?_
        rintro _ w2676 ⟨o2677, rfl, st2678⟩
        replace f1844 := f1844.st st2678 (by decide)
        replace f2308 := f2308.st st2678 (by decide)
        replace f5 := f5.st st2678 (by decide)
        replace f900000 := f900000.st st2678 (by decide)
        replace f900019 := f900019.st st2678 (by decide)
        replace hs := hs.loc0 st2678 (by decide)
        have hk := hk.put 21 (.agg #[.int .i64 t2592.From, .int .i64 t2592.To]) rfl
        refine ⟨.inr ⟨f2308.now, f5.now, trivial⟩, ?_⟩
        exact xd_to hG rfl (N2684 _ _ ⟨(fun b_ => (fun l_ => if l_ = 277 then 280 else if l_ = 278 then 281 else if l_ = 279 then 282 else l_) (o2677 b_)), (by exact Kn.pick (ks := [3, 5, 12, 13, 14, 21]) hk rfl), (hs.relab0 (fun l_ => if l_ = 277 then 280 else if l_ = 278 then 281 else if l_ = 279 then 282 else l_) rfl), (f1844.relab (fun l_ => if l_ = 277 then 280 else if l_ = 278 then 281 else if l_ = 279 then 282 else l_) rfl), (f2308.relab (fun l_ => if l_ = 277 then 280 else if l_ = 278 then 281 else if l_ = 279 then 282 else l_) rfl), (f5.relab (fun l_ => if l_ = 277 then 280 else if l_ = 278 then 281 else if l_ = 279 then 282 else l_) rfl), (f900000.relab (fun l_ => if l_ = 277 then 280 else if l_ = 278 then 281 else if l_ = 279 then 282 else l_) rfl), (f900019.relab (fun l_ => if l_ = 277 then 280 else if l_ = 278 then 281 else if l_ = 279 then 282 else l_) rfl)⟩)
      · refine xd_one hk rfl rfl ?_
        refine op_alloc (o := o2670) tab (t := 68) (cs := [.int .i64 0, .int .i64 0]) rfl rfl 284 fun bx2696 w2693 o2694 st2695 f2697 => ?_
        replace f1844 := f1844.st st2695 (by decide)
        replace f2308 := f2308.st st2695 (by decide)
        replace f5 := f5.st st2695 (by decide)
        replace f900000 := f900000.st st2695 (by decide)
        replace f900019 := f900019.st st2695 (by decide)
        replace hs := hs.loc0 st2695 (by decide)
        have hk := hk.put 8 (.pointer (some ⟨bx2696, 0, none⟩)) rfl
        refine ⟨.inr ⟨f2308.now, f5.now, trivial⟩, ?_⟩
        exact xd_to hG rfl (N2709 _ _ ⟨(fun b_ => (fun l_ => if l_ = 277 then 285 else if l_ = 278 then 286 else if l_ = 279 then 287 else if l_ = 284 then 288 else l_) (o2694 b_)), bx2696, (by exact Kn.pick (ks := [3, 5, 8, 12, 13, 14, 18, 20]) hk rfl), (hs.relab0 (fun l_ => if l_ = 277 then 285 else if l_ = 278 then 286 else if l_ = 279 then 287 else if l_ = 284 then 288 else l_) rfl), (f1844.relab (fun l_ => if l_ = 277 then 285 else if l_ = 278 then 286 else if l_ = 279 then 287 else if l_ = 284 then 288 else l_) rfl), (f2308.relab (fun l_ => if l_ = 277 then 285 else if l_ = 278 then 286 else if l_ = 279 then 287 else if l_ = 284 then 288 else l_) rfl), (f2697.relab (fun l_ => if l_ = 277 then 285 else if l_ = 278 then 286 else if l_ = 279 then 287 else if l_ = 284 then 288 else l_) rfl), (f5.relab (fun l_ => if l_ = 277 then 285 else if l_ = 278 then 286 else if l_ = 279 then 287 else if l_ = 284 then 288 else l_) rfl), (f900000.relab (fun l_ => if l_ = 277 then 285 else if l_ = 278 then 286 else if l_ = 279 then 287 else if l_ = 284 then 288 else l_) rfl), (f900019.relab (fun l_ => if l_ = 277 then 285 else if l_ = 278 then 286 else if l_ = 279 then 287 else if l_ = 284 then 288 else l_) rfl)⟩)
    have N2735 : ∀ (a_ : Act) (w_ : World), (∃ o2731 : Nat → Nat, ∃ bx2732 : Nat, Kn 31 a_ [(3, .pointer (some ⟨bx4, 0, none⟩)), (5, .slice A1841 (l1843).length c1842), (8, .pointer (some ⟨bx2732, 0, none⟩)), (12, .slice (some ad2303) (p0.l).length cp0_0), (13, .int .i64 ((p0.l).length : Int)), (14, .int .i64 x1846), (18, .agg #[.int .i64 ((rdD zT67 p0.l x1846).From), .int .i64 ((rdD zT67 p0.l x1846).To)]), (19, .agg #[.int .i64 p1.From, .int .i64 p1.To])] ∧ St [] w (fun _ => 0) w_ o2731 ∧ Ft (Own ET67 68 (.slice A1841 (l1843).length c1842) l1843) w_ o2731 292 ∧ Ft (Bx bx2307 68 [.int .i64 ((rdD zT67 p0.l x1846).From), .int .i64 ((rdD zT67 p0.l x1846).To)]) w_ o2731 291 ∧ Ft (Bx bx2732 68 [.int .i64 0, .int .i64 0]) w_ o2731 293 ∧ Ft (Bx bx4 68 [.int .i64 p1.From, .int .i64 p1.To]) w_ o2731 290 ∧ Ft (RdC ET67 (some ad2303) p0.l) w_ o2731 0 ∧ Ft (Bx bp0 64 [.slice (some ad2303) (p0.l).length cp0_0]) w_ o2731 0) → G 3 #[true, true, false, false, true, false] a_ w_ := by
      rintro a w2734 ⟨o2731, bx2732, hk, hs, f1844, f2308, f2733, f5, f900000, f900019⟩
      refine xd_of hG ?_
      refine xd_op hk (i := 2) (by kernel_rfl) rfl rfl ?_
      refine op_call hk ent_54 (vs := [.agg #[.int .i64 p1.From, .int .i64 p1.To]]) rfl (spans_Span_fit_calls p1 _ o2731    _ hc2585) ?_
      rintro _ w2739 ⟨o2740, rfl, st2741⟩
      replace f1844 := f1844.st st2741 (by decide)
      replace f2308 := f2308.st st2741 (by decide)
      replace f2733 := f2733.st st2741 (by decide)
      replace f5 := f5.st st2741 (by decide)
      replace f900000 := f900000.st st2741 (by decide)
      replace f900019 := f900019.st st2741 (by decide)
      replace hs := hs.loc0 st2741 (by decide)
      have hk := hk.put 20 (.agg #[.int .i64 t2584.From, .int .i64 t2584.To]) rfl
      refine ⟨.inr ⟨f2308.now, f5.now, trivial⟩, ?_⟩
      refine xd_op hk (i := 3) (by kernel_rfl) rfl rfl ?_
      refine op_call hk ent_58 (vs := [.agg #[.int .i64 ((rdD zT67 p0.l x1846).From), .int .i64 ((rdD zT67 p0.l x1846).To)], .agg #[.int .i64 t2584.From, .int .i64 t2584.To]]) rfl (spans_Span_both_calls (rdD zT67 p0.l x1846) t2584 _ o2740    _ hc2593) ?_
      rintro _ w2745 ⟨o2746, rfl, st2747⟩
      replace f1844 := f1844.st st2747 (by decide)
      replace f2308 := f2308.st st2747 (by decide)
      replace f2733 := f2733.st st2747 (by decide)
      replace f5 := f5.st st2747 (by decide)
      replace f900000 := f900000.st st2747 (by decide)
      replace f900019 := f900019.st st2747 (by decide)
      replace hs := hs.loc0 st2747 (by decide)
      have hk := hk.put 21 (.agg #[.int .i64 t2592.From, .int .i64 t2592.To]) rfl
      refine ⟨.inr ⟨f2308.now, f5.now, trivial⟩, ?_⟩
      refine xd_op hk (i := 5) (by kernel_rfl) rfl rfl ?_
      refine op_store tab hk (t := 68) (v := .agg #[.int .i64 t2592.From, .int .i64 t2592.To]) (b := bx2732) (k := 0) (cs' := [.int .i64 t2592.From, .int .i64 t2592.To]) rfl rfl rfl rfl rfl rfl f2733 rfl rfl fun w2748 o2749 st2750 f2733_ => ?_
      replace f1844 := f1844.st st2750 (by decide)
      replace f2308 := f2308.st st2750 (by decide)
      replace f5 := f5.st st2750 (by decide)
      replace f900000 := f900000.st st2750 (by decide)
      replace f900019 := f900019.st st2750 (by decide)
      replace hs := hs.loc0 st2750 (by decide)
      replace f2733 := f2733_
      refine ⟨.inl (by kernel_rfl), ?_⟩
      refine xd_done (by kernel_rfl) ?_
      refine then_n ?_
      exact ⟨(fun b_ => (fun l_ => if l_ = 290 then 268 else if l_ = 292 then 269 else if l_ = 293 then 270 else l_) (o2749 b_)), bx2732, t2592, (by exact Kn.pick (ks := [3, 5, 8, 12, 13, 14]) hk rfl), (hs.relab0 (fun l_ => if l_ = 290 then 268 else if l_ = 292 then 269 else if l_ = 293 then 270 else l_) rfl), (f1844.relab (fun l_ => if l_ = 290 then 268 else if l_ = 292 then 269 else if l_ = 293 then 270 else l_) rfl), (f2733.relab (fun l_ => if l_ = 290 then 268 else if l_ = 292 then 269 else if l_ = 293 then 270 else l_) rfl), (f5.relab (fun l_ => if l_ = 290 then 268 else if l_ = 292 then 269 else if l_ = 293 then 270 else l_) rfl), (f900000.relab (fun l_ => if l_ = 290 then 268 else if l_ = 292 then 269 else if l_ = 293 then 270 else l_) rfl), (f900019.relab (fun l_ => if l_ = 290 then 268 else if l_ = 292 then 269 else if l_ = 293 then 270 else l_) rfl), H⟩
    refine xd_of hG ?_
    refine xd_take tab hk (k := 4) (is := [0, 1]) (ls' := #[true, true, false, false, false, false]) (lv := [.agg #[.int .i64 ((rdD zT67 p0.l x1846).From), .int .i64 ((rdD zT67 p0.l x1846).To)], .agg #[.int .i64 p1.From, .int .i64 p1.To]]) (ks := [3, 5, 12, 13, 14, 18, 19]) (e' := [(3, .pointer (some ⟨bx4, 0, none⟩)), (5, .slice A1841 (l1843).length c1842), (12, .slice (some ad2303) (p0.l).length cp0_0), (13, .int .i64 ((p0.l).length : Int)), (14, .int .i64 x1846), (18, .agg #[.int .i64 ((rdD zT67 p0.l x1846).From), .int .i64 ((rdD zT67 p0.l x1846).To)]), (19, .agg #[.int .i64 p1.From, .int .i64 p1.To])]) (by kernel_rfl) rfl rfl (by kernel_rfl) (np_then (np_then (np_blk (np_then (np_then (np_blk (np_then np_body))))))) ⟨f2308.now, f5.now, trivial⟩ (fun W_ hS => ⟨(load_box tab rfl rfl hS.1 (k := 0) rfl rfl), (load_box tab rfl rfl hS.2.1 (k := 0) rfl rfl), trivial⟩) fun a hk => ?_
    refine xd_each [2, 4] (by kernel_rfl) rfl ⟨?_, ?_, trivial⟩
    · refine xd_one hk rfl rfl ?_
      refine op_call hk ent_54 (vs := [.agg #[.int .i64 p1.From, .int .i64 p1.To]]) rfl (spans_Span_fit_calls p1 _ o2310    _ hc2585) ?_
      rintro _ w2664 ⟨o2665, rfl, st2666⟩
      replace f1844 := f1844.st st2666 (by decide)
      replace f2308 := f2308.st st2666 (by decide)
      replace f5 := f5.st st2666 (by decide)
      replace f900000 := f900000.st st2666 (by decide)
      replace f900019 := f900019.st st2666 (by decide)
      replace hs := hs.loc0 st2666 (by decide)
      have hk := hk.put 20 (.agg #[.int .i64 t2584.From, .int .i64 t2584.To]) rfl
      refine ⟨.inr ⟨f2308.now, f5.now, trivial⟩, ?_⟩
      exact xd_to hG rfl (N2672 _ _ ⟨(fun b_ => (fun l_ => if l_ = 192 then 277 else if l_ = 193 then 279 else if l_ = 244 then 278 else l_) (o2665 b_)), (by exact Kn.pick (ks := [3, 5, 12, 13, 14, 18, 20]) hk rfl), (hs.relab0 (fun l_ => if l_ = 192 then 277 else if l_ = 193 then 279 else if l_ = 244 then 278 else l_) rfl), (f1844.relab (fun l_ => if l_ = 192 then 277 else if l_ = 193 then 279 else if l_ = 244 then 278 else l_) rfl), (f2308.relab (fun l_ => if l_ = 192 then 277 else if l_ = 193 then 279 else if l_ = 244 then 278 else l_) rfl), (f5.relab (fun l_ => if l_ = 192 then 277 else if l_ = 193 then 279 else if l_ = 244 then 278 else l_) rfl), (f900000.relab (fun l_ => if l_ = 192 then 277 else if l_ = 193 then 279 else if l_ = 244 then 278 else l_) rfl), (f900019.relab (fun l_ => if l_ = 192 then 277 else if l_ = 193 then 279 else if l_ = 244 then 278 else l_) rfl)⟩)
    · refine xd_one hk rfl rfl ?_
      refine op_alloc (o := o2310) tab (t := 68) (cs := [.int .i64 0, .int .i64 0]) rfl rfl 289 fun bx2722 w2719 o2720 st2721 f2723 => ?_
      replace f1844 := f1844.st st2721 (by decide)
      replace f2308 := f2308.st st2721 (by decide)
      replace f5 := f5.st st2721 (by decide)
      replace f900000 := f900000.st st2721 (by decide)
      replace f900019 := f900019.st st2721 (by decide)
      replace hs := hs.loc0 st2721 (by decide)
      have hk := hk.put 8 (.pointer (some ⟨bx2722, 0, none⟩)) rfl
      refine ⟨.inr ⟨f2308.now, f5.now, trivial⟩, ?_⟩
      exact xd_to hG rfl (N2735 _ _ ⟨(fun b_ => (fun l_ => if l_ = 192 then 290 else if l_ = 193 then 292 else if l_ = 244 then 291 else if l_ = 289 then 293 else l_) (o2720 b_)), bx2722, (by exact Kn.pick (ks := [3, 5, 8, 12, 13, 14, 18, 19]) hk rfl), (hs.relab0 (fun l_ => if l_ = 192 then 290 else if l_ = 193 then 292 else if l_ = 244 then 291 else if l_ = 289 then 293 else l_) rfl), (f1844.relab (fun l_ => if l_ = 192 then 290 else if l_ = 193 then 292 else if l_ = 244 then 291 else if l_ = 289 then 293 else l_) rfl), (f2308.relab (fun l_ => if l_ = 192 then 290 else if l_ = 193 then 292 else if l_ = 244 then 291 else if l_ = 289 then 293 else l_) rfl), (f2723.relab (fun l_ => if l_ = 192 then 290 else if l_ = 193 then 292 else if l_ = 244 then 291 else if l_ = 289 then 293 else l_) rfl), (f5.relab (fun l_ => if l_ = 192 then 290 else if l_ = 193 then 292 else if l_ = 244 then 291 else if l_ = 289 then 293 else l_) rfl), (f900000.relab (fun l_ => if l_ = 192 then 290 else if l_ = 193 then 292 else if l_ = 244 then 291 else if l_ = 289 then 293 else l_) rfl), (f900019.relab (fun l_ => if l_ = 192 then 290 else if l_ = 193 then 292 else if l_ = 244 then 291 else if l_ = 289 then 293 else l_) rfl)⟩)

/-! (*tidewrack/cache.Cache).Peek -/
theorem cache_Cache_Peek_calls (bp0 : Nat) (Ap0_0 : Option Addr) (cp0_0 : Nat) (p0 : T118) (p1 : Int) (w : World) (o : Nat → Nat) (LF : Nat) (Lp0 : Nat) (hp0 : Ft (Bx bp0 119 [.int .i64 p0.most, .int .i64 p0.now, mv Ap0_0]) w o Lp0) (Lp0_0 : Nat) (hp0_0 : MpN dT129 true Ap0_0 p0.l w o Lp0_0 LF) (hcp0_0 : (p0.l).length ≤ cp0_0) (hd0 : ([LF] : List Nat).Nodup) (hd1 : Lp0_0 ∉ [LF]) (hd2 : Lp0 ∉ [LF]) (R0 : Nat) (r : (List T36) × Bool) (H : cache_Cache_Peek p0 p1 = some r) :
    Calls Tryd.prog 59 #[.pointer (some ⟨bp0, 0, none⟩), .int .i64 p1] w (Ret fun v_ w' => ∃ o' : Nat → Nat, ∃ A0 : Option Addr, ∃ c0 : Nat, v_ = .tuple #[.slice A0 (r.1).length c0, .bool r.2] ∧ St [] w o w' o' ∧ Ft (Own ET36 37 (.slice A0 (r.1).length c0) r.1) w' o' R0 ∧ (r.1).length ≤ c0) := by
  refine x_enter (vs := [.pointer (some ⟨bp0, 0, none⟩), .int .i64 p1]) Tryd.func59 rfl rfl rfl fun a hk => ?_
  obtain ⟨oi, hs0, h0, h1, hob, hoz, hoa⟩ := St.startM2 w o (m := 1) hd0 rfl
  have hs := hs0 []
  have f900000 := hp0_0.conv (fun P_ => h0 P_ _ hd1) (fun _ h_ => h1 0 1 h_ rfl rfl)
  have f900019 := h0 _ _ hd2 hp0
  clear h0 h1 hs0
  rw [cache_Cache_Peek] at H
  refine x_seq ?_
  refine wpIn_region_lit ?_
  refine x_run tab hk (k := 2) (lv := []) (ks := [0, 1]) (e' := [(0, .pointer (some ⟨bp0, 0, none⟩)), (1, .int .i64 p1)]) rfl trivial fun a hk => ?_
  refine wpListIn_nil ?_
  refine then_n ?_
  refine x_seq ?_
  refine wpIn_region_lit ?_
  obtain ⟨A1, c2, f3, f4, hc5⟩ := lkT129 f900000 (P := Tryd.prog) tab (mt := 117) rfl rfl rfl rfl p1
  refine x_run tab hk (k := 9) (lv := [mv Ap0_0, .tuple #[.agg #[.slice A1 ((M.get zT129 p0.l p1).l).length c2, .int .i64 ((M.get zT129 p0.l p1).at_)], .bool (M.has p0.l p1)]]) (ks := [15, 16]) (e' := [(15, .agg #[.slice A1 ((M.get zT129 p0.l p1).l).length c2, .int .i64 ((M.get zT129 p0.l p1).at_)]), (16, .bool (M.has p0.l p1))]) rfl ⟨(load1 tab rfl ((Bx.cell f900019.now 2).trans rfl)), (ask_look2 f3.now rfl rfl), trivial⟩ fun a hk => ?_
  refine x_op hk rfl ?_
  refine op_alloc (o := oi) tab (t := 130) (cs := [.slice none 0 0, .int .i64 0]) rfl rfl 2 fun bx9 w6 o7 st8 f10 => ?_
  replace f4 := f4.st st8 (by decide)
  replace f900000 := f900000.st st8 (by decide)
  replace f900019 := f900019.st st8 (by decide)
  replace hs := hs.locQ st8 hob rfl
  have hk := hk.put 6 (.pointer (some ⟨bx9, 0, none⟩)) rfl
  refine x_op hk rfl ?_
  refine op_store tab hk (t := 130) (v := .agg #[.slice A1 ((M.get zT129 p0.l p1).l).length c2, .int .i64 ((M.get zT129 p0.l p1).at_)]) (b := bx9) (k := 0) (cs' := [.slice A1 ((M.get zT129 p0.l p1).l).length c2, .int .i64 ((M.get zT129 p0.l p1).at_)]) rfl rfl rfl rfl rfl rfl f10 rfl rfl fun w11 o12 st13 f10_ => ?_
  replace f4 := f4.st st13 (by decide)
  replace f900000 := f900000.st st13 (by decide)
  replace f900019 := f900019.st st13 (by decide)
  replace hs := hs.locQ st13 hob rfl
  replace f10 := f10_
  refine x_run tab hk (k := 1) (lv := []) (ks := [6, 7]) (e' := [(6, .pointer (some ⟨bx9, 0, none⟩)), (7, .bool (M.has p0.l p1))]) rfl trivial fun a hk => ?_
  refine wpListIn_nil ?_
  refine then_n ?_
  refine x_seq ?_
  refine wpIn_region_lit ?_
  refine x_run tab hk (k := 2) (lv := [.slice A1 ((M.get zT129 p0.l p1).l).length c2]) (ks := [7, 18]) (e' := [(7, .bool (M.has p0.l p1)), (18, .slice A1 ((M.get zT129 p0.l p1).l).length c2)]) rfl ⟨(load1 tab rfl ((Bx.cell f10.now 0).trans rfl)), trivial⟩ fun a hk => ?_
  refine x_op hk rfl ?_
  obtain ⟨t17, hc18, H⟩ := bindS H
  refine op_call hk ent_47 (vs := [.slice A1 ((M.get zT129 p0.l p1).l).length c2]) rfl (slices_Clone_calls A1 c2 ((M.get zT129 p0.l p1).l) _ o12 _ f4 hc5 3  _ hc18) ?_
  rintro _ w19 ⟨o20, A22, c23, rfl, st21, f24, hc25⟩
  replace f4 := f4.st st21 (by decide)
  replace f900000 := f900000.st st21 (by decide)
  replace f900019 := f900019.st st21 (by decide)
  replace hs := hs.locQ st21 hob rfl
  have hk := hk.put 19 (.slice A22 (t17).length c23) rfl
  refine x_run tab hk (k := 3) (lv := []) (ks := [4, 5]) (e' := [(4, .slice A22 (t17).length c23), (5, .bool (M.has p0.l p1))]) rfl trivial fun a hk => ?_
  refine wpListIn_nil ?_
  refine then_n ?_
  refine wpIn_ret ?_
  obtain rfl := Option.some.inj H
  exact x_retG hk (rs := [.tmp 4, .tmp 5]) (vs := [.slice A22 (t17).length c23, .bool (M.has p0.l p1)]) rfl ⟨rfl, rfl, trivial⟩ ⟨cl w oi o [] (fun l_ => if l_ = 1 then LF else if l_ = 3 then R0 else 0) o20, A22, c23, rfl, hs.closeF (Lm := []) (Sh := []) hoa rfl (fun l_ => if l_ = 1 then LF else if l_ = 3 then R0 else 0), hs.closeM_ft (o := o) (ρ := fun l_ => if l_ = 1 then LF else if l_ = 3 then R0 else 0) f24 (lab_none hob rfl) rfl, hc25⟩

/-! (*tidewrack/cache.Cache).Get -/
theorem cache_Cache_Get_calls (bp0 : Nat) (Ap0_0 : Option Addr) (cp0_0 : Nat) (p0 : T118) (p1 : Int) (w : World) (o : Nat → Nat) (LF : Nat) (Lp0 : Nat) (hp0 : Ft (Bx bp0 119 [.int .i64 p0.most, .int .i64 p0.now, mv Ap0_0]) w o Lp0) (Lp0_0 : Nat) (hp0_0 : MpN dT129 true Ap0_0 p0.l w o Lp0_0 LF) (hcp0_0 : (p0.l).length ≤ cp0_0) (hd0 : ([LF, Lp0, Lp0_0] : List Nat).Nodup) (R0 : Nat) (r : (List T36) × Bool × T118) (H : cache_Cache_Get p0 p1 = some r) :
    Calls Tryd.prog 24 #[.pointer (some ⟨bp0, 0, none⟩), .int .i64 p1] w (Ret fun v_ w' => ∃ o' : Nat → Nat, ∃ A0 : Option Addr, ∃ c0 : Nat, ∃ A1 : Option Addr, ∃ c1 : Nat, v_ = .tuple #[.slice A0 (r.1).length c0, .bool r.2.1] ∧ St [Lp0, Lp0_0] w o w' o' ∧ Ft (Own ET36 37 (.slice A0 (r.1).length c0) r.1) w' o' R0 ∧ (r.1).length ≤ c0 ∧ Ft (Bx bp0 119 [.int .i64 r.2.2.most, .int .i64 r.2.2.now, mv A1]) w' o' Lp0 ∧ MpN dT129 true A1 r.2.2.l w' o' Lp0_0 LF ∧ (r.2.2.l).length ≤ c1) := by
  refine x_enter (vs := [.pointer (some ⟨bp0, 0, none⟩), .int .i64 p1]) Tryd.func24 rfl rfl rfl fun a hk => ?_
  obtain ⟨oi, hs0, h0, h1, hob, hoz, hoa⟩ := St.startM2 w o (m := 3) hd0 rfl
  have hs := hs0 [2, 3]
  have f900000 := hp0_0.conv (fun _ h_ => h1 2 3 h_ rfl rfl) (fun _ h_ => h1 0 1 h_ rfl rfl)
  have f900019 := h1 1 2 hp0 rfl rfl
  clear h0 h1 hs0
  rw [cache_Cache_Get] at H
  refine x_seq ?_
  refine wpIn_region_lit ?_
  refine x_run tab hk (k := 2) (lv := []) (ks := [0, 1]) (e' := [(0, .pointer (some ⟨bp0, 0, none⟩)), (1, .int .i64 p1)]) rfl trivial fun a hk => ?_
  refine wpListIn_nil ?_
  refine then_n ?_
  refine x_seq ?_
  refine x_seq ?_
  refine wpIn_region_lit ?_
  obtain ⟨A1, c2, f3, f4, hc5⟩ := lkT129 f900000 (P := Tryd.prog) tab (mt := 117) rfl rfl rfl rfl p1
  refine x_run tab hk (k := 9) (lv := [mv Ap0_0, .tuple #[.agg #[.slice A1 ((M.get zT129 p0.l p1).l).length c2, .int .i64 ((M.get zT129 p0.l p1).at_)], .bool (M.has p0.l p1)]]) (ks := [0, 1, 15, 16]) (e' := [(0, .pointer (some ⟨bp0, 0, none⟩)), (1, .int .i64 p1), (15, .agg #[.slice A1 ((M.get zT129 p0.l p1).l).length c2, .int .i64 ((M.get zT129 p0.l p1).at_)]), (16, .bool (M.has p0.l p1))]) rfl ⟨(load1 tab rfl ((Bx.cell f900019.now 2).trans rfl)), (ask_look2 f3.now rfl rfl), trivial⟩ fun a hk => ?_
  refine x_op hk rfl ?_
  refine op_alloc (o := oi) tab (t := 130) (cs := [.slice none 0 0, .int .i64 0]) rfl rfl 4 fun bx9 w6 o7 st8 f10 => ?_
  replace f4 := f4.st st8 (by decide)
  replace f900000 := f900000.st st8 (by decide)
  replace f900019 := f900019.st st8 (by decide)
  replace hs := hs.locQ st8 hob rfl
  have hk := hk.put 6 (.pointer (some ⟨bx9, 0, none⟩)) rfl
  refine x_op hk rfl ?_
  refine op_store tab hk (t := 130) (v := .agg #[.slice A1 ((M.get zT129 p0.l p1).l).length c2, .int .i64 ((M.get zT129 p0.l p1).at_)]) (b := bx9) (k := 0) (cs' := [.slice A1 ((M.get zT129 p0.l p1).l).length c2, .int .i64 ((M.get zT129 p0.l p1).at_)]) rfl rfl rfl rfl rfl rfl f10 rfl rfl fun w11 o12 st13 f10_ => ?_
  replace f4 := f4.st st13 (by decide)
  replace f900000 := f900000.st st13 (by decide)
  replace f900019 := f900019.st st13 (by decide)
  replace hs := hs.locQ st13 hob rfl
  replace f10 := f10_
  refine x_run tab hk (k := 1) (lv := []) (ks := [0, 1, 6, 7]) (e' := [(0, .pointer (some ⟨bp0, 0, none⟩)), (1, .int .i64 p1), (6, .pointer (some ⟨bx9, 0, none⟩)), (7, .bool (M.has p0.l p1))]) rfl trivial fun a hk => ?_
  refine wpListIn_nil ?_
  refine then_n ?_
  refine x_seq ?_
  refine wpIn_region_lit ?_
  refine x_run tab hk (k := 1) (lv := []) (ks := [0, 1, 6, 17]) (e' := [(0, .pointer (some ⟨bp0, 0, none⟩)), (1, .int .i64 p1), (6, .pointer (some ⟨bx9, 0, none⟩)), (17, .bool (M.has p0.l p1))]) rfl trivial fun a hk => ?_
  refine wpListIn_nil ?_
  refine then_n ?_
  cases b14 : (M.has p0.l p1)
  · rw [b14] at hk H
    replace H := bifF H
    refine x_if hk (b := false) rfl ?_
    refine (show Code.wpIn _ _ _ _ _ _ _ from ?_)
    refine wpIn_skip ?_
    refine then_n ?_
    refine x_seq ?_
    refine wpIn_region_lit ?_
    refine x_run tab hk (k := 2) (lv := []) (ks := [23, 24]) (e' := [(23, .pointer (some ⟨bp0, 0, none⟩)), (24, .int .i64 p1)]) rfl trivial fun a hk => ?_
    refine x_op hk rfl ?_
    obtain ⟨t18, hc19, H⟩ := bindS H
    refine op_call hk ent_59 (vs := [.pointer (some ⟨bp0, 0, none⟩), .int .i64 p1]) rfl (cache_Cache_Peek_calls bp0 Ap0_0 cp0_0 p0 p1 _ o12 1 2 f900019 _ f900000 hcp0_0 (by decide) (by decide) (by decide) 5  _ hc19) ?_
    rintro _ w20 ⟨o21, A23, c24, rfl, st22, f25, hc26⟩
    replace f900000 := f900000.st st22 (by decide)
    replace f900019 := f900019.st st22 (by decide)
    replace hs := hs.locQ st22 hob rfl
    have hk := hk.put 25 (.tuple #[.slice A23 (t18.1).length c24, .bool t18.2]) rfl
    refine x_run tab hk (k := 4) (lv := []) (ks := [4, 5]) (e' := [(4, .slice A23 (t18.1).length c24), (5, .bool t18.2)]) rfl trivial fun a hk => ?_
    refine wpListIn_nil ?_
    refine then_n ?_
    refine wpIn_ret ?_
    obtain rfl := Option.some.inj H
    exact x_retG hk (rs := [.tmp 4, .tmp 5]) (vs := [.slice A23 (t18.1).length c24, .bool t18.2]) rfl ⟨rfl, rfl, trivial⟩ ⟨cl w oi o [2, 3] (fun l_ => if l_ = 1 then LF else if l_ = 2 then Lp0 else if l_ = 3 then Lp0_0 else if l_ = 5 then R0 else 0) o21, A23, c24, Ap0_0, cp0_0, rfl, hs.closeF (Lm := [Lp0, Lp0_0]) (Sh := []) hoa rfl (fun l_ => if l_ = 1 then LF else if l_ = 2 then Lp0 else if l_ = 3 then Lp0_0 else if l_ = 5 then R0 else 0), hs.closeM_ft (o := o) (ρ := fun l_ => if l_ = 1 then LF else if l_ = 2 then Lp0 else if l_ = 3 then Lp0_0 else if l_ = 5 then R0 else 0) f25 (lab_none hob rfl) rfl, hc26, hs.closeM_ft (o := o) (ρ := fun l_ => if l_ = 1 then LF else if l_ = 2 then Lp0 else if l_ = 3 then Lp0_0 else if l_ = 5 then R0 else 0) f900019 (lab_at hoa (i := 1) rfl) rfl, f900000.conv (fun _ h_ => hs.closeM_ft (o := o) (ρ := fun l_ => if l_ = 1 then LF else if l_ = 2 then Lp0 else if l_ = 3 then Lp0_0 else if l_ = 5 then R0 else 0) h_ (lab_at hoa (i := 2) rfl) rfl) (fun _ h_ => hs.closeM_ft (o := o) (ρ := fun l_ => if l_ = 1 then LF else if l_ = 2 then Lp0 else if l_ = 3 then Lp0_0 else if l_ = 5 then R0 else 0) h_ (lab_at hoa (i := 0) rfl) rfl), hcp0_0⟩
  · rw [b14] at hk H
    replace H := bifT H
    refine x_if hk (b := true) rfl ?_
    refine (show Code.wpIn _ _ _ _ _ _ _ from ?_)
    refine wpIn_region_lit ?_
    refine x_run tab hk (k := 4) (lv := [.slice A1 ((M.get zT129 p0.l p1).l).length c2]) (ks := [0, 1, 18, 19, 21]) (e' := [(0, .pointer (some ⟨bp0, 0, none⟩)), (1, .int .i64 p1), (18, .pointer (some ⟨bp0, 0, none⟩)), (19, .int .i64 p1), (21, .slice A1 ((M.get zT129 p0.l p1).l).length c2)]) rfl ⟨(load1 tab rfl ((Bx.cell f10.now 0).trans rfl)), trivial⟩ fun a hk => ?_
    refine x_op hk rfl ?_
    obtain ⟨t30, hc31, H⟩ := bindS H
    refine op_call hk ent_48 (vs := [.pointer (some ⟨bp0, 0, none⟩), .int .i64 p1, .slice A1 ((M.get zT129 p0.l p1).l).length c2]) rfl (cache_Cache_touch_calls bp0 Ap0_0 cp0_0 p0 p1 A1 c2 ((M.get zT129 p0.l p1).l) _ o12 1 2 f900019 3 f900000 hcp0_0 f4 hc5 (by decide)   _ hc31) ?_
    rintro _ w32 ⟨o33, A36, c37, rfl, st34, f35, f38, hc39⟩
    replace f4 := f4.st st34 (by decide)
    replace hs := hs.locQ st34 hob rfl
    have hk := hk.put 22 (.tuple #[]) rfl
    refine wpListIn_nil ?_
    refine then_n ?_
    refine x_seq ?_
    refine wpIn_region_lit ?_
    refine x_run tab hk (k := 2) (lv := []) (ks := [23, 24]) (e' := [(23, .pointer (some ⟨bp0, 0, none⟩)), (24, .int .i64 p1)]) rfl trivial fun a hk => ?_
    refine x_op hk rfl ?_
    obtain ⟨t43, hc44, H⟩ := bindS H
    refine op_call hk ent_59 (vs := [.pointer (some ⟨bp0, 0, none⟩), .int .i64 p1]) rfl (cache_Cache_Peek_calls bp0 A36 c37 t30 p1 _ o33 1 2 f35 _ f38 hc39 (by decide) (by decide) (by decide) 6  _ hc44) ?_
    rintro _ w45 ⟨o46, A48, c49, rfl, st47, f50, hc51⟩
    replace f35 := f35.st st47 (by decide)
    replace f38 := f38.st st47 (by decide)
    replace hs := hs.locQ st47 hob rfl
    have hk := hk.put 25 (.tuple #[.slice A48 (t43.1).length c49, .bool t43.2]) rfl
    refine x_run tab hk (k := 4) (lv := []) (ks := [4, 5]) (e' := [(4, .slice A48 (t43.1).length c49), (5, .bool t43.2)]) rfl trivial fun a hk => ?_
    refine wpListIn_nil ?_
    refine then_n ?_
    refine wpIn_ret ?_
    obtain rfl := Option.some.inj H
    exact x_retG hk (rs := [.tmp 4, .tmp 5]) (vs := [.slice A48 (t43.1).length c49, .bool t43.2]) rfl ⟨rfl, rfl, trivial⟩ ⟨cl w oi o [2, 3] (fun l_ => if l_ = 1 then LF else if l_ = 2 then Lp0 else if l_ = 3 then Lp0_0 else if l_ = 6 then R0 else 0) o46, A48, c49, A36, c37, rfl, hs.closeF (Lm := [Lp0, Lp0_0]) (Sh := []) hoa rfl (fun l_ => if l_ = 1 then LF else if l_ = 2 then Lp0 else if l_ = 3 then Lp0_0 else if l_ = 6 then R0 else 0), hs.closeM_ft (o := o) (ρ := fun l_ => if l_ = 1 then LF else if l_ = 2 then Lp0 else if l_ = 3 then Lp0_0 else if l_ = 6 then R0 else 0) f50 (lab_none hob rfl) rfl, hc51, hs.closeM_ft (o := o) (ρ := fun l_ => if l_ = 1 then LF else if l_ = 2 then Lp0 else if l_ = 3 then Lp0_0 else if l_ = 6 then R0 else 0) f35 (lab_at hoa (i := 1) rfl) rfl, f38.conv (fun _ h_ => hs.closeM_ft (o := o) (ρ := fun l_ => if l_ = 1 then LF else if l_ = 2 then Lp0 else if l_ = 3 then Lp0_0 else if l_ = 6 then R0 else 0) h_ (lab_at hoa (i := 2) rfl) rfl) (fun _ h_ => hs.closeM_ft (o := o) (ρ := fun l_ => if l_ = 1 then LF else if l_ = 2 then Lp0 else if l_ = 3 then Lp0_0 else if l_ = 6 then R0 else 0) h_ (lab_at hoa (i := 0) rfl) rfl), hc39⟩

/-! slices.Grow[[]tidewrack/row.Glyph,tidewrack/row.Glyph] -/
theorem slices_Grow'_calls (p1 : Int) (w : World) (o : Nat → Nat)   (R0 : Nat) (r : List T36) (H : slices_Grow' p1 = some r) :
    Calls Tryd.prog 90 #[.slice none 0 0, .int .i64 p1] w (Ret fun v_ w' => ∃ o' : Nat → Nat, ∃ A0 : Option Addr, ∃ c0 : Nat, v_ = .slice A0 (r).length c0 ∧ St [] w o w' o' ∧ Ft (Own ET36 37 (.slice A0 (r).length c0) r) w' o' R0 ∧ (r).length ≤ c0) := by
  refine x_enter (vs := [.slice none 0 0, .int .i64 p1]) Tryd.func90 rfl rfl rfl fun a hk => ?_
  obtain ⟨o0, hs, h0⟩ := St.start w o
  clear h0
  rw [slices_Grow'] at H
  refine x_seq ?_
  refine wpIn_region_lit ?_
  refine x_run tab hk (k := 1) (lv := []) (ks := [0, 1]) (e' := [(0, .slice none 0 0), (1, .int .i64 p1)]) rfl trivial fun a hk => ?_
  refine wpListIn_nil ?_
  refine then_n ?_
  refine x_mid (fun a_ w_ => ∃ o5 : Nat → Nat, Kn 27 a_ [(0, .slice none 0 0), (1, .int .i64 p1)] ∧ St [] w (fun _ => 0) w_ o5 ∧ slices_Grow'_j1 p1 = some r) ?_ ?_
  rotate_left
  · rintro a w6 ⟨o5, hk, hs, H⟩
    rw [slices_Grow'_j1] at H
    refine x_seq ?_
    refine x_seq ?_
    refine wpIn_region_lit ?_
    refine x_run tab hk (k := 8) (lv := []) (ks := [0, 1]) (e' := [(0, .slice none 0 0), (1, .int .i64 (IntKind.wrap .i64 (p1 - (IntKind.wrap .i64 (0 - ((([] : List T36)).length : Int))))))]) rfl trivial fun a hk => ?_
    refine wpListIn_nil ?_
    refine then_n ?_
    refine x_seq ?_
    refine wpIn_region_lit ?_
    refine x_run tab hk (k := 2) (lv := []) (ks := [0, 1, 16]) (e' := [(0, .slice none 0 0), (1, .int .i64 (IntKind.wrap .i64 (p1 - (IntKind.wrap .i64 (0 - ((([] : List T36)).length : Int)))))), (16, .bool (decide ((IntKind.wrap .i64 (p1 - (IntKind.wrap .i64 (0 - ((([] : List T36)).length : Int))))) > (0 : Int))))]) rfl trivial fun a hk => ?_
    refine wpListIn_nil ?_
    refine then_n ?_
    cases b7 : (decide ((IntKind.wrap .i64 (p1 - (IntKind.wrap .i64 (0 - ((([] : List T36)).length : Int))))) > (0 : Int)))
    · rw [b7] at hk H
      replace H := bifF H
      refine x_if hk (b := false) rfl ?_
      refine (show Code.wpIn _ _ _ _ _ _ _ from ?_)
      refine wpIn_skip ?_
      refine then_n ?_
      refine x_seq ?_
      refine wpIn_region_lit ?_
      refine x_run tab hk (k := 2) (lv := []) (ks := [4]) (e' := [(4, .slice none 0 0)]) rfl trivial fun a hk => ?_
      refine wpListIn_nil ?_
      refine then_n ?_
      refine wpIn_ret ?_
      obtain rfl := Option.some.inj H
      exact x_retG hk (rs := [.tmp 4]) (vs := [.slice none 0 0]) rfl ⟨rfl, trivial⟩ ⟨fun b_ => if b_ < w.heap.size then o b_ else (fun _ => 0) (o5 b_), none, 0, rfl, hs.close0 o (fun _ => 0), (Ft.of_all (fun _ => Own.nil _ _ _) _ _ _), (by simp)⟩
    · rw [b7] at hk H
      replace H := bifT H
      refine x_if hk (b := true) rfl ?_
      refine (show Code.wpIn _ _ _ _ _ _ _ from ?_)
      refine wpIn_region_lit ?_
      refine x_run tab hk (k := 5) (lv := [.slice none 0 0]) (ks := [0, 20, 21]) (e' := [(0, .slice none 0 0), (20, .slice none 0 0), (21, .int .i64 (IntKind.wrap .i64 (p1 - (IntKind.wrap .i64 (0 - ((([] : List T36)).length : Int))))))]) rfl ⟨(ask_take0 tab rfl rfl rfl rfl), trivial⟩ fun a hk => ?_
      refine x_op hk rfl ?_
      obtain ⟨q11, H⟩ := ifS H
      obtain ⟨q12, H⟩ := ifS H
      refine op_appendZ (o := o5) ET36 tab hk rfl rfl rfl rfl rfl rfl rfl rfl q11 q12 1 fun A13 c14 w8 o9 st10 f15 => ?_
      replace hs := hs.loc0 st10 (by decide)
      have hk := hk.put 22 (.slice A13 (Int.toNat (IntKind.wrap .i64 (p1 - (IntKind.wrap .i64 (0 - ((([] : List T36)).length : Int)))))) c14) rfl
      refine x_run tab hk (k := 4) (lv := [.slice A13 (([] : List T36)).length c14]) (ks := [0]) (e' := [(0, .slice A13 (([] : List T36)).length c14)]) rfl ⟨(ask_take0 tab rfl rfl rfl rfl), trivial⟩ fun a hk => ?_
      refine wpListIn_nil ?_
      refine then_n ?_
      refine x_seq ?_
      refine wpIn_region_lit ?_
      refine x_run tab hk (k := 2) (lv := []) (ks := [4]) (e' := [(4, .slice A13 (([] : List T36)).length c14)]) rfl trivial fun a hk => ?_
      refine wpListIn_nil ?_
      refine then_n ?_
      refine wpIn_ret ?_
      obtain rfl := Option.some.inj H
      exact x_retG hk (rs := [.tmp 4]) (vs := [.slice A13 (([] : List T36)).length c14]) rfl ⟨rfl, trivial⟩ ⟨fun b_ => if b_ < w.heap.size then o b_ else (fun _ => R0) (o9 b_), A13, c14, rfl, hs.close0 o (fun _ => R0), hs.close_ft (o := o) (ρ := fun _ => R0) f15 (by decide) rfl, (Nat.zero_le _)⟩
  refine x_seq ?_
  refine wpIn_region_lit ?_
  refine x_run tab hk (k := 2) (lv := []) (ks := [0, 1, 6]) (e' := [(0, .slice none 0 0), (1, .int .i64 p1), (6, .bool (decide (p1 < (0 : Int))))]) rfl trivial fun a hk => ?_
  refine wpListIn_nil ?_
  refine then_n ?_
  cases b16 : (decide (p1 < (0 : Int)))
  · rw [b16] at hk H
    replace H := bifF H
    refine x_if hk (b := false) rfl ?_
    refine (show Code.wpIn _ _ _ _ _ _ _ from ?_)
    refine wpIn_skip ?_
    refine then_n ?_
    exact ⟨o0, (by exact Kn.pick (ks := [0, 1]) hk rfl), hs, H⟩
  · rw [b16] at hk H
    replace H := bifT H
    refine x_if hk (b := true) rfl ?_
    refine (show Code.wpIn _ _ _ _ _ _ _ from ?_)
    refine wpIn_region_lit ?_
    exact absurd H (by simp)

/-! slices.Concat[[]tidewrack/row.Glyph,tidewrack/row.Glyph] -/
theorem slices_Concat'_calls (K : Nat) (Ap0 : Option Addr) (cp0 : Nat) (p0 : List (List T36)) (w : World) (o : Nat → Nat) (LF : Nat) (Lp0 : Nat) (hp0 : NRd (dRows ET36) Ap0 p0 w o Lp0 LF) (hcp0 : (p0).length ≤ cp0) (hd0 : ([LF] : List Nat).Nodup) (hd1 : Lp0 ∉ [LF]) (R0 : Nat) (r : List T36) (H : slices_Concat' K p0 = some r) :
    Calls Tryd.prog 60 #[.slice Ap0 (p0).length cp0] w (Ret fun v_ w' => ∃ o' : Nat → Nat, ∃ A0 : Option Addr, ∃ c0 : Nat, v_ = .slice A0 (r).length c0 ∧ St [] w o w' o' ∧ Ft (Own ET36 37 (.slice A0 (r).length c0) r) w' o' R0 ∧ (r).length ≤ c0) := by
  refine x_enter (vs := [.slice Ap0 (p0).length cp0]) Tryd.func60 rfl rfl rfl fun a hk => ?_
  obtain ⟨oi, hs0, h0, h1, hob, hoz, hoa⟩ := St.startM2 w o (m := 1) hd0 rfl
  have hs := hs0 []
  have f900000 := hp0.conv (fun P_ => h0 P_ _ hd1) (fun _ h_ => h1 0 1 h_ rfl rfl)
  clear h0 h1 hs0
  rw [slices_Concat'] at H
  refine x_seq ?_
  refine wpIn_region_lit ?_
  refine x_run tab hk (k := 1) (lv := []) (ks := [0]) (e' := [(0, .slice Ap0 (p0).length cp0)]) rfl trivial fun a hk => ?_
  refine wpListIn_nil ?_
  refine then_n ?_
  refine x_seq ?_
  refine wpIn_region_lit ?_
  refine x_run tab hk (k := 1) (lv := []) (ks := [0, 3]) (e' := [(0, .slice Ap0 (p0).length cp0), (3, .int .i64 0)]) rfl trivial fun a hk => ?_
  refine wpListIn_nil ?_
  refine then_n ?_
  refine x_mid (fun a_ w_ => ∃ o44 : Nat → Nat, ∃ x45 : Int, Kn 36 a_ [(0, .slice Ap0 (p0).length cp0), (3, .int .i64 x45)] ∧ St [] w oi w_ o44 ∧ NRd (dRows ET36) Ap0 p0 w_ o44 0 1 ∧ slices_Concat'_j1 K p0 x45 = some r) ?_ ?_
  rotate_left
  · rintro a w46 ⟨o44, x45, hk, hs, f900000, H⟩
    rw [slices_Concat'_j1] at H
    refine x_seq ?_
    refine wpIn_region_lit ?_
    refine x_run tab hk (k := 1) (lv := []) (ks := [0, 23]) (e' := [(0, .slice Ap0 (p0).length cp0), (23, .int .i64 x45)]) rfl trivial fun a hk => ?_
    refine x_op hk rfl ?_
    obtain ⟨t50, hc51, H⟩ := bindS H
    refine op_call hk ent_90 (vs := [.slice none 0 0, .int .i64 x45]) rfl (slices_Grow'_calls x45 _ o44  2  _ hc51) ?_
    rintro _ w52 ⟨o53, A55, c56, rfl, st54, f57, hc58⟩
    replace f900000 := f900000.st st54 (by decide)
    replace hs := hs.locQ st54 hob rfl
    have hk := hk.put 24 (.slice A55 (t50).length c56) rfl
    refine x_run tab hk (k := 1) (lv := []) (ks := [0, 6]) (e' := [(0, .slice Ap0 (p0).length cp0), (6, .slice A55 (t50).length c56)]) rfl trivial fun a hk => ?_
    refine wpListIn_nil ?_
    refine then_n ?_
    refine x_mid (fun a_ w_ => ∃ o131 : Nat → Nat, ∃ A132 : Option Addr, ∃ c133 : Nat, ∃ l134 : List T36, Kn 36 a_ [(6, .slice A132 (l134).length c133)] ∧ St [] w oi w_ o131 ∧ Ft (Own ET36 37 (.slice A132 (l134).length c133) l134) w_ o131 5 ∧ (l134).length ≤ c133 ∧ slices_Concat'_j2 l134 = some r) ?_ ?_
    rotate_left
    · rintro a w137 ⟨o131, A132, c133, l134, hk, hs, f135, hc136, H⟩
      rw [slices_Concat'_j2] at H
      refine x_seq ?_
      refine wpIn_region_lit ?_
      refine x_run tab hk (k := 2) (lv := []) (ks := [2]) (e' := [(2, .slice A132 (l134).length c133)]) rfl trivial fun a hk => ?_
      refine wpListIn_nil ?_
      refine then_n ?_
      refine wpIn_ret ?_
      obtain rfl := Option.some.inj H
      exact x_retG hk (rs := [.tmp 2]) (vs := [.slice A132 (l134).length c133]) rfl ⟨rfl, trivial⟩ ⟨cl w oi o [] (fun l_ => if l_ = 1 then LF else if l_ = 5 then R0 else 0) o131, A132, c133, rfl, hs.closeF (Lm := []) (Sh := []) hoa rfl (fun l_ => if l_ = 1 then LF else if l_ = 5 then R0 else 0), hs.closeM_ft (o := o) (ρ := fun l_ => if l_ = 1 then LF else if l_ = 5 then R0 else 0) f135 (lab_none hob rfl) rfl, hc136⟩
    refine x_seq ?_
    refine wpIn_region_lit ?_
    refine x_run tab hk (k := 3) (lv := []) (ks := [6, 25, 26, 27]) (e' := [(6, .slice A55 (t50).length c56), (25, .slice Ap0 (p0).length cp0), (26, .int .i64 ((p0).length : Int)), (27, .int .i64 0)]) rfl trivial fun a hk => ?_
    refine wpListIn_nil ?_
    refine then_n ?_
    refine wpIn_block ?_
    refine x_loop (fun j_ a_ w_ => ∃ o157 : Nat → Nat, ∃ A158 : Option Addr, ∃ c159 : Nat, ∃ l160 : List T36, ∃ x163 : Int, Kn 36 a_ [(6, .slice A158 (l160).length c159), (25, .slice Ap0 (p0).length cp0), (26, .int .i64 ((p0).length : Int)), (27, .int .i64 x163)] ∧ St [] w oi w_ o157 ∧ Ft (Own ET36 37 (.slice A158 (l160).length c159) l160) w_ o157 7 ∧ NRd (dRows ET36) Ap0 p0 w_ o157 0 1 ∧ (l160).length ≤ c159 ∧ slices_Concat'_l3 p0 j_ l160 x163 = some r) (k := K) ⟨(fun b_ => (fun l_ => if l_ = 2 then 7 else l_) (o53 b_)), A55, c56, t50, 0, (by exact Kn.pick (ks := [6, 25, 26, 27]) hk rfl), (hs.relabM hob (fun l_ => if l_ = 2 then 7 else l_) (by decide)), (f57.relab (fun l_ => if l_ = 2 then 7 else l_) rfl), (f900000.relab (fun l_ => if l_ = 2 then 7 else l_) rfl), hc58, H⟩ (by rintro _ _ ⟨_, _, _, _, _, _, _, _, _, _, H_⟩; exact absurd (show (none : Option (List T36)) = some r from H_) (by simp)) ?_
    rintro k181 a w180 ⟨o157, A158, c159, l160, x163, hk, hs, f161, f900000, hc162, H⟩
    rw [slices_Concat'_l3] at H
    obtain ⟨lp182, hlp183⟩ : ∃ lp_, lp_ = slices_Concat'_l3 p0 k181 := ⟨_, rfl⟩
    rw [← hlp183] at H
    refine x_seq ?_
    refine wpIn_region_lit ?_
    refine x_run tab hk (k := 1) (lv := []) (ks := [6, 25, 26, 27, 28]) (e' := [(6, .slice A158 (l160).length c159), (25, .slice Ap0 (p0).length cp0), (26, .int .i64 ((p0).length : Int)), (27, .int .i64 x163), (28, .bool (decide (x163 < ((p0).length : Int))))]) rfl trivial fun a hk => ?_
    refine wpListIn_nil ?_
    refine then_n ?_
    refine x_seq ?_
    cases b184 : (decide (x163 < ((p0).length : Int)))
    · rw [b184] at hk H
      replace H := bifF H
      refine x_if hk (b := false) rfl ?_
      refine (show Code.wpIn _ _ _ _ _ _ _ from ?_)
      refine wpIn_exit ?_
      refine then_x ?_
      refine then_x ?_
      refine blk_x ?_
      refine then_n ?_
      exact ⟨(fun b_ => (fun l_ => if l_ = 7 then 5 else l_) (o157 b_)), A158, c159, l160, (by exact Kn.pick (ks := [6]) hk rfl), (hs.relabM hob (fun l_ => if l_ = 7 then 5 else l_) (by decide)), (f161.relab (fun l_ => if l_ = 7 then 5 else l_) rfl), hc162, H⟩
    · rw [b184] at hk H
      replace H := bifT H
      refine x_if hk (b := true) rfl ?_
      refine (show Code.wpIn _ _ _ _ _ _ _ from ?_)
      refine wpIn_skip ?_
      refine then_n ?_
      refine x_seq ?_
      refine wpIn_block ?_
      refine x_seq ?_
      refine wpIn_region_lit ?_
      obtain ⟨q185, H⟩ := ifS H
      obtain ⟨ad186, hAad186⟩ := NRd.addr f900000 q185
      have hk_C := hk
      have f161_C := f161
      have f900000_C := f900000
      subst hAad186
      have hk := hk_C
      clear hk_C
      have f161 := f161_C
      clear f161_C
      have f900000 := f900000_C
      clear f900000_C
      obtain ⟨A187, c188, f189, f190, hc191⟩ := NRd.row f900000 (P := Tryd.prog) tab (t := 34) rfl (i := x163) q185
      refine x_run tab hk (k := 3) (lv := [.slice A187 ((rdD [] p0 x163)).length c188]) (ks := [6, 8, 25, 26, 27]) (e' := [(6, .slice A158 (l160).length c159), (8, .slice A187 ((rdD [] p0 x163)).length c188), (25, .slice (some ad186) (p0).length cp0), (26, .int .i64 ((p0).length : Int)), (27, .int .i64 x163)]) rfl ⟨q185, f189.now, trivial⟩ fun a hk => ?_
      refine wpListIn_nil ?_
      refine then_n ?_
      refine wpIn_region_lit ?_
      refine x_run tab hk (k := 2) (lv := []) (ks := [25, 26, 27, 31, 32]) (e' := [(25, .slice (some ad186) (p0).length cp0), (26, .int .i64 ((p0).length : Int)), (27, .int .i64 x163), (31, .slice A158 (l160).length c159), (32, .slice A187 ((rdD [] p0 x163)).length c188)]) rfl trivial fun a hk => ?_
      refine x_op hk rfl ?_
      obtain ⟨q195, H⟩ := ifS H
      refine op_append (o := o157) (E := ET36) (xs := l160) (ys := (rdD [] p0 x163)) tab hk rfl rfl rfl rfl rfl rfl rfl f161 f190.now q195 fun A196 c197 w192 o193 st194 f198 hc199 => ?_
      replace f190 := f190.st st194 (by decide)
      replace f900000 := f900000.st st194 (by decide)
      replace hs := hs.locQ st194 hob rfl
      have hk := hk.put 33 (.slice A196 ((l160 ++ (rdD [] p0 x163))).length c197) rfl
      refine x_run tab hk (k := 1) (lv := []) (ks := [6, 25, 26, 27]) (e' := [(6, .slice A196 ((l160 ++ (rdD [] p0 x163))).length c197), (25, .slice (some ad186) (p0).length cp0), (26, .int .i64 ((p0).length : Int)), (27, .int .i64 x163)]) rfl trivial fun a hk => ?_
      refine wpListIn_nil ?_
      refine blk_n ?_
      refine then_n ?_
      refine wpIn_region_lit ?_
      refine x_run tab hk (k := 2) (lv := []) (ks := [6, 25, 26, 27]) (e' := [(6, .slice A196 ((l160 ++ (rdD [] p0 x163))).length c197), (25, .slice (some ad186) (p0).length cp0), (26, .int .i64 ((p0).length : Int)), (27, .int .i64 (IntKind.wrap .i64 (x163 + 1)))]) rfl trivial fun a hk => ?_
      refine wpListIn_nil ?_
      refine then_n ?_
      exact ⟨k181, Nat.le_refl _, o193, A196, c197, (l160 ++ (rdD [] p0 x163)), (IntKind.wrap .i64 (x163 + 1)), (by exact Kn.pick (ks := [6, 25, 26, 27]) hk rfl), hs, f198, f900000, hc199, (hlp183 ▸ H)⟩
  refine x_seq ?_
  refine wpIn_region_lit ?_
  refine x_run tab hk (k := 3) (lv := []) (ks := [0, 3, 9, 10, 11]) (e' := [(0, .slice Ap0 (p0).length cp0), (3, .int .i64 0), (9, .slice Ap0 (p0).length cp0), (10, .int .i64 ((p0).length : Int)), (11, .int .i64 0)]) rfl trivial fun a hk => ?_
  refine wpListIn_nil ?_
  refine then_n ?_
  refine wpIn_block ?_
  refine x_loop (fun j_ a_ w_ => ∃ o212 : Nat → Nat, ∃ x213 : Int, ∃ x214 : Int, Kn 36 a_ [(0, .slice Ap0 (p0).length cp0), (3, .int .i64 x213), (9, .slice Ap0 (p0).length cp0), (10, .int .i64 ((p0).length : Int)), (11, .int .i64 x214)] ∧ St [] w oi w_ o212 ∧ NRd (dRows ET36) Ap0 p0 w_ o212 0 1 ∧ slices_Concat'_l4 K p0 j_ x213 x214 = some r) (k := K) ⟨oi, 0, 0, (by exact Kn.pick (ks := [0, 3, 9, 10, 11]) hk rfl), hs, f900000, H⟩ (by rintro _ _ ⟨_, _, _, _, _, _, H_⟩; exact absurd (show (none : Option (List T36)) = some r from H_) (by simp)) ?_
  rintro k225 a w224 ⟨o212, x213, x214, hk, hs, f900000, H⟩
  rw [slices_Concat'_l4] at H
  obtain ⟨lp226, hlp227⟩ : ∃ lp_, lp_ = slices_Concat'_l4 K p0 k225 := ⟨_, rfl⟩
  rw [← hlp227] at H
  refine x_seq ?_
  refine wpIn_region_lit ?_
  refine x_run tab hk (k := 1) (lv := []) (ks := [0, 3, 9, 10, 11, 12]) (e' := [(0, .slice Ap0 (p0).length cp0), (3, .int .i64 x213), (9, .slice Ap0 (p0).length cp0), (10, .int .i64 ((p0).length : Int)), (11, .int .i64 x214), (12, .bool (decide (x214 < ((p0).length : Int))))]) rfl trivial fun a hk => ?_
  refine wpListIn_nil ?_
  refine then_n ?_
  refine x_seq ?_
  cases b228 : (decide (x214 < ((p0).length : Int)))
  · rw [b228] at hk H
    replace H := bifF H
    refine x_if hk (b := false) rfl ?_
    refine (show Code.wpIn _ _ _ _ _ _ _ from ?_)
    refine wpIn_exit ?_
    refine then_x ?_
    refine then_x ?_
    refine blk_x ?_
    refine then_n ?_
    exact ⟨o212, x213, (by exact Kn.pick (ks := [0, 3]) hk rfl), hs, f900000, H⟩
  · rw [b228] at hk H
    replace H := bifT H
    refine x_if hk (b := true) rfl ?_
    refine (show Code.wpIn _ _ _ _ _ _ _ from ?_)
    refine wpIn_skip ?_
    refine then_n ?_
    refine x_seq ?_
    refine wpIn_block ?_
    refine x_seq ?_
    refine wpIn_region_lit ?_
    obtain ⟨q229, H⟩ := ifS H
    obtain ⟨ad230, hAad230⟩ := NRd.addr f900000 q229
    have hk_C := hk
    have f900000_C := f900000
    subst hAad230
    have hk := hk_C
    clear hk_C
    have f900000 := f900000_C
    clear f900000_C
    obtain ⟨A231, c232, f233, f234, hc235⟩ := NRd.row f900000 (P := Tryd.prog) tab (t := 34) rfl (i := x214) q229
    refine x_run tab hk (k := 3) (lv := [.slice A231 ((rdD [] p0 x214)).length c232]) (ks := [0, 3, 5, 9, 10, 11]) (e' := [(0, .slice (some ad230) (p0).length cp0), (3, .int .i64 x213), (5, .slice A231 ((rdD [] p0 x214)).length c232), (9, .slice (some ad230) (p0).length cp0), (10, .int .i64 ((p0).length : Int)), (11, .int .i64 x214)]) rfl ⟨q229, f233.now, trivial⟩ fun a hk => ?_
    refine wpListIn_nil ?_
    refine then_n ?_
    refine x_seq ?_
    refine wpIn_region_lit ?_
    refine x_run tab hk (k := 5) (lv := []) (ks := [0, 3, 9, 10, 11]) (e' := [(0, .slice (some ad230) (p0).length cp0), (3, .int .i64 (IntKind.wrap .i64 (x213 + (((rdD [] p0 x214)).length : Int)))), (9, .slice (some ad230) (p0).length cp0), (10, .int .i64 ((p0).length : Int)), (11, .int .i64 x214)]) rfl trivial fun a hk => ?_
    refine wpListIn_nil ?_
    refine then_n ?_
    refine x_seq ?_
    refine wpIn_region_lit ?_
    refine x_run tab hk (k := 2) (lv := []) (ks := [0, 3, 9, 10, 11, 20]) (e' := [(0, .slice (some ad230) (p0).length cp0), (3, .int .i64 (IntKind.wrap .i64 (x213 + (((rdD [] p0 x214)).length : Int)))), (9, .slice (some ad230) (p0).length cp0), (10, .int .i64 ((p0).length : Int)), (11, .int .i64 x214), (20, .bool (decide ((IntKind.wrap .i64 (x213 + (((rdD [] p0 x214)).length : Int))) < (0 : Int))))]) rfl trivial fun a hk => ?_
    refine wpListIn_nil ?_
    refine then_n ?_
    cases b236 : (decide ((IntKind.wrap .i64 (x213 + (((rdD [] p0 x214)).length : Int))) < (0 : Int)))
    · rw [b236] at hk H
      replace H := bifF H
      refine x_if hk (b := false) rfl ?_
      refine (show Code.wpIn _ _ _ _ _ _ _ from ?_)
      refine wpIn_skip ?_
      refine blk_n ?_
      refine then_n ?_
      refine wpIn_region_lit ?_
      refine x_run tab hk (k := 2) (lv := []) (ks := [0, 3, 9, 10, 11]) (e' := [(0, .slice (some ad230) (p0).length cp0), (3, .int .i64 (IntKind.wrap .i64 (x213 + (((rdD [] p0 x214)).length : Int)))), (9, .slice (some ad230) (p0).length cp0), (10, .int .i64 ((p0).length : Int)), (11, .int .i64 (IntKind.wrap .i64 (x214 + 1)))]) rfl trivial fun a hk => ?_
      refine wpListIn_nil ?_
      refine then_n ?_
      exact ⟨k225, Nat.le_refl _, o212, (IntKind.wrap .i64 (x213 + (((rdD [] p0 x214)).length : Int))), (IntKind.wrap .i64 (x214 + 1)), (by exact Kn.pick (ks := [0, 3, 9, 10, 11]) hk rfl), hs, f900000, (hlp227 ▸ H)⟩
    · rw [b236] at hk H
      replace H := bifT H
      refine x_if hk (b := true) rfl ?_
      refine (show Code.wpIn _ _ _ _ _ _ _ from ?_)
      refine wpIn_region_lit ?_
      exact absurd H (by simp)

/-! tidewrack/flow.Join -/
theorem flow_Join_calls (K : Nat) (Ap0 : Option Addr) (cp0 : Nat) (p0 : List (List T36)) (w : World) (o : Nat → Nat) (LF : Nat) (Lp0 : Nat) (hp0 : NRd (dRows ET36) Ap0 p0 w o Lp0 LF) (hcp0 : (p0).length ≤ cp0) (hd0 : ([LF] : List Nat).Nodup) (hd1 : Lp0 ∉ [LF]) (R0 : Nat) (r : List T36) (H : flow_Join K p0 = some r) :
    Calls Tryd.prog 25 #[.slice Ap0 (p0).length cp0] w (Ret fun v_ w' => ∃ o' : Nat → Nat, ∃ A0 : Option Addr, ∃ c0 : Nat, v_ = .slice A0 (r).length c0 ∧ St [] w o w' o' ∧ Ft (Own ET36 37 (.slice A0 (r).length c0) r) w' o' R0 ∧ (r).length ≤ c0) := by
  refine x_enter (vs := [.slice Ap0 (p0).length cp0]) Tryd.func25 rfl rfl rfl fun a hk => ?_
  obtain ⟨oi, hs0, h0, h1, hob, hoz, hoa⟩ := St.startM2 w o (m := 1) hd0 rfl
  have hs := hs0 []
  have f900000 := hp0.conv (fun P_ => h0 P_ _ hd1) (fun _ h_ => h1 0 1 h_ rfl rfl)
  clear h0 h1 hs0
  rw [flow_Join] at H
  refine x_seq ?_
  refine wpIn_region_lit ?_
  refine x_run tab hk (k := 1) (lv := []) (ks := [0]) (e' := [(0, .slice Ap0 (p0).length cp0)]) rfl trivial fun a hk => ?_
  refine wpListIn_nil ?_
  refine then_n ?_
  refine x_seq ?_
  refine wpIn_region_lit ?_
  refine x_run tab hk (k := 1) (lv := []) (ks := [3]) (e' := [(3, .slice Ap0 (p0).length cp0)]) rfl trivial fun a hk => ?_
  refine x_op hk rfl ?_
  obtain ⟨t4, hc5, H⟩ := bindS H
  refine op_call hk ent_60 (vs := [.slice Ap0 (p0).length cp0]) rfl (slices_Concat'_calls K Ap0 cp0 p0 _ oi 1 _ f900000 hcp0 (by decide) (by decide) 2  _ hc5) ?_
  rintro _ w6 ⟨o7, A9, c10, rfl, st8, f11, hc12⟩
  replace f900000 := f900000.st st8 (by decide)
  replace hs := hs.locQ st8 hob rfl
  have hk := hk.put 4 (.slice A9 (t4).length c10) rfl
  refine x_run tab hk (k := 1) (lv := []) (ks := [2]) (e' := [(2, .slice A9 (t4).length c10)]) rfl trivial fun a hk => ?_
  refine wpListIn_nil ?_
  refine then_n ?_
  refine wpIn_ret ?_
  obtain rfl := Option.some.inj H
  exact x_retG hk (rs := [.tmp 2]) (vs := [.slice A9 (t4).length c10]) rfl ⟨rfl, trivial⟩ ⟨cl w oi o [] (fun l_ => if l_ = 1 then LF else if l_ = 2 then R0 else 0) o7, A9, c10, rfl, hs.closeF (Lm := []) (Sh := []) hoa rfl (fun l_ => if l_ = 1 then LF else if l_ = 2 then R0 else 0), hs.closeM_ft (o := o) (ρ := fun l_ => if l_ = 1 then LF else if l_ = 2 then R0 else 0) f11 (lab_none hob rfl) rfl, hc12⟩

/-! (*tidewrack/cache.Cache).Len -/
theorem cache_Cache_Len_calls (bp0 : Nat) (Ap0_0 : Option Addr) (cp0_0 : Nat) (p0 : T118) (w : World) (o : Nat → Nat) (LF : Nat) (Lp0 : Nat) (hp0 : Ft (Bx bp0 119 [.int .i64 p0.most, .int .i64 p0.now, mv Ap0_0]) w o Lp0) (Lp0_0 : Nat) (hp0_0 : MpN dT129 true Ap0_0 p0.l w o Lp0_0 LF) (hcp0_0 : (p0.l).length ≤ cp0_0) (hd0 : ([LF] : List Nat).Nodup) (hd1 : Lp0_0 ∉ [LF]) (hd2 : Lp0 ∉ [LF]) (r : Int) (H : cache_Cache_Len p0 = some r) :
    Calls Tryd.prog 26 #[.pointer (some ⟨bp0, 0, none⟩)] w (Ret fun v_ w' => ∃ o' : Nat → Nat, v_ = .int .i64 r ∧ St [] w o w' o') := by
  refine x_enter (vs := [.pointer (some ⟨bp0, 0, none⟩)]) Tryd.func26 rfl rfl rfl fun a hk => ?_
  obtain ⟨oi, hs0, h0, h1, hob, hoz, hoa⟩ := St.startM2 w o (m := 1) hd0 rfl
  have hs := hs0 []
  have f900000 := hp0_0.conv (fun P_ => h0 P_ _ hd1) (fun _ h_ => h1 0 1 h_ rfl rfl)
  have f900019 := h0 _ _ hd2 hp0
  clear h0 h1 hs0
  rw [cache_Cache_Len] at H
  refine x_seq ?_
  refine wpIn_region_lit ?_
  refine x_run tab hk (k := 1) (lv := []) (ks := [0]) (e' := [(0, .pointer (some ⟨bp0, 0, none⟩))]) rfl trivial fun a hk => ?_
  refine wpListIn_nil ?_
  refine then_n ?_
  refine x_seq ?_
  refine wpIn_region_lit ?_
  have f1 := MpN.size f900000
  refine x_run tab hk (k := 6) (lv := [mv Ap0_0, .int .i64 ((p0.l).length : Int)]) (ks := [2]) (e' := [(2, .int .i64 ((p0.l).length : Int))]) rfl ⟨(load1 tab rfl ((Bx.cell f900019.now 2).trans rfl)), (ask_mlenS tab rfl f1.now rfl), trivial⟩ fun a hk => ?_
  refine wpListIn_nil ?_
  refine then_n ?_
  refine wpIn_ret ?_
  obtain rfl := Option.some.inj H
  exact x_retG hk (rs := [.tmp 2]) (vs := [.int .i64 ((p0.l).length : Int)]) rfl ⟨rfl, trivial⟩ ⟨cl w oi o [] (fun l_ => if l_ = 1 then LF else 0) oi, rfl, hs.closeF (Lm := []) (Sh := []) hoa rfl (fun l_ => if l_ = 1 then LF else 0)⟩

/-! tidewrack/tidewracktop.TidewrackHand -/
set_option maxHeartbeats 4000000 in
set_option maxRecDepth 20000 in
theorem tidewracktop_TidewrackHand_calls (K : Nat) (Ap0_0 : Option Addr) (cp0_0 : Nat) (p0 : T54) (w : World) (o : Nat → Nat) (LF : Nat) (Lg0 : Nat) (hg0 : Ft (RdC ET97 (some ⟨0, 0, none⟩) glob0) w o Lg0) (Lg1 : Nat) (hg1 : Ft (RdC ET97 (some ⟨1, 0, none⟩) glob1) w o Lg1) (Lp0_0 : Nat) (Fp0_0 : Nat) (hp0_0 : NRd (dRows ET36) Ap0_0 p0.Lines w o Lp0_0 Fp0_0) (hcp0_0 : (p0.Lines).length ≤ cp0_0) (hd0 : ([LF] : List Nat).Nodup) (hd1 : Lg0 ∉ [LF]) (hd2 : Lg1 ∉ [LF]) (hd3 : Lp0_0 ∉ [LF]) (hd4 : Fp0_0 ∉ [LF]) (r : Bool) (H : tidewracktop_TidewrackHand K p0 = some r) :
    Calls Tryd.prog 6 #[.agg #[.slice Ap0_0 (p0.Lines).length cp0_0, .int .i64 p0.From, .int .i64 p0.To, .int .i64 p0.W]] w (Ret fun v_ w' => ∃ o' : Nat → Nat, v_ = .bool r ∧ St [] w o w' o') := by
  refine x_enter (vs := [.agg #[.slice Ap0_0 (p0.Lines).length cp0_0, .int .i64 p0.From, .int .i64 p0.To, .int .i64 p0.W]]) Tryd.func6 rfl rfl rfl fun a hk => ?_
  obtain ⟨oi, hs0, h0, h1, hob, hoz, hoa⟩ := St.startM2 w o (m := 1) hd0 rfl
  have hs := hs0 []
  have fg0 := h0 _ _ hd1 hg0
  have fg1 := h0 _ _ hd2 hg1
  have f900000 := hp0_0.conv (fun P_ => h0 P_ _ hd3) (fun P_ => h0 P_ _ hd4)
  clear h0 h1 hs0
  rw [tidewracktop_TidewrackHand] at H
  refine x_seq ?_
  refine wpIn_region_lit ?_
  refine x_op hk rfl ?_
  refine op_box (o := oi) (t := 55) (v := .agg #[.slice Ap0_0 (p0.Lines).length cp0_0, .int .i64 p0.From, .int .i64 p0.To, .int .i64 p0.W]) (cs := [.slice Ap0_0 (p0.Lines).length cp0_0, .int .i64 p0.From, .int .i64 p0.To, .int .i64 p0.W]) hk rfl rfl 2 fun bx4 w1 o2 st3 f5 => ?_
  replace f900000 := f900000.st st3 (by decide)
  replace fg0 := fg0.st st3 (by decide)
  replace fg1 := fg1.st st3 (by decide)
  replace hs := hs.locQ st3 hob rfl
  have hk := hk.put 1 (.pointer (some ⟨bx4, 0, none⟩)) rfl
  refine x_run tab hk (k := 1) (lv := []) (ks := [1]) (e' := [(1, .pointer (some ⟨bx4, 0, none⟩))]) rfl trivial fun a hk => ?_
  refine wpListIn_nil ?_
  refine then_n ?_
  refine x_seq ?_
  refine xd_begin (o := o2) (fun W_ => (Bx bx4 55 [.slice Ap0_0 (p0.Lines).length cp0_0, .int .i64 p0.From, .int .i64 p0.To, .int .i64 p0.W]) W_ ∧ True) mixed rfl rfl fun w30 st31 => ?_
  replace f5 := f5.st st31 (by decide)
  replace f900000 := f900000.st st31 (by decide)
  replace fg0 := fg0.st st31 (by decide)
  replace fg1 := fg1.st st31 (by decide)
  replace hs := hs.locQ st31 hob rfl
  refine xd_take tab hk (k := 4) (is := [0, 1, 2, 3, 4, 5, 6, 7, 8]) (ls' := #[true, true, true, true, true, true, true, true, true, false, false, false, false]) (lv := [.slice Ap0_0 (p0.Lines).length cp0_0, .int .i64 p0.From, .int .i64 p0.To, .agg #[.int .i64 p0.From, .int .i64 p0.To], .int .i64 p0.W]) (ks := [19, 24, 26]) (e' := [(19, .slice Ap0_0 (p0.Lines).length cp0_0), (24, .agg #[.int .i64 p0.From, .int .i64 p0.To]), (26, .int .i64 p0.W)]) (by kernel_rfl) rfl rfl (by kernel_rfl) (np_then np_body) ⟨f5.now, trivial⟩ (fun W_ hS => ⟨(load1 tab rfl ((Bx.cell hS.1 0).trans rfl)), (load1 tab rfl ((Bx.cell hS.1 1).trans rfl)), (load1 tab rfl ((Bx.cell hS.1 2).trans rfl)), (ask_buildA tab rfl rfl rfl rfl rfl), (load1 tab rfl ((Bx.cell hS.1 3).trans rfl)), trivial⟩) fun a hk => ?_
  refine xd_op hk (i := 9) (by kernel_rfl) rfl rfl ?_
  refine op_alloc (o := o2) tab (t := 56) (cs := [.int .i64 0, .int .i64 0]) rfl rfl 6 fun bx35 w32 o33 st34 f36 => ?_
  replace f5 := f5.st st34 (by decide)
  replace f900000 := f900000.st st34 (by decide)
  replace fg0 := fg0.st st34 (by decide)
  replace fg1 := fg1.st st34 (by decide)
  replace hs := hs.locQ st34 hob rfl
  have hk := hk.put 4 (.pointer (some ⟨bx35, 0, none⟩)) rfl
  refine ⟨.inr ⟨f5.now, trivial⟩, ?_⟩
  refine xd_take tab hk (k := 2) (is := [10]) (ls' := #[true, true, true, true, true, true, true, true, true, true, true, false, false]) (lv := []) (ks := [3, 4, 24, 26]) (e' := [(3, .slice Ap0_0 (p0.Lines).length cp0_0), (4, .pointer (some ⟨bx35, 0, none⟩)), (24, .agg #[.int .i64 p0.From, .int .i64 p0.To]), (26, .int .i64 p0.W)]) (by kernel_rfl) rfl rfl (by kernel_rfl) (np_then np_body) ⟨f5.now, trivial⟩ (fun W_ hS => trivial) fun a hk => ?_
  refine xd_op hk (i := 11) (by kernel_rfl) rfl rfl ?_
  refine op_store tab hk (t := 56) (v := .agg #[.int .i64 p0.From, .int .i64 p0.To]) (b := bx35) (k := 0) (cs' := [.int .i64 p0.From, .int .i64 p0.To]) rfl rfl rfl rfl rfl rfl f36 rfl rfl fun w37 o38 st39 f36_ => ?_
  replace f5 := f5.st st39 (by decide)
  replace f900000 := f900000.st st39 (by decide)
  replace fg0 := fg0.st st39 (by decide)
  replace fg1 := fg1.st st39 (by decide)
  replace hs := hs.locQ st39 hob rfl
  replace f36 := f36_
  refine ⟨.inr ⟨f5.now, trivial⟩, ?_⟩
  refine xd_take tab hk (k := 0) (is := [12]) (ls' := #[true, true, true, true, true, true, true, true, true, true, true, true, true]) (lv := []) (ks := [3, 4, 5]) (e' := [(3, .slice Ap0_0 (p0.Lines).length cp0_0), (4, .pointer (some ⟨bx35, 0, none⟩)), (5, .int .i64 p0.W)]) (by kernel_rfl) rfl rfl (by kernel_rfl) (np_then np_body) ⟨f5.now, trivial⟩ (fun W_ hS => trivial) fun a hk => ?_
  refine xd_done (by kernel_rfl) ?_
  refine then_n ?_
  refine x_seq ?_
  refine wpIn_region_lit ?_
  refine x_op hk rfl ?_
  obtain ⟨t43, hc44, H⟩ := bindS H
  refine op_call hk ent_18 (vs := [.int .i64 30]) rfl (cache_New_calls 30 _ o38 1 (by decide) 7 8  _ hc44) ?_
  rintro _ w45 ⟨o46, bx48, A50, c51, rfl, st47, f49, f52, hc53⟩
  replace f36 := f36.st st47 (by decide)
  replace f900000 := f900000.st st47 (by decide)
  replace fg0 := fg0.st st47 (by decide)
  replace fg1 := fg1.st st47 (by decide)
  replace hs := hs.locQ st47 hob rfl
  have hk := hk.put 27 (.pointer (some ⟨bx48, 0, none⟩)) rfl
  refine x_run tab hk (k := 1) (lv := []) (ks := [3, 4, 5, 6]) (e' := [(3, .slice Ap0_0 (p0.Lines).length cp0_0), (4, .pointer (some ⟨bx35, 0, none⟩)), (5, .int .i64 p0.W), (6, .pointer (some ⟨bx48, 0, none⟩))]) rfl trivial fun a hk => ?_
  refine wpListIn_nil ?_
  refine then_n ?_
  refine x_mid (fun a_ w_ => ∃ o70 : Nat → Nat, Kn 140 a_ [(3, .slice Ap0_0 (p0.Lines).length cp0_0), (4, .pointer (some ⟨bx35, 0, none⟩)), (5, .int .i64 p0.W), (6, .pointer (some ⟨bx48, 0, none⟩))] ∧ St [] w oi w_ o70 ∧ Ft (Bx bx35 56 [.int .i64 p0.From, .int .i64 p0.To]) w_ o70 11 ∧ Ft (Bx bx48 119 [.int .i64 t43.most, .int .i64 t43.now, mv A50]) w_ o70 13 ∧ MpN dT129 true A50 t43.l w_ o70 12 1 ∧ NRd (dRows ET36) Ap0_0 p0.Lines w_ o70 0 0 ∧ Ft (RdC ET97 (some ⟨0, 0, none⟩) glob0) w_ o70 0 ∧ Ft (RdC ET97 (some ⟨1, 0, none⟩) glob1) w_ o70 0 ∧ tidewracktop_TidewrackHand_j1 K p0 t43 = some r) ?_ ?_
  rotate_left
  · rintro a w71 ⟨o70, hk, hs, f36, f49, f52, f900000, fg0, fg1, H⟩
    rw [tidewracktop_TidewrackHand_j1] at H
    refine x_seq ?_
    refine wpIn_region_lit ?_
    refine x_run tab hk (k := 4) (lv := []) (ks := [3, 4, 5, 6, 7]) (e' := [(3, .slice Ap0_0 (p0.Lines).length cp0_0), (4, .pointer (some ⟨bx35, 0, none⟩)), (5, .int .i64 p0.W), (6, .pointer (some ⟨bx48, 0, none⟩)), (7, .int .i64 (mnI ((p0.Lines).length : Int) 20))]) rfl trivial fun a hk => ?_
    refine wpListIn_nil ?_
    refine then_n ?_
    refine x_mid (fun a_ w_ => ∃ o372 : Nat → Nat, ∃ x373 : Int, ∃ x374 : Int, ∃ A375 : Option Addr, ∃ c376 : Nat, ∃ l377 : M T129, Kn 140 a_ [(3, .slice Ap0_0 (p0.Lines).length cp0_0), (4, .pointer (some ⟨bx35, 0, none⟩)), (5, .int .i64 p0.W), (6, .pointer (some ⟨bx48, 0, none⟩)), (7, .int .i64 (mnI ((p0.Lines).length : Int) 20))] ∧ St [] w oi w_ o372 ∧ Ft (Bx bx35 56 [.int .i64 p0.From, .int .i64 p0.To]) w_ o372 20 ∧ MpN dT129 true A375 l377 w_ o372 21 1 ∧ Ft (Bx bx48 119 [.int .i64 x373, .int .i64 x374, mv A375]) w_ o372 22 ∧ NRd (dRows ET36) Ap0_0 p0.Lines w_ o372 0 0 ∧ Ft (RdC ET97 (some ⟨0, 0, none⟩) glob0) w_ o372 0 ∧ Ft (RdC ET97 (some ⟨1, 0, none⟩) glob1) w_ o372 0 ∧ (l377).length ≤ c376 ∧ tidewracktop_TidewrackHand_j2 K p0 x373 x374 l377 = some r) ?_ ?_
    rotate_left
    · rintro a w380 ⟨o372, x373, x374, A375, c376, l377, hk, hs, f36, f378, f49, f900000, fg0, fg1, hc379, H⟩
      rw [tidewracktop_TidewrackHand_j2] at H
      refine x_seq ?_
      refine wpIn_region_lit ?_
      refine x_op hk rfl ?_
      refine op_alloc (o := o372) tab (t := 64) (cs := [.slice none 0 0]) rfl rfl 23 fun bx384 w381 o382 st383 f385 => ?_
      replace f36 := f36.st st383 (by decide)
      replace f378 := f378.st st383 (by decide)
      replace f49 := f49.st st383 (by decide)
      replace f900000 := f900000.st st383 (by decide)
      replace fg0 := fg0.st st383 (by decide)
      replace fg1 := fg1.st st383 (by decide)
      replace hs := hs.locQ st383 hob rfl
      have hk := hk.put 9 (.pointer (some ⟨bx384, 0, none⟩)) rfl
      refine wpListIn_nil ?_
      refine then_n ?_
      refine x_seq ?_
      refine wpIn_region_lit ?_
      refine x_run tab hk (k := 1) (lv := []) (ks := [3, 4, 5, 6, 7, 9, 57]) (e' := [(3, .slice Ap0_0 (p0.Lines).length cp0_0), (4, .pointer (some ⟨bx35, 0, none⟩)), (5, .int .i64 p0.W), (6, .pointer (some ⟨bx48, 0, none⟩)), (7, .int .i64 (mnI ((p0.Lines).length : Int) 20)), (9, .pointer (some ⟨bx384, 0, none⟩)), (57, .pointer (some ⟨bx48, 0, none⟩))]) rfl trivial fun a hk => ?_
      refine x_op hk rfl ?_
      obtain ⟨t389, hc390, H⟩ := bindS H
      refine op_call hk ent_22 (vs := [.pointer (some ⟨bx48, 0, none⟩)]) rfl (cache_Cache_Spans_calls K bx48 A375 c376 (⟨x373, x374, l377⟩ : T118) _ o382 1 22 f49 _ f378 hc379 (by decide) (by decide) (by decide) 24  _ hc390) ?_
      rintro _ w391 ⟨o392, A394, c395, rfl, st393, f396, hc397⟩
      replace f36 := f36.st st393 (by decide)
      replace f378 := f378.st st393 (by decide)
      replace f385 := f385.st st393 (by decide)
      replace f49 := f49.st st393 (by decide)
      replace f900000 := f900000.st st393 (by decide)
      replace fg0 := fg0.st st393 (by decide)
      replace fg1 := fg1.st st393 (by decide)
      replace hs := hs.locQ st393 hob rfl
      have hk := hk.put 58 (.slice A394 (t389).length c395) rfl
      refine x_op hk rfl ?_
      obtain ⟨t401, hc402, H⟩ := bindS H
      refine op_call hk ent_21 (vs := [.pointer (some ⟨bx384, 0, none⟩), .slice A394 (t389).length c395]) rfl (spans_Set_Add_calls K bx384 none 0 (⟨([] : List T67)⟩ : T63) A394 c395 t389 _ o392 23 f385 25 (Ft.of_all (fun _ => Own.nil _ _ _) _ _ 25) (by simp) _ (f396.imp fun _ h_ => Own.rd h_) hc397 (by decide) (by decide)   _ hc402) ?_
      rintro _ w403 ⟨o404, A407, c408, rfl, st405, f406, f409, hc410⟩
      replace f36 := f36.st st405 (by decide)
      replace f378 := f378.st st405 (by decide)
      replace f396 := f396.st st405 (by decide)
      replace f49 := f49.st st405 (by decide)
      replace f900000 := f900000.st st405 (by decide)
      replace fg0 := fg0.st st405 (by decide)
      replace fg1 := fg1.st st405 (by decide)
      replace hs := hs.locQ st405 hob rfl
      have hk := hk.put 59 (.tuple #[]) rfl
      refine wpListIn_nil ?_
      refine then_n ?_
      refine x_seq ?_
      refine wpIn_region_lit ?_
      refine x_run tab hk (k := 7) (lv := [.int .i64 p0.From, .int .i64 p0.To]) (ks := [3, 5, 6, 7, 9, 66]) (e' := [(3, .slice Ap0_0 (p0.Lines).length cp0_0), (5, .int .i64 p0.W), (6, .pointer (some ⟨bx48, 0, none⟩)), (7, .int .i64 (mnI ((p0.Lines).length : Int) 20)), (9, .pointer (some ⟨bx384, 0, none⟩)), (66, .agg #[.int .i64 (bits .and .i64 p0.From 31), .int .i64 (bits .and .i64 p0.To 31)])]) rfl ⟨(show (0 : Int) ≤ 0 ∧ (0 : Int) < 2 from by decide), (load1 tab rfl ((Bx.cell f36.now 0).trans rfl)), (show (0 : Int) ≤ 1 ∧ (1 : Int) < 2 from by decide), (load1 tab rfl ((Bx.cell f36.now 1).trans rfl)), trivial⟩ fun a hk => ?_
      refine x_op hk rfl ?_
      refine op_alloc (o := o404) tab (t := 68) (cs := [.int .i64 0, .int .i64 0]) rfl rfl 26 fun bx414 w411 o412 st413 f415 => ?_
      replace f378 := f378.st st413 (by decide)
      replace f406 := f406.st st413 (by decide)
      replace f409 := f409.st st413 (by decide)
      replace f49 := f49.st st413 (by decide)
      replace f900000 := f900000.st st413 (by decide)
      replace fg0 := fg0.st st413 (by decide)
      replace fg1 := fg1.st st413 (by decide)
      replace hs := hs.locQ st413 hob rfl
      have hk := hk.put 10 (.pointer (some ⟨bx414, 0, none⟩)) rfl
      refine x_op hk rfl ?_
      refine op_store tab hk (t := 68) (v := .agg #[.int .i64 (bits .and .i64 p0.From 31), .int .i64 (bits .and .i64 p0.To 31)]) (b := bx414) (k := 0) (cs' := [.int .i64 (bits .and .i64 p0.From 31), .int .i64 (bits .and .i64 p0.To 31)]) rfl rfl rfl rfl rfl rfl f415 rfl rfl fun w416 o417 st418 f415_ => ?_
      replace f378 := f378.st st418 (by decide)
      replace f406 := f406.st st418 (by decide)
      replace f409 := f409.st st418 (by decide)
      replace f49 := f49.st st418 (by decide)
      replace f900000 := f900000.st st418 (by decide)
      replace fg0 := fg0.st st418 (by decide)
      replace fg1 := fg1.st st418 (by decide)
      replace hs := hs.locQ st418 hob rfl
      replace f415 := f415_
      refine wpListIn_nil ?_
      refine then_n ?_
      refine x_seq ?_
      refine wpIn_region_lit ?_
      refine x_run tab hk (k := 1) (lv := []) (ks := [3, 5, 6, 7, 9, 10, 11]) (e' := [(3, .slice Ap0_0 (p0.Lines).length cp0_0), (5, .int .i64 p0.W), (6, .pointer (some ⟨bx48, 0, none⟩)), (7, .int .i64 (mnI ((p0.Lines).length : Int) 20)), (9, .pointer (some ⟨bx384, 0, none⟩)), (10, .pointer (some ⟨bx414, 0, none⟩)), (11, .int .i64 0)]) rfl trivial fun a hk => ?_
      refine wpListIn_nil ?_
      refine then_n ?_
      refine x_mid (fun a_ w_ => ∃ o9127 : Nat → Nat, ∃ x9128 : Int, ∃ x9129 : Int, ∃ A9130 : Option Addr, ∃ c9131 : Nat, ∃ l9132 : M T129, ∃ x9135 : Int, Kn 140 a_ [(6, .pointer (some ⟨bx48, 0, none⟩)), (7, .int .i64 (mnI ((p0.Lines).length : Int) 20)), (10, .pointer (some ⟨bx414, 0, none⟩)), (11, .int .i64 x9135)] ∧ St [] w oi w_ o9127 ∧ Ft (Bx bx414 68 [.int .i64 (bits .and .i64 p0.From 31), .int .i64 (bits .and .i64 p0.To 31)]) w_ o9127 1358 ∧ Ft (Bx bx48 119 [.int .i64 x9128, .int .i64 x9129, mv A9130]) w_ o9127 1357 ∧ MpN dT129 true A9130 l9132 w_ o9127 1356 1 ∧ Ft (RdC ET97 (some ⟨0, 0, none⟩) glob0) w_ o9127 0 ∧ Ft (RdC ET97 (some ⟨1, 0, none⟩) glob1) w_ o9127 0 ∧ (l9132).length ≤ c9131 ∧ tidewracktop_TidewrackHand_j3 p0 x9128 x9129 l9132 x9135 = some r) ?_ ?_
      rotate_left
      · rintro a w9136 ⟨o9127, x9128, x9129, A9130, c9131, l9132, x9135, hk, hs, f415, f49, f9133, fg0, fg1, hc9134, H⟩
        rw [tidewracktop_TidewrackHand_j3] at H
        refine x_seq ?_
        refine wpIn_region_lit ?_
        refine x_run tab hk (k := 10) (lv := [.int .i64 (bits .and .i64 p0.To 31), .int .i64 (bits .and .i64 p0.From 31)]) (ks := [6, 7, 133]) (e' := [(6, .pointer (some ⟨bx48, 0, none⟩)), (7, .int .i64 (mnI ((p0.Lines).length : Int) 20)), (133, .bool (x9135 == (mxI 0 (IntKind.wrap .i64 ((mnI (bits .and .i64 p0.To 31) (mnI ((p0.Lines).length : Int) 20)) - (bits .and .i64 p0.From 31))))))]) rfl ⟨(load1 tab rfl ((Bx.cell f415.now 1).trans rfl)), (load1 tab rfl ((Bx.cell f415.now 0).trans rfl)), trivial⟩ fun a hk => ?_
        refine x_run tab hk (k := 1) (lv := []) (ks := [6, 7, 134]) (e' := [(6, .pointer (some ⟨bx48, 0, none⟩)), (7, .int .i64 (mnI ((p0.Lines).length : Int) 20)), (134, .bool (x9135 == (mxI 0 (IntKind.wrap .i64 ((mnI (bits .and .i64 p0.To 31) (mnI ((p0.Lines).length : Int) 20)) - (bits .and .i64 p0.From 31))))))]) rfl trivial fun a hk => ?_
        cases b9137 : (x9135 == (mxI 0 (IntKind.wrap .i64 ((mnI (bits .and .i64 p0.To 31) (mnI ((p0.Lines).length : Int) 20)) - (bits .and .i64 p0.From 31)))))
        · rw [b9137] at hk H
          replace H := bifF H
          refine x_run tab hk (k := 6) (lv := []) (ks := [2]) (e' := [(2, .bool false)]) rfl trivial fun a hk => ?_
          refine wpListIn_nil ?_
          refine then_n ?_
          refine wpIn_ret ?_
          obtain rfl := Option.some.inj H
          exact x_retG hk (rs := [.tmp 2]) (vs := [.bool false]) rfl ⟨rfl, trivial⟩ ⟨cl w oi o [] (fun l_ => if l_ = 1 then LF else 0) o9127, rfl, hs.closeF (Lm := []) (Sh := []) hoa rfl (fun l_ => if l_ = 1 then LF else 0)⟩
        · rw [b9137] at hk H
          replace H := bifT H
          refine x_run tab hk (k := 1) (lv := []) (ks := [7, 134, 135]) (e' := [(7, .int .i64 (mnI ((p0.Lines).length : Int) 20)), (134, .bool true), (135, .pointer (some ⟨bx48, 0, none⟩))]) rfl trivial fun a hk => ?_
          refine x_op hk rfl ?_
          obtain ⟨t9141, hc9142, H⟩ := bindS H
          refine op_call hk ent_26 (vs := [.pointer (some ⟨bx48, 0, none⟩)]) rfl (cache_Cache_Len_calls bx48 A9130 c9131 (⟨x9128, x9129, l9132⟩ : T118) _ o9127 1 1357 f49 _ f9133 hc9134 (by decide) (by decide) (by decide)   _ hc9142) ?_
          rintro _ w9143 ⟨o9144, rfl, st9145⟩
          replace f49 := f49.st st9145 (by decide)
          replace f9133 := f9133.st st9145 (by decide)
          replace fg0 := fg0.st st9145 (by decide)
          replace fg1 := fg1.st st9145 (by decide)
          replace hs := hs.locQ st9145 hob rfl
          have hk := hk.put 136 (.int .i64 t9141) rfl
          refine x_run tab hk (k := 4) (lv := []) (ks := [2]) (e' := [(2, .bool (t9141 == (mnI ((p0.Lines).length : Int) 20)))]) rfl trivial fun a hk => ?_
          refine wpListIn_nil ?_
          refine then_n ?_
          refine wpIn_ret ?_
          obtain rfl := Option.some.inj H
          exact x_retG hk (rs := [.tmp 2]) (vs := [.bool (t9141 == (mnI ((p0.Lines).length : Int) 20))]) rfl ⟨rfl, trivial⟩ ⟨cl w oi o [] (fun l_ => if l_ = 1 then LF else 0) o9144, rfl, hs.closeF (Lm := []) (Sh := []) hoa rfl (fun l_ => if l_ = 1 then LF else 0)⟩
      refine x_seq ?_
      refine wpIn_region_lit ?_
      refine x_run tab hk (k := 1) (lv := [.agg #[.int .i64 (bits .and .i64 p0.From 31), .int .i64 (bits .and .i64 p0.To 31)]]) (ks := [3, 5, 6, 7, 9, 10, 11, 67]) (e' := [(3, .slice Ap0_0 (p0.Lines).length cp0_0), (5, .int .i64 p0.W), (6, .pointer (some ⟨bx48, 0, none⟩)), (7, .int .i64 (mnI ((p0.Lines).length : Int) 20)), (9, .pointer (some ⟨bx384, 0, none⟩)), (10, .pointer (some ⟨bx414, 0, none⟩)), (11, .int .i64 0), (67, .agg #[.int .i64 (bits .and .i64 p0.From 31), .int .i64 (bits .and .i64 p0.To 31)])]) rfl ⟨(load_box tab rfl rfl f415.now (k := 0) rfl rfl), trivial⟩ fun a hk => ?_
      refine x_op hk rfl ?_
      obtain ⟨t9149, hc9150, H⟩ := bindS H
      refine op_call hk ent_23 (vs := [.pointer (some ⟨bx384, 0, none⟩), .agg #[.int .i64 (bits .and .i64 p0.From 31), .int .i64 (bits .and .i64 p0.To 31)]]) rfl (spans_Set_In_calls K bx384 A407 c408 t401 (⟨(bits .and .i64 p0.From 31), (bits .and .i64 p0.To 31)⟩ : T67) _ o417 23 f406 _ (f409.imp fun _ h_ => Own.rd h_) hc410 1359  _ hc9150) ?_
      rintro _ w9151 ⟨o9152, A9154, c9155, rfl, st9153, f9156, hc9157⟩
      replace f378 := f378.st st9153 (by decide)
      replace f406 := f406.st st9153 (by decide)
      replace f409 := f409.st st9153 (by decide)
      replace f415 := f415.st st9153 (by decide)
      replace f49 := f49.st st9153 (by decide)
      replace f900000 := f900000.st st9153 (by decide)
      replace fg0 := fg0.st st9153 (by decide)
      replace fg1 := fg1.st st9153 (by decide)
      replace hs := hs.locQ st9153 hob rfl
      have hk := hk.put 68 (.slice A9154 (t9149).length c9155) rfl
      refine x_run tab hk (k := 2) (lv := []) (ks := [3, 5, 6, 7, 10, 11, 68, 69, 70]) (e' := [(3, .slice Ap0_0 (p0.Lines).length cp0_0), (5, .int .i64 p0.W), (6, .pointer (some ⟨bx48, 0, none⟩)), (7, .int .i64 (mnI ((p0.Lines).length : Int) 20)), (10, .pointer (some ⟨bx414, 0, none⟩)), (11, .int .i64 0), (68, .slice A9154 (t9149).length c9155), (69, .int .i64 ((t9149).length : Int)), (70, .int .i64 0)]) rfl trivial fun a hk => ?_
      refine wpListIn_nil ?_
      refine then_n ?_
      refine wpIn_block ?_
      refine x_loop (fun j_ a_ w_ => ∃ o12047 : Nat → Nat, ∃ A12048 : Option Addr, ∃ c12049 : Nat, ∃ x12052 : Int, ∃ x12053 : Int, ∃ A12054 : Option Addr, ∃ c12055 : Nat, ∃ l12056 : M T129, ∃ x12059 : Int, ∃ A12060 : Option Addr, ∃ c12061 : Nat, ∃ x12064 : Int, Kn 140 a_ [(3, .slice A12048 (p0.Lines).length c12049), (5, .int .i64 p0.W), (6, .pointer (some ⟨bx48, 0, none⟩)), (7, .int .i64 (mnI ((p0.Lines).length : Int) 20)), (10, .pointer (some ⟨bx414, 0, none⟩)), (11, .int .i64 x12059), (68, .slice A12060 (t9149).length c12061), (69, .int .i64 ((t9149).length : Int)), (70, .int .i64 x12064)] ∧ St [] w oi w_ o12047 ∧ NRd (dRows ET36) A12048 p0.Lines w_ o12047 0 0 ∧ MpN dT129 true A12054 l12056 w_ o12047 1804 1 ∧ Ft (Own ET67 68 (.slice A12060 (t9149).length c12061) t9149) w_ o12047 1807 ∧ Ft (Bx bx414 68 [.int .i64 (bits .and .i64 p0.From 31), .int .i64 (bits .and .i64 p0.To 31)]) w_ o12047 1806 ∧ Ft (Bx bx48 119 [.int .i64 x12052, .int .i64 x12053, mv A12054]) w_ o12047 1805 ∧ Ft (RdC ET97 (some ⟨0, 0, none⟩) glob0) w_ o12047 0 ∧ Ft (RdC ET97 (some ⟨1, 0, none⟩) glob1) w_ o12047 0 ∧ (p0.Lines).length ≤ c12049 ∧ (l12056).length ≤ c12055 ∧ (t9149).length ≤ c12061 ∧ tidewracktop_TidewrackHand_l4 K p0 t9149 j_ x12052 x12053 l12056 x12059 x12064 = some r) (k := K) ⟨(fun b_ => (fun l_ => if l_ = 21 then 1804 else if l_ = 22 then 1805 else if l_ = 26 then 1806 else if l_ = 1359 then 1807 else l_) (o9152 b_)), Ap0_0, cp0_0, x373, x374, A375, c376, l377, 0, A9154, c9155, 0, (by exact Kn.pick (ks := [3, 5, 6, 7, 10, 11, 68, 69, 70]) hk rfl), (hs.relabM hob (fun l_ => if l_ = 21 then 1804 else if l_ = 22 then 1805 else if l_ = 26 then 1806 else if l_ = 1359 then 1807 else l_) (by decide)), (f900000.relab (fun l_ => if l_ = 21 then 1804 else if l_ = 22 then 1805 else if l_ = 26 then 1806 else if l_ = 1359 then 1807 else l_) rfl), (f378.relab (fun l_ => if l_ = 21 then 1804 else if l_ = 22 then 1805 else if l_ = 26 then 1806 else if l_ = 1359 then 1807 else l_) rfl), (f9156.relab (fun l_ => if l_ = 21 then 1804 else if l_ = 22 then 1805 else if l_ = 26 then 1806 else if l_ = 1359 then 1807 else l_) rfl), (f415.relab (fun l_ => if l_ = 21 then 1804 else if l_ = 22 then 1805 else if l_ = 26 then 1806 else if l_ = 1359 then 1807 else l_) rfl), (f49.relab (fun l_ => if l_ = 21 then 1804 else if l_ = 22 then 1805 else if l_ = 26 then 1806 else if l_ = 1359 then 1807 else l_) rfl), (fg0.relab (fun l_ => if l_ = 21 then 1804 else if l_ = 22 then 1805 else if l_ = 26 then 1806 else if l_ = 1359 then 1807 else l_) rfl), (fg1.relab (fun l_ => if l_ = 21 then 1804 else if l_ = 22 then 1805 else if l_ = 26 then 1806 else if l_ = 1359 then 1807 else l_) rfl), hcp0_0, hc379, hc9157, H⟩ (by rintro _ _ ⟨_, _, _, _, _, _, _, _, _, _, _, _, _, _, _, _, _, _, _, _, _, _, _, _, H_⟩; exact absurd (show (none : Option Bool) = some r from H_) (by simp)) ?_
      rintro k14952 a w14951 ⟨o12047, A12048, c12049, x12052, x12053, A12054, c12055, l12056, x12059, A12060, c12061, x12064, hk, hs, f12050, f12057, f12062, f415, f49, fg0, fg1, hc12051, hc12058, hc12063, H⟩
      rw [tidewracktop_TidewrackHand_l4] at H
      obtain ⟨lp14953, hlp14954⟩ : ∃ lp_, lp_ = tidewracktop_TidewrackHand_l4 K p0 t9149 k14952 := ⟨_, rfl⟩
      rw [← hlp14954] at H
      refine x_seq ?_
      refine wpIn_region_lit ?_
      refine x_run tab hk (k := 1) (lv := []) (ks := [3, 5, 6, 7, 10, 11, 68, 69, 70, 71]) (e' := [(3, .slice A12048 (p0.Lines).length c12049), (5, .int .i64 p0.W), (6, .pointer (some ⟨bx48, 0, none⟩)), (7, .int .i64 (mnI ((p0.Lines).length : Int) 20)), (10, .pointer (some ⟨bx414, 0, none⟩)), (11, .int .i64 x12059), (68, .slice A12060 (t9149).length c12061), (69, .int .i64 ((t9149).length : Int)), (70, .int .i64 x12064), (71, .bool (decide (x12064 < ((t9149).length : Int))))]) rfl trivial fun a hk => ?_
      refine wpListIn_nil ?_
      refine then_n ?_
      refine x_seq ?_
      cases b14955 : (decide (x12064 < ((t9149).length : Int)))
      · rw [b14955] at hk H
        replace H := bifF H
        refine x_if hk (b := false) rfl ?_
        refine (show Code.wpIn _ _ _ _ _ _ _ from ?_)
        refine wpIn_exit ?_
        refine then_x ?_
        refine then_x ?_
        refine blk_x ?_
        refine then_n ?_
        exact ⟨(fun b_ => (fun l_ => if l_ = 1804 then 1356 else if l_ = 1805 then 1357 else if l_ = 1806 then 1358 else l_) (o12047 b_)), x12052, x12053, A12054, c12055, l12056, x12059, (by exact Kn.pick (ks := [6, 7, 10, 11]) hk rfl), (hs.relabM hob (fun l_ => if l_ = 1804 then 1356 else if l_ = 1805 then 1357 else if l_ = 1806 then 1358 else l_) (by decide)), (f415.relab (fun l_ => if l_ = 1804 then 1356 else if l_ = 1805 then 1357 else if l_ = 1806 then 1358 else l_) rfl), (f49.relab (fun l_ => if l_ = 1804 then 1356 else if l_ = 1805 then 1357 else if l_ = 1806 then 1358 else l_) rfl), (f12057.relab (fun l_ => if l_ = 1804 then 1356 else if l_ = 1805 then 1357 else if l_ = 1806 then 1358 else l_) rfl), (fg0.relab (fun l_ => if l_ = 1804 then 1356 else if l_ = 1805 then 1357 else if l_ = 1806 then 1358 else l_) rfl), (fg1.relab (fun l_ => if l_ = 1804 then 1356 else if l_ = 1805 then 1357 else if l_ = 1806 then 1358 else l_) rfl), hc12058, H⟩
      · rw [b14955] at hk H
        replace H := bifT H
        refine x_if hk (b := true) rfl ?_
        refine (show Code.wpIn _ _ _ _ _ _ _ from ?_)
        refine wpIn_skip ?_
        refine then_n ?_
        refine x_mid (fun a_ w_ => ∃ o16400 : Nat → Nat, ∃ A16401 : Option Addr, ∃ c16402 : Nat, ∃ x16405 : Int, ∃ x16406 : Int, ∃ A16407 : Option Addr, ∃ c16408 : Nat, ∃ l16409 : M T129, ∃ x16412 : Int, ∃ A16413 : Option Addr, ∃ c16414 : Nat, Kn 140 a_ [(3, .slice A16401 (p0.Lines).length c16402), (5, .int .i64 p0.W), (6, .pointer (some ⟨bx48, 0, none⟩)), (7, .int .i64 (mnI ((p0.Lines).length : Int) 20)), (10, .pointer (some ⟨bx414, 0, none⟩)), (11, .int .i64 x16412), (68, .slice A16413 (t9149).length c16414), (69, .int .i64 ((t9149).length : Int)), (70, .int .i64 x12064)] ∧ St [] w oi w_ o16400 ∧ NRd (dRows ET36) A16401 p0.Lines w_ o16400 0 0 ∧ MpN dT129 true A16407 l16409 w_ o16400 2466 1 ∧ Ft (Own ET67 68 (.slice A16413 (t9149).length c16414) t9149) w_ o16400 2469 ∧ Ft (Bx bx414 68 [.int .i64 (bits .and .i64 p0.From 31), .int .i64 (bits .and .i64 p0.To 31)]) w_ o16400 2468 ∧ Ft (Bx bx48 119 [.int .i64 x16405, .int .i64 x16406, mv A16407]) w_ o16400 2467 ∧ Ft (RdC ET97 (some ⟨0, 0, none⟩) glob0) w_ o16400 0 ∧ Ft (RdC ET97 (some ⟨1, 0, none⟩) glob1) w_ o16400 0 ∧ (p0.Lines).length ≤ c16402 ∧ (l16409).length ≤ c16408 ∧ (t9149).length ≤ c16414 ∧ tidewracktop_TidewrackHand_j5 x12064 lp14953 x16405 x16406 l16409 x16412 = some r) ?_ ?_
        rotate_left
        · rintro a w16417 ⟨o16400, A16401, c16402, x16405, x16406, A16407, c16408, l16409, x16412, A16413, c16414, hk, hs, f16403, f16410, f16415, f415, f49, fg0, fg1, hc16404, hc16411, hc16416, H⟩
          rw [tidewracktop_TidewrackHand_j5] at H
          refine wpIn_region_lit ?_
          refine x_run tab hk (k := 2) (lv := []) (ks := [3, 5, 6, 7, 10, 11, 68, 69, 70]) (e' := [(3, .slice A16401 (p0.Lines).length c16402), (5, .int .i64 p0.W), (6, .pointer (some ⟨bx48, 0, none⟩)), (7, .int .i64 (mnI ((p0.Lines).length : Int) 20)), (10, .pointer (some ⟨bx414, 0, none⟩)), (11, .int .i64 x16412), (68, .slice A16413 (t9149).length c16414), (69, .int .i64 ((t9149).length : Int)), (70, .int .i64 (IntKind.wrap .i64 (x12064 + 1)))]) rfl trivial fun a hk => ?_
          refine wpListIn_nil ?_
          refine then_n ?_
          exact ⟨k14952, Nat.le_refl _, (fun b_ => (fun l_ => if l_ = 2466 then 1804 else if l_ = 2467 then 1805 else if l_ = 2468 then 1806 else if l_ = 2469 then 1807 else l_) (o16400 b_)), A16401, c16402, x16405, x16406, A16407, c16408, l16409, x16412, A16413, c16414, (IntKind.wrap .i64 (x12064 + 1)), (by exact Kn.pick (ks := [3, 5, 6, 7, 10, 11, 68, 69, 70]) hk rfl), (hs.relabM hob (fun l_ => if l_ = 2466 then 1804 else if l_ = 2467 then 1805 else if l_ = 2468 then 1806 else if l_ = 2469 then 1807 else l_) (by decide)), (f16403.relab (fun l_ => if l_ = 2466 then 1804 else if l_ = 2467 then 1805 else if l_ = 2468 then 1806 else if l_ = 2469 then 1807 else l_) rfl), (f16410.relab (fun l_ => if l_ = 2466 then 1804 else if l_ = 2467 then 1805 else if l_ = 2468 then 1806 else if l_ = 2469 then 1807 else l_) rfl), (f16415.relab (fun l_ => if l_ = 2466 then 1804 else if l_ = 2467 then 1805 else if l_ = 2468 then 1806 else if l_ = 2469 then 1807 else l_) rfl), (f415.relab (fun l_ => if l_ = 2466 then 1804 else if l_ = 2467 then 1805 else if l_ = 2468 then 1806 else if l_ = 2469 then 1807 else l_) rfl), (f49.relab (fun l_ => if l_ = 2466 then 1804 else if l_ = 2467 then 1805 else if l_ = 2468 then 1806 else if l_ = 2469 then 1807 else l_) rfl), (fg0.relab (fun l_ => if l_ = 2466 then 1804 else if l_ = 2467 then 1805 else if l_ = 2468 then 1806 else if l_ = 2469 then 1807 else l_) rfl), (fg1.relab (fun l_ => if l_ = 2466 then 1804 else if l_ = 2467 then 1805 else if l_ = 2468 then 1806 else if l_ = 2469 then 1807 else l_) rfl), hc16404, hc16411, hc16416, (hlp14954 ▸ H)⟩
        refine wpIn_block ?_
        refine x_seq ?_
        refine wpIn_region_lit ?_
        obtain ⟨q16418, H⟩ := ifS H
        obtain ⟨ad16419, hAad16419⟩ := RdC.addr (Own.rd f12062.now) q16418
        have hk_C := hk
        have f12050_C := f12050
        have f12057_C := f12057
        have f12062_C := f12062
        have f415_C := f415
        have f49_C := f49
        have fg0_C := fg0
        have fg1_C := fg1
        subst hAad16419
        have hk := hk_C
        clear hk_C
        have f12050 := f12050_C
        clear f12050_C
        have f12057 := f12057_C
        clear f12057_C
        have f12062 := f12062_C
        clear f12062_C
        have f415 := f415_C
        clear f415_C
        have f49 := f49_C
        clear f49_C
        have fg0 := fg0_C
        clear fg0_C
        have fg1 := fg1_C
        clear fg1_C
        refine x_run tab hk (k := 2) (lv := [.agg #[.int .i64 ((rdD zT67 t9149 x12064).From), .int .i64 ((rdD zT67 t9149 x12064).To)]]) (ks := [3, 5, 6, 7, 10, 11, 68, 69, 70, 73]) (e' := [(3, .slice A12048 (p0.Lines).length c12049), (5, .int .i64 p0.W), (6, .pointer (some ⟨bx48, 0, none⟩)), (7, .int .i64 (mnI ((p0.Lines).length : Int) 20)), (10, .pointer (some ⟨bx414, 0, none⟩)), (11, .int .i64 x12059), (68, .slice (some ad16419) (t9149).length c12061), (69, .int .i64 ((t9149).length : Int)), (70, .int .i64 x12064), (73, .agg #[.int .i64 ((rdD zT67 t9149 x12064).From), .int .i64 ((rdD zT67 t9149 x12064).To)])]) rfl ⟨q16418, (load_elem (E := ET67) (i := x12064) (dx := zT67) tab rfl rfl (Own.rd f12062.now) q16418), trivial⟩ fun a hk => ?_
        refine x_op hk rfl ?_
        refine op_alloc (o := o12047) tab (t := 68) (cs := [.int .i64 0, .int .i64 0]) rfl rfl 2470 fun bx16423 w16420 o16421 st16422 f16424 => ?_
        replace f12050 := f12050.st st16422 (by decide)
        replace f12057 := f12057.st st16422 (by decide)
        replace f12062 := f12062.st st16422 (by decide)
        replace f415 := f415.st st16422 (by decide)
        replace f49 := f49.st st16422 (by decide)
        replace fg0 := fg0.st st16422 (by decide)
        replace fg1 := fg1.st st16422 (by decide)
        replace hs := hs.locQ st16422 hob rfl
        have hk := hk.put 13 (.pointer (some ⟨bx16423, 0, none⟩)) rfl
        refine x_op hk rfl ?_
        refine op_store tab hk (t := 68) (v := .agg #[.int .i64 ((rdD zT67 t9149 x12064).From), .int .i64 ((rdD zT67 t9149 x12064).To)]) (b := bx16423) (k := 0) (cs' := [.int .i64 ((rdD zT67 t9149 x12064).From), .int .i64 ((rdD zT67 t9149 x12064).To)]) rfl rfl rfl rfl rfl rfl f16424 rfl rfl fun w16425 o16426 st16427 f16424_ => ?_
        replace f12050 := f12050.st st16427 (by decide)
        replace f12057 := f12057.st st16427 (by decide)
        replace f12062 := f12062.st st16427 (by decide)
        replace f415 := f415.st st16427 (by decide)
        replace f49 := f49.st st16427 (by decide)
        replace fg0 := fg0.st st16427 (by decide)
        replace fg1 := fg1.st st16427 (by decide)
        replace hs := hs.locQ st16427 hob rfl
        replace f16424 := f16424_
        refine wpListIn_nil ?_
        refine then_n ?_
        refine x_seq ?_
        refine wpIn_region_lit ?_
        refine x_run tab hk (k := 3) (lv := [.int .i64 ((rdD zT67 t9149 x12064).From)]) (ks := [3, 5, 6, 7, 10, 11, 13, 14, 68, 69, 70]) (e' := [(3, .slice A12048 (p0.Lines).length c12049), (5, .int .i64 p0.W), (6, .pointer (some ⟨bx48, 0, none⟩)), (7, .int .i64 (mnI ((p0.Lines).length : Int) 20)), (10, .pointer (some ⟨bx414, 0, none⟩)), (11, .int .i64 x12059), (13, .pointer (some ⟨bx16423, 0, none⟩)), (14, .int .i64 ((rdD zT67 t9149 x12064).From)), (68, .slice (some ad16419) (t9149).length c12061), (69, .int .i64 ((t9149).length : Int)), (70, .int .i64 x12064)]) rfl ⟨(load1 tab rfl ((Bx.cell f16424.now 0).trans rfl)), trivial⟩ fun a hk => ?_
        refine wpListIn_nil ?_
        refine then_n ?_
        refine wpIn_block ?_
        refine x_loop (fun j_ a_ w_ => ∃ o16895 : Nat → Nat, ∃ A16896 : Option Addr, ∃ c16897 : Nat, ∃ x16900 : Int, ∃ x16901 : Int, ∃ A16902 : Option Addr, ∃ c16903 : Nat, ∃ l16904 : M T129, ∃ x16907 : Int, ∃ x16908 : Int, Kn 140 a_ [(3, .slice A16896 (p0.Lines).length c16897), (5, .int .i64 p0.W), (6, .pointer (some ⟨bx48, 0, none⟩)), (7, .int .i64 (mnI ((p0.Lines).length : Int) 20)), (10, .pointer (some ⟨bx414, 0, none⟩)), (11, .int .i64 x16907), (13, .pointer (some ⟨bx16423, 0, none⟩)), (14, .int .i64 x16908), (68, .slice (some ad16419) (t9149).length c12061), (69, .int .i64 ((t9149).length : Int)), (70, .int .i64 x12064)] ∧ St [] w oi w_ o16895 ∧ Ft (Own ET67 68 (.slice (some ad16419) (t9149).length c12061) t9149) w_ o16895 2549 ∧ Ft (Bx bx16423 68 [.int .i64 ((rdD zT67 t9149 x12064).From), .int .i64 ((rdD zT67 t9149 x12064).To)]) w_ o16895 2548 ∧ NRd (dRows ET36) A16896 p0.Lines w_ o16895 0 0 ∧ MpN dT129 true A16902 l16904 w_ o16895 2545 1 ∧ Ft (Bx bx414 68 [.int .i64 (bits .and .i64 p0.From 31), .int .i64 (bits .and .i64 p0.To 31)]) w_ o16895 2547 ∧ Ft (Bx bx48 119 [.int .i64 x16900, .int .i64 x16901, mv A16902]) w_ o16895 2546 ∧ Ft (RdC ET97 (some ⟨0, 0, none⟩) glob0) w_ o16895 0 ∧ Ft (RdC ET97 (some ⟨1, 0, none⟩) glob1) w_ o16895 0 ∧ (p0.Lines).length ≤ c16897 ∧ (l16904).length ≤ c16903 ∧ tidewracktop_TidewrackHand_l6 K p0 t9149 x12064 lp14953 j_ x16900 x16901 l16904 x16907 x16908 = some r) (k := K) ⟨(fun b_ => (fun l_ => if l_ = 1804 then 2545 else if l_ = 1805 then 2546 else if l_ = 1806 then 2547 else if l_ = 1807 then 2549 else if l_ = 2470 then 2548 else l_) (o16426 b_)), A12048, c12049, x12052, x12053, A12054, c12055, l12056, x12059, (rdD zT67 t9149 x12064).From, (by exact Kn.pick (ks := [3, 5, 6, 7, 10, 11, 13, 14, 68, 69, 70]) hk rfl), (hs.relabM hob (fun l_ => if l_ = 1804 then 2545 else if l_ = 1805 then 2546 else if l_ = 1806 then 2547 else if l_ = 1807 then 2549 else if l_ = 2470 then 2548 else l_) (by decide)), (f12062.relab (fun l_ => if l_ = 1804 then 2545 else if l_ = 1805 then 2546 else if l_ = 1806 then 2547 else if l_ = 1807 then 2549 else if l_ = 2470 then 2548 else l_) rfl), (f16424.relab (fun l_ => if l_ = 1804 then 2545 else if l_ = 1805 then 2546 else if l_ = 1806 then 2547 else if l_ = 1807 then 2549 else if l_ = 2470 then 2548 else l_) rfl), (f12050.relab (fun l_ => if l_ = 1804 then 2545 else if l_ = 1805 then 2546 else if l_ = 1806 then 2547 else if l_ = 1807 then 2549 else if l_ = 2470 then 2548 else l_) rfl), (f12057.relab (fun l_ => if l_ = 1804 then 2545 else if l_ = 1805 then 2546 else if l_ = 1806 then 2547 else if l_ = 1807 then 2549 else if l_ = 2470 then 2548 else l_) rfl), (f415.relab (fun l_ => if l_ = 1804 then 2545 else if l_ = 1805 then 2546 else if l_ = 1806 then 2547 else if l_ = 1807 then 2549 else if l_ = 2470 then 2548 else l_) rfl), (f49.relab (fun l_ => if l_ = 1804 then 2545 else if l_ = 1805 then 2546 else if l_ = 1806 then 2547 else if l_ = 1807 then 2549 else if l_ = 2470 then 2548 else l_) rfl), (fg0.relab (fun l_ => if l_ = 1804 then 2545 else if l_ = 1805 then 2546 else if l_ = 1806 then 2547 else if l_ = 1807 then 2549 else if l_ = 2470 then 2548 else l_) rfl), (fg1.relab (fun l_ => if l_ = 1804 then 2545 else if l_ = 1805 then 2546 else if l_ = 1806 then 2547 else if l_ = 1807 then 2549 else if l_ = 2470 then 2548 else l_) rfl), hc12051, hc12058, H⟩ (by rintro _ _ ⟨_, _, _, _, _, _, _, _, _, _, _, _, _, _, _, _, _, _, _, _, _, _, H_⟩; exact absurd (show (none : Option Bool) = some r from H_) (by simp)) ?_
        rintro k17374 a w17373 ⟨o16895, A16896, c16897, x16900, x16901, A16902, c16903, l16904, x16907, x16908, hk, hs, f12062, f16424, f16898, f16905, f415, f49, fg0, fg1, hc16899, hc16906, H⟩
        rw [tidewracktop_TidewrackHand_l6] at H
        obtain ⟨lp17375, hlp17376⟩ : ∃ lp_, lp_ = tidewracktop_TidewrackHand_l6 K p0 t9149 x12064 lp14953 k17374 := ⟨_, rfl⟩
        rw [← hlp17376] at H
        refine x_seq ?_
        refine x_seq ?_
        refine wpIn_region_lit ?_
        refine x_run tab hk (k := 4) (lv := [.int .i64 ((rdD zT67 t9149 x12064).To)]) (ks := [3, 5, 6, 7, 10, 11, 13, 14, 68, 69, 70, 79]) (e' := [(3, .slice A16896 (p0.Lines).length c16897), (5, .int .i64 p0.W), (6, .pointer (some ⟨bx48, 0, none⟩)), (7, .int .i64 (mnI ((p0.Lines).length : Int) 20)), (10, .pointer (some ⟨bx414, 0, none⟩)), (11, .int .i64 x16907), (13, .pointer (some ⟨bx16423, 0, none⟩)), (14, .int .i64 x16908), (68, .slice (some ad16419) (t9149).length c12061), (69, .int .i64 ((t9149).length : Int)), (70, .int .i64 x12064), (79, .bool (decide (x16908 < ((rdD zT67 t9149 x12064).To))))]) rfl ⟨(load1 tab rfl ((Bx.cell f16424.now 1).trans rfl)), trivial⟩ fun a hk => ?_
        refine wpListIn_nil ?_
        refine then_n ?_
        cases b17377 : (decide (x16908 < ((rdD zT67 t9149 x12064).To)))
        · rw [b17377] at hk H
          replace H := bifF H
          refine x_if hk (b := false) rfl ?_
          refine (show Code.wpIn _ _ _ _ _ _ _ from ?_)
          refine wpIn_exit ?_
          refine then_x ?_
          refine then_x ?_
          refine blk_x ?_
          refine blk_n ?_
          refine then_n ?_
          exact ⟨(fun b_ => (fun l_ => if l_ = 2545 then 2466 else if l_ = 2546 then 2467 else if l_ = 2547 then 2468 else if l_ = 2549 then 2469 else l_) (o16895 b_)), A16896, c16897, x16900, x16901, A16902, c16903, l16904, x16907, (some ad16419), c12061, (by exact Kn.pick (ks := [3, 5, 6, 7, 10, 11, 68, 69, 70]) hk rfl), (hs.relabM hob (fun l_ => if l_ = 2545 then 2466 else if l_ = 2546 then 2467 else if l_ = 2547 then 2468 else if l_ = 2549 then 2469 else l_) (by decide)), (f16898.relab (fun l_ => if l_ = 2545 then 2466 else if l_ = 2546 then 2467 else if l_ = 2547 then 2468 else if l_ = 2549 then 2469 else l_) rfl), (f16905.relab (fun l_ => if l_ = 2545 then 2466 else if l_ = 2546 then 2467 else if l_ = 2547 then 2468 else if l_ = 2549 then 2469 else l_) rfl), (f12062.relab (fun l_ => if l_ = 2545 then 2466 else if l_ = 2546 then 2467 else if l_ = 2547 then 2468 else if l_ = 2549 then 2469 else l_) rfl), (f415.relab (fun l_ => if l_ = 2545 then 2466 else if l_ = 2546 then 2467 else if l_ = 2547 then 2468 else if l_ = 2549 then 2469 else l_) rfl), (f49.relab (fun l_ => if l_ = 2545 then 2466 else if l_ = 2546 then 2467 else if l_ = 2547 then 2468 else if l_ = 2549 then 2469 else l_) rfl), (fg0.relab (fun l_ => if l_ = 2545 then 2466 else if l_ = 2546 then 2467 else if l_ = 2547 then 2468 else if l_ = 2549 then 2469 else l_) rfl), (fg1.relab (fun l_ => if l_ = 2545 then 2466 else if l_ = 2546 then 2467 else if l_ = 2547 then 2468 else if l_ = 2549 then 2469 else l_) rfl), hc16899, hc16906, hc12063, H⟩
        · rw [b17377] at hk H
          replace H := bifT H
          refine x_if hk (b := true) rfl ?_
          refine (show Code.wpIn _ _ _ _ _ _ _ from ?_)
          refine wpIn_skip ?_
          refine then_n ?_
          refine x_mid (fun a_ w_ => ∃ o17611 : Nat → Nat, ∃ A17612 : Option Addr, ∃ c17613 : Nat, ∃ x17616 : Int, ∃ x17617 : Int, ∃ A17618 : Option Addr, ∃ c17619 : Nat, ∃ l17620 : M T129, Kn 140 a_ [(3, .slice A17612 (p0.Lines).length c17613), (5, .int .i64 p0.W), (6, .pointer (some ⟨bx48, 0, none⟩)), (7, .int .i64 (mnI ((p0.Lines).length : Int) 20)), (10, .pointer (some ⟨bx414, 0, none⟩)), (11, .int .i64 (IntKind.wrap .i64 (x16907 + 1))), (13, .pointer (some ⟨bx16423, 0, none⟩)), (14, .int .i64 x16908), (68, .slice (some ad16419) (t9149).length c12061), (69, .int .i64 ((t9149).length : Int)), (70, .int .i64 x12064)] ∧ St [] w oi w_ o17611 ∧ Ft (Own ET67 68 (.slice (some ad16419) (t9149).length c12061) t9149) w_ o17611 2655 ∧ Ft (Bx bx16423 68 [.int .i64 ((rdD zT67 t9149 x12064).From), .int .i64 ((rdD zT67 t9149 x12064).To)]) w_ o17611 2654 ∧ Ft (Bx bx48 119 [.int .i64 x17616, .int .i64 x17617, mv A17618]) w_ o17611 2652 ∧ NRd (dRows ET36) A17612 p0.Lines w_ o17611 0 0 ∧ MpN dT129 true A17618 l17620 w_ o17611 2651 1 ∧ Ft (Bx bx414 68 [.int .i64 (bits .and .i64 p0.From 31), .int .i64 (bits .and .i64 p0.To 31)]) w_ o17611 2653 ∧ Ft (RdC ET97 (some ⟨0, 0, none⟩) glob0) w_ o17611 0 ∧ Ft (RdC ET97 (some ⟨1, 0, none⟩) glob1) w_ o17611 0 ∧ (p0.Lines).length ≤ c17613 ∧ (l17620).length ≤ c17619 ∧ tidewracktop_TidewrackHand_j7 x16907 x16908 lp17375 x17616 x17617 l17620 = some r) ?_ ?_
          rotate_left
          · rintro a w17623 ⟨o17611, A17612, c17613, x17616, x17617, A17618, c17619, l17620, hk, hs, f12062, f16424, f17390, f17614, f17621, f415, fg0, fg1, hc17615, hc17622, H⟩
            rw [tidewracktop_TidewrackHand_j7] at H
            refine wpIn_region_lit ?_
            refine x_run tab hk (k := 3) (lv := []) (ks := [3, 5, 6, 7, 10, 11, 13, 14, 68, 69, 70]) (e' := [(3, .slice A17612 (p0.Lines).length c17613), (5, .int .i64 p0.W), (6, .pointer (some ⟨bx48, 0, none⟩)), (7, .int .i64 (mnI ((p0.Lines).length : Int) 20)), (10, .pointer (some ⟨bx414, 0, none⟩)), (11, .int .i64 (IntKind.wrap .i64 (x16907 + 1))), (13, .pointer (some ⟨bx16423, 0, none⟩)), (14, .int .i64 (IntKind.wrap .i64 (x16908 + 1))), (68, .slice (some ad16419) (t9149).length c12061), (69, .int .i64 ((t9149).length : Int)), (70, .int .i64 x12064)]) rfl trivial fun a hk => ?_
            refine wpListIn_nil ?_
            refine then_n ?_
            exact ⟨k17374, Nat.le_refl _, (fun b_ => (fun l_ => if l_ = 2651 then 2545 else if l_ = 2652 then 2546 else if l_ = 2653 then 2547 else if l_ = 2654 then 2548 else if l_ = 2655 then 2549 else l_) (o17611 b_)), A17612, c17613, x17616, x17617, A17618, c17619, l17620, (IntKind.wrap .i64 (x16907 + 1)), (IntKind.wrap .i64 (x16908 + 1)), (by exact Kn.pick (ks := [3, 5, 6, 7, 10, 11, 13, 14, 68, 69, 70]) hk rfl), (hs.relabM hob (fun l_ => if l_ = 2651 then 2545 else if l_ = 2652 then 2546 else if l_ = 2653 then 2547 else if l_ = 2654 then 2548 else if l_ = 2655 then 2549 else l_) (by decide)), (f12062.relab (fun l_ => if l_ = 2651 then 2545 else if l_ = 2652 then 2546 else if l_ = 2653 then 2547 else if l_ = 2654 then 2548 else if l_ = 2655 then 2549 else l_) rfl), (f16424.relab (fun l_ => if l_ = 2651 then 2545 else if l_ = 2652 then 2546 else if l_ = 2653 then 2547 else if l_ = 2654 then 2548 else if l_ = 2655 then 2549 else l_) rfl), (f17614.relab (fun l_ => if l_ = 2651 then 2545 else if l_ = 2652 then 2546 else if l_ = 2653 then 2547 else if l_ = 2654 then 2548 else if l_ = 2655 then 2549 else l_) rfl), (f17621.relab (fun l_ => if l_ = 2651 then 2545 else if l_ = 2652 then 2546 else if l_ = 2653 then 2547 else if l_ = 2654 then 2548 else if l_ = 2655 then 2549 else l_) rfl), (f415.relab (fun l_ => if l_ = 2651 then 2545 else if l_ = 2652 then 2546 else if l_ = 2653 then 2547 else if l_ = 2654 then 2548 else if l_ = 2655 then 2549 else l_) rfl), (f17390.relab (fun l_ => if l_ = 2651 then 2545 else if l_ = 2652 then 2546 else if l_ = 2653 then 2547 else if l_ = 2654 then 2548 else if l_ = 2655 then 2549 else l_) rfl), (fg0.relab (fun l_ => if l_ = 2651 then 2545 else if l_ = 2652 then 2546 else if l_ = 2653 then 2547 else if l_ = 2654 then 2548 else if l_ = 2655 then 2549 else l_) rfl), (fg1.relab (fun l_ => if l_ = 2651 then 2545 else if l_ = 2652 then 2546 else if l_ = 2653 then 2547 else if l_ = 2654 then 2548 else if l_ = 2655 then 2549 else l_) rfl), hc17615, hc17622, (hlp17376 ▸ H)⟩
          refine wpIn_block ?_
          refine x_seq ?_
          refine wpIn_region_lit ?_
          refine x_run tab hk (k := 2) (lv := []) (ks := [3, 5, 6, 7, 10, 11, 13, 14, 68, 69, 70, 83, 84]) (e' := [(3, .slice A16896 (p0.Lines).length c16897), (5, .int .i64 p0.W), (6, .pointer (some ⟨bx48, 0, none⟩)), (7, .int .i64 (mnI ((p0.Lines).length : Int) 20)), (10, .pointer (some ⟨bx414, 0, none⟩)), (11, .int .i64 x16907), (13, .pointer (some ⟨bx16423, 0, none⟩)), (14, .int .i64 x16908), (68, .slice (some ad16419) (t9149).length c12061), (69, .int .i64 ((t9149).length : Int)), (70, .int .i64 x12064), (83, .pointer (some ⟨bx48, 0, none⟩)), (84, .int .i64 x16908)]) rfl trivial fun a hk => ?_
          refine x_op hk rfl ?_
          obtain ⟨t17627, hc17628, H⟩ := bindS H
          refine op_call hk ent_24 (vs := [.pointer (some ⟨bx48, 0, none⟩), .int .i64 x16908]) rfl (cache_Cache_Get_calls bx48 A16902 c16903 (⟨x16900, x16901, l16904⟩ : T118) x16908 _ o16895 1 2546 f49 2545 f16905 hc16906 (by decide) 2656  _ hc17628) ?_
          rintro _ w17629 ⟨o17630, A17632, c17633, A17637, c17638, rfl, st17631, f17634, hc17635, f17636, f17639, hc17640⟩
          replace f12062 := f12062.st st17631 (by decide)
          replace f16424 := f16424.st st17631 (by decide)
          replace f16898 := f16898.st st17631 (by decide)
          replace f415 := f415.st st17631 (by decide)
          replace fg0 := fg0.st st17631 (by decide)
          replace fg1 := fg1.st st17631 (by decide)
          replace hs := hs.locQ st17631 hob rfl
          have hk := hk.put 85 (.tuple #[.slice A17632 (t17627.1).length c17633, .bool t17627.2.1]) rfl
          refine x_run tab hk (k := 5) (lv := []) (ks := [3, 5, 6, 7, 10, 11, 13, 14, 15, 16, 68, 69, 70]) (e' := [(3, .slice A16896 (p0.Lines).length c16897), (5, .int .i64 p0.W), (6, .pointer (some ⟨bx48, 0, none⟩)), (7, .int .i64 (mnI ((p0.Lines).length : Int) 20)), (10, .pointer (some ⟨bx414, 0, none⟩)), (11, .int .i64 x16907), (13, .pointer (some ⟨bx16423, 0, none⟩)), (14, .int .i64 x16908), (15, .slice A17632 (t17627.1).length c17633), (16, .bool t17627.2.1), (68, .slice (some ad16419) (t9149).length c12061), (69, .int .i64 ((t9149).length : Int)), (70, .int .i64 x12064)]) rfl trivial fun a hk => ?_
          refine wpListIn_nil ?_
          refine then_n ?_
          refine x_seq ?_
          refine x_seq ?_
          refine wpIn_region_lit ?_
          refine x_run tab hk (k := 2) (lv := []) (ks := [3, 5, 6, 7, 10, 11, 13, 14, 15, 68, 69, 70, 89]) (e' := [(3, .slice A16896 (p0.Lines).length c16897), (5, .int .i64 p0.W), (6, .pointer (some ⟨bx48, 0, none⟩)), (7, .int .i64 (mnI ((p0.Lines).length : Int) 20)), (10, .pointer (some ⟨bx414, 0, none⟩)), (11, .int .i64 x16907), (13, .pointer (some ⟨bx16423, 0, none⟩)), (14, .int .i64 x16908), (15, .slice A17632 (t17627.1).length c17633), (68, .slice (some ad16419) (t9149).length c12061), (69, .int .i64 ((t9149).length : Int)), (70, .int .i64 x12064), (89, .bool (!t17627.2.1))]) rfl trivial fun a hk => ?_
          refine wpListIn_nil ?_
          refine then_n ?_
          cases b17641 : (!t17627.2.1)
          · rw [b17641] at hk H
            replace H := bifF H
            refine x_if hk (b := false) rfl ?_
            refine (show Code.wpIn _ _ _ _ _ _ _ from ?_)
            refine wpIn_skip ?_
            refine then_n ?_
            refine x_seq ?_
            refine wpIn_region_lit ?_
            refine x_run tab hk (k := 2) (lv := []) (ks := [3, 5, 6, 7, 10, 11, 13, 14, 68, 69, 70, 90, 91]) (e' := [(3, .slice A16896 (p0.Lines).length c16897), (5, .int .i64 p0.W), (6, .pointer (some ⟨bx48, 0, none⟩)), (7, .int .i64 (mnI ((p0.Lines).length : Int) 20)), (10, .pointer (some ⟨bx414, 0, none⟩)), (11, .int .i64 x16907), (13, .pointer (some ⟨bx16423, 0, none⟩)), (14, .int .i64 x16908), (68, .slice (some ad16419) (t9149).length c12061), (69, .int .i64 ((t9149).length : Int)), (70, .int .i64 x12064), (90, .slice A17632 (t17627.1).length c17633), (91, .int .i64 p0.W)]) rfl trivial fun a hk => ?_
            refine x_op hk rfl ?_
            obtain ⟨t17645, hc17646, H⟩ := bindS H
            refine op_call hk ent_19 (vs := [.slice A17632 (t17627.1).length c17633, .int .i64 p0.W]) rfl (flow_Cut_calls K A17632 c17633 t17627.1 p0.W _ o17630 1 0 fg0 0 fg1 2656 (f17634.imp fun _ h_ => Own.rd h_) hc17635 (by decide) (by decide) (by decide) 2657  _ hc17646) ?_
            rintro _ w17647 ⟨o17648, A17650, c17651, rfl, st17649, f17652, hc17653⟩
            replace f12062 := f12062.st st17649 (by decide)
            replace f16424 := f16424.st st17649 (by decide)
            replace f16898 := f16898.st st17649 (by decide)
            replace f17634 := f17634.st st17649 (by decide)
            replace f17636 := f17636.st st17649 (by decide)
            replace f17639 := f17639.st st17649 (by decide)
            replace f415 := f415.st st17649 (by decide)
            replace fg0 := fg0.st st17649 (by decide)
            replace fg1 := fg1.st st17649 (by decide)
            replace hs := hs.locQ st17649 hob rfl
            have hk := hk.put 92 (.slice A17650 (t17645).length c17651) rfl
            refine x_op hk rfl ?_
            obtain ⟨t17657, hc17658, H⟩ := bindS H
            refine op_call hk ent_25 (vs := [.slice A17650 (t17645).length c17651]) rfl (flow_Join_calls K A17650 c17651 t17645 _ o17648 1 _ f17652.rd hc17653 (by decide) (by decide) 2658  _ hc17658) ?_
            rintro _ w17659 ⟨o17660, A17662, c17663, rfl, st17661, f17664, hc17665⟩
            replace f12062 := f12062.st st17661 (by decide)
            replace f16424 := f16424.st st17661 (by decide)
            replace f16898 := f16898.st st17661 (by decide)
            replace f17634 := f17634.st st17661 (by decide)
            replace f17636 := f17636.st st17661 (by decide)
            replace f17639 := f17639.st st17661 (by decide)
            replace f17652 := f17652.st st17661 (by decide)
            replace f415 := f415.st st17661 (by decide)
            replace fg0 := fg0.st st17661 (by decide)
            replace fg1 := fg1.st st17661 (by decide)
            replace hs := hs.locQ st17661 hob rfl
            have hk := hk.put 93 (.slice A17662 (t17657).length c17663) rfl
            refine x_run tab hk (k := 1) (lv := []) (ks := [3, 5, 6, 7, 10, 11, 13, 14, 15, 68, 69, 70]) (e' := [(3, .slice A16896 (p0.Lines).length c16897), (5, .int .i64 p0.W), (6, .pointer (some ⟨bx48, 0, none⟩)), (7, .int .i64 (mnI ((p0.Lines).length : Int) 20)), (10, .pointer (some ⟨bx414, 0, none⟩)), (11, .int .i64 x16907), (13, .pointer (some ⟨bx16423, 0, none⟩)), (14, .int .i64 x16908), (15, .slice A17662 (t17657).length c17663), (68, .slice (some ad16419) (t9149).length c12061), (69, .int .i64 ((t9149).length : Int)), (70, .int .i64 x12064)]) rfl trivial fun a hk => ?_
            refine wpListIn_nil ?_
            refine then_n ?_
            refine x_seq ?_
            refine x_seq ?_
            refine wpIn_region_lit ?_
            obtain ⟨q17666, H⟩ := ifS H
            obtain ⟨ad17667, hAad17667⟩ := NRd.addr f16898 q17666
            have hk_C := hk
            have f12062_C := f12062
            have f16424_C := f16424
            have f16898_C := f16898
            have f17636_C := f17636
            have f17639_C := f17639
            have f17664_C := f17664
            have f415_C := f415
            have fg0_C := fg0
            have fg1_C := fg1
            subst hAad17667
            have hk := hk_C
            clear hk_C
            have f12062 := f12062_C
            clear f12062_C
            have f16424 := f16424_C
            clear f16424_C
            have f16898 := f16898_C
            clear f16898_C
            have f17636 := f17636_C
            clear f17636_C
            have f17639 := f17639_C
            clear f17639_C
            have f17664 := f17664_C
            clear f17664_C
            have f415 := f415_C
            clear f415_C
            have fg0 := fg0_C
            clear fg0_C
            have fg1 := fg1_C
            clear fg1_C
            obtain ⟨A17668, c17669, f17670, f17671, hc17672⟩ := NRd.row f16898 (P := Tryd.prog) tab (t := 34) rfl (i := x16908) q17666
            refine x_run tab hk (k := 9) (lv := [.slice A17668 ((rdD [] p0.Lines x16908)).length c17669]) (ks := [3, 5, 6, 7, 10, 11, 13, 14, 15, 68, 69, 70, 102]) (e' := [(3, .slice (some ad17667) (p0.Lines).length c16897), (5, .int .i64 p0.W), (6, .pointer (some ⟨bx48, 0, none⟩)), (7, .int .i64 (mnI ((p0.Lines).length : Int) 20)), (10, .pointer (some ⟨bx414, 0, none⟩)), (11, .int .i64 x16907), (13, .pointer (some ⟨bx16423, 0, none⟩)), (14, .int .i64 x16908), (15, .slice A17662 (t17657).length c17663), (68, .slice (some ad16419) (t9149).length c12061), (69, .int .i64 ((t9149).length : Int)), (70, .int .i64 x12064), (102, .bool (((t17657).length : Int) != (mnI (((rdD [] p0.Lines x16908)).length : Int) 30)))]) rfl ⟨q17666, f17670.now, trivial⟩ fun a hk => ?_
            refine wpListIn_nil ?_
            refine then_n ?_
            cases b17673 : (((t17657).length : Int) != (mnI (((rdD [] p0.Lines x16908)).length : Int) 30))
            · rw [b17673] at hk H
              replace H := bifF H
              refine x_if hk (b := false) rfl ?_
              refine (show Code.wpIn _ _ _ _ _ _ _ from ?_)
              refine wpIn_skip ?_
              refine then_n ?_
              refine x_mid (fun a_ w_ => ∃ o17758 : Nat → Nat, Kn 140 a_ [(3, .slice (some ad17667) (p0.Lines).length c16897), (5, .int .i64 p0.W), (6, .pointer (some ⟨bx48, 0, none⟩)), (7, .int .i64 (mnI ((p0.Lines).length : Int) 20)), (10, .pointer (some ⟨bx414, 0, none⟩)), (11, .int .i64 x16907), (13, .pointer (some ⟨bx16423, 0, none⟩)), (14, .int .i64 x16908), (68, .slice (some ad16419) (t9149).length c12061), (69, .int .i64 ((t9149).length : Int)), (70, .int .i64 x12064)] ∧ St [] w oi w_ o17758 ∧ Ft (Own ET67 68 (.slice (some ad16419) (t9149).length c12061) t9149) w_ o17758 2675 ∧ Ft (Bx bx16423 68 [.int .i64 ((rdD zT67 t9149 x12064).From), .int .i64 ((rdD zT67 t9149 x12064).To)]) w_ o17758 2674 ∧ NRd (dRows ET36) (some ad17667) p0.Lines w_ o17758 0 0 ∧ Ft (Bx bx48 119 [.int .i64 t17627.2.2.most, .int .i64 t17627.2.2.now, mv A17637]) w_ o17758 2672 ∧ MpN dT129 true A17637 t17627.2.2.l w_ o17758 2671 1 ∧ Ft (Bx bx414 68 [.int .i64 (bits .and .i64 p0.From 31), .int .i64 (bits .and .i64 p0.To 31)]) w_ o17758 2673 ∧ Ft (RdC ET97 (some ⟨0, 0, none⟩) glob0) w_ o17758 0 ∧ Ft (RdC ET97 (some ⟨1, 0, none⟩) glob1) w_ o17758 0 ∧ tidewracktop_TidewrackHand_j8 x16907 x16908 lp17375 t17627 = some r) ?_ ?_
              rotate_left
              · rintro a w17759 ⟨o17758, hk, hs, f12062, f16424, f16898, f17636, f17639, f415, fg0, fg1, H⟩
                rw [tidewracktop_TidewrackHand_j8] at H
                refine wpIn_region_lit ?_
                refine x_run tab hk (k := 3) (lv := []) (ks := [3, 5, 6, 7, 10, 11, 13, 14, 68, 69, 70]) (e' := [(3, .slice (some ad17667) (p0.Lines).length c16897), (5, .int .i64 p0.W), (6, .pointer (some ⟨bx48, 0, none⟩)), (7, .int .i64 (mnI ((p0.Lines).length : Int) 20)), (10, .pointer (some ⟨bx414, 0, none⟩)), (11, .int .i64 (IntKind.wrap .i64 (x16907 + 1))), (13, .pointer (some ⟨bx16423, 0, none⟩)), (14, .int .i64 x16908), (68, .slice (some ad16419) (t9149).length c12061), (69, .int .i64 ((t9149).length : Int)), (70, .int .i64 x12064)]) rfl trivial fun a hk => ?_
                refine wpListIn_nil ?_
                refine blk_n ?_
                refine then_n ?_
                exact ⟨(fun b_ => (fun l_ => if l_ = 2671 then 2651 else if l_ = 2672 then 2652 else if l_ = 2673 then 2653 else if l_ = 2674 then 2654 else if l_ = 2675 then 2655 else l_) (o17758 b_)), (some ad17667), c16897, t17627.2.2.most, t17627.2.2.now, A17637, c17638, t17627.2.2.l, (by exact Kn.pick (ks := [3, 5, 6, 7, 10, 11, 13, 14, 68, 69, 70]) hk rfl), (hs.relabM hob (fun l_ => if l_ = 2671 then 2651 else if l_ = 2672 then 2652 else if l_ = 2673 then 2653 else if l_ = 2674 then 2654 else if l_ = 2675 then 2655 else l_) (by decide)), (f12062.relab (fun l_ => if l_ = 2671 then 2651 else if l_ = 2672 then 2652 else if l_ = 2673 then 2653 else if l_ = 2674 then 2654 else if l_ = 2675 then 2655 else l_) rfl), (f16424.relab (fun l_ => if l_ = 2671 then 2651 else if l_ = 2672 then 2652 else if l_ = 2673 then 2653 else if l_ = 2674 then 2654 else if l_ = 2675 then 2655 else l_) rfl), (f17636.relab (fun l_ => if l_ = 2671 then 2651 else if l_ = 2672 then 2652 else if l_ = 2673 then 2653 else if l_ = 2674 then 2654 else if l_ = 2675 then 2655 else l_) rfl), (f16898.relab (fun l_ => if l_ = 2671 then 2651 else if l_ = 2672 then 2652 else if l_ = 2673 then 2653 else if l_ = 2674 then 2654 else if l_ = 2675 then 2655 else l_) rfl), (f17639.relab (fun l_ => if l_ = 2671 then 2651 else if l_ = 2672 then 2652 else if l_ = 2673 then 2653 else if l_ = 2674 then 2654 else if l_ = 2675 then 2655 else l_) rfl), (f415.relab (fun l_ => if l_ = 2671 then 2651 else if l_ = 2672 then 2652 else if l_ = 2673 then 2653 else if l_ = 2674 then 2654 else if l_ = 2675 then 2655 else l_) rfl), (fg0.relab (fun l_ => if l_ = 2671 then 2651 else if l_ = 2672 then 2652 else if l_ = 2673 then 2653 else if l_ = 2674 then 2654 else if l_ = 2675 then 2655 else l_) rfl), (fg1.relab (fun l_ => if l_ = 2671 then 2651 else if l_ = 2672 then 2652 else if l_ = 2673 then 2653 else if l_ = 2674 then 2654 else if l_ = 2675 then 2655 else l_) rfl), hc16899, hc17640, H⟩
              refine x_seq ?_
              refine wpIn_region_lit ?_
              refine x_run tab hk (k := 3) (lv := []) (ks := [3, 5, 6, 7, 10, 11, 13, 14, 15, 68, 69, 70, 104, 105]) (e' := [(3, .slice (some ad17667) (p0.Lines).length c16897), (5, .int .i64 p0.W), (6, .pointer (some ⟨bx48, 0, none⟩)), (7, .int .i64 (mnI ((p0.Lines).length : Int) 20)), (10, .pointer (some ⟨bx414, 0, none⟩)), (11, .int .i64 x16907), (13, .pointer (some ⟨bx16423, 0, none⟩)), (14, .int .i64 x16908), (15, .slice A17662 (t17657).length c17663), (68, .slice (some ad16419) (t9149).length c12061), (69, .int .i64 ((t9149).length : Int)), (70, .int .i64 x12064), (104, .int .i64 ((t17657).length : Int)), (105, .int .i64 0)]) rfl trivial fun a hk => ?_
              refine wpListIn_nil ?_
              refine then_n ?_
              refine wpIn_block ?_
              refine x_loop (fun j_ a_ w_ => ∃ o17787 : Nat → Nat, ∃ x17788 : Int, Kn 140 a_ [(3, .slice (some ad17667) (p0.Lines).length c16897), (5, .int .i64 p0.W), (6, .pointer (some ⟨bx48, 0, none⟩)), (7, .int .i64 (mnI ((p0.Lines).length : Int) 20)), (10, .pointer (some ⟨bx414, 0, none⟩)), (11, .int .i64 x16907), (13, .pointer (some ⟨bx16423, 0, none⟩)), (14, .int .i64 x16908), (15, .slice A17662 (t17657).length c17663), (68, .slice (some ad16419) (t9149).length c12061), (69, .int .i64 ((t9149).length : Int)), (70, .int .i64 x12064), (104, .int .i64 ((t17657).length : Int)), (105, .int .i64 x17788)] ∧ St [] w oi w_ o17787 ∧ Ft (Own ET67 68 (.slice (some ad16419) (t9149).length c12061) t9149) w_ o17787 2687 ∧ Ft (Bx bx16423 68 [.int .i64 ((rdD zT67 t9149 x12064).From), .int .i64 ((rdD zT67 t9149 x12064).To)]) w_ o17787 2685 ∧ NRd (dRows ET36) (some ad17667) p0.Lines w_ o17787 0 0 ∧ Ft (Bx bx48 119 [.int .i64 t17627.2.2.most, .int .i64 t17627.2.2.now, mv A17637]) w_ o17787 2683 ∧ MpN dT129 true A17637 t17627.2.2.l w_ o17787 2682 1 ∧ Ft (Own ET36 37 (.slice A17662 (t17657).length c17663) t17657) w_ o17787 2686 ∧ Ft (Bx bx414 68 [.int .i64 (bits .and .i64 p0.From 31), .int .i64 (bits .and .i64 p0.To 31)]) w_ o17787 2684 ∧ Ft (RdC ET97 (some ⟨0, 0, none⟩) glob0) w_ o17787 0 ∧ Ft (RdC ET97 (some ⟨1, 0, none⟩) glob1) w_ o17787 0 ∧ tidewracktop_TidewrackHand_l9 p0 x16907 x16908 lp17375 t17627 t17657 j_ x17788 = some r) (k := K) ⟨(fun b_ => (fun l_ => if l_ = 2545 then 2682 else if l_ = 2546 then 2683 else if l_ = 2547 then 2684 else if l_ = 2548 then 2685 else if l_ = 2549 then 2687 else if l_ = 2658 then 2686 else l_) (o17660 b_)), 0, (by exact Kn.pick (ks := [3, 5, 6, 7, 10, 11, 13, 14, 15, 68, 69, 70, 104, 105]) hk rfl), (hs.relabM hob (fun l_ => if l_ = 2545 then 2682 else if l_ = 2546 then 2683 else if l_ = 2547 then 2684 else if l_ = 2548 then 2685 else if l_ = 2549 then 2687 else if l_ = 2658 then 2686 else l_) (by decide)), (f12062.relab (fun l_ => if l_ = 2545 then 2682 else if l_ = 2546 then 2683 else if l_ = 2547 then 2684 else if l_ = 2548 then 2685 else if l_ = 2549 then 2687 else if l_ = 2658 then 2686 else l_) rfl), (f16424.relab (fun l_ => if l_ = 2545 then 2682 else if l_ = 2546 then 2683 else if l_ = 2547 then 2684 else if l_ = 2548 then 2685 else if l_ = 2549 then 2687 else if l_ = 2658 then 2686 else l_) rfl), (f16898.relab (fun l_ => if l_ = 2545 then 2682 else if l_ = 2546 then 2683 else if l_ = 2547 then 2684 else if l_ = 2548 then 2685 else if l_ = 2549 then 2687 else if l_ = 2658 then 2686 else l_) rfl), (f17636.relab (fun l_ => if l_ = 2545 then 2682 else if l_ = 2546 then 2683 else if l_ = 2547 then 2684 else if l_ = 2548 then 2685 else if l_ = 2549 then 2687 else if l_ = 2658 then 2686 else l_) rfl), (f17639.relab (fun l_ => if l_ = 2545 then 2682 else if l_ = 2546 then 2683 else if l_ = 2547 then 2684 else if l_ = 2548 then 2685 else if l_ = 2549 then 2687 else if l_ = 2658 then 2686 else l_) rfl), (f17664.relab (fun l_ => if l_ = 2545 then 2682 else if l_ = 2546 then 2683 else if l_ = 2547 then 2684 else if l_ = 2548 then 2685 else if l_ = 2549 then 2687 else if l_ = 2658 then 2686 else l_) rfl), (f415.relab (fun l_ => if l_ = 2545 then 2682 else if l_ = 2546 then 2683 else if l_ = 2547 then 2684 else if l_ = 2548 then 2685 else if l_ = 2549 then 2687 else if l_ = 2658 then 2686 else l_) rfl), (fg0.relab (fun l_ => if l_ = 2545 then 2682 else if l_ = 2546 then 2683 else if l_ = 2547 then 2684 else if l_ = 2548 then 2685 else if l_ = 2549 then 2687 else if l_ = 2658 then 2686 else l_) rfl), (fg1.relab (fun l_ => if l_ = 2545 then 2682 else if l_ = 2546 then 2683 else if l_ = 2547 then 2684 else if l_ = 2548 then 2685 else if l_ = 2549 then 2687 else if l_ = 2658 then 2686 else l_) rfl), H⟩ (by rintro _ _ ⟨_, _, _, _, _, _, _, _, _, _, _, _, _, H_⟩; exact absurd (show (none : Option Bool) = some r from H_) (by simp)) ?_
              rintro k17814 a w17813 ⟨o17787, x17788, hk, hs, f12062, f16424, f16898, f17636, f17639, f17664, f415, fg0, fg1, H⟩
              rw [tidewracktop_TidewrackHand_l9] at H
              obtain ⟨lp17815, hlp17816⟩ : ∃ lp_, lp_ = tidewracktop_TidewrackHand_l9 p0 x16907 x16908 lp17375 t17627 t17657 k17814 := ⟨_, rfl⟩
              rw [← hlp17816] at H
              refine x_seq ?_
              refine wpIn_region_lit ?_
              refine x_run tab hk (k := 1) (lv := []) (ks := [3, 5, 6, 7, 10, 11, 13, 14, 15, 68, 69, 70, 104, 105, 106]) (e' := [(3, .slice (some ad17667) (p0.Lines).length c16897), (5, .int .i64 p0.W), (6, .pointer (some ⟨bx48, 0, none⟩)), (7, .int .i64 (mnI ((p0.Lines).length : Int) 20)), (10, .pointer (some ⟨bx414, 0, none⟩)), (11, .int .i64 x16907), (13, .pointer (some ⟨bx16423, 0, none⟩)), (14, .int .i64 x16908), (15, .slice A17662 (t17657).length c17663), (68, .slice (some ad16419) (t9149).length c12061), (69, .int .i64 ((t9149).length : Int)), (70, .int .i64 x12064), (104, .int .i64 ((t17657).length : Int)), (105, .int .i64 x17788), (106, .bool (decide (x17788 < ((t17657).length : Int))))]) rfl trivial fun a hk => ?_
              refine wpListIn_nil ?_
              refine then_n ?_
              refine x_seq ?_
              cases b17817 : (decide (x17788 < ((t17657).length : Int)))
              · rw [b17817] at hk H
                replace H := bifF H
                refine x_if hk (b := false) rfl ?_
                refine (show Code.wpIn _ _ _ _ _ _ _ from ?_)
                refine wpIn_exit ?_
                refine then_x ?_
                refine then_x ?_
                refine blk_x ?_
                refine then_n ?_
                exact ⟨(fun b_ => (fun l_ => if l_ = 2682 then 2671 else if l_ = 2683 then 2672 else if l_ = 2684 then 2673 else if l_ = 2685 then 2674 else if l_ = 2687 then 2675 else l_) (o17787 b_)), (by exact Kn.pick (ks := [3, 5, 6, 7, 10, 11, 13, 14, 68, 69, 70]) hk rfl), (hs.relabM hob (fun l_ => if l_ = 2682 then 2671 else if l_ = 2683 then 2672 else if l_ = 2684 then 2673 else if l_ = 2685 then 2674 else if l_ = 2687 then 2675 else l_) (by decide)), (f12062.relab (fun l_ => if l_ = 2682 then 2671 else if l_ = 2683 then 2672 else if l_ = 2684 then 2673 else if l_ = 2685 then 2674 else if l_ = 2687 then 2675 else l_) rfl), (f16424.relab (fun l_ => if l_ = 2682 then 2671 else if l_ = 2683 then 2672 else if l_ = 2684 then 2673 else if l_ = 2685 then 2674 else if l_ = 2687 then 2675 else l_) rfl), (f16898.relab (fun l_ => if l_ = 2682 then 2671 else if l_ = 2683 then 2672 else if l_ = 2684 then 2673 else if l_ = 2685 then 2674 else if l_ = 2687 then 2675 else l_) rfl), (f17636.relab (fun l_ => if l_ = 2682 then 2671 else if l_ = 2683 then 2672 else if l_ = 2684 then 2673 else if l_ = 2685 then 2674 else if l_ = 2687 then 2675 else l_) rfl), (f17639.relab (fun l_ => if l_ = 2682 then 2671 else if l_ = 2683 then 2672 else if l_ = 2684 then 2673 else if l_ = 2685 then 2674 else if l_ = 2687 then 2675 else l_) rfl), (f415.relab (fun l_ => if l_ = 2682 then 2671 else if l_ = 2683 then 2672 else if l_ = 2684 then 2673 else if l_ = 2685 then 2674 else if l_ = 2687 then 2675 else l_) rfl), (fg0.relab (fun l_ => if l_ = 2682 then 2671 else if l_ = 2683 then 2672 else if l_ = 2684 then 2673 else if l_ = 2685 then 2674 else if l_ = 2687 then 2675 else l_) rfl), (fg1.relab (fun l_ => if l_ = 2682 then 2671 else if l_ = 2683 then 2672 else if l_ = 2684 then 2673 else if l_ = 2685 then 2674 else if l_ = 2687 then 2675 else l_) rfl), H⟩
              · rw [b17817] at hk H
                replace H := bifT H
                refine x_if hk (b := true) rfl ?_
                refine (show Code.wpIn _ _ _ _ _ _ _ from ?_)
                refine wpIn_skip ?_
                refine then_n ?_
                refine x_seq ?_
                refine wpIn_block ?_
                refine x_seq ?_
                refine wpIn_region_lit ?_
                refine x_run tab hk (k := 2) (lv := []) (ks := [3, 5, 6, 7, 10, 11, 13, 14, 15, 17, 68, 69, 70, 104, 105]) (e' := [(3, .slice (some ad17667) (p0.Lines).length c16897), (5, .int .i64 p0.W), (6, .pointer (some ⟨bx48, 0, none⟩)), (7, .int .i64 (mnI ((p0.Lines).length : Int) 20)), (10, .pointer (some ⟨bx414, 0, none⟩)), (11, .int .i64 x16907), (13, .pointer (some ⟨bx16423, 0, none⟩)), (14, .int .i64 x16908), (15, .slice A17662 (t17657).length c17663), (17, .int .i64 x17788), (68, .slice (some ad16419) (t9149).length c12061), (69, .int .i64 ((t9149).length : Int)), (70, .int .i64 x12064), (104, .int .i64 ((t17657).length : Int)), (105, .int .i64 x17788)]) rfl trivial fun a hk => ?_
                refine wpListIn_nil ?_
                refine then_n ?_
                refine x_seq ?_
                obtain ⟨q17827, H⟩ := ifS H
                obtain ⟨ad17828, hAad17828⟩ := RdC.addr (Own.rd f17664.now) q17827
                have hk_C := hk
                have f12062_C := f12062
                have f16424_C := f16424
                have f16898_C := f16898
                have f17636_C := f17636
                have f17639_C := f17639
                have f17664_C := f17664
                have f415_C := f415
                have fg0_C := fg0
                have fg1_C := fg1
                subst hAad17828
                have hk := hk_C
                clear hk_C
                have f12062 := f12062_C
                clear f12062_C
                have f16424 := f16424_C
                clear f16424_C
                have f16898 := f16898_C
                clear f16898_C
                have f17636 := f17636_C
                clear f17636_C
                have f17639 := f17639_C
                clear f17639_C
                have f17664 := f17664_C
                clear f17664_C
                have f415 := f415_C
                clear f415_C
                have fg0 := fg0_C
                clear fg0_C
                have fg1 := fg1_C
                clear fg1_C
                obtain ⟨A17829, c17830, f17831, f17832, hc17833⟩ := NRd.row f16898 (P := Tryd.prog) tab (t := 34) rfl (i := x16908) q17666
                obtain ⟨q17834, H⟩ := ifS H
                refine xd_begin (o := o17787) (fun W_ => (Own ET36 37 (.slice (some ad17828) (t17657).length c17663) t17657) W_ ∧ (fun W => LoadIs Tryd.prog 34 (ad17667.add (Int.toNat x16908 * 1)) (.slice A17829 (rdD [] p0.Lines x16908).length c17830) W) W_ ∧ (RdC ET36 A17829 (rdD [] p0.Lines x16908)) W_ ∧ True) mixed rfl rfl fun w17837 st17838 => ?_
                replace f12062 := f12062.st st17838 (by decide)
                replace f16424 := f16424.st st17838 (by decide)
                replace f16898 := f16898.st st17838 (by decide)
                replace f17636 := f17636.st st17838 (by decide)
                replace f17639 := f17639.st st17838 (by decide)
                replace f17664 := f17664.st st17838 (by decide)
                replace f17831 := f17831.st st17838 (by decide)
                replace f17832 := f17832.st st17838 (by decide)
                replace f415 := f415.st st17838 (by decide)
                replace fg0 := fg0.st st17838 (by decide)
                replace fg1 := fg1.st st17838 (by decide)
                replace hs := hs.locQ st17838 hob rfl
                obtain ⟨ad17839, hAad17839⟩ := RdC.addr f17832.now q17834
                have hk_C := hk
                have f12062_C := f12062
                have f16424_C := f16424
                have f16898_C := f16898
                have f17636_C := f17636
                have f17639_C := f17639
                have f17664_C := f17664
                have f17831_C := f17831
                have f17832_C := f17832
                have f415_C := f415
                have fg0_C := fg0
                have fg1_C := fg1
                subst hAad17839
                have hk := hk_C
                clear hk_C
                have f12062 := f12062_C
                clear f12062_C
                have f16424 := f16424_C
                clear f16424_C
                have f16898 := f16898_C
                clear f16898_C
                have f17636 := f17636_C
                clear f17636_C
                have f17639 := f17639_C
                clear f17639_C
                have f17664 := f17664_C
                clear f17664_C
                have f17831 := f17831_C
                clear f17831_C
                have f17832 := f17832_C
                clear f17832_C
                have f415 := f415_C
                clear f415_C
                have fg0 := fg0_C
                clear fg0_C
                have fg1 := fg1_C
                clear fg1_C
                refine xd_take tab hk (k := 0) (is := [0, 1, 2, 3, 4, 5, 6, 7, 8, 9, 10, 11]) (ls' := #[true, true, true, true, true, true, true, true, true, true, true, true]) (lv := [.agg #[.int .i32 ((rdD zT36 t17657 x17788).Rune), .int .i64 ((rdD zT36 t17657 x17788).Style)], .slice (some ad17839) ((rdD [] p0.Lines x16908)).length c17830, .agg #[.int .i32 ((rdD zT36 (rdD [] p0.Lines x16908) x17788).Rune), .int .i64 ((rdD zT36 (rdD [] p0.Lines x16908) x17788).Style)], .bool (!(eqT36 (rdD zT36 t17657 x17788) (rdD zT36 (rdD [] p0.Lines x16908) x17788)))]) (ks := [3, 5, 6, 7, 10, 11, 13, 14, 15, 68, 69, 70, 104, 105, 119]) (e' := [(3, .slice (some ad17667) (p0.Lines).length c16897), (5, .int .i64 p0.W), (6, .pointer (some ⟨bx48, 0, none⟩)), (7, .int .i64 (mnI ((p0.Lines).length : Int) 20)), (10, .pointer (some ⟨bx414, 0, none⟩)), (11, .int .i64 x16907), (13, .pointer (some ⟨bx16423, 0, none⟩)), (14, .int .i64 x16908), (15, .slice (some ad17828) (t17657).length c17663), (68, .slice (some ad16419) (t9149).length c12061), (69, .int .i64 ((t9149).length : Int)), (70, .int .i64 x12064), (104, .int .i64 ((t17657).length : Int)), (105, .int .i64 x17788), (119, .bool (!(eqT36 (rdD zT36 t17657 x17788) (rdD zT36 (rdD [] p0.Lines x16908) x17788))))]) (by kernel_rfl) rfl rfl (by kernel_rfl) (np_then (np_blk (np_then (np_then (np_blk (np_then (np_blk (np_then (np_then (np_blk (np_blk (np_then (np_then (np_blk (np_then np_body))))))))))))))) ⟨f17664.now, f17831.now, f17832.now, trivial⟩ (fun W_ hS => ⟨q17827, (load_elem (E := ET36) (i := x17788) (dx := zT36) tab rfl rfl (Own.rd hS.1) q17827), q17666, hS.2.1, q17834, (load_elem (E := ET36) (i := x17788) (dx := zT36) tab rfl rfl hS.2.2.1 q17834), (ask_neq tab stood rfl rfl rfl rfl), trivial⟩) fun a hk => ?_
                refine xd_done (by kernel_rfl) ?_
                refine then_n ?_
                cases b17840 : (!(eqT36 (rdD zT36 t17657 x17788) (rdD zT36 (rdD [] p0.Lines x16908) x17788)))
                · rw [b17840] at hk H
                  replace H := bifF H
                  refine x_if hk (b := false) rfl ?_
                  refine (show Code.wpIn _ _ _ _ _ _ _ from ?_)
                  refine wpIn_skip ?_
                  refine blk_n ?_
                  refine then_n ?_
                  refine wpIn_region_lit ?_
                  refine x_run tab hk (k := 2) (lv := []) (ks := [3, 5, 6, 7, 10, 11, 13, 14, 15, 68, 69, 70, 104, 105]) (e' := [(3, .slice (some ad17667) (p0.Lines).length c16897), (5, .int .i64 p0.W), (6, .pointer (some ⟨bx48, 0, none⟩)), (7, .int .i64 (mnI ((p0.Lines).length : Int) 20)), (10, .pointer (some ⟨bx414, 0, none⟩)), (11, .int .i64 x16907), (13, .pointer (some ⟨bx16423, 0, none⟩)), (14, .int .i64 x16908), (15, .slice (some ad17828) (t17657).length c17663), (68, .slice (some ad16419) (t9149).length c12061), (69, .int .i64 ((t9149).length : Int)), (70, .int .i64 x12064), (104, .int .i64 ((t17657).length : Int)), (105, .int .i64 (IntKind.wrap .i64 (x17788 + 1)))]) rfl trivial fun a hk => ?_
                  refine wpListIn_nil ?_
                  refine then_n ?_
                  exact ⟨k17814, Nat.le_refl _, o17787, (IntKind.wrap .i64 (x17788 + 1)), (by exact Kn.pick (ks := [3, 5, 6, 7, 10, 11, 13, 14, 15, 68, 69, 70, 104, 105]) hk rfl), hs, f12062, f16424, f16898, f17636, f17639, f17664, f415, fg0, fg1, (hlp17816 ▸ H)⟩
                · rw [b17840] at hk H
                  replace H := bifT H
                  refine x_if hk (b := true) rfl ?_
                  refine (show Code.wpIn _ _ _ _ _ _ _ from ?_)
                  refine x_seq ?_
                  refine wpIn_region_lit ?_
                  refine x_run tab hk (k := 1) (lv := []) (ks := [2]) (e' := [(2, .bool false)]) rfl trivial fun a hk => ?_
                  refine wpListIn_nil ?_
                  refine then_n ?_
                  refine wpIn_ret ?_
                  refine blk_r ?_
                  refine then_r ?_
                  refine then_r ?_
                  refine blk_r ?_
                  refine then_r ?_
                  refine blk_r ?_
                  refine then_r ?_
                  refine then_r ?_
                  refine blk_r ?_
                  refine blk_r ?_
                  refine then_r ?_
                  refine then_r ?_
                  refine blk_r ?_
                  refine then_r ?_
                  obtain rfl := Option.some.inj H
                  exact x_retG hk (rs := [.tmp 2]) (vs := [.bool false]) rfl ⟨rfl, trivial⟩ ⟨cl w oi o [] (fun l_ => if l_ = 1 then LF else 0) o17787, rfl, hs.closeF (Lm := []) (Sh := []) hoa rfl (fun l_ => if l_ = 1 then LF else 0)⟩
            · rw [b17673] at hk H
              replace H := bifT H
              refine x_if hk (b := true) rfl ?_
              refine (show Code.wpIn _ _ _ _ _ _ _ from ?_)
              refine x_seq ?_
              refine wpIn_region_lit ?_
              refine x_run tab hk (k := 1) (lv := []) (ks := [2]) (e' := [(2, .bool false)]) rfl trivial fun a hk => ?_
              refine wpListIn_nil ?_
              refine then_n ?_
              refine wpIn_ret ?_
              refine then_r ?_
              refine blk_r ?_
              refine then_r ?_
              refine then_r ?_
              refine blk_r ?_
              refine blk_r ?_
              refine then_r ?_
              refine then_r ?_
              refine blk_r ?_
              refine then_r ?_
              obtain rfl := Option.some.inj H
              exact x_retG hk (rs := [.tmp 2]) (vs := [.bool false]) rfl ⟨rfl, trivial⟩ ⟨cl w oi o [] (fun l_ => if l_ = 1 then LF else 0) o17660, rfl, hs.closeF (Lm := []) (Sh := []) hoa rfl (fun l_ => if l_ = 1 then LF else 0)⟩
          · rw [b17641] at hk H
            replace H := bifT H
            refine x_if hk (b := true) rfl ?_
            refine (show Code.wpIn _ _ _ _ _ _ _ from ?_)
            refine x_seq ?_
            refine wpIn_region_lit ?_
            refine x_run tab hk (k := 1) (lv := []) (ks := [2]) (e' := [(2, .bool false)]) rfl trivial fun a hk => ?_
            refine wpListIn_nil ?_
            refine then_n ?_
            refine wpIn_ret ?_
            refine then_r ?_
            refine blk_r ?_
            refine then_r ?_
            refine then_r ?_
            refine blk_r ?_
            refine blk_r ?_
            refine then_r ?_
            refine then_r ?_
            refine blk_r ?_
            refine then_r ?_
            obtain rfl := Option.some.inj H
            exact x_retG hk (rs := [.tmp 2]) (vs := [.bool false]) rfl ⟨rfl, trivial⟩ ⟨cl w oi o [] (fun l_ => if l_ = 1 then LF else 0) o17630, rfl, hs.closeF (Lm := []) (Sh := []) hoa rfl (fun l_ => if l_ = 1 then LF else 0)⟩
    refine x_seq ?_
    refine wpIn_region_lit ?_
    refine x_run tab hk (k := 2) (lv := []) (ks := [3, 4, 5, 6, 7, 38, 39]) (e' := [(3, .slice Ap0_0 (p0.Lines).length cp0_0), (4, .pointer (some ⟨bx35, 0, none⟩)), (5, .int .i64 p0.W), (6, .pointer (some ⟨bx48, 0, none⟩)), (7, .int .i64 (mnI ((p0.Lines).length : Int) 20)), (38, .int .i64 (mnI ((p0.Lines).length : Int) 20)), (39, .int .i64 0)]) rfl trivial fun a hk => ?_
    refine wpListIn_nil ?_
    refine then_n ?_
    refine wpIn_block ?_
    refine x_loop (fun j_ a_ w_ => ∃ o17938 : Nat → Nat, ∃ x17939 : Int, ∃ x17940 : Int, ∃ A17941 : Option Addr, ∃ c17942 : Nat, ∃ l17943 : M T129, ∃ x17946 : Int, Kn 140 a_ [(3, .slice Ap0_0 (p0.Lines).length cp0_0), (4, .pointer (some ⟨bx35, 0, none⟩)), (5, .int .i64 p0.W), (6, .pointer (some ⟨bx48, 0, none⟩)), (7, .int .i64 (mnI ((p0.Lines).length : Int) 20)), (38, .int .i64 (mnI ((p0.Lines).length : Int) 20)), (39, .int .i64 x17946)] ∧ St [] w oi w_ o17938 ∧ MpN dT129 true A17941 l17943 w_ o17938 2692 1 ∧ Ft (Bx bx35 56 [.int .i64 p0.From, .int .i64 p0.To]) w_ o17938 2691 ∧ Ft (Bx bx48 119 [.int .i64 x17939, .int .i64 x17940, mv A17941]) w_ o17938 2693 ∧ NRd (dRows ET36) Ap0_0 p0.Lines w_ o17938 0 0 ∧ Ft (RdC ET97 (some ⟨0, 0, none⟩) glob0) w_ o17938 0 ∧ Ft (RdC ET97 (some ⟨1, 0, none⟩) glob1) w_ o17938 0 ∧ (l17943).length ≤ c17942 ∧ tidewracktop_TidewrackHand_l10 K p0 j_ x17939 x17940 l17943 x17946 = some r) (k := K) ⟨(fun b_ => (fun l_ => if l_ = 11 then 2691 else if l_ = 12 then 2692 else if l_ = 13 then 2693 else l_) (o70 b_)), t43.most, t43.now, A50, c51, t43.l, 0, (by exact Kn.pick (ks := [3, 4, 5, 6, 7, 38, 39]) hk rfl), (hs.relabM hob (fun l_ => if l_ = 11 then 2691 else if l_ = 12 then 2692 else if l_ = 13 then 2693 else l_) (by decide)), (f52.relab (fun l_ => if l_ = 11 then 2691 else if l_ = 12 then 2692 else if l_ = 13 then 2693 else l_) rfl), (f36.relab (fun l_ => if l_ = 11 then 2691 else if l_ = 12 then 2692 else if l_ = 13 then 2693 else l_) rfl), (f49.relab (fun l_ => if l_ = 11 then 2691 else if l_ = 12 then 2692 else if l_ = 13 then 2693 else l_) rfl), (f900000.relab (fun l_ => if l_ = 11 then 2691 else if l_ = 12 then 2692 else if l_ = 13 then 2693 else l_) rfl), (fg0.relab (fun l_ => if l_ = 11 then 2691 else if l_ = 12 then 2692 else if l_ = 13 then 2693 else l_) rfl), (fg1.relab (fun l_ => if l_ = 11 then 2691 else if l_ = 12 then 2692 else if l_ = 13 then 2693 else l_) rfl), hc53, H⟩ (by rintro _ _ ⟨_, _, _, _, _, _, _, _, _, _, _, _, _, _, _, _, H_⟩; exact absurd (show (none : Option Bool) = some r from H_) (by simp)) ?_
    rintro k18037 a w18036 ⟨o17938, x17939, x17940, A17941, c17942, l17943, x17946, hk, hs, f17944, f36, f49, f900000, fg0, fg1, hc17945, H⟩
    rw [tidewracktop_TidewrackHand_l10] at H
    obtain ⟨lp18038, hlp18039⟩ : ∃ lp_, lp_ = tidewracktop_TidewrackHand_l10 K p0 k18037 := ⟨_, rfl⟩
    rw [← hlp18039] at H
    refine x_seq ?_
    refine wpIn_region_lit ?_
    refine x_run tab hk (k := 1) (lv := []) (ks := [3, 4, 5, 6, 7, 38, 39, 40]) (e' := [(3, .slice Ap0_0 (p0.Lines).length cp0_0), (4, .pointer (some ⟨bx35, 0, none⟩)), (5, .int .i64 p0.W), (6, .pointer (some ⟨bx48, 0, none⟩)), (7, .int .i64 (mnI ((p0.Lines).length : Int) 20)), (38, .int .i64 (mnI ((p0.Lines).length : Int) 20)), (39, .int .i64 x17946), (40, .bool (decide (x17946 < (mnI ((p0.Lines).length : Int) 20))))]) rfl trivial fun a hk => ?_
    refine wpListIn_nil ?_
    refine then_n ?_
    refine x_seq ?_
    cases b18040 : (decide (x17946 < (mnI ((p0.Lines).length : Int) 20)))
    · rw [b18040] at hk H
      replace H := bifF H
      refine x_if hk (b := false) rfl ?_
      refine (show Code.wpIn _ _ _ _ _ _ _ from ?_)
      refine wpIn_exit ?_
      refine then_x ?_
      refine then_x ?_
      refine blk_x ?_
      refine then_n ?_
      exact ⟨(fun b_ => (fun l_ => if l_ = 2691 then 20 else if l_ = 2692 then 21 else if l_ = 2693 then 22 else l_) (o17938 b_)), x17939, x17940, A17941, c17942, l17943, (by exact Kn.pick (ks := [3, 4, 5, 6, 7]) hk rfl), (hs.relabM hob (fun l_ => if l_ = 2691 then 20 else if l_ = 2692 then 21 else if l_ = 2693 then 22 else l_) (by decide)), (f36.relab (fun l_ => if l_ = 2691 then 20 else if l_ = 2692 then 21 else if l_ = 2693 then 22 else l_) rfl), (f17944.relab (fun l_ => if l_ = 2691 then 20 else if l_ = 2692 then 21 else if l_ = 2693 then 22 else l_) rfl), (f49.relab (fun l_ => if l_ = 2691 then 20 else if l_ = 2692 then 21 else if l_ = 2693 then 22 else l_) rfl), (f900000.relab (fun l_ => if l_ = 2691 then 20 else if l_ = 2692 then 21 else if l_ = 2693 then 22 else l_) rfl), (fg0.relab (fun l_ => if l_ = 2691 then 20 else if l_ = 2692 then 21 else if l_ = 2693 then 22 else l_) rfl), (fg1.relab (fun l_ => if l_ = 2691 then 20 else if l_ = 2692 then 21 else if l_ = 2693 then 22 else l_) rfl), hc17945, H⟩
    · rw [b18040] at hk H
      replace H := bifT H
      refine x_if hk (b := true) rfl ?_
      refine (show Code.wpIn _ _ _ _ _ _ _ from ?_)
      refine wpIn_skip ?_
      refine then_n ?_
      refine x_seq ?_
      refine wpIn_block ?_
      refine x_seq ?_
      refine wpIn_region_lit ?_
      refine x_run tab hk (k := 2) (lv := []) (ks := [3, 4, 5, 6, 7, 8, 38, 39]) (e' := [(3, .slice Ap0_0 (p0.Lines).length cp0_0), (4, .pointer (some ⟨bx35, 0, none⟩)), (5, .int .i64 p0.W), (6, .pointer (some ⟨bx48, 0, none⟩)), (7, .int .i64 (mnI ((p0.Lines).length : Int) 20)), (8, .int .i64 x17946), (38, .int .i64 (mnI ((p0.Lines).length : Int) 20)), (39, .int .i64 x17946)]) rfl trivial fun a hk => ?_
      refine wpListIn_nil ?_
      refine then_n ?_
      obtain ⟨q18068, H⟩ := ifS H
      obtain ⟨ad18069, hAad18069⟩ := NRd.addr f900000 q18068
      have hk_C := hk
      have f17944_C := f17944
      have f36_C := f36
      have f49_C := f49
      have f900000_C := f900000
      have fg0_C := fg0
      have fg1_C := fg1
      subst hAad18069
      have hk := hk_C
      clear hk_C
      have f17944 := f17944_C
      clear f17944_C
      have f36 := f36_C
      clear f36_C
      have f49 := f49_C
      clear f49_C
      have f900000 := f900000_C
      clear f900000_C
      have fg0 := fg0_C
      clear fg0_C
      have fg1 := fg1_C
      clear fg1_C
      obtain ⟨A18070, c18071, f18072, f18073, hc18074⟩ := NRd.row f900000 (P := Tryd.prog) tab (t := 34) rfl (i := x17946) q18068
      obtain ⟨q18075, H⟩ := ifS H
      obtain ⟨q18076, H⟩ := ifS H
      obtain ⟨t18085, hc18086, H⟩ := bindS H
      refine xd_begin (o := o17938) (fun W_ => (fun W => LoadIs Tryd.prog 34 (ad18069.add (Int.toNat x17946 * 1)) (.slice A18070 (rdD [] p0.Lines x17946).length c18071) W) W_ ∧ True) mixed rfl rfl fun w18111 st18112 => ?_
      replace f17944 := f17944.st st18112 (by decide)
      replace f18072 := f18072.st st18112 (by decide)
      replace f18073 := f18073.st st18112 (by decide)
      replace f36 := f36.st st18112 (by decide)
      replace f49 := f49.st st18112 (by decide)
      replace f900000 := f900000.st st18112 (by decide)
      replace fg0 := fg0.st st18112 (by decide)
      replace fg1 := fg1.st st18112 (by decide)
      replace hs := hs.locQ st18112 hob rfl
      obtain ⟨A18113, c18114, ak18116, f18115, hc18117⟩ := ask_cut (P := Tryd.prog) tab (t := 34) rfl rfl f18073 hc18074 none (some (.int .i64 (mnI (((rdD [] p0.Lines x17946)).length : Int) 30))) rfl ⟨q18075, (by have := q18076; have := hc18074; omega), trivial⟩ (by have := q18075; have := q18076; omega) (by have := q18075; have := q18076; omega)
      refine xd_take tab hk (k := 1) (is := [0, 1, 2, 3, 4, 5, 6, 7, 8, 9, 10, 11, 12]) (ls' := #[true, true, true, true, true, true, true, true, true, true, true, true, true, false]) (lv := [.slice A18070 ((rdD [] p0.Lines x17946)).length c18071, .slice A18070 ((rdD [] p0.Lines x17946)).length c18071, .slice A18113 ((List.drop 0 (List.take (Int.toNat (mnI (((rdD [] p0.Lines x17946)).length : Int) 30)) (rdD [] p0.Lines x17946)))).length c18114]) (ks := [3, 4, 5, 6, 7, 38, 39, 42, 43, 54]) (e' := [(3, .slice (some ad18069) (p0.Lines).length cp0_0), (4, .pointer (some ⟨bx35, 0, none⟩)), (5, .int .i64 p0.W), (6, .pointer (some ⟨bx48, 0, none⟩)), (7, .int .i64 (mnI ((p0.Lines).length : Int) 20)), (38, .int .i64 (mnI ((p0.Lines).length : Int) 20)), (39, .int .i64 x17946), (42, .pointer (some ⟨bx48, 0, none⟩)), (43, .int .i64 x17946), (54, .slice A18113 ((List.drop 0 (List.take (Int.toNat (mnI (((rdD [] p0.Lines x17946)).length : Int) 30)) (rdD [] p0.Lines x17946)))).length c18114)]) (by kernel_rfl) rfl rfl (by kernel_rfl) (np_blk (np_then (np_then (np_blk (np_then np_body))))) ⟨f18072.now, trivial⟩ (fun W_ hS => ⟨q18068, hS.1, q18068, hS.1, (ak18116 rfl rfl rfl _), trivial⟩) fun a hk => ?_
      refine xd_op hk (i := 13) (by kernel_rfl) rfl rfl ?_
      refine op_call hk ent_20 (vs := [.pointer (some ⟨bx48, 0, none⟩), .int .i64 x17946, .slice A18113 ((List.drop 0 (List.take (Int.toNat (mnI (((rdD [] p0.Lines x17946)).length : Int) 30)) (rdD [] p0.Lines x17946)))).length c18114]) rfl (cache_Cache_Put_calls K bx48 A17941 c17942 (⟨x17939, x17940, l17943⟩ : T118) x17946 A18113 c18114 (List.drop 0 (List.take (Int.toNat (mnI (((rdD [] p0.Lines x17946)).length : Int) 30)) (rdD [] p0.Lines x17946))) _ o17938 1 2693 f49 2692 f17944 hc17945 _ f18115 hc18117 (by decide) (by decide)   _ hc18086) ?_
      rintro _ w18121 ⟨o18122, A18125, c18126, rfl, st18123, f18124, f18127, hc18128⟩
      replace f18072 := f18072.st st18123 (by decide)
      replace f18073 := f18073.st st18123 (by decide)
      replace f18115 := f18115.st st18123 (by decide)
      replace f36 := f36.st st18123 (by decide)
      replace f900000 := f900000.st st18123 (by decide)
      replace fg0 := fg0.st st18123 (by decide)
      replace fg1 := fg1.st st18123 (by decide)
      replace hs := hs.locQ st18123 hob rfl
      have hk := hk.put 55 (.tuple #[.int .i64 t18085.1, .bool t18085.2.1]) rfl
      refine ⟨.inr ⟨f18072.now, trivial⟩, ?_⟩
      refine xd_done (by kernel_rfl) ?_
      refine blk_n ?_
      refine then_n ?_
      refine wpIn_region_lit ?_
      refine x_run tab hk (k := 2) (lv := []) (ks := [3, 4, 5, 6, 7, 38, 39]) (e' := [(3, .slice (some ad18069) (p0.Lines).length cp0_0), (4, .pointer (some ⟨bx35, 0, none⟩)), (5, .int .i64 p0.W), (6, .pointer (some ⟨bx48, 0, none⟩)), (7, .int .i64 (mnI ((p0.Lines).length : Int) 20)), (38, .int .i64 (mnI ((p0.Lines).length : Int) 20)), (39, .int .i64 (IntKind.wrap .i64 (x17946 + 1)))]) rfl trivial fun a hk => ?_
      refine wpListIn_nil ?_
      refine then_n ?_
      exact ⟨k18037, Nat.le_refl _, o18122, t18085.2.2.most, t18085.2.2.now, A18125, c18126, t18085.2.2.l, (IntKind.wrap .i64 (x17946 + 1)), (by exact Kn.pick (ks := [3, 4, 5, 6, 7, 38, 39]) hk rfl), hs, f18127, f36, f18124, f900000, fg0, fg1, hc18128, (hlp18039 ▸ H)⟩
  refine x_seq ?_
  refine wpIn_region_lit ?_
  refine x_run tab hk (k := 3) (lv := []) (ks := [3, 4, 5, 6, 30]) (e' := [(3, .slice Ap0_0 (p0.Lines).length cp0_0), (4, .pointer (some ⟨bx35, 0, none⟩)), (5, .int .i64 p0.W), (6, .pointer (some ⟨bx48, 0, none⟩)), (30, .bool false)]) rfl trivial fun a hk => ?_
  refine x_op hk rfl ?_
  obtain ⟨t18132, hc18133, H⟩ := bindS H
  refine op_call hk ent_19 (vs := [.slice none 0 0, .int .i64 2]) rfl (flow_Cut_calls K none 0 ([] : List T36) 2 _ o46 1 0 fg0 0 fg1 2694 (Ft.of_all (fun _ => (fun h_ => absurd h_ (by simp))) _ _ 2694) (by simp) (by decide) (by decide) (by decide) 2695  _ hc18133) ?_
  rintro _ w18134 ⟨o18135, A18137, c18138, rfl, st18136, f18139, hc18140⟩
  replace f36 := f36.st st18136 (by decide)
  replace f49 := f49.st st18136 (by decide)
  replace f52 := f52.st st18136 (by decide)
  replace f900000 := f900000.st st18136 (by decide)
  replace fg0 := fg0.st st18136 (by decide)
  replace fg1 := fg1.st st18136 (by decide)
  replace hs := hs.locQ st18136 hob rfl
  have hk := hk.put 31 (.slice A18137 (t18132).length c18138) rfl
  refine x_run tab hk (k := 3) (lv := []) (ks := [3, 4, 5, 6, 34]) (e' := [(3, .slice Ap0_0 (p0.Lines).length cp0_0), (4, .pointer (some ⟨bx35, 0, none⟩)), (5, .int .i64 p0.W), (6, .pointer (some ⟨bx48, 0, none⟩)), (34, .bool (((t18132).length : Int) != (1 : Int)))]) rfl trivial fun a hk => ?_
  refine wpListIn_nil ?_
  refine then_n ?_
  cases b18141 : (((t18132).length : Int) != (1 : Int))
  · rw [b18141] at hk H
    replace H := bifF H
    refine x_if hk (b := false) rfl ?_
    refine (show Code.wpIn _ _ _ _ _ _ _ from ?_)
    refine wpIn_skip ?_
    refine then_n ?_
    exact ⟨(fun b_ => (fun l_ => if l_ = 6 then 11 else if l_ = 7 then 13 else if l_ = 8 then 12 else l_) (o18135 b_)), (by exact Kn.pick (ks := [3, 4, 5, 6]) hk rfl), (hs.relabM hob (fun l_ => if l_ = 6 then 11 else if l_ = 7 then 13 else if l_ = 8 then 12 else l_) (by decide)), (f36.relab (fun l_ => if l_ = 6 then 11 else if l_ = 7 then 13 else if l_ = 8 then 12 else l_) rfl), (f49.relab (fun l_ => if l_ = 6 then 11 else if l_ = 7 then 13 else if l_ = 8 then 12 else l_) rfl), (f52.relab (fun l_ => if l_ = 6 then 11 else if l_ = 7 then 13 else if l_ = 8 then 12 else l_) rfl), (f900000.relab (fun l_ => if l_ = 6 then 11 else if l_ = 7 then 13 else if l_ = 8 then 12 else l_) rfl), (fg0.relab (fun l_ => if l_ = 6 then 11 else if l_ = 7 then 13 else if l_ = 8 then 12 else l_) rfl), (fg1.relab (fun l_ => if l_ = 6 then 11 else if l_ = 7 then 13 else if l_ = 8 then 12 else l_) rfl), H⟩
  · rw [b18141] at hk H
    replace H := bifT H
    refine x_if hk (b := true) rfl ?_
    refine (show Code.wpIn _ _ _ _ _ _ _ from ?_)
    refine x_seq ?_
    refine wpIn_region_lit ?_
    refine x_run tab hk (k := 1) (lv := []) (ks := [2]) (e' := [(2, .bool false)]) rfl trivial fun a hk => ?_
    refine wpListIn_nil ?_
    refine then_n ?_
    refine wpIn_ret ?_
    refine then_r ?_
    obtain rfl := Option.some.inj H
    exact x_retG hk (rs := [.tmp 2]) (vs := [.bool false]) rfl ⟨rfl, trivial⟩ ⟨cl w oi o [] (fun l_ => if l_ = 1 then LF else 0) o18135, rfl, hs.closeF (Lm := []) (Sh := []) hoa rfl (fun l_ => if l_ = 1 then LF else 0)⟩

end Go.Proofs.YtpciioffkjpieaaDoor
