/- Walks, printed by an own program: the machine's calls compute the plain functions. -/
import Derived.Test.YtibcjohofabllaaW1
set_option linter.unusedVariables false
set_option linter.unusedSimpArgs false
namespace Go.Proofs.Ytibcjohofabllaa
open Go Go.Proofs.XC
/-! tidewrack/tidewrackref04.All -/
theorem tidewrackref04_All_calls (K : Nat) (Ap0_0 : Option Addr) (cp0_0 : Nat) (Ap0_1 : Option Addr) (cp0_1 : Nat) (p0 : T40) (w : World) (o : Nat → Nat) (Lp0_0 : Nat) (hp0_0 : Ft (RdC encBool Ap0_0 p0.Has) w o Lp0_0) (hcp0_0 : (p0.Has).length ≤ cp0_0) (Lp0_1 : Nat) (hp0_1 : Ft (RdC encStr Ap0_1 p0.Parts) w o Lp0_1) (hcp0_1 : (p0.Parts).length ≤ cp0_1)  (r : ByteArray × Bool) (H : tidewrackref04_All K p0 = some r) :
    Calls Try.prog 25 #[.agg #[.int .i64 p0.Key, .slice Ap0_0 (p0.Has).length cp0_0, .slice Ap0_1 (p0.Parts).length cp0_1]] w (Ret fun v_ w' => ∃ o' : Nat → Nat, v_ = .tuple #[.string r.1, .bool r.2] ∧ St [] w o w' o') := by
  refine x_enter (vs := [.agg #[.int .i64 p0.Key, .slice Ap0_0 (p0.Has).length cp0_0, .slice Ap0_1 (p0.Parts).length cp0_1]]) Try.func25 rfl rfl rfl fun a hk => ?_
  obtain ⟨o0, hs, h0⟩ := St.start w o
  have f900000 := h0 _ _ hp0_0
  have f900001 := h0 _ _ hp0_1
  clear h0
  rw [tidewrackref04_All] at H
  refine x_seq ?_
  refine wpIn_region_lit ?_
  refine x_op hk rfl ?_
  refine op_box (o := o0) (t := 41) (v := .agg #[.int .i64 p0.Key, .slice Ap0_0 (p0.Has).length cp0_0, .slice Ap0_1 (p0.Parts).length cp0_1]) (cs := [.int .i64 p0.Key, .slice Ap0_0 (p0.Has).length cp0_0, .slice Ap0_1 (p0.Parts).length cp0_1]) hk rfl rfl 1 fun bx4 w1 o2 st3 f5 => ?_
  replace f900000 := f900000.st st3 (by decide)
  replace f900001 := f900001.st st3 (by decide)
  replace hs := hs.loc0 st3 (by decide)
  have hk := hk.put 1 (.pointer (some ⟨bx4, 0, none⟩)) rfl
  refine x_run tab hk (k := 2) (lv := []) (ks := [1]) (e' := [(1, .pointer (some ⟨bx4, 0, none⟩))]) rfl trivial fun a hk => ?_
  refine wpListIn_nil ?_
  refine then_n ?_
  refine x_seq ?_
  refine wpIn_region_lit ?_
  refine x_run tab hk (k := 1) (lv := []) (ks := [1, 4]) (e' := [(1, .pointer (some ⟨bx4, 0, none⟩)), (4, .string (⟨#[]⟩ : ByteArray))]) rfl trivial fun a hk => ?_
  refine wpListIn_nil ?_
  refine then_n ?_
  refine x_mid (fun a_ w_ => ∃ o34 : Nat → Nat, ∃ x35 : ByteArray, Kn 28 a_ [(1, .pointer (some ⟨bx4, 0, none⟩)), (4, .string x35)] ∧ St [] w (fun _ => 0) w_ o34 ∧ Ft (Bx bx4 41 [.int .i64 p0.Key, .slice Ap0_0 (p0.Has).length cp0_0, .slice Ap0_1 (p0.Parts).length cp0_1]) w_ o34 4 ∧ Ft (RdC encBool Ap0_0 p0.Has) w_ o34 0 ∧ Ft (RdC encStr Ap0_1 p0.Parts) w_ o34 0 ∧ tidewrackref04_All_j1 K p0 x35 = some r) ?_ ?_
  rotate_left
  · rintro a w36 ⟨o34, x35, hk, hs, f5, f900000, f900001, H⟩
    rw [tidewrackref04_All_j1] at H
    refine x_seq ?_
    refine wpIn_region_lit ?_
    refine x_run tab hk (k := 5) (lv := [.int .i64 p0.Key]) (ks := [1, 18, 22]) (e' := [(1, .pointer (some ⟨bx4, 0, none⟩)), (18, .string x35), (22, .bool (decide (p0.Key > (0 : Int))))]) rfl ⟨(load1 tab rfl ((Bx.cell f5.now 0).trans rfl)), trivial⟩ fun a hk => ?_
    cases b37 : (decide (p0.Key > (0 : Int)))
    · rw [b37] at hk H
      replace H := bifF H
      refine x_run tab hk (k := 7) (lv := []) (ks := [2, 3]) (e' := [(2, .string x35), (3, .bool false)]) rfl trivial fun a hk => ?_
      refine wpListIn_nil ?_
      refine then_n ?_
      refine wpIn_ret ?_
      obtain rfl := Option.some.inj H
      exact x_retG hk (rs := [.tmp 2, .tmp 3]) (vs := [.string x35, .bool false]) rfl ⟨rfl, rfl, trivial⟩ ⟨fun b_ => if b_ < w.heap.size then o b_ else (fun _ => 0) (o34 b_), rfl, hs.close0 o (fun _ => 0)⟩
    · rw [b37] at hk H
      replace H := bifT H
      refine x_run tab hk (k := 1) (lv := [.agg #[.int .i64 p0.Key, .slice Ap0_0 (p0.Has).length cp0_0, .slice Ap0_1 (p0.Parts).length cp0_1]]) (ks := [18, 22, 23]) (e' := [(18, .string x35), (22, .bool true), (23, .agg #[.int .i64 p0.Key, .slice Ap0_0 (p0.Has).length cp0_0, .slice Ap0_1 (p0.Parts).length cp0_1])]) rfl ⟨(load_box tab rfl rfl f5.now (k := 0) rfl rfl), trivial⟩ fun a hk => ?_
      refine x_op hk rfl ?_
      obtain ⟨t41, hc42, H⟩ := bindS H
      refine op_call hk ent_29 (vs := [.agg #[.int .i64 p0.Key, .slice Ap0_0 (p0.Has).length cp0_0, .slice Ap0_1 (p0.Parts).length cp0_1], .bool false]) rfl (tidewrackref04_Which_calls K Ap0_0 cp0_0 Ap0_1 cp0_1 p0 false _ o34 _ f900000 hcp0_0 _ f900001 hcp0_1 5  _ hc42) ?_
      rintro _ w43 ⟨o44, A46, c47, rfl, st45, f48, hc49⟩
      replace f900000 := f900000.st st45 (by decide)
      replace f900001 := f900001.st st45 (by decide)
      replace hs := hs.loc0 st45 (by decide)
      have hk := hk.put 24 (.slice A46 (t41).length c47) rfl
      refine x_run tab hk (k := 5) (lv := []) (ks := [2, 3]) (e' := [(2, .string x35), (3, .bool (((t41).length : Int) == (0 : Int)))]) rfl trivial fun a hk => ?_
      refine wpListIn_nil ?_
      refine then_n ?_
      refine wpIn_ret ?_
      obtain rfl := Option.some.inj H
      exact x_retG hk (rs := [.tmp 2, .tmp 3]) (vs := [.string x35, .bool (((t41).length : Int) == (0 : Int))]) rfl ⟨rfl, rfl, trivial⟩ ⟨fun b_ => if b_ < w.heap.size then o b_ else (fun _ => 0) (o44 b_), rfl, hs.close0 o (fun _ => 0)⟩
  refine x_seq ?_
  refine wpIn_region_lit ?_
  refine x_run tab hk (k := 4) (lv := [.slice Ap0_1 (p0.Parts).length cp0_1]) (ks := [1, 4, 8, 9, 10]) (e' := [(1, .pointer (some ⟨bx4, 0, none⟩)), (4, .string (⟨#[]⟩ : ByteArray)), (8, .slice Ap0_1 (p0.Parts).length cp0_1), (9, .int .i64 ((p0.Parts).length : Int)), (10, .int .i64 0)]) rfl ⟨(load1 tab rfl ((Bx.cell f5.now 2).trans rfl)), trivial⟩ fun a hk => ?_
  refine wpListIn_nil ?_
  refine then_n ?_
  refine wpIn_block ?_
  refine x_loop (fun j_ a_ w_ => ∃ o57 : Nat → Nat, ∃ x58 : ByteArray, ∃ x59 : Int, Kn 28 a_ [(1, .pointer (some ⟨bx4, 0, none⟩)), (4, .string x58), (8, .slice Ap0_1 (p0.Parts).length cp0_1), (9, .int .i64 ((p0.Parts).length : Int)), (10, .int .i64 x59)] ∧ St [] w (fun _ => 0) w_ o57 ∧ Ft (Bx bx4 41 [.int .i64 p0.Key, .slice Ap0_0 (p0.Has).length cp0_0, .slice Ap0_1 (p0.Parts).length cp0_1]) w_ o57 7 ∧ Ft (RdC encBool Ap0_0 p0.Has) w_ o57 0 ∧ Ft (RdC encStr Ap0_1 p0.Parts) w_ o57 0 ∧ tidewrackref04_All_l2 K p0 j_ x58 x59 = some r) (k := K) ⟨(fun b_ => (fun l_ => if l_ = 1 then 7 else l_) (o2 b_)), (⟨#[]⟩ : ByteArray), 0, (by exact Kn.pick (ks := [1, 4, 8, 9, 10]) hk rfl), (hs.relab0 (fun l_ => if l_ = 1 then 7 else l_) rfl), (f5.relab (fun l_ => if l_ = 1 then 7 else l_) rfl), (f900000.relab (fun l_ => if l_ = 1 then 7 else l_) rfl), (f900001.relab (fun l_ => if l_ = 1 then 7 else l_) rfl), H⟩ (by rintro _ _ ⟨_, _, _, _, _, _, _, _, H_⟩; exact absurd (show (none : Option (ByteArray × Bool)) = some r from H_) (by simp)) ?_
  rintro k65 a w64 ⟨o57, x58, x59, hk, hs, f5, f900000, f900001, H⟩
  rw [tidewrackref04_All_l2] at H
  obtain ⟨lp66, hlp67⟩ : ∃ lp_, lp_ = tidewrackref04_All_l2 K p0 k65 := ⟨_, rfl⟩
  rw [← hlp67] at H
  refine x_seq ?_
  refine wpIn_region_lit ?_
  refine x_run tab hk (k := 1) (lv := []) (ks := [1, 4, 8, 9, 10, 11]) (e' := [(1, .pointer (some ⟨bx4, 0, none⟩)), (4, .string x58), (8, .slice Ap0_1 (p0.Parts).length cp0_1), (9, .int .i64 ((p0.Parts).length : Int)), (10, .int .i64 x59), (11, .bool (decide (x59 < ((p0.Parts).length : Int))))]) rfl trivial fun a hk => ?_
  refine wpListIn_nil ?_
  refine then_n ?_
  refine x_seq ?_
  cases b68 : (decide (x59 < ((p0.Parts).length : Int)))
  · rw [b68] at hk H
    replace H := bifF H
    refine x_if hk (b := false) rfl ?_
    refine (show Code.wpIn _ _ _ _ _ _ _ from ?_)
    refine wpIn_exit ?_
    refine then_x ?_
    refine then_x ?_
    refine blk_x ?_
    refine then_n ?_
    exact ⟨(fun b_ => (fun l_ => if l_ = 7 then 4 else l_) (o57 b_)), x58, (by exact Kn.pick (ks := [1, 4]) hk rfl), (hs.relab0 (fun l_ => if l_ = 7 then 4 else l_) rfl), (f5.relab (fun l_ => if l_ = 7 then 4 else l_) rfl), (f900000.relab (fun l_ => if l_ = 7 then 4 else l_) rfl), (f900001.relab (fun l_ => if l_ = 7 then 4 else l_) rfl), H⟩
  · rw [b68] at hk H
    replace H := bifT H
    refine x_if hk (b := true) rfl ?_
    refine (show Code.wpIn _ _ _ _ _ _ _ from ?_)
    refine wpIn_skip ?_
    refine then_n ?_
    refine x_seq ?_
    refine wpIn_block ?_
    refine x_seq ?_
    refine wpIn_region_lit ?_
    obtain ⟨q69, H⟩ := ifS H
    obtain ⟨ad70, hAad70⟩ := RdC.addr f900001.now q69
    have hk_C := hk
    have f5_C := f5
    have f900000_C := f900000
    have f900001_C := f900001
    subst hAad70
    have hk := hk_C
    clear hk_C
    have f5 := f5_C
    clear f5_C
    have f900000 := f900000_C
    clear f900000_C
    have f900001 := f900001_C
    clear f900001_C
    refine x_run tab hk (k := 3) (lv := [.string (rdD (⟨#[]⟩ : ByteArray) p0.Parts x59)]) (ks := [1, 4, 6, 8, 9, 10]) (e' := [(1, .pointer (some ⟨bx4, 0, none⟩)), (4, .string x58), (6, .string (rdD (⟨#[]⟩ : ByteArray) p0.Parts x59)), (8, .slice (some ad70) (p0.Parts).length cp0_1), (9, .int .i64 ((p0.Parts).length : Int)), (10, .int .i64 x59)]) rfl ⟨q69, (load1 tab rfl (RdC.at0 (E := encStr) (d := (⟨#[]⟩ : ByteArray)) (i := x59) f900001.now q69 rfl)), trivial⟩ fun a hk => ?_
    refine wpListIn_nil ?_
    refine then_n ?_
    refine wpIn_region_lit ?_
    obtain ⟨q71, H⟩ := ifS H
    refine x_run tab hk (k := 4) (lv := []) (ks := [1, 4, 8, 9, 10]) (e' := [(1, .pointer (some ⟨bx4, 0, none⟩)), (4, .string (x58 ++ (rdD (⟨#[]⟩ : ByteArray) p0.Parts x59))), (8, .slice (some ad70) (p0.Parts).length cp0_1), (9, .int .i64 ((p0.Parts).length : Int)), (10, .int .i64 x59)]) rfl ⟨q71, trivial⟩ fun a hk => ?_
    refine wpListIn_nil ?_
    refine blk_n ?_
    refine then_n ?_
    refine wpIn_region_lit ?_
    refine x_run tab hk (k := 2) (lv := []) (ks := [1, 4, 8, 9, 10]) (e' := [(1, .pointer (some ⟨bx4, 0, none⟩)), (4, .string (x58 ++ (rdD (⟨#[]⟩ : ByteArray) p0.Parts x59))), (8, .slice (some ad70) (p0.Parts).length cp0_1), (9, .int .i64 ((p0.Parts).length : Int)), (10, .int .i64 (IntKind.wrap .i64 (x59 + 1)))]) rfl trivial fun a hk => ?_
    refine wpListIn_nil ?_
    refine then_n ?_
    exact ⟨k65, Nat.le_refl _, o57, (x58 ++ (rdD (⟨#[]⟩ : ByteArray) p0.Parts x59)), (IntKind.wrap .i64 (x59 + 1)), (by exact Kn.pick (ks := [1, 4, 8, 9, 10]) hk rfl), hs, f5, f900000, f900001, (hlp67 ▸ H)⟩

/-! (*tidewrack/parts.Slot).Count -/
theorem parts_Slot_Count_calls (bp0 : Nat) (Ap0_0 : Option Addr) (cp0_0 : Nat) (p0 : T29) (w : World) (o : Nat → Nat) (Lp0 : Nat) (hp0 : Ft (Bx bp0 30 [.int .i64 p0.key, .int .i64 p0.count, mv Ap0_0, .int .i64 p0.bytes]) w o Lp0) (Lp0_0 : Nat) (hp0_0 : Ft (MpF encStr false Ap0_0 p0.parts) w o Lp0_0) (hcp0_0 : (p0.parts).length ≤ cp0_0)  (r : Int) (H : parts_Slot_Count p0 = some r) :
    Calls Try.prog 26 #[.pointer (some ⟨bp0, 0, none⟩)] w (Ret fun v_ w' => ∃ o' : Nat → Nat, v_ = .int .i64 r ∧ St [] w o w' o') := by
  refine x_enter (vs := [.pointer (some ⟨bp0, 0, none⟩)]) Try.func26 rfl rfl rfl fun a hk => ?_
  obtain ⟨o0, hs, h0⟩ := St.start w o
  have f900000 := h0 _ _ hp0_0
  have f900019 := h0 _ _ hp0
  clear h0
  rw [parts_Slot_Count] at H
  refine x_seq ?_
  refine wpIn_region_lit ?_
  refine x_run tab hk (k := 1) (lv := []) (ks := [0]) (e' := [(0, .pointer (some ⟨bp0, 0, none⟩))]) rfl trivial fun a hk => ?_
  refine wpListIn_nil ?_
  refine then_n ?_
  refine x_seq ?_
  refine wpIn_region_lit ?_
  refine x_run tab hk (k := 5) (lv := [.int .i64 p0.count]) (ks := [2]) (e' := [(2, .int .i64 p0.count)]) rfl ⟨(load1 tab rfl ((Bx.cell f900019.now 1).trans rfl)), trivial⟩ fun a hk => ?_
  refine wpListIn_nil ?_
  refine then_n ?_
  refine wpIn_ret ?_
  obtain rfl := Option.some.inj H
  exact x_retG hk (rs := [.tmp 2]) (vs := [.int .i64 p0.count]) rfl ⟨rfl, trivial⟩ ⟨fun b_ => if b_ < w.heap.size then o b_ else (fun _ => 0) (o0 b_), rfl, hs.close0 o (fun _ => 0)⟩

/-! (*tidewrack/parts.Slot).Have -/
theorem parts_Slot_Have_calls (K : Nat) (bp0 : Nat) (Ap0_0 : Option Addr) (cp0_0 : Nat) (p0 : T29) (w : World) (o : Nat → Nat) (Lp0 : Nat) (hp0 : Ft (Bx bp0 30 [.int .i64 p0.key, .int .i64 p0.count, mv Ap0_0, .int .i64 p0.bytes]) w o Lp0) (Lp0_0 : Nat) (hp0_0 : Ft (MpF encStr false Ap0_0 p0.parts) w o Lp0_0) (hcp0_0 : (p0.parts).length ≤ cp0_0)  (R0 : Nat) (r : List Int) (H : parts_Slot_Have K p0 = some r) :
    Calls Try.prog 28 #[.pointer (some ⟨bp0, 0, none⟩)] w (Ret fun v_ w' => ∃ o' : Nat → Nat, ∃ A0 : Option Addr, ∃ c0 : Nat, v_ = .slice A0 (r).length c0 ∧ St [] w o w' o' ∧ Ft (Own (encInt .i64) 3 (.slice A0 (r).length c0) r) w' o' R0 ∧ (r).length ≤ c0) := by
  refine x_enter (vs := [.pointer (some ⟨bp0, 0, none⟩)]) Try.func28 rfl rfl rfl fun a hk => ?_
  obtain ⟨o0, hs, h0⟩ := St.start w o
  have f900000 := h0 _ _ hp0_0
  have f900019 := h0 _ _ hp0
  clear h0
  rw [parts_Slot_Have] at H
  refine x_seq ?_
  refine wpIn_region_lit ?_
  refine x_run tab hk (k := 1) (lv := []) (ks := [0]) (e' := [(0, .pointer (some ⟨bp0, 0, none⟩))]) rfl trivial fun a hk => ?_
  refine wpListIn_nil ?_
  refine then_n ?_
  refine x_seq ?_
  refine wpIn_region_lit ?_
  refine x_run tab hk (k := 1) (lv := []) (ks := [3]) (e' := [(3, .pointer (some ⟨bp0, 0, none⟩))]) rfl trivial fun a hk => ?_
  refine x_op hk rfl ?_
  obtain ⟨t4, hc5, H⟩ := bindS H
  refine op_call hk ent_23 (vs := [.pointer (some ⟨bp0, 0, none⟩), .bool true]) rfl (parts_Slot_which_calls K bp0 Ap0_0 cp0_0 p0 true _ o0 0 f900019 _ f900000 hcp0_0 1  _ hc5) ?_
  rintro _ w6 ⟨o7, A9, c10, rfl, st8, f11, hc12⟩
  replace f900000 := f900000.st st8 (by decide)
  replace f900019 := f900019.st st8 (by decide)
  replace hs := hs.loc0 st8 (by decide)
  have hk := hk.put 4 (.slice A9 (t4).length c10) rfl
  refine x_run tab hk (k := 1) (lv := []) (ks := [2]) (e' := [(2, .slice A9 (t4).length c10)]) rfl trivial fun a hk => ?_
  refine wpListIn_nil ?_
  refine then_n ?_
  refine wpIn_ret ?_
  obtain rfl := Option.some.inj H
  exact x_retG hk (rs := [.tmp 2]) (vs := [.slice A9 (t4).length c10]) rfl ⟨rfl, trivial⟩ ⟨fun b_ => if b_ < w.heap.size then o b_ else (fun _ => R0) (o7 b_), A9, c10, rfl, hs.close0 o (fun _ => R0), hs.close_ft (o := o) (ρ := fun _ => R0) f11 (by decide) rfl, hc12⟩

/-! tidewrack/tidewracklaw01.Same -/
theorem tidewracklaw01_Same_calls (K : Nat) (Ap0 : Option Addr) (cp0 : Nat) (p0 : List Int) (Ap1 : Option Addr) (cp1 : Nat) (p1 : List Int) (w : World) (o : Nat → Nat) (Lp0 : Nat) (hp0 : Ft (RdC (encInt .i64) Ap0 p0) w o Lp0) (hcp0 : (p0).length ≤ cp0) (Lp1 : Nat) (hp1 : Ft (RdC (encInt .i64) Ap1 p1) w o Lp1) (hcp1 : (p1).length ≤ cp1)  (r : Bool) (H : tidewracklaw01_Same K p0 p1 = some r) :
    Calls Try.prog 27 #[.slice Ap0 (p0).length cp0, .slice Ap1 (p1).length cp1] w (Ret fun v_ w' => ∃ o' : Nat → Nat, v_ = .bool r ∧ St [] w o w' o') := by
  refine x_enter (vs := [.slice Ap0 (p0).length cp0, .slice Ap1 (p1).length cp1]) Try.func27 rfl rfl rfl fun a hk => ?_
  obtain ⟨o0, hs, h0⟩ := St.start w o
  have f900000 := h0 _ _ hp0
  have f900020 := h0 _ _ hp1
  clear h0
  rw [tidewracklaw01_Same] at H
  refine x_seq ?_
  refine wpIn_region_lit ?_
  refine x_run tab hk (k := 1) (lv := []) (ks := [0, 1]) (e' := [(0, .slice Ap0 (p0).length cp0), (1, .slice Ap1 (p1).length cp1)]) rfl trivial fun a hk => ?_
  refine wpListIn_nil ?_
  refine then_n ?_
  refine x_seq ?_
  refine x_seq ?_
  refine wpIn_region_lit ?_
  refine x_run tab hk (k := 5) (lv := []) (ks := [0, 1, 10]) (e' := [(0, .slice Ap0 (p0).length cp0), (1, .slice Ap1 (p1).length cp1), (10, .bool (((p0).length : Int) != ((p1).length : Int)))]) rfl trivial fun a hk => ?_
  refine wpListIn_nil ?_
  refine then_n ?_
  cases b1 : (((p0).length : Int) != ((p1).length : Int))
  · rw [b1] at hk H
    replace H := bifF H
    refine x_if hk (b := false) rfl ?_
    refine (show Code.wpIn _ _ _ _ _ _ _ from ?_)
    refine wpIn_skip ?_
    refine then_n ?_
    refine x_mid (fun a_ w_ => ∃ o62 : Nat → Nat, Kn 26 a_ [] ∧ St [] w (fun _ => 0) w_ o62 ∧ tidewracklaw01_Same_j1 = some r) ?_ ?_
    rotate_left
    · rintro a w63 ⟨o62, hk, hs, H⟩
      rw [tidewracklaw01_Same_j1] at H
      refine x_seq ?_
      refine wpIn_region_lit ?_
      refine x_run tab hk (k := 1) (lv := []) (ks := [4]) (e' := [(4, .bool true)]) rfl trivial fun a hk => ?_
      refine wpListIn_nil ?_
      refine then_n ?_
      refine wpIn_ret ?_
      obtain rfl := Option.some.inj H
      exact x_retG hk (rs := [.tmp 4]) (vs := [.bool true]) rfl ⟨rfl, trivial⟩ ⟨fun b_ => if b_ < w.heap.size then o b_ else (fun _ => 0) (o62 b_), rfl, hs.close0 o (fun _ => 0)⟩
    refine x_seq ?_
    refine wpIn_region_lit ?_
    refine x_run tab hk (k := 3) (lv := []) (ks := [0, 1, 12, 13]) (e' := [(0, .slice Ap0 (p0).length cp0), (1, .slice Ap1 (p1).length cp1), (12, .int .i64 ((p0).length : Int)), (13, .int .i64 0)]) rfl trivial fun a hk => ?_
    refine wpListIn_nil ?_
    refine then_n ?_
    refine wpIn_block ?_
    refine x_loop (fun j_ a_ w_ => ∃ o83 : Nat → Nat, ∃ x84 : Int, Kn 26 a_ [(0, .slice Ap0 (p0).length cp0), (1, .slice Ap1 (p1).length cp1), (12, .int .i64 ((p0).length : Int)), (13, .int .i64 x84)] ∧ St [] w (fun _ => 0) w_ o83 ∧ Ft (RdC (encInt .i64) Ap0 p0) w_ o83 0 ∧ Ft (RdC (encInt .i64) Ap1 p1) w_ o83 0 ∧ tidewracklaw01_Same_l2 p0 p1 j_ x84 = some r) (k := K) ⟨o0, 0, (by exact Kn.pick (ks := [0, 1, 12, 13]) hk rfl), hs, f900000, f900020, H⟩ (by rintro _ _ ⟨_, _, _, _, _, _, H_⟩; exact absurd (show (none : Option Bool) = some r from H_) (by simp)) ?_
    rintro k102 a w101 ⟨o83, x84, hk, hs, f900000, f900020, H⟩
    rw [tidewracklaw01_Same_l2] at H
    obtain ⟨lp103, hlp104⟩ : ∃ lp_, lp_ = tidewracklaw01_Same_l2 p0 p1 k102 := ⟨_, rfl⟩
    rw [← hlp104] at H
    refine x_seq ?_
    refine wpIn_region_lit ?_
    refine x_run tab hk (k := 1) (lv := []) (ks := [0, 1, 12, 13, 14]) (e' := [(0, .slice Ap0 (p0).length cp0), (1, .slice Ap1 (p1).length cp1), (12, .int .i64 ((p0).length : Int)), (13, .int .i64 x84), (14, .bool (decide (x84 < ((p0).length : Int))))]) rfl trivial fun a hk => ?_
    refine wpListIn_nil ?_
    refine then_n ?_
    refine x_seq ?_
    cases b105 : (decide (x84 < ((p0).length : Int)))
    · rw [b105] at hk H
      replace H := bifF H
      refine x_if hk (b := false) rfl ?_
      refine (show Code.wpIn _ _ _ _ _ _ _ from ?_)
      refine wpIn_exit ?_
      refine then_x ?_
      refine then_x ?_
      refine blk_x ?_
      refine then_n ?_
      exact ⟨o83, (by exact Kn.pick (ks := []) hk rfl), hs, H⟩
    · rw [b105] at hk H
      replace H := bifT H
      refine x_if hk (b := true) rfl ?_
      refine (show Code.wpIn _ _ _ _ _ _ _ from ?_)
      refine wpIn_skip ?_
      refine then_n ?_
      refine x_seq ?_
      refine wpIn_block ?_
      refine x_seq ?_
      refine wpIn_region_lit ?_
      refine x_run tab hk (k := 2) (lv := []) (ks := [0, 1, 5, 12, 13]) (e' := [(0, .slice Ap0 (p0).length cp0), (1, .slice Ap1 (p1).length cp1), (5, .int .i64 x84), (12, .int .i64 ((p0).length : Int)), (13, .int .i64 x84)]) rfl trivial fun a hk => ?_
      refine wpListIn_nil ?_
      refine then_n ?_
      refine x_seq ?_
      refine xd_begin (o := o83) (fun W_ => (RdC (encInt .i64) Ap0 p0) W_ ∧ (RdC (encInt .i64) Ap1 p1) W_ ∧ True) mixed rfl rfl fun w114 st115 => ?_
      replace f900000 := f900000.st st115 (by decide)
      replace f900020 := f900020.st st115 (by decide)
      replace hs := hs.loc0 st115 (by decide)
      obtain ⟨q116, H⟩ := ifS H
      obtain ⟨ad117, hAad117⟩ := RdC.addr f900000.now q116
      have hk_C := hk
      have f900000_C := f900000
      have f900020_C := f900020
      subst hAad117
      have hk := hk_C
      clear hk_C
      have f900000 := f900000_C
      clear f900000_C
      have f900020 := f900020_C
      clear f900020_C
      obtain ⟨q118, H⟩ := ifS H
      obtain ⟨ad119, hAad119⟩ := RdC.addr f900020.now q118
      have hk_C := hk
      have f900000_C := f900000
      have f900020_C := f900020
      subst hAad119
      have hk := hk_C
      clear hk_C
      have f900000 := f900000_C
      clear f900000_C
      have f900020 := f900020_C
      clear f900020_C
      refine xd_take tab hk (k := 0) (is := [0, 1, 2, 3, 4, 5, 6, 7, 8]) (ls' := #[true, true, true, true, true, true, true, true, true]) (lv := [.int .i64 (rdD 0 p0 x84), .int .i64 (rdD 0 p1 x84)]) (ks := [0, 1, 12, 13, 24]) (e' := [(0, .slice (some ad117) (p0).length cp0), (1, .slice (some ad119) (p1).length cp1), (12, .int .i64 ((p0).length : Int)), (13, .int .i64 x84), (24, .bool ((rdD 0 p0 x84) != (rdD 0 p1 x84)))]) (by kernel_rfl) rfl rfl (by kernel_rfl) (np_then (np_blk (np_then (np_then (np_blk (np_then np_body)))))) ⟨f900000.now, f900020.now, trivial⟩ (fun W_ hS => ⟨q116, (load1 tab rfl (RdC.at0 (E := (encInt .i64)) (d := 0) (i := x84) hS.1 q116 rfl)), q118, (load1 tab rfl (RdC.at0 (E := (encInt .i64)) (d := 0) (i := x84) hS.2.1 q118 rfl)), trivial⟩) fun a hk => ?_
      refine xd_done (by kernel_rfl) ?_
      refine then_n ?_
      cases b120 : ((rdD 0 p0 x84) != (rdD 0 p1 x84))
      · rw [b120] at hk H
        replace H := bifF H
        refine x_if hk (b := false) rfl ?_
        refine (show Code.wpIn _ _ _ _ _ _ _ from ?_)
        refine wpIn_skip ?_
        refine blk_n ?_
        refine then_n ?_
        refine wpIn_region_lit ?_
        refine x_run tab hk (k := 2) (lv := []) (ks := [0, 1, 12, 13]) (e' := [(0, .slice (some ad117) (p0).length cp0), (1, .slice (some ad119) (p1).length cp1), (12, .int .i64 ((p0).length : Int)), (13, .int .i64 (IntKind.wrap .i64 (x84 + 1)))]) rfl trivial fun a hk => ?_
        refine wpListIn_nil ?_
        refine then_n ?_
        exact ⟨k102, Nat.le_refl _, o83, (IntKind.wrap .i64 (x84 + 1)), (by exact Kn.pick (ks := [0, 1, 12, 13]) hk rfl), hs, f900000, f900020, (hlp104 ▸ H)⟩
      · rw [b120] at hk H
        replace H := bifT H
        refine x_if hk (b := true) rfl ?_
        refine (show Code.wpIn _ _ _ _ _ _ _ from ?_)
        refine x_seq ?_
        refine wpIn_region_lit ?_
        refine x_run tab hk (k := 1) (lv := []) (ks := [4]) (e' := [(4, .bool false)]) rfl trivial fun a hk => ?_
        refine wpListIn_nil ?_
        refine then_n ?_
        refine wpIn_ret ?_
        refine blk_r ?_
        refine then_r ?_
        refine then_r ?_
        refine blk_r ?_
        refine then_r ?_
        obtain rfl := Option.some.inj H
        exact x_retG hk (rs := [.tmp 4]) (vs := [.bool false]) rfl ⟨rfl, trivial⟩ ⟨fun b_ => if b_ < w.heap.size then o b_ else (fun _ => 0) (o83 b_), rfl, hs.close0 o (fun _ => 0)⟩
  · rw [b1] at hk H
    replace H := bifT H
    refine x_if hk (b := true) rfl ?_
    refine (show Code.wpIn _ _ _ _ _ _ _ from ?_)
    refine x_seq ?_
    refine wpIn_region_lit ?_
    refine x_run tab hk (k := 1) (lv := []) (ks := [4]) (e' := [(4, .bool false)]) rfl trivial fun a hk => ?_
    refine wpListIn_nil ?_
    refine then_n ?_
    refine wpIn_ret ?_
    refine then_r ?_
    obtain rfl := Option.some.inj H
    exact x_retG hk (rs := [.tmp 4]) (vs := [.bool false]) rfl ⟨rfl, trivial⟩ ⟨fun b_ => if b_ < w.heap.size then o b_ else (fun _ => 0) (o0 b_), rfl, hs.close0 o (fun _ => 0)⟩

/-! tidewrack/tidewracklaw04.Is -/
theorem tidewracklaw04_Is_calls (K : Nat) (bp0 : Nat) (Ap0_0 : Option Addr) (cp0_0 : Nat) (p0 : T29) (Ap1_0 : Option Addr) (cp1_0 : Nat) (Ap1_1 : Option Addr) (cp1_1 : Nat) (p1 : T40) (w : World) (o : Nat → Nat) (Lp0 : Nat) (hp0 : Ft (Bx bp0 30 [.int .i64 p0.key, .int .i64 p0.count, mv Ap0_0, .int .i64 p0.bytes]) w o Lp0) (Lp0_0 : Nat) (hp0_0 : Ft (MpF encStr false Ap0_0 p0.parts) w o Lp0_0) (hcp0_0 : (p0.parts).length ≤ cp0_0) (Lp1_0 : Nat) (hp1_0 : Ft (RdC encBool Ap1_0 p1.Has) w o Lp1_0) (hcp1_0 : (p1.Has).length ≤ cp1_0) (Lp1_1 : Nat) (hp1_1 : Ft (RdC encStr Ap1_1 p1.Parts) w o Lp1_1) (hcp1_1 : (p1.Parts).length ≤ cp1_1)  (r : Bool) (H : tidewracklaw04_Is K p0 p1 = some r) :
    Calls Try.prog 16 #[.pointer (some ⟨bp0, 0, none⟩), .agg #[.int .i64 p1.Key, .slice Ap1_0 (p1.Has).length cp1_0, .slice Ap1_1 (p1.Parts).length cp1_1]] w (Ret fun v_ w' => ∃ o' : Nat → Nat, v_ = .bool r ∧ St [] w o w' o') := by
  refine x_enter (vs := [.pointer (some ⟨bp0, 0, none⟩), .agg #[.int .i64 p1.Key, .slice Ap1_0 (p1.Has).length cp1_0, .slice Ap1_1 (p1.Parts).length cp1_1]]) Try.func16 rfl rfl rfl fun a hk => ?_
  obtain ⟨o0, hs, h0⟩ := St.start w o
  have f900000 := h0 _ _ hp0_0
  have f900019 := h0 _ _ hp0
  have f900020 := h0 _ _ hp1_0
  have f900021 := h0 _ _ hp1_1
  clear h0
  rw [tidewracklaw04_Is] at H
  refine x_seq ?_
  refine wpIn_region_lit ?_
  refine x_op hk rfl ?_
  refine op_box (o := o0) (t := 41) (v := .agg #[.int .i64 p1.Key, .slice Ap1_0 (p1.Has).length cp1_0, .slice Ap1_1 (p1.Parts).length cp1_1]) (cs := [.int .i64 p1.Key, .slice Ap1_0 (p1.Has).length cp1_0, .slice Ap1_1 (p1.Parts).length cp1_1]) hk rfl rfl 1 fun bx4 w1 o2 st3 f5 => ?_
  replace f900000 := f900000.st st3 (by decide)
  replace f900019 := f900019.st st3 (by decide)
  replace f900020 := f900020.st st3 (by decide)
  replace f900021 := f900021.st st3 (by decide)
  replace hs := hs.loc0 st3 (by decide)
  have hk := hk.put 3 (.pointer (some ⟨bx4, 0, none⟩)) rfl
  refine x_run tab hk (k := 1) (lv := []) (ks := [0, 3]) (e' := [(0, .pointer (some ⟨bp0, 0, none⟩)), (3, .pointer (some ⟨bx4, 0, none⟩))]) rfl trivial fun a hk => ?_
  refine wpListIn_nil ?_
  refine then_n ?_
  refine x_seq ?_
  refine wpIn_region_lit ?_
  refine x_run tab hk (k := 1) (lv := [.agg #[.int .i64 p1.Key, .slice Ap1_0 (p1.Has).length cp1_0, .slice Ap1_1 (p1.Parts).length cp1_1]]) (ks := [0, 3, 10]) (e' := [(0, .pointer (some ⟨bp0, 0, none⟩)), (3, .pointer (some ⟨bx4, 0, none⟩)), (10, .agg #[.int .i64 p1.Key, .slice Ap1_0 (p1.Has).length cp1_0, .slice Ap1_1 (p1.Parts).length cp1_1])]) rfl ⟨(load_box tab rfl rfl f5.now (k := 0) rfl rfl), trivial⟩ fun a hk => ?_
  refine x_op hk rfl ?_
  obtain ⟨t9, hc10, H⟩ := bindS H
  refine op_call hk ent_25 (vs := [.agg #[.int .i64 p1.Key, .slice Ap1_0 (p1.Has).length cp1_0, .slice Ap1_1 (p1.Parts).length cp1_1]]) rfl (tidewrackref04_All_calls K Ap1_0 cp1_0 Ap1_1 cp1_1 p1 _ o2 _ f900020 hcp1_0 _ f900021 hcp1_1   _ hc10) ?_
  rintro _ w11 ⟨o12, rfl, st13⟩
  replace f5 := f5.st st13 (by decide)
  replace f900000 := f900000.st st13 (by decide)
  replace f900019 := f900019.st st13 (by decide)
  replace f900020 := f900020.st st13 (by decide)
  replace f900021 := f900021.st st13 (by decide)
  replace hs := hs.loc0 st13 (by decide)
  have hk := hk.put 11 (.tuple #[.string t9.1, .bool t9.2]) rfl
  refine x_run tab hk (k := 5) (lv := []) (ks := [0, 3, 5, 6]) (e' := [(0, .pointer (some ⟨bp0, 0, none⟩)), (3, .pointer (some ⟨bx4, 0, none⟩)), (5, .string t9.1), (6, .bool t9.2)]) rfl trivial fun a hk => ?_
  refine wpListIn_nil ?_
  refine then_n ?_
  refine x_seq ?_
  refine wpIn_region_lit ?_
  refine x_run tab hk (k := 1) (lv := []) (ks := [0, 3, 5, 6, 15]) (e' := [(0, .pointer (some ⟨bp0, 0, none⟩)), (3, .pointer (some ⟨bx4, 0, none⟩)), (5, .string t9.1), (6, .bool t9.2), (15, .pointer (some ⟨bp0, 0, none⟩))]) rfl trivial fun a hk => ?_
  refine x_op hk rfl ?_
  obtain ⟨t17, hc18, H⟩ := bindS H
  refine op_call hk ent_12 (vs := [.pointer (some ⟨bp0, 0, none⟩)]) rfl (parts_Slot_Whole_calls K bp0 Ap0_0 cp0_0 p0 _ o12 0 f900019 _ f900000 hcp0_0   _ hc18) ?_
  rintro _ w19 ⟨o20, rfl, st21⟩
  replace f5 := f5.st st21 (by decide)
  replace f900000 := f900000.st st21 (by decide)
  replace f900019 := f900019.st st21 (by decide)
  replace f900020 := f900020.st st21 (by decide)
  replace f900021 := f900021.st st21 (by decide)
  replace hs := hs.loc0 st21 (by decide)
  have hk := hk.put 16 (.tuple #[.string t17.1, .bool t17.2]) rfl
  refine x_run tab hk (k := 5) (lv := []) (ks := [0, 3, 5, 6, 7, 8]) (e' := [(0, .pointer (some ⟨bp0, 0, none⟩)), (3, .pointer (some ⟨bx4, 0, none⟩)), (5, .string t9.1), (6, .bool t9.2), (7, .string t17.1), (8, .bool t17.2)]) rfl trivial fun a hk => ?_
  refine wpListIn_nil ?_
  refine then_n ?_
  refine x_mid (fun a_ w_ => ∃ o29 : Nat → Nat, Kn 72 a_ [(0, .pointer (some ⟨bp0, 0, none⟩)), (3, .pointer (some ⟨bx4, 0, none⟩)), (5, .string t9.1)] ∧ St [] w (fun _ => 0) w_ o29 ∧ Ft (Bx bx4 41 [.int .i64 p1.Key, .slice Ap1_0 (p1.Has).length cp1_0, .slice Ap1_1 (p1.Parts).length cp1_1]) w_ o29 2 ∧ Ft (MpF encStr false Ap0_0 p0.parts) w_ o29 0 ∧ Ft (Bx bp0 30 [.int .i64 p0.key, .int .i64 p0.count, mv Ap0_0, .int .i64 p0.bytes]) w_ o29 0 ∧ Ft (RdC encBool Ap1_0 p1.Has) w_ o29 0 ∧ Ft (RdC encStr Ap1_1 p1.Parts) w_ o29 0 ∧ tidewracklaw04_Is_j1 K p0 p1 t9 = some r) ?_ ?_
  rotate_left
  · rintro a w30 ⟨o29, hk, hs, f5, f900000, f900019, f900020, f900021, H⟩
    rw [tidewracklaw04_Is_j1] at H
    refine x_seq ?_
    refine xd_begin (o := o29) (fun W_ => (Bx bx4 41 [.int .i64 p1.Key, .slice Ap1_0 (p1.Has).length cp1_0, .slice Ap1_1 (p1.Parts).length cp1_1]) W_ ∧ True) mixed rfl rfl fun w215 st216 => ?_
    replace f5 := f5.st st216 (by decide)
    replace f900000 := f900000.st st216 (by decide)
    replace f900019 := f900019.st st216 (by decide)
    replace f900020 := f900020.st st216 (by decide)
    replace f900021 := f900021.st st216 (by decide)
    replace hs := hs.loc0 st216 (by decide)
    refine xd_take tab hk (k := 32) (is := [0, 2, 3]) (ls' := #[true, false, true, true, false, false, false, false, false, false, false, false, false, false, false, false, false, false, false, false, false, false, false, false, false, false, false, false, false, false, false, false, false, false, false]) (lv := [.int .i64 p1.Key]) (ks := [0, 3, 5, 38, 41]) (e' := [(0, .pointer (some ⟨bp0, 0, none⟩)), (3, .pointer (some ⟨bx4, 0, none⟩)), (5, .string t9.1), (38, .pointer (some ⟨bp0, 0, none⟩)), (41, .int .i64 p1.Key)]) (by kernel_rfl) rfl rfl (by kernel_rfl) (np_then np_body) ⟨f5.now, trivial⟩ (fun W_ hS => ⟨(load1 tab rfl ((Bx.cell hS.1 0).trans rfl)), trivial⟩) fun a hk => ?_
    refine xd_op hk (i := 1) (by kernel_rfl) rfl rfl ?_
    obtain ⟨t220, hc221, H⟩ := bindS H
    refine op_call hk ent_19 (vs := [.pointer (some ⟨bp0, 0, none⟩)]) rfl (parts_Slot_Key_calls bp0 Ap0_0 cp0_0 p0 _ o29 0 f900019 _ f900000 hcp0_0   _ hc221) ?_
    rintro _ w222 ⟨o223, rfl, st224⟩
    replace f5 := f5.st st224 (by decide)
    replace f900000 := f900000.st st224 (by decide)
    replace f900019 := f900019.st st224 (by decide)
    replace f900020 := f900020.st st224 (by decide)
    replace f900021 := f900021.st st224 (by decide)
    replace hs := hs.loc0 st224 (by decide)
    have hk := hk.put 39 (.int .i64 t220) rfl
    refine ⟨.inr ⟨f5.now, trivial⟩, ?_⟩
    refine xd_take tab hk (k := 29) (is := [4, 5]) (ls' := #[true, true, true, true, true, true, false, false, false, false, false, false, false, false, false, false, false, false, false, false, false, false, false, false, false, false, false, false, false, false, false, false, false, false, false]) (lv := []) (ks := [0, 3, 5, 43]) (e' := [(0, .pointer (some ⟨bp0, 0, none⟩)), (3, .pointer (some ⟨bx4, 0, none⟩)), (5, .string t9.1), (43, .bool (t220 == p1.Key))]) (by kernel_rfl) rfl rfl (by kernel_rfl) (np_then np_body) ⟨f5.now, trivial⟩ (fun W_ hS => trivial) fun a hk => ?_
    cases b225 : (t220 == p1.Key)
    · rw [b225] at hk H
      replace H := bifF H
      refine xd_take tab hk (k := 0) (is := [6, 7, 8, 9, 10, 11, 12, 13, 14, 15, 16, 17, 18, 19, 20, 21, 22, 23, 24, 25, 26, 27, 28, 29, 30, 31, 32, 33, 34]) (ls' := #[true, true, true, true, true, true, true, true, true, true, true, true, true, true, true, true, true, true, true, true, true, true, true, true, true, true, true, true, true, true, true, true, true, true, true]) (lv := []) (ks := [4]) (e' := [(4, .bool false)]) (by kernel_rfl) rfl rfl (by kernel_rfl) (np_then np_body) ⟨f5.now, trivial⟩ (fun W_ hS => trivial) fun a hk => ?_
      refine xd_done (by kernel_rfl) ?_
      refine then_n ?_
      refine wpIn_ret ?_
      obtain rfl := Option.some.inj H
      exact x_retG hk (rs := [.tmp 4]) (vs := [.bool false]) rfl ⟨rfl, trivial⟩ ⟨fun b_ => if b_ < w.heap.size then o b_ else (fun _ => 0) (o223 b_), rfl, hs.close0 o (fun _ => 0)⟩
    · rw [b225] at hk H
      replace H := bifT H
      refine xd_take tab hk (k := 25) (is := [6, 8, 9, 10]) (ls' := #[true, true, true, true, true, true, true, false, true, true, true, false, false, false, false, false, false, false, false, false, false, false, false, false, false, false, false, false, false, false, false, false, false, false, false]) (lv := [.slice Ap1_0 (p1.Has).length cp1_0]) (ks := [0, 3, 5, 43, 44, 48]) (e' := [(0, .pointer (some ⟨bp0, 0, none⟩)), (3, .pointer (some ⟨bx4, 0, none⟩)), (5, .string t9.1), (43, .bool true), (44, .pointer (some ⟨bp0, 0, none⟩)), (48, .int .i64 ((p1.Has).length : Int))]) (by kernel_rfl) rfl rfl (by kernel_rfl) (np_then np_body) ⟨f5.now, trivial⟩ (fun W_ hS => ⟨(load1 tab rfl ((Bx.cell hS.1 1).trans rfl)), trivial⟩) fun a hk => ?_
      refine xd_op hk (i := 7) (by kernel_rfl) rfl rfl ?_
      obtain ⟨t229, hc230, H⟩ := bindS H
      refine op_call hk ent_26 (vs := [.pointer (some ⟨bp0, 0, none⟩)]) rfl (parts_Slot_Count_calls bp0 Ap0_0 cp0_0 p0 _ o223 0 f900019 _ f900000 hcp0_0   _ hc230) ?_
      rintro _ w231 ⟨o232, rfl, st233⟩
      replace f5 := f5.st st233 (by decide)
      replace f900000 := f900000.st st233 (by decide)
      replace f900019 := f900019.st st233 (by decide)
      replace f900020 := f900020.st st233 (by decide)
      replace f900021 := f900021.st st233 (by decide)
      replace hs := hs.loc0 st233 (by decide)
      have hk := hk.put 45 (.int .i64 t229) rfl
      refine ⟨.inr ⟨f5.now, trivial⟩, ?_⟩
      refine xd_take tab hk (k := 21) (is := [11, 12, 13]) (ls' := #[true, true, true, true, true, true, true, true, true, true, true, true, true, true, false, false, false, false, false, false, false, false, false, false, false, false, false, false, false, false, false, false, false, false, false]) (lv := []) (ks := [0, 3, 5, 51]) (e' := [(0, .pointer (some ⟨bp0, 0, none⟩)), (3, .pointer (some ⟨bx4, 0, none⟩)), (5, .string t9.1), (51, .bool (t229 == ((p1.Has).length : Int)))]) (by kernel_rfl) rfl rfl (by kernel_rfl) (np_then np_body) ⟨f5.now, trivial⟩ (fun W_ hS => trivial) fun a hk => ?_
      cases b234 : (t229 == ((p1.Has).length : Int))
      · rw [b234] at hk H
        replace H := bifF H
        refine xd_take tab hk (k := 0) (is := [14, 15, 16, 17, 18, 19, 20, 21, 22, 23, 24, 25, 26, 27, 28, 29, 30, 31, 32, 33, 34]) (ls' := #[true, true, true, true, true, true, true, true, true, true, true, true, true, true, true, true, true, true, true, true, true, true, true, true, true, true, true, true, true, true, true, true, true, true, true]) (lv := []) (ks := [4]) (e' := [(4, .bool false)]) (by kernel_rfl) rfl rfl (by kernel_rfl) (np_then np_body) ⟨f5.now, trivial⟩ (fun W_ hS => trivial) fun a hk => ?_
        refine xd_done (by kernel_rfl) ?_
        refine then_n ?_
        refine wpIn_ret ?_
        obtain rfl := Option.some.inj H
        exact x_retG hk (rs := [.tmp 4]) (vs := [.bool false]) rfl ⟨rfl, trivial⟩ ⟨fun b_ => if b_ < w.heap.size then o b_ else (fun _ => 0) (o232 b_), rfl, hs.close0 o (fun _ => 0)⟩
      · rw [b234] at hk H
        replace H := bifT H
        refine xd_take tab hk (k := 19) (is := [14, 16]) (ls' := #[true, true, true, true, true, true, true, true, true, true, true, true, true, true, true, false, true, false, false, false, false, false, false, false, false, false, false, false, false, false, false, false, false, false, false]) (lv := [.agg #[.int .i64 p1.Key, .slice Ap1_0 (p1.Has).length cp1_0, .slice Ap1_1 (p1.Parts).length cp1_1]]) (ks := [0, 3, 5, 51, 52, 54]) (e' := [(0, .pointer (some ⟨bp0, 0, none⟩)), (3, .pointer (some ⟨bx4, 0, none⟩)), (5, .string t9.1), (51, .bool true), (52, .pointer (some ⟨bp0, 0, none⟩)), (54, .agg #[.int .i64 p1.Key, .slice Ap1_0 (p1.Has).length cp1_0, .slice Ap1_1 (p1.Parts).length cp1_1])]) (by kernel_rfl) rfl rfl (by kernel_rfl) (np_then np_body) ⟨f5.now, trivial⟩ (fun W_ hS => ⟨(load_box tab rfl rfl hS.1 (k := 0) rfl rfl), trivial⟩) fun a hk => ?_
        refine xd_op hk (i := 15) (by kernel_rfl) rfl rfl ?_
        obtain ⟨t238, hc239, H⟩ := bindS H
        refine op_call hk ent_28 (vs := [.pointer (some ⟨bp0, 0, none⟩)]) rfl (parts_Slot_Have_calls K bp0 Ap0_0 cp0_0 p0 _ o232 0 f900019 _ f900000 hcp0_0 11  _ hc239) ?_
        rintro _ w240 ⟨o241, A243, c244, rfl, st242, f245, hc246⟩
        replace f5 := f5.st st242 (by decide)
        replace f900000 := f900000.st st242 (by decide)
        replace f900019 := f900019.st st242 (by decide)
        replace f900020 := f900020.st st242 (by decide)
        replace f900021 := f900021.st st242 (by decide)
        replace hs := hs.loc0 st242 (by decide)
        have hk := hk.put 53 (.slice A243 (t238).length c244) rfl
        refine ⟨.inr ⟨f5.now, trivial⟩, ?_⟩
        refine xd_op hk (i := 17) (by kernel_rfl) rfl rfl ?_
        obtain ⟨t250, hc251, H⟩ := bindS H
        refine op_call hk ent_29 (vs := [.agg #[.int .i64 p1.Key, .slice Ap1_0 (p1.Has).length cp1_0, .slice Ap1_1 (p1.Parts).length cp1_1], .bool true]) rfl (tidewrackref04_Which_calls K Ap1_0 cp1_0 Ap1_1 cp1_1 p1 true _ o241 _ f900020 hcp1_0 _ f900021 hcp1_1 12  _ hc251) ?_
        rintro _ w252 ⟨o253, A255, c256, rfl, st254, f257, hc258⟩
        replace f245 := f245.st st254 (by decide)
        replace f5 := f5.st st254 (by decide)
        replace f900000 := f900000.st st254 (by decide)
        replace f900019 := f900019.st st254 (by decide)
        replace f900020 := f900020.st st254 (by decide)
        replace f900021 := f900021.st st254 (by decide)
        replace hs := hs.loc0 st254 (by decide)
        have hk := hk.put 55 (.slice A255 (t250).length c256) rfl
        refine ⟨.inr ⟨f5.now, trivial⟩, ?_⟩
        refine xd_op hk (i := 18) (by kernel_rfl) rfl rfl ?_
        obtain ⟨t262, hc263, H⟩ := bindS H
        refine op_call hk ent_27 (vs := [.slice A243 (t238).length c244, .slice A255 (t250).length c256]) rfl (tidewracklaw01_Same_calls K A243 c244 t238 A255 c256 t250 _ o253 _ (f245.imp fun _ h_ => Own.rd h_) hc246 _ (f257.imp fun _ h_ => Own.rd h_) hc258   _ hc263) ?_
        rintro _ w264 ⟨o265, rfl, st266⟩
        replace f245 := f245.st st266 (by decide)
        replace f257 := f257.st st266 (by decide)
        replace f5 := f5.st st266 (by decide)
        replace f900000 := f900000.st st266 (by decide)
        replace f900019 := f900019.st st266 (by decide)
        replace f900020 := f900020.st st266 (by decide)
        replace f900021 := f900021.st st266 (by decide)
        replace hs := hs.loc0 st266 (by decide)
        have hk := hk.put 56 (.bool t262) rfl
        refine ⟨.inr ⟨f5.now, trivial⟩, ?_⟩
        refine xd_take tab hk (k := 14) (is := [19, 20]) (ls' := #[true, true, true, true, true, true, true, true, true, true, true, true, true, true, true, true, true, true, true, true, true, false, false, false, false, false, false, false, false, false, false, false, false, false, false]) (lv := []) (ks := [0, 3, 5, 58]) (e' := [(0, .pointer (some ⟨bp0, 0, none⟩)), (3, .pointer (some ⟨bx4, 0, none⟩)), (5, .string t9.1), (58, .bool t262)]) (by kernel_rfl) rfl rfl (by kernel_rfl) (np_then np_body) ⟨f5.now, trivial⟩ (fun W_ hS => trivial) fun a hk => ?_
        cases b267 : t262
        · rw [b267] at hk H
          replace H := bifF H
          refine xd_take tab hk (k := 0) (is := [21, 22, 23, 24, 25, 26, 27, 28, 29, 30, 31, 32, 33, 34]) (ls' := #[true, true, true, true, true, true, true, true, true, true, true, true, true, true, true, true, true, true, true, true, true, true, true, true, true, true, true, true, true, true, true, true, true, true, true]) (lv := []) (ks := [4]) (e' := [(4, .bool false)]) (by kernel_rfl) rfl rfl (by kernel_rfl) (np_then np_body) ⟨f5.now, trivial⟩ (fun W_ hS => trivial) fun a hk => ?_
          refine xd_done (by kernel_rfl) ?_
          refine then_n ?_
          refine wpIn_ret ?_
          obtain rfl := Option.some.inj H
          exact x_retG hk (rs := [.tmp 4]) (vs := [.bool false]) rfl ⟨rfl, trivial⟩ ⟨fun b_ => if b_ < w.heap.size then o b_ else (fun _ => 0) (o265 b_), rfl, hs.close0 o (fun _ => 0)⟩
        · rw [b267] at hk H
          replace H := bifT H
          refine xd_take tab hk (k := 12) (is := [21, 23]) (ls' := #[true, true, true, true, true, true, true, true, true, true, true, true, true, true, true, true, true, true, true, true, true, true, false, true, false, false, false, false, false, false, false, false, false, false, false]) (lv := [.agg #[.int .i64 p1.Key, .slice Ap1_0 (p1.Has).length cp1_0, .slice Ap1_1 (p1.Parts).length cp1_1]]) (ks := [0, 5, 58, 59, 61]) (e' := [(0, .pointer (some ⟨bp0, 0, none⟩)), (5, .string t9.1), (58, .bool true), (59, .pointer (some ⟨bp0, 0, none⟩)), (61, .agg #[.int .i64 p1.Key, .slice Ap1_0 (p1.Has).length cp1_0, .slice Ap1_1 (p1.Parts).length cp1_1])]) (by kernel_rfl) rfl rfl (by kernel_rfl) (np_then np_body) ⟨f5.now, trivial⟩ (fun W_ hS => ⟨(load_box tab rfl rfl hS.1 (k := 0) rfl rfl), trivial⟩) fun a hk => ?_
          refine xd_op hk (i := 22) (by kernel_rfl) rfl rfl ?_
          obtain ⟨t271, hc272, H⟩ := bindS H
          refine op_call hk ent_13 (vs := [.pointer (some ⟨bp0, 0, none⟩)]) rfl (parts_Slot_Lacks_calls K bp0 Ap0_0 cp0_0 p0 _ o265 0 f900019 _ f900000 hcp0_0 13  _ hc272) ?_
          rintro _ w273 ⟨o274, A276, c277, rfl, st275, f278, hc279⟩
          replace f245 := f245.st st275 (by decide)
          replace f257 := f257.st st275 (by decide)
          replace f5 := f5.st st275 (by decide)
          replace f900000 := f900000.st st275 (by decide)
          replace f900019 := f900019.st st275 (by decide)
          replace f900020 := f900020.st st275 (by decide)
          replace f900021 := f900021.st st275 (by decide)
          replace hs := hs.loc0 st275 (by decide)
          have hk := hk.put 60 (.slice A276 (t271).length c277) rfl
          refine ⟨.inr ⟨f5.now, trivial⟩, ?_⟩
          refine xd_op hk (i := 24) (by kernel_rfl) rfl rfl ?_
          obtain ⟨t283, hc284, H⟩ := bindS H
          refine op_call hk ent_29 (vs := [.agg #[.int .i64 p1.Key, .slice Ap1_0 (p1.Has).length cp1_0, .slice Ap1_1 (p1.Parts).length cp1_1], .bool false]) rfl (tidewrackref04_Which_calls K Ap1_0 cp1_0 Ap1_1 cp1_1 p1 false _ o274 _ f900020 hcp1_0 _ f900021 hcp1_1 14  _ hc284) ?_
          rintro _ w285 ⟨o286, A288, c289, rfl, st287, f290, hc291⟩
          replace f245 := f245.st st287 (by decide)
          replace f257 := f257.st st287 (by decide)
          replace f278 := f278.st st287 (by decide)
          replace f5 := f5.st st287 (by decide)
          replace f900000 := f900000.st st287 (by decide)
          replace f900019 := f900019.st st287 (by decide)
          replace f900020 := f900020.st st287 (by decide)
          replace f900021 := f900021.st st287 (by decide)
          replace hs := hs.loc0 st287 (by decide)
          have hk := hk.put 62 (.slice A288 (t283).length c289) rfl
          refine ⟨.inr ⟨f5.now, trivial⟩, ?_⟩
          refine xd_op hk (i := 25) (by kernel_rfl) rfl rfl ?_
          obtain ⟨t295, hc296, H⟩ := bindS H
          refine op_call hk ent_27 (vs := [.slice A276 (t271).length c277, .slice A288 (t283).length c289]) rfl (tidewracklaw01_Same_calls K A276 c277 t271 A288 c289 t283 _ o286 _ (f278.imp fun _ h_ => Own.rd h_) hc279 _ (f290.imp fun _ h_ => Own.rd h_) hc291   _ hc296) ?_
          rintro _ w297 ⟨o298, rfl, st299⟩
          replace f245 := f245.st st299 (by decide)
          replace f257 := f257.st st299 (by decide)
          replace f278 := f278.st st299 (by decide)
          replace f290 := f290.st st299 (by decide)
          replace f5 := f5.st st299 (by decide)
          replace f900000 := f900000.st st299 (by decide)
          replace f900019 := f900019.st st299 (by decide)
          replace f900020 := f900020.st st299 (by decide)
          replace f900021 := f900021.st st299 (by decide)
          replace hs := hs.loc0 st299 (by decide)
          have hk := hk.put 63 (.bool t295) rfl
          refine ⟨.inr ⟨f5.now, trivial⟩, ?_⟩
          refine xd_take tab hk (k := 7) (is := [26, 27]) (ls' := #[true, true, true, true, true, true, true, true, true, true, true, true, true, true, true, true, true, true, true, true, true, true, true, true, true, true, true, true, false, false, false, false, false, false, false]) (lv := []) (ks := [0, 5, 65]) (e' := [(0, .pointer (some ⟨bp0, 0, none⟩)), (5, .string t9.1), (65, .bool t295)]) (by kernel_rfl) rfl rfl (by kernel_rfl) (np_then np_body) ⟨f5.now, trivial⟩ (fun W_ hS => trivial) fun a hk => ?_
          cases b300 : t295
          · rw [b300] at hk H
            replace H := bifF H
            refine xd_take tab hk (k := 0) (is := [28, 29, 30, 31, 32, 33, 34]) (ls' := #[true, true, true, true, true, true, true, true, true, true, true, true, true, true, true, true, true, true, true, true, true, true, true, true, true, true, true, true, true, true, true, true, true, true, true]) (lv := []) (ks := [4]) (e' := [(4, .bool false)]) (by kernel_rfl) rfl rfl (by kernel_rfl) (np_then np_body) ⟨f5.now, trivial⟩ (fun W_ hS => trivial) fun a hk => ?_
            refine xd_done (by kernel_rfl) ?_
            refine then_n ?_
            refine wpIn_ret ?_
            obtain rfl := Option.some.inj H
            exact x_retG hk (rs := [.tmp 4]) (vs := [.bool false]) rfl ⟨rfl, trivial⟩ ⟨fun b_ => if b_ < w.heap.size then o b_ else (fun _ => 0) (o298 b_), rfl, hs.close0 o (fun _ => 0)⟩
          · rw [b300] at hk H
            replace H := bifT H
            refine xd_take tab hk (k := 4) (is := [28, 30, 31]) (ls' := #[true, true, true, true, true, true, true, true, true, true, true, true, true, true, true, true, true, true, true, true, true, true, true, true, true, true, true, true, true, false, true, true, false, false, false]) (lv := []) (ks := [65, 66, 69]) (e' := [(65, .bool true), (66, .pointer (some ⟨bp0, 0, none⟩)), (69, .int .i64 ((t9.1).size : Int))]) (by kernel_rfl) rfl rfl (by kernel_rfl) (np_then np_body) ⟨f5.now, trivial⟩ (fun W_ hS => trivial) fun a hk => ?_
            refine xd_op hk (i := 29) (by kernel_rfl) rfl rfl ?_
            obtain ⟨t304, hc305, H⟩ := bindS H
            refine op_call hk ent_14 (vs := [.pointer (some ⟨bp0, 0, none⟩)]) rfl (parts_Slot_Bytes_calls bp0 Ap0_0 cp0_0 p0 _ o298 0 f900019 _ f900000 hcp0_0   _ hc305) ?_
            rintro _ w306 ⟨o307, rfl, st308⟩
            replace f245 := f245.st st308 (by decide)
            replace f257 := f257.st st308 (by decide)
            replace f278 := f278.st st308 (by decide)
            replace f290 := f290.st st308 (by decide)
            replace f5 := f5.st st308 (by decide)
            replace f900000 := f900000.st st308 (by decide)
            replace f900019 := f900019.st st308 (by decide)
            replace f900020 := f900020.st st308 (by decide)
            replace f900021 := f900021.st st308 (by decide)
            replace hs := hs.loc0 st308 (by decide)
            have hk := hk.put 67 (.int .i64 t304) rfl
            refine ⟨.inr ⟨f5.now, trivial⟩, ?_⟩
            refine xd_take tab hk (k := 0) (is := [32, 33, 34]) (ls' := #[true, true, true, true, true, true, true, true, true, true, true, true, true, true, true, true, true, true, true, true, true, true, true, true, true, true, true, true, true, true, true, true, true, true, true]) (lv := []) (ks := [4]) (e' := [(4, .bool (t304 == ((t9.1).size : Int)))]) (by kernel_rfl) rfl rfl (by kernel_rfl) (np_then np_body) ⟨f5.now, trivial⟩ (fun W_ hS => trivial) fun a hk => ?_
            refine xd_done (by kernel_rfl) ?_
            refine then_n ?_
            refine wpIn_ret ?_
            obtain rfl := Option.some.inj H
            exact x_retG hk (rs := [.tmp 4]) (vs := [.bool (t304 == ((t9.1).size : Int))]) rfl ⟨rfl, trivial⟩ ⟨fun b_ => if b_ < w.heap.size then o b_ else (fun _ => 0) (o307 b_), rfl, hs.close0 o (fun _ => 0)⟩
  refine x_seq ?_
  refine wpIn_region_lit ?_
  refine x_run tab hk (k := 4) (lv := []) (ks := [0, 3, 5, 6, 7, 22]) (e' := [(0, .pointer (some ⟨bp0, 0, none⟩)), (3, .pointer (some ⟨bx4, 0, none⟩)), (5, .string t9.1), (6, .bool t9.2), (7, .string t17.1), (22, .bool (!(t17.2 == t9.2)))]) rfl trivial fun a hk => ?_
  cases b309 : (!(t17.2 == t9.2))
  · rw [b309] at hk H
    replace H := bifF H
    refine x_run tab hk (k := 2) (lv := []) (ks := [0, 3, 5, 6, 7, 22, 24]) (e' := [(0, .pointer (some ⟨bp0, 0, none⟩)), (3, .pointer (some ⟨bx4, 0, none⟩)), (5, .string t9.1), (6, .bool t9.2), (7, .string t17.1), (22, .bool false), (24, .bool t9.2)]) rfl trivial fun a hk => ?_
    cases b310 : t9.2
    · rw [b310] at hk H
      replace H := bifF H
      refine x_run tab hk (k := 10) (lv := []) (ks := [0, 3, 5, 30, 33, 34]) (e' := [(0, .pointer (some ⟨bp0, 0, none⟩)), (3, .pointer (some ⟨bx4, 0, none⟩)), (5, .string t9.1), (30, .bool false), (33, .bool true), (34, .string t17.1)]) rfl trivial fun a hk => ?_
      refine x_run tab hk (k := 3) (lv := []) (ks := [0, 3, 5, 37]) (e' := [(0, .pointer (some ⟨bp0, 0, none⟩)), (3, .pointer (some ⟨bx4, 0, none⟩)), (5, .string t9.1), (37, .bool (!(ByteArray.toList t17.1 == ByteArray.toList (⟨#[]⟩ : ByteArray))))]) rfl trivial fun a hk => ?_
      refine wpListIn_nil ?_
      refine then_n ?_
      cases b311 : (!(ByteArray.toList t17.1 == ByteArray.toList (⟨#[]⟩ : ByteArray)))
      · rw [b311] at hk H
        replace H := bifF H
        refine x_if hk (b := false) rfl ?_
        refine (show Code.wpIn _ _ _ _ _ _ _ from ?_)
        refine wpIn_skip ?_
        refine then_n ?_
        exact ⟨(fun b_ => (fun l_ => if l_ = 1 then 2 else l_) (o20 b_)), (by exact Kn.pick (ks := [0, 3, 5]) hk rfl), (hs.relab0 (fun l_ => if l_ = 1 then 2 else l_) rfl), (f5.relab (fun l_ => if l_ = 1 then 2 else l_) rfl), (f900000.relab (fun l_ => if l_ = 1 then 2 else l_) rfl), (f900019.relab (fun l_ => if l_ = 1 then 2 else l_) rfl), (f900020.relab (fun l_ => if l_ = 1 then 2 else l_) rfl), (f900021.relab (fun l_ => if l_ = 1 then 2 else l_) rfl), H⟩
      · rw [b311] at hk H
        replace H := bifT H
        refine x_if hk (b := true) rfl ?_
        refine (show Code.wpIn _ _ _ _ _ _ _ from ?_)
        refine x_seq ?_
        refine wpIn_region_lit ?_
        refine x_run tab hk (k := 1) (lv := []) (ks := [4]) (e' := [(4, .bool false)]) rfl trivial fun a hk => ?_
        refine wpListIn_nil ?_
        refine then_n ?_
        refine wpIn_ret ?_
        refine then_r ?_
        obtain rfl := Option.some.inj H
        exact x_retG hk (rs := [.tmp 4]) (vs := [.bool false]) rfl ⟨rfl, trivial⟩ ⟨fun b_ => if b_ < w.heap.size then o b_ else (fun _ => 0) (o20 b_), rfl, hs.close0 o (fun _ => 0)⟩
    · rw [b310] at hk H
      replace H := bifT H
      refine x_run tab hk (k := 6) (lv := []) (ks := [0, 3, 5, 6, 7, 30]) (e' := [(0, .pointer (some ⟨bp0, 0, none⟩)), (3, .pointer (some ⟨bx4, 0, none⟩)), (5, .string t9.1), (6, .bool true), (7, .string t17.1), (30, .bool (!(ByteArray.toList t17.1 == ByteArray.toList t9.1)))]) rfl trivial fun a hk => ?_
      cases b312 : (!(ByteArray.toList t17.1 == ByteArray.toList t9.1))
      · rw [b312] at hk H
        replace H := bifF H
        refine x_run tab hk (k := 7) (lv := []) (ks := [0, 3, 5, 37]) (e' := [(0, .pointer (some ⟨bp0, 0, none⟩)), (3, .pointer (some ⟨bx4, 0, none⟩)), (5, .string t9.1), (37, .bool false)]) rfl trivial fun a hk => ?_
        refine wpListIn_nil ?_
        refine then_n ?_
        refine x_if hk (b := false) rfl ?_
        refine (show Code.wpIn _ _ _ _ _ _ _ from ?_)
        refine wpIn_skip ?_
        refine then_n ?_
        exact ⟨(fun b_ => (fun l_ => if l_ = 1 then 2 else l_) (o20 b_)), (by exact Kn.pick (ks := [0, 3, 5]) hk rfl), (hs.relab0 (fun l_ => if l_ = 1 then 2 else l_) rfl), (f5.relab (fun l_ => if l_ = 1 then 2 else l_) rfl), (f900000.relab (fun l_ => if l_ = 1 then 2 else l_) rfl), (f900019.relab (fun l_ => if l_ = 1 then 2 else l_) rfl), (f900020.relab (fun l_ => if l_ = 1 then 2 else l_) rfl), (f900021.relab (fun l_ => if l_ = 1 then 2 else l_) rfl), H⟩
      · rw [b312] at hk H
        replace H := bifT H
        refine x_run tab hk (k := 7) (lv := []) (ks := [0, 3, 5, 37]) (e' := [(0, .pointer (some ⟨bp0, 0, none⟩)), (3, .pointer (some ⟨bx4, 0, none⟩)), (5, .string t9.1), (37, .bool true)]) rfl trivial fun a hk => ?_
        refine wpListIn_nil ?_
        refine then_n ?_
        refine x_if hk (b := true) rfl ?_
        refine (show Code.wpIn _ _ _ _ _ _ _ from ?_)
        refine x_seq ?_
        refine wpIn_region_lit ?_
        refine x_run tab hk (k := 1) (lv := []) (ks := [4]) (e' := [(4, .bool false)]) rfl trivial fun a hk => ?_
        refine wpListIn_nil ?_
        refine then_n ?_
        refine wpIn_ret ?_
        refine then_r ?_
        obtain rfl := Option.some.inj H
        exact x_retG hk (rs := [.tmp 4]) (vs := [.bool false]) rfl ⟨rfl, trivial⟩ ⟨fun b_ => if b_ < w.heap.size then o b_ else (fun _ => 0) (o20 b_), rfl, hs.close0 o (fun _ => 0)⟩
  · rw [b309] at hk H
    replace H := bifT H
    refine x_run tab hk (k := 14) (lv := []) (ks := [0, 3, 5, 30, 36]) (e' := [(0, .pointer (some ⟨bp0, 0, none⟩)), (3, .pointer (some ⟨bx4, 0, none⟩)), (5, .string t9.1), (30, .bool true), (36, undef)]) rfl trivial fun a hk => ?_
    refine x_run tab hk (k := 1) (lv := []) (ks := [0, 3, 5, 37]) (e' := [(0, .pointer (some ⟨bp0, 0, none⟩)), (3, .pointer (some ⟨bx4, 0, none⟩)), (5, .string t9.1), (37, .bool true)]) rfl trivial fun a hk => ?_
    refine wpListIn_nil ?_
    refine then_n ?_
    refine x_if hk (b := true) rfl ?_
    refine (show Code.wpIn _ _ _ _ _ _ _ from ?_)
    refine x_seq ?_
    refine wpIn_region_lit ?_
    refine x_run tab hk (k := 1) (lv := []) (ks := [4]) (e' := [(4, .bool false)]) rfl trivial fun a hk => ?_
    refine wpListIn_nil ?_
    refine then_n ?_
    refine wpIn_ret ?_
    refine then_r ?_
    obtain rfl := Option.some.inj H
    exact x_retG hk (rs := [.tmp 4]) (vs := [.bool false]) rfl ⟨rfl, trivial⟩ ⟨fun b_ => if b_ < w.heap.size then o b_ else (fun _ => 0) (o20 b_), rfl, hs.close0 o (fun _ => 0)⟩

/-! (*tidewrack/parts.Slot).Forget -/
theorem parts_Slot_Forget_calls (bp0 : Nat) (Ap0_0 : Option Addr) (cp0_0 : Nat) (p0 : T29) (w : World) (o : Nat → Nat) (Lp0 : Nat) (hp0 : Ft (Bx bp0 30 [.int .i64 p0.key, .int .i64 p0.count, mv Ap0_0, .int .i64 p0.bytes]) w o Lp0) (Lp0_0 : Nat) (hp0_0 : Ft (MpF encStr false Ap0_0 p0.parts) w o Lp0_0) (hcp0_0 : (p0.parts).length ≤ cp0_0) (hd0 : ([Lp0, Lp0_0] : List Nat).Nodup) (r : T29) (H : parts_Slot_Forget p0 = some r) :
    Calls Try.prog 17 #[.pointer (some ⟨bp0, 0, none⟩)] w (Ret fun v_ w' => ∃ o' : Nat → Nat, ∃ A0 : Option Addr, ∃ c0 : Nat, v_ = .tuple #[] ∧ St [Lp0, Lp0_0] w o w' o' ∧ Ft (Bx bp0 30 [.int .i64 r.key, .int .i64 r.count, mv A0, .int .i64 r.bytes]) w' o' Lp0 ∧ Ft (MpF encStr false A0 r.parts) w' o' Lp0_0 ∧ (r.parts).length ≤ c0) := by
  refine x_enter (vs := [.pointer (some ⟨bp0, 0, none⟩)]) Try.func17 rfl rfl rfl fun a hk => ?_
  obtain ⟨oi, hs0, h0, h1, hob, hoz, hoa⟩ := St.startM2 w o (m := 2) hd0 rfl
  have hs := hs0 [1, 2]
  have hom := lab_in hob (MM := [1, 2]) (by decide)
  have f900000 := h1 1 2 hp0_0 rfl rfl
  have f900019 := h1 0 1 hp0 rfl rfl
  clear h0 h1 hs0
  rw [parts_Slot_Forget] at H
  refine wpIn_region_lit ?_
  refine x_run tab hk (k := 3) (lv := []) (ks := [3, 4]) (e' := [(3, .agg #[.int .i64 0, .int .i64 0, mv none, .int .i64 0]), (4, .pointer (some ⟨bp0, 0, none⟩))]) rfl trivial fun a hk => ?_
  refine x_op hk rfl ?_
  refine op_store tab hk (t := 30) (v := .agg #[.int .i64 0, .int .i64 0, mv none, .int .i64 0]) (b := bp0) (k := 0) (cs' := [.int .i64 0, .int .i64 0, mv none, .int .i64 0]) rfl rfl rfl rfl rfl rfl f900019 rfl rfl fun w1 o2 st3 f900019_ => ?_
  replace f900000 := f900000.st st3 (by decide)
  replace hs := hs.locM st3 (by decide) hom
  replace f900019 := f900019_
  refine wpListIn_nil ?_
  obtain rfl := Option.some.inj H
  exact x_endG hk (rs := []) (vs := []) rfl trivial ⟨fun b_ => if b_ < w.heap.size then o b_ else (fun l_ => if l_ = 1 then Lp0 else 0) (o2 b_), none, 0, rfl, hs.closeM hoz (by decide) (fun l_ => if l_ = 1 then Lp0 else 0), hs.closeM_ft (o := o) (ρ := fun l_ => if l_ = 1 then Lp0 else 0) f900019 (lab_at hoa (i := 0) rfl) rfl, (Ft.of_all (fun _ => MpF.nil _ _ _) _ _ _), (Nat.le_refl _)⟩

/-! tidewrack/tidewrackref04.Put -/
set_option maxHeartbeats 4000000 in
theorem tidewrackref04_Put_calls (Ap0_0 : Option Addr) (cp0_0 : Nat) (Ap0_1 : Option Addr) (cp0_1 : Nat) (p0 : T40) (p1 : Int) (p2 : Int) (p3 : Int) (p4 : ByteArray) (w : World) (o : Nat → Nat) (Lp0_0 : Nat) (hp0_0 : Ft (RdC encBool Ap0_0 p0.Has) w o Lp0_0) (hcp0_0 : (p0.Has).length ≤ cp0_0) (Lp0_1 : Nat) (hp0_1 : Ft (RdC encStr Ap0_1 p0.Parts) w o Lp0_1) (hcp0_1 : (p0.Parts).length ≤ cp0_1) (hd0 : ([Lp0_0, Lp0_1] : List Nat).Nodup) (r : T40 × Int) (H : tidewrackref04_Put p0 p1 p2 p3 p4 = some r) :
    Calls Try.prog 18 #[.agg #[.int .i64 p0.Key, .slice Ap0_0 (p0.Has).length cp0_0, .slice Ap0_1 (p0.Parts).length cp0_1], .int .i64 p1, .int .i64 p2, .int .i64 p3, .string p4] w (Ret fun v_ w' => ∃ o' : Nat → Nat, ∃ A0 : Option Addr, ∃ c0 : Nat, ∃ A1 : Option Addr, ∃ c1 : Nat, v_ = .tuple #[.agg #[.int .i64 r.1.Key, .slice A0 (r.1.Has).length c0, .slice A1 (r.1.Parts).length c1], .int .i64 r.2] ∧ St [] w o w' o' ∧ Ft (RdC encBool A0 r.1.Has) w' o' Lp0_0 ∧ (r.1.Has).length ≤ c0 ∧ Ft (RdC encStr A1 r.1.Parts) w' o' Lp0_1 ∧ (r.1.Parts).length ≤ c1) := by
  refine x_enter (vs := [.agg #[.int .i64 p0.Key, .slice Ap0_0 (p0.Has).length cp0_0, .slice Ap0_1 (p0.Parts).length cp0_1], .int .i64 p1, .int .i64 p2, .int .i64 p3, .string p4]) Try.func18 rfl rfl rfl fun a hk => ?_
  obtain ⟨oi, hs0, h0, h1, hob, hoz, hoa⟩ := St.startM2 w o (m := 2) hd0 rfl
  have hs := hs0 []
  have f900000 := h1 0 1 hp0_0 rfl rfl
  have f900001 := h1 1 2 hp0_1 rfl rfl
  clear h0 h1 hs0
  rw [tidewrackref04_Put] at H
  refine x_seq ?_
  refine wpIn_region_lit ?_
  refine x_op hk rfl ?_
  refine op_box (o := oi) (t := 41) (v := .agg #[.int .i64 p0.Key, .slice Ap0_0 (p0.Has).length cp0_0, .slice Ap0_1 (p0.Parts).length cp0_1]) (cs := [.int .i64 p0.Key, .slice Ap0_0 (p0.Has).length cp0_0, .slice Ap0_1 (p0.Parts).length cp0_1]) hk rfl rfl 3 fun bx4 w1 o2 st3 f5 => ?_
  replace f900000 := f900000.st st3 (by decide)
  replace f900001 := f900001.st st3 (by decide)
  replace hs := hs.locQ st3 hob rfl
  have hk := hk.put 5 (.pointer (some ⟨bx4, 0, none⟩)) rfl
  refine x_op hk rfl ?_
  refine op_alloc (o := o2) tab (t := 41) (cs := [.int .i64 0, .slice none 0 0, .slice none 0 0]) rfl rfl 4 fun bx9 w6 o7 st8 f10 => ?_
  replace f5 := f5.st st8 (by decide)
  replace f900000 := f900000.st st8 (by decide)
  replace f900001 := f900001.st st8 (by decide)
  replace hs := hs.locQ st8 hob rfl
  have hk := hk.put 10 (.pointer (some ⟨bx9, 0, none⟩)) rfl
  refine x_run tab hk (k := 1) (lv := []) (ks := [1, 2, 3, 4, 5, 10]) (e' := [(1, .int .i64 p1), (2, .int .i64 p2), (3, .int .i64 p3), (4, .string p4), (5, .pointer (some ⟨bx4, 0, none⟩)), (10, .pointer (some ⟨bx9, 0, none⟩))]) rfl trivial fun a hk => ?_
  refine wpListIn_nil ?_
  refine then_n ?_
  refine x_mid (fun a_ w_ => ∃ o35 : Nat → Nat, Kn 80 a_ [(1, .int .i64 p1), (2, .int .i64 p2), (3, .int .i64 p3), (4, .string p4), (5, .pointer (some ⟨bx4, 0, none⟩)), (10, .pointer (some ⟨bx9, 0, none⟩))] ∧ St [] w oi w_ o35 ∧ Ft (Bx bx9 41 [.int .i64 0, .slice none 0 0, .slice none 0 0]) w_ o35 8 ∧ Ft (Bx bx4 41 [.int .i64 p0.Key, .slice Ap0_0 (p0.Has).length cp0_0, .slice Ap0_1 (p0.Parts).length cp0_1]) w_ o35 7 ∧ Ft (RdC encBool Ap0_0 p0.Has) w_ o35 1 ∧ Ft (RdC encStr Ap0_1 p0.Parts) w_ o35 2 ∧ tidewrackref04_Put_j1 p0 p1 p2 p3 p4 = some r) ?_ ?_
  rotate_left
  · rintro a w36 ⟨o35, hk, hs, f10, f5, f900000, f900001, H⟩
    rw [tidewrackref04_Put_j1] at H
    refine x_seq ?_
    refine x_seq ?_
    refine wpIn_region_lit ?_
    refine x_run tab hk (k := 4) (lv := [.int .i64 p0.Key]) (ks := [1, 2, 3, 4, 5, 10, 36]) (e' := [(1, .int .i64 p1), (2, .int .i64 p2), (3, .int .i64 p3), (4, .string p4), (5, .pointer (some ⟨bx4, 0, none⟩)), (10, .pointer (some ⟨bx9, 0, none⟩)), (36, .bool (decide (p1 < p0.Key)))]) rfl ⟨(load1 tab rfl ((Bx.cell f5.now 0).trans rfl)), trivial⟩ fun a hk => ?_
    refine wpListIn_nil ?_
    refine then_n ?_
    cases b37 : (decide (p1 < p0.Key))
    · rw [b37] at hk H
      replace H := bifF H
      refine x_if hk (b := false) rfl ?_
      refine (show Code.wpIn _ _ _ _ _ _ _ from ?_)
      refine wpIn_skip ?_
      refine then_n ?_
      refine x_seq ?_
      refine x_cut (fun a_ w_ => ∃ o399 : Nat → Nat, ∃ bx400 : Nat, ∃ A402 : Option Addr, ∃ c403 : Nat, ∃ A406 : Option Addr, ∃ c407 : Nat, Kn 80 a_ [(1, .int .i64 p1), (2, .int .i64 p2), (3, .int .i64 p3), (4, .string p4), (5, .pointer (some ⟨bx4, 0, none⟩)), (10, .pointer (some ⟨bx9, 0, none⟩)), (12, .pointer (some ⟨bx400, 0, none⟩))] ∧ St [] w oi w_ o399 ∧ Ft (Bx bx9 41 [.int .i64 0, .slice none 0 0, .slice none 0 0]) w_ o399 64 ∧ Ft (Bx bx400 41 [.int .i64 p1, .slice A402 ((List.replicate (Int.toNat p3) (false : Bool))).length c403, .slice A406 ((List.replicate (Int.toNat p3) ((⟨#[]⟩ : ByteArray) : ByteArray))).length c407]) w_ o399 67 ∧ Ft (Own encBool 4 (.slice A402 ((List.replicate (Int.toNat p3) (false : Bool))).length c403) (List.replicate (Int.toNat p3) (false : Bool))) w_ o399 65 ∧ Ft (Own encStr 9 (.slice A406 ((List.replicate (Int.toNat p3) ((⟨#[]⟩ : ByteArray) : ByteArray))).length c407) (List.replicate (Int.toNat p3) ((⟨#[]⟩ : ByteArray) : ByteArray))) w_ o399 66 ∧ Ft (Bx bx4 41 [.int .i64 p0.Key, .slice Ap0_0 (p0.Has).length cp0_0, .slice Ap0_1 (p0.Parts).length cp0_1]) w_ o399 63 ∧ Ft (RdC encBool Ap0_0 p0.Has) w_ o399 1 ∧ Ft (RdC encStr Ap0_1 p0.Parts) w_ o399 2 ∧ ((List.replicate (Int.toNat p3) (false : Bool))).length ≤ c403 ∧ ((List.replicate (Int.toNat p3) ((⟨#[]⟩ : ByteArray) : ByteArray))).length ≤ c407 ∧ tidewrackref04_Put_j2 p0 p1 p2 p3 p4 = some r) ?_ ?_
      rotate_left
      · rintro a w410 ⟨o399, bx400, A402, c403, A406, c407, hk, hs, f10, f401, f404, f408, f5, f900000, f900001, hc405, hc409, H⟩
        rw [tidewrackref04_Put_j2] at H
        refine then_n ?_
        refine x_mid (fun a_ w_ => ∃ o439 : Nat → Nat, ∃ A440 : Option Addr, ∃ c441 : Nat, ∃ l442 : List Bool, ∃ A445 : Option Addr, ∃ c446 : Nat, ∃ l447 : List ByteArray, Kn 80 a_ [(2, .int .i64 p2), (4, .string p4), (10, .pointer (some ⟨bx9, 0, none⟩)), (12, .pointer (some ⟨bx400, 0, none⟩))] ∧ St [] w oi w_ o439 ∧ Ft (Bx bx9 41 [.int .i64 0, .slice none 0 0, .slice none 0 0]) w_ o439 68 ∧ Ft (Bx bx400 41 [.int .i64 p1, .slice A440 (l442).length c441, .slice A445 (l447).length c446]) w_ o439 71 ∧ Ft (Own encBool 4 (.slice A440 (l442).length c441) l442) w_ o439 69 ∧ Ft (Own encStr 9 (.slice A445 (l447).length c446) l447) w_ o439 70 ∧ (l442).length ≤ c441 ∧ (l447).length ≤ c446 ∧ tidewrackref04_Put_j3 p1 p2 p4 l442 l447 = some r) ?_ ?_
        rotate_left
        · rintro a w450 ⟨o439, A440, c441, l442, A445, c446, l447, hk, hs, f10, f401, f443, f448, hc444, hc449, H⟩
          rw [tidewrackref04_Put_j3] at H
          refine x_seq ?_
          refine x_seq ?_
          refine wpIn_region_lit ?_
          obtain ⟨q451, H⟩ := ifS H
          obtain ⟨ad452, hAad452⟩ := RdC.addr (Own.rd f443.now) q451
          have hk_C := hk
          have f10_C := f10
          have f401_C := f401
          have f443_C := f443
          have f448_C := f448
          subst hAad452
          have hk := hk_C
          clear hk_C
          have f10 := f10_C
          clear f10_C
          have f401 := f401_C
          clear f401_C
          have f443 := f443_C
          clear f443_C
          have f448 := f448_C
          clear f448_C
          refine x_run tab hk (k := 6) (lv := [.slice (some ad452) (l442).length c441, .bool (rdD false l442 p2)]) (ks := [2, 4, 10, 12, 69]) (e' := [(2, .int .i64 p2), (4, .string p4), (10, .pointer (some ⟨bx9, 0, none⟩)), (12, .pointer (some ⟨bx400, 0, none⟩)), (69, .bool (!(rdD false l442 p2)))]) rfl ⟨(load1 tab rfl ((Bx.cell f401.now 1).trans rfl)), q451, (load1 tab rfl (RdC.at0 (E := encBool) (d := false) (i := p2) (Own.rd f443.now) q451 rfl)), trivial⟩ fun a hk => ?_
          refine wpListIn_nil ?_
          refine then_n ?_
          cases b453 : (!(rdD false l442 p2))
          · rw [b453] at hk H
            replace H := bifF H
            refine x_if hk (b := false) rfl ?_
            refine (show Code.wpIn _ _ _ _ _ _ _ from ?_)
            refine wpIn_skip ?_
            refine then_n ?_
            refine x_seq ?_
            refine wpIn_region_lit ?_
            refine x_run tab hk (k := 1) (lv := [.agg #[.int .i64 p1, .slice (some ad452) (l442).length c441, .slice A445 (l447).length c446]]) (ks := [10, 79]) (e' := [(10, .pointer (some ⟨bx9, 0, none⟩)), (79, .agg #[.int .i64 p1, .slice (some ad452) (l442).length c441, .slice A445 (l447).length c446])]) rfl ⟨(load_box tab rfl rfl f401.now (k := 0) rfl rfl), trivial⟩ fun a hk => ?_
            refine x_op hk rfl ?_
            refine op_store tab hk (t := 41) (v := .agg #[.int .i64 p1, .slice (some ad452) (l442).length c441, .slice A445 (l447).length c446]) (b := bx9) (k := 0) (cs' := [.int .i64 p1, .slice (some ad452) (l442).length c441, .slice A445 (l447).length c446]) rfl rfl rfl rfl rfl rfl f10 rfl rfl fun w454 o455 st456 f10_ => ?_
            replace f443 := f443.st st456 (by decide)
            replace f448 := f448.st st456 (by decide)
            replace hs := hs.locQ st456 hob rfl
            replace f10 := f10_
            refine x_run tab hk (k := 1) (lv := []) (ks := [10, 11]) (e' := [(10, .pointer (some ⟨bx9, 0, none⟩)), (11, .int .i64 0)]) rfl trivial fun a hk => ?_
            refine wpListIn_nil ?_
            refine then_n ?_
            refine wpIn_ret ?_
            obtain rfl := Option.some.inj H
            exact x_retG hk (rs := [.cell 10 41, .tmp 11]) (vs := [.agg #[.int .i64 p1, .slice (some ad452) (l442).length c441, .slice A445 (l447).length c446], .int .i64 0]) rfl ⟨⟨_, rfl, load_box tab rfl rfl f10.now (k := 0) rfl rfl⟩, rfl, trivial⟩ ⟨fun b_ => if b_ < w.heap.size then o b_ else (fun l_ => if l_ = 69 then Lp0_0 else if l_ = 70 then Lp0_1 else 0) (o455 b_), (some ad452), c441, A445, c446, rfl, hs.closeQ (Lm := []) (Sh := [Lp0_0, Lp0_1]) hoa rfl (fun l_ => if l_ = 69 then Lp0_0 else if l_ = 70 then Lp0_1 else 0), ((hs.closeM_ft (o := o) (ρ := fun l_ => if l_ = 69 then Lp0_0 else if l_ = 70 then Lp0_1 else 0) f443 (lab_none hob rfl) rfl).imp fun _ h_ => Own.rd h_), hc444, ((hs.closeM_ft (o := o) (ρ := fun l_ => if l_ = 69 then Lp0_0 else if l_ = 70 then Lp0_1 else 0) f448 (lab_none hob rfl) rfl).imp fun _ h_ => Own.rd h_), hc449⟩
          · rw [b453] at hk H
            replace H := bifT H
            refine x_if hk (b := true) rfl ?_
            refine (show Code.wpIn _ _ _ _ _ _ _ from ?_)
            refine x_seq ?_
            refine wpIn_region_lit ?_
            refine x_run tab hk (k := 4) (lv := [.slice (some ad452) (l442).length c441]) (ks := [2, 4, 10, 12, 73]) (e' := [(2, .int .i64 p2), (4, .string p4), (10, .pointer (some ⟨bx9, 0, none⟩)), (12, .pointer (some ⟨bx400, 0, none⟩)), (73, .pointer (some (ad452.add (Int.toNat p2 * 1))))]) rfl ⟨(load1 tab rfl ((Bx.cell f401.now 1).trans rfl)), q451, trivial⟩ fun a hk => ?_
            refine x_op hk rfl ?_
            refine op_storeO tab hk (E := encBool) (i := p2) (j := 0) (dx := false) (y' := true) rfl rfl rfl f443 rfl q451 rfl rfl rfl rfl fun w457 o458 st459 f443_ => ?_
            replace f10 := f10.st st459 (by decide)
            replace f401 := f401.st st459 (by decide)
            replace f448 := f448.st st459 (by decide)
            replace hs := hs.locQ st459 hob rfl
            replace f443 := f443_
            have hl460 : (List.set l442 (Int.toNat p2) true).length = (l442).length := List.length_set
            replace hk := Kn.re hk [2, 4, 10, 12] (e2 := [(2, .int .i64 p2), (4, .string p4), (10, .pointer (some ⟨bx9, 0, none⟩)), (12, .pointer (some ⟨bx400, 0, none⟩))]) rfl rfl
            replace f401 : Ft (Bx bx400 41 [.int .i64 p1, .slice (some ad452) ((List.set l442 (Int.toNat p2) true)).length c441, .slice A445 (l447).length c446]) w457 o458 71 := by rw [hl460]; exact f401
            refine wpListIn_nil ?_
            refine then_n ?_
            refine wpIn_region_lit ?_
            obtain ⟨q461, H⟩ := ifS H
            obtain ⟨ad462, hAad462⟩ := RdC.addr (Own.rd f448.now) q461
            have hk_C := hk
            have f10_C := f10
            have f401_C := f401
            have f443_C := f443
            have f448_C := f448
            subst hAad462
            have hk := hk_C
            clear hk_C
            have f10 := f10_C
            clear f10_C
            have f401 := f401_C
            clear f401_C
            have f443 := f443_C
            clear f443_C
            have f448 := f448_C
            clear f448_C
            refine x_run tab hk (k := 5) (lv := [.slice (some ad462) (l447).length c446]) (ks := [10, 12, 77, 78]) (e' := [(10, .pointer (some ⟨bx9, 0, none⟩)), (12, .pointer (some ⟨bx400, 0, none⟩)), (77, .string p4), (78, .pointer (some (ad462.add (Int.toNat p2 * 1))))]) rfl ⟨(load1 tab rfl ((Bx.cell f401.now 2).trans rfl)), q461, trivial⟩ fun a hk => ?_
            refine x_op hk rfl ?_
            refine op_storeO tab hk (E := encStr) (i := p2) (j := 0) (dx := (⟨#[]⟩ : ByteArray)) (y' := p4) rfl rfl rfl f448 rfl q461 rfl rfl rfl rfl fun w463 o464 st465 f448_ => ?_
            replace f10 := f10.st st465 (by decide)
            replace f401 := f401.st st465 (by decide)
            replace f443 := f443.st st465 (by decide)
            replace hs := hs.locQ st465 hob rfl
            replace f448 := f448_
            have hl466 : (List.set l447 (Int.toNat p2) p4).length = (l447).length := List.length_set
            replace hk := Kn.re hk [10, 12, 77] (e2 := [(10, .pointer (some ⟨bx9, 0, none⟩)), (12, .pointer (some ⟨bx400, 0, none⟩)), (77, .string p4)]) rfl rfl
            replace f401 : Ft (Bx bx400 41 [.int .i64 p1, .slice (some ad452) ((List.set l442 (Int.toNat p2) true)).length c441, .slice (some ad462) ((List.set l447 (Int.toNat p2) p4)).length c446]) w463 o464 71 := by rw [hl466]; exact f401
            refine wpListIn_nil ?_
            refine then_n ?_
            refine x_seq ?_
            refine wpIn_region_lit ?_
            refine x_run tab hk (k := 1) (lv := [.agg #[.int .i64 p1, .slice (some ad452) ((List.set l442 (Int.toNat p2) true)).length c441, .slice (some ad462) ((List.set l447 (Int.toNat p2) p4)).length c446]]) (ks := [10, 79]) (e' := [(10, .pointer (some ⟨bx9, 0, none⟩)), (79, .agg #[.int .i64 p1, .slice (some ad452) ((List.set l442 (Int.toNat p2) true)).length c441, .slice (some ad462) ((List.set l447 (Int.toNat p2) p4)).length c446])]) rfl ⟨(load_box tab rfl rfl f401.now (k := 0) rfl rfl), trivial⟩ fun a hk => ?_
            refine x_op hk rfl ?_
            refine op_store tab hk (t := 41) (v := .agg #[.int .i64 p1, .slice (some ad452) ((List.set l442 (Int.toNat p2) true)).length c441, .slice (some ad462) ((List.set l447 (Int.toNat p2) p4)).length c446]) (b := bx9) (k := 0) (cs' := [.int .i64 p1, .slice (some ad452) ((List.set l442 (Int.toNat p2) true)).length c441, .slice (some ad462) ((List.set l447 (Int.toNat p2) p4)).length c446]) rfl rfl rfl rfl rfl rfl f10 rfl rfl fun w467 o468 st469 f10_ => ?_
            replace f443 := f443.st st469 (by decide)
            replace f448 := f448.st st469 (by decide)
            replace hs := hs.locQ st469 hob rfl
            replace f10 := f10_
            refine x_run tab hk (k := 1) (lv := []) (ks := [10, 11]) (e' := [(10, .pointer (some ⟨bx9, 0, none⟩)), (11, .int .i64 0)]) rfl trivial fun a hk => ?_
            refine wpListIn_nil ?_
            refine then_n ?_
            refine wpIn_ret ?_
            obtain rfl := Option.some.inj H
            exact x_retG hk (rs := [.cell 10 41, .tmp 11]) (vs := [.agg #[.int .i64 p1, .slice (some ad452) ((List.set l442 (Int.toNat p2) true)).length c441, .slice (some ad462) ((List.set l447 (Int.toNat p2) p4)).length c446], .int .i64 0]) rfl ⟨⟨_, rfl, load_box tab rfl rfl f10.now (k := 0) rfl rfl⟩, rfl, trivial⟩ ⟨fun b_ => if b_ < w.heap.size then o b_ else (fun l_ => if l_ = 69 then Lp0_0 else if l_ = 70 then Lp0_1 else 0) (o468 b_), (some ad452), c441, (some ad462), c446, rfl, hs.closeQ (Lm := []) (Sh := [Lp0_0, Lp0_1]) hoa rfl (fun l_ => if l_ = 69 then Lp0_0 else if l_ = 70 then Lp0_1 else 0), ((hs.closeM_ft (o := o) (ρ := fun l_ => if l_ = 69 then Lp0_0 else if l_ = 70 then Lp0_1 else 0) f443 (lab_none hob rfl) rfl).imp fun _ h_ => Own.rd h_), (by rw [List.length_set]; exact hc444), ((hs.closeM_ft (o := o) (ρ := fun l_ => if l_ = 69 then Lp0_0 else if l_ = 70 then Lp0_1 else 0) f448 (lab_none hob rfl) rfl).imp fun _ h_ => Own.rd h_), (by rw [List.length_set]; exact hc449)⟩
        refine x_seq ?_
        refine wpIn_region_lit ?_
        refine x_run tab hk (k := 4) (lv := [.int .i64 p0.Key]) (ks := [2, 3, 4, 5, 10, 12, 47]) (e' := [(2, .int .i64 p2), (3, .int .i64 p3), (4, .string p4), (5, .pointer (some ⟨bx4, 0, none⟩)), (10, .pointer (some ⟨bx9, 0, none⟩)), (12, .pointer (some ⟨bx400, 0, none⟩)), (47, .bool (p1 == p0.Key))]) rfl ⟨(load1 tab rfl ((Bx.cell f5.now 0).trans rfl)), trivial⟩ fun a hk => ?_
        refine wpListIn_nil ?_
        refine then_n ?_
        cases b470 : (p1 == p0.Key)
        · rw [b470] at hk H
          replace H := bifF H
          refine x_if hk (b := false) rfl ?_
          refine (show Code.wpIn _ _ _ _ _ _ _ from ?_)
          refine wpIn_skip ?_
          refine then_n ?_
          exact ⟨(fun b_ => (fun l_ => if l_ = 64 then 68 else if l_ = 65 then 69 else if l_ = 66 then 70 else if l_ = 67 then 71 else l_) (o399 b_)), A402, c403, (List.replicate (Int.toNat p3) (false : Bool)), A406, c407, (List.replicate (Int.toNat p3) ((⟨#[]⟩ : ByteArray) : ByteArray)), (by exact Kn.pick (ks := [2, 4, 10, 12]) hk rfl), (hs.relabM hob (fun l_ => if l_ = 64 then 68 else if l_ = 65 then 69 else if l_ = 66 then 70 else if l_ = 67 then 71 else l_) (by decide)), (f10.relab (fun l_ => if l_ = 64 then 68 else if l_ = 65 then 69 else if l_ = 66 then 70 else if l_ = 67 then 71 else l_) rfl), (f401.relab (fun l_ => if l_ = 64 then 68 else if l_ = 65 then 69 else if l_ = 66 then 70 else if l_ = 67 then 71 else l_) rfl), (f404.relab (fun l_ => if l_ = 64 then 68 else if l_ = 65 then 69 else if l_ = 66 then 70 else if l_ = 67 then 71 else l_) rfl), (f408.relab (fun l_ => if l_ = 64 then 68 else if l_ = 65 then 69 else if l_ = 66 then 70 else if l_ = 67 then 71 else l_) rfl), hc405, hc409, H⟩
        · rw [b470] at hk H
          replace H := bifT H
          refine x_if hk (b := true) rfl ?_
          refine (show Code.wpIn _ _ _ _ _ _ _ from ?_)
          refine x_seq ?_
          refine x_seq ?_
          refine wpIn_region_lit ?_
          refine x_run tab hk (k := 5) (lv := [.slice Ap0_0 (p0.Has).length cp0_0]) (ks := [2, 4, 5, 10, 12, 52]) (e' := [(2, .int .i64 p2), (4, .string p4), (5, .pointer (some ⟨bx4, 0, none⟩)), (10, .pointer (some ⟨bx9, 0, none⟩)), (12, .pointer (some ⟨bx400, 0, none⟩)), (52, .bool (p3 != ((p0.Has).length : Int)))]) rfl ⟨(load1 tab rfl ((Bx.cell f5.now 1).trans rfl)), trivial⟩ fun a hk => ?_
          refine wpListIn_nil ?_
          refine then_n ?_
          cases b471 : (p3 != ((p0.Has).length : Int))
          · rw [b471] at hk H
            replace H := bifF H
            refine x_if hk (b := false) rfl ?_
            refine (show Code.wpIn _ _ _ _ _ _ _ from ?_)
            refine wpIn_skip ?_
            refine then_n ?_
            refine x_seq ?_
            refine wpIn_region_lit ?_
            refine x_run tab hk (k := 4) (lv := [.slice A402 ((List.replicate (Int.toNat p3) (false : Bool))).length c403, .slice Ap0_0 (p0.Has).length cp0_0]) (ks := [2, 4, 5, 10, 12, 55, 57]) (e' := [(2, .int .i64 p2), (4, .string p4), (5, .pointer (some ⟨bx4, 0, none⟩)), (10, .pointer (some ⟨bx9, 0, none⟩)), (12, .pointer (some ⟨bx400, 0, none⟩)), (55, .slice A402 ((List.replicate (Int.toNat p3) (false : Bool))).length c403), (57, .slice Ap0_0 (p0.Has).length cp0_0)]) rfl ⟨(load1 tab rfl ((Bx.cell f401.now 1).trans rfl)), (load1 tab rfl ((Bx.cell f5.now 1).trans rfl)), trivial⟩ fun a hk => ?_
            refine x_op hk rfl ?_
            refine op_copy0 tab hk (E := encBool) (xs := (List.replicate (Int.toNat p3) (false : Bool))) (ys := p0.Has) rfl rfl hc405 rfl rfl f404 f900000.now fun w472 st474 f404_ => ?_
            replace f10 := f10.st st474 (by decide)
            replace f401 := f401.st st474 (by decide)
            replace f408 := f408.st st474 (by decide)
            replace f5 := f5.st st474 (by decide)
            replace f900000 := f900000.st st474 (by decide)
            replace f900001 := f900001.st st474 (by decide)
            replace hs := hs.locQ st474 hob rfl
            replace f404 := f404_
            have hl475 : (cpy 0 (List.replicate (Int.toNat p3) (false : Bool)) p0.Has).length = ((List.replicate (Int.toNat p3) (false : Bool))).length := cpy_len (Nat.zero_le _)
            replace hk := Kn.re hk [2, 4, 5, 10, 12, 55, 57] (e2 := [(2, .int .i64 p2), (4, .string p4), (5, .pointer (some ⟨bx4, 0, none⟩)), (10, .pointer (some ⟨bx9, 0, none⟩)), (12, .pointer (some ⟨bx400, 0, none⟩)), (55, .slice A402 ((cpy 0 (List.replicate (Int.toNat p3) (false : Bool)) p0.Has)).length c403), (57, .slice Ap0_0 (p0.Has).length cp0_0)]) rfl (by rw [hl475])
            replace f401 : Ft (Bx bx400 41 [.int .i64 p1, .slice A402 ((cpy 0 (List.replicate (Int.toNat p3) (false : Bool)) p0.Has)).length c403, .slice A406 ((List.replicate (Int.toNat p3) ((⟨#[]⟩ : ByteArray) : ByteArray))).length c407]) w472 o399 67 := by rw [hl475]; exact f401
            have hk := hk.put 58 (.int .i64 ((min (p0.Has).length (((List.replicate (Int.toNat p3) (false : Bool))).length - 0) : Nat) : Int)) rfl
            refine wpListIn_nil ?_
            refine then_n ?_
            refine wpIn_region_lit ?_
            refine x_run tab hk (k := 4) (lv := [.slice A406 ((List.replicate (Int.toNat p3) ((⟨#[]⟩ : ByteArray) : ByteArray))).length c407, .slice Ap0_1 (p0.Parts).length cp0_1]) (ks := [2, 4, 10, 12, 60, 62]) (e' := [(2, .int .i64 p2), (4, .string p4), (10, .pointer (some ⟨bx9, 0, none⟩)), (12, .pointer (some ⟨bx400, 0, none⟩)), (60, .slice A406 ((List.replicate (Int.toNat p3) ((⟨#[]⟩ : ByteArray) : ByteArray))).length c407), (62, .slice Ap0_1 (p0.Parts).length cp0_1)]) rfl ⟨(load1 tab rfl ((Bx.cell f401.now 2).trans rfl)), (load1 tab rfl ((Bx.cell f5.now 2).trans rfl)), trivial⟩ fun a hk => ?_
            refine x_op hk rfl ?_
            refine op_copy0 tab hk (E := encStr) (xs := (List.replicate (Int.toNat p3) ((⟨#[]⟩ : ByteArray) : ByteArray))) (ys := p0.Parts) rfl rfl hc409 rfl rfl f408 f900001.now fun w476 st478 f408_ => ?_
            replace f10 := f10.st st478 (by decide)
            replace f401 := f401.st st478 (by decide)
            replace f404 := f404.st st478 (by decide)
            replace f900001 := f900001.st st478 (by decide)
            replace hs := hs.locQ st478 hob rfl
            replace f408 := f408_
            have hl479 : (cpy 0 (List.replicate (Int.toNat p3) ((⟨#[]⟩ : ByteArray) : ByteArray)) p0.Parts).length = ((List.replicate (Int.toNat p3) ((⟨#[]⟩ : ByteArray) : ByteArray))).length := cpy_len (Nat.zero_le _)
            replace hk := Kn.re hk [2, 4, 10, 12, 60, 62] (e2 := [(2, .int .i64 p2), (4, .string p4), (10, .pointer (some ⟨bx9, 0, none⟩)), (12, .pointer (some ⟨bx400, 0, none⟩)), (60, .slice A406 ((cpy 0 (List.replicate (Int.toNat p3) ((⟨#[]⟩ : ByteArray) : ByteArray)) p0.Parts)).length c407), (62, .slice Ap0_1 (p0.Parts).length cp0_1)]) rfl (by rw [hl479])
            replace f401 : Ft (Bx bx400 41 [.int .i64 p1, .slice A402 ((cpy 0 (List.replicate (Int.toNat p3) (false : Bool)) p0.Has)).length c403, .slice A406 ((cpy 0 (List.replicate (Int.toNat p3) ((⟨#[]⟩ : ByteArray) : ByteArray)) p0.Parts)).length c407]) w476 o399 67 := by rw [hl479]; exact f401
            have hk := hk.put 63 (.int .i64 ((min (p0.Parts).length (((List.replicate (Int.toNat p3) ((⟨#[]⟩ : ByteArray) : ByteArray))).length - 0) : Nat) : Int)) rfl
            refine wpListIn_nil ?_
            refine then_n ?_
            exact ⟨(fun b_ => (fun l_ => if l_ = 64 then 68 else if l_ = 65 then 69 else if l_ = 66 then 70 else if l_ = 67 then 71 else l_) (o399 b_)), A402, c403, (cpy 0 (List.replicate (Int.toNat p3) (false : Bool)) p0.Has), A406, c407, (cpy 0 (List.replicate (Int.toNat p3) ((⟨#[]⟩ : ByteArray) : ByteArray)) p0.Parts), (by exact Kn.pick (ks := [2, 4, 10, 12]) hk rfl), (hs.relabM hob (fun l_ => if l_ = 64 then 68 else if l_ = 65 then 69 else if l_ = 66 then 70 else if l_ = 67 then 71 else l_) (by decide)), (f10.relab (fun l_ => if l_ = 64 then 68 else if l_ = 65 then 69 else if l_ = 66 then 70 else if l_ = 67 then 71 else l_) rfl), (f401.relab (fun l_ => if l_ = 64 then 68 else if l_ = 65 then 69 else if l_ = 66 then 70 else if l_ = 67 then 71 else l_) rfl), (f404.relab (fun l_ => if l_ = 64 then 68 else if l_ = 65 then 69 else if l_ = 66 then 70 else if l_ = 67 then 71 else l_) rfl), (f408.relab (fun l_ => if l_ = 64 then 68 else if l_ = 65 then 69 else if l_ = 66 then 70 else if l_ = 67 then 71 else l_) rfl), (by rw [cpy_len (Nat.zero_le _)]; exact hc405), (by rw [cpy_len (Nat.zero_le _)]; exact hc409), H⟩
          · rw [b471] at hk H
            replace H := bifT H
            refine x_if hk (b := true) rfl ?_
            refine (show Code.wpIn _ _ _ _ _ _ _ from ?_)
            refine x_seq ?_
            refine wpIn_region_lit ?_
            refine x_run tab hk (k := 1) (lv := [.agg #[.int .i64 p0.Key, .slice Ap0_0 (p0.Has).length cp0_0, .slice Ap0_1 (p0.Parts).length cp0_1]]) (ks := [10, 53]) (e' := [(10, .pointer (some ⟨bx9, 0, none⟩)), (53, .agg #[.int .i64 p0.Key, .slice Ap0_0 (p0.Has).length cp0_0, .slice Ap0_1 (p0.Parts).length cp0_1])]) rfl ⟨(load_box tab rfl rfl f5.now (k := 0) rfl rfl), trivial⟩ fun a hk => ?_
            refine x_op hk rfl ?_
            refine op_store tab hk (t := 41) (v := .agg #[.int .i64 p0.Key, .slice Ap0_0 (p0.Has).length cp0_0, .slice Ap0_1 (p0.Parts).length cp0_1]) (b := bx9) (k := 0) (cs' := [.int .i64 p0.Key, .slice Ap0_0 (p0.Has).length cp0_0, .slice Ap0_1 (p0.Parts).length cp0_1]) rfl rfl rfl rfl rfl rfl f10 rfl rfl fun w480 o481 st482 f10_ => ?_
            replace f900000 := f900000.st st482 (by decide)
            replace f900001 := f900001.st st482 (by decide)
            replace hs := hs.locQ st482 hob rfl
            replace f10 := f10_
            refine x_run tab hk (k := 1) (lv := []) (ks := [10, 11]) (e' := [(10, .pointer (some ⟨bx9, 0, none⟩)), (11, .int .i64 1)]) rfl trivial fun a hk => ?_
            refine wpListIn_nil ?_
            refine then_n ?_
            refine wpIn_ret ?_
            refine then_r ?_
            refine then_r ?_
            obtain rfl := Option.some.inj H
            exact x_retG hk (rs := [.cell 10 41, .tmp 11]) (vs := [.agg #[.int .i64 p0.Key, .slice Ap0_0 (p0.Has).length cp0_0, .slice Ap0_1 (p0.Parts).length cp0_1], .int .i64 1]) rfl ⟨⟨_, rfl, load_box tab rfl rfl f10.now (k := 0) rfl rfl⟩, rfl, trivial⟩ ⟨fun b_ => if b_ < w.heap.size then o b_ else (fun l_ => if l_ = 1 then Lp0_0 else if l_ = 2 then Lp0_1 else 0) (o481 b_), Ap0_0, cp0_0, Ap0_1, cp0_1, rfl, hs.closeQ (Lm := []) (Sh := [Lp0_0, Lp0_1]) hoa rfl (fun l_ => if l_ = 1 then Lp0_0 else if l_ = 2 then Lp0_1 else 0), hs.closeM_ft (o := o) (ρ := fun l_ => if l_ = 1 then Lp0_0 else if l_ = 2 then Lp0_1 else 0) f900000 (lab_at hoa (i := 0) rfl) rfl, hcp0_0, hs.closeM_ft (o := o) (ρ := fun l_ => if l_ = 1 then Lp0_0 else if l_ = 2 then Lp0_1 else 0) f900001 (lab_at hoa (i := 1) rfl) rfl, hcp0_1⟩
      obtain ⟨q507, H⟩ := ifS H
      obtain ⟨q508, H⟩ := ifS H
      refine xd_begin (o := o35) (fun W_ => True) mixed rfl rfl fun w613 st614 => ?_
      replace f10 := f10.st st614 (by decide)
      replace f5 := f5.st st614 (by decide)
      replace f900000 := f900000.st st614 (by decide)
      replace f900001 := f900001.st st614 (by decide)
      replace hs := hs.locQ st614 hob rfl
      refine xd_abs fun G hG => ?_
      have N668 : ∀ (a_ : Act) (w_ : World), (∃ o658 : Nat → Nat, ∃ A659 : Option Addr, ∃ c660 : Nat, ∃ A663 : Option Addr, ∃ c664 : Nat, Kn 80 a_ [(1, .int .i64 p1), (2, .int .i64 p2), (3, .int .i64 p3), (4, .string p4), (5, .pointer (some ⟨bx4, 0, none⟩)), (10, .pointer (some ⟨bx9, 0, none⟩)), (38, .int .i64 p1), (40, .slice A659 ((List.replicate (Int.toNat p3) (false : Bool))).length c660), (42, .slice A663 ((List.replicate (Int.toNat p3) ((⟨#[]⟩ : ByteArray) : ByteArray))).length c664)] ∧ St [] w oi w_ o658 ∧ Ft (Bx bx9 41 [.int .i64 0, .slice none 0 0, .slice none 0 0]) w_ o658 96 ∧ Ft (Bx bx4 41 [.int .i64 p0.Key, .slice Ap0_0 (p0.Has).length cp0_0, .slice Ap0_1 (p0.Parts).length cp0_1]) w_ o658 95 ∧ Ft (Own encBool 4 (.slice A659 ((List.replicate (Int.toNat p3) (false : Bool))).length c660) (List.replicate (Int.toNat p3) (false : Bool))) w_ o658 97 ∧ Ft (Own encStr 9 (.slice A663 ((List.replicate (Int.toNat p3) ((⟨#[]⟩ : ByteArray) : ByteArray))).length c664) (List.replicate (Int.toNat p3) ((⟨#[]⟩ : ByteArray) : ByteArray))) w_ o658 98 ∧ Ft (RdC encBool Ap0_0 p0.Has) w_ o658 1 ∧ Ft (RdC encStr Ap0_1 p0.Parts) w_ o658 2 ∧ ((List.replicate (Int.toNat p3) (false : Bool))).length ≤ c660 ∧ ((List.replicate (Int.toNat p3) ((⟨#[]⟩ : ByteArray) : ByteArray))).length ≤ c664) → G 3 #[true, true, true, true, true, false, false, false] a_ w_ := by
        rintro a w667 ⟨o658, A659, c660, A663, c664, hk, hs, f10, f5, f661, f665, f900000, f900001, hc662, hc666⟩
        refine xd_of hG ?_
        refine xd_take tab hk (k := 2) (is := [5]) (ls' := #[true, true, true, true, true, true, false, false]) (lv := []) (ks := [1, 2, 3, 4, 5, 10, 43]) (e' := [(1, .int .i64 p1), (2, .int .i64 p2), (3, .int .i64 p3), (4, .string p4), (5, .pointer (some ⟨bx4, 0, none⟩)), (10, .pointer (some ⟨bx9, 0, none⟩)), (43, .agg #[.int .i64 p1, .slice A659 ((List.replicate (Int.toNat p3) (false : Bool))).length c660, .slice A663 ((List.replicate (Int.toNat p3) ((⟨#[]⟩ : ByteArray) : ByteArray))).length c664])]) (by kernel_rfl) rfl rfl (by kernel_rfl) (np_then (np_then np_body)) trivial (fun W_ hS => trivial) fun a hk => ?_
        refine xd_op hk (i := 6) (by kernel_rfl) rfl rfl ?_
        refine op_alloc (o := o658) tab (t := 41) (cs := [.int .i64 0, .slice none 0 0, .slice none 0 0]) rfl rfl 99 fun bx672 w669 o670 st671 f673 => ?_
        replace f10 := f10.st st671 (by decide)
        replace f5 := f5.st st671 (by decide)
        replace f661 := f661.st st671 (by decide)
        replace f665 := f665.st st671 (by decide)
        replace f900000 := f900000.st st671 (by decide)
        replace f900001 := f900001.st st671 (by decide)
        replace hs := hs.locQ st671 hob rfl
        have hk := hk.put 12 (.pointer (some ⟨bx672, 0, none⟩)) rfl
        refine ⟨.inr trivial, ?_⟩
        refine xd_op hk (i := 7) (by kernel_rfl) rfl rfl ?_
        refine op_store tab hk (t := 41) (v := .agg #[.int .i64 p1, .slice A659 ((List.replicate (Int.toNat p3) (false : Bool))).length c660, .slice A663 ((List.replicate (Int.toNat p3) ((⟨#[]⟩ : ByteArray) : ByteArray))).length c664]) (b := bx672) (k := 0) (cs' := [.int .i64 p1, .slice A659 ((List.replicate (Int.toNat p3) (false : Bool))).length c660, .slice A663 ((List.replicate (Int.toNat p3) ((⟨#[]⟩ : ByteArray) : ByteArray))).length c664]) rfl rfl rfl rfl rfl rfl f673 rfl rfl fun w674 o675 st676 f673_ => ?_
        replace f10 := f10.st st676 (by decide)
        replace f5 := f5.st st676 (by decide)
        replace f661 := f661.st st676 (by decide)
        replace f665 := f665.st st676 (by decide)
        replace f900000 := f900000.st st676 (by decide)
        replace f900001 := f900001.st st676 (by decide)
        replace hs := hs.locQ st676 hob rfl
        replace f673 := f673_
        refine ⟨.inl (by kernel_rfl), ?_⟩
        refine xd_done (by kernel_rfl) ?_
        refine then_n ?_
        exact ⟨(fun b_ => (fun l_ => if l_ = 95 then 63 else if l_ = 96 then 64 else if l_ = 97 then 65 else if l_ = 98 then 66 else if l_ = 99 then 67 else l_) (o675 b_)), bx672, A659, c660, A663, c664, (by exact Kn.pick (ks := [1, 2, 3, 4, 5, 10, 12]) hk rfl), (hs.relabM hob (fun l_ => if l_ = 95 then 63 else if l_ = 96 then 64 else if l_ = 97 then 65 else if l_ = 98 then 66 else if l_ = 99 then 67 else l_) (by decide)), (f10.relab (fun l_ => if l_ = 95 then 63 else if l_ = 96 then 64 else if l_ = 97 then 65 else if l_ = 98 then 66 else if l_ = 99 then 67 else l_) rfl), (f673.relab (fun l_ => if l_ = 95 then 63 else if l_ = 96 then 64 else if l_ = 97 then 65 else if l_ = 98 then 66 else if l_ = 99 then 67 else l_) rfl), (f661.relab (fun l_ => if l_ = 95 then 63 else if l_ = 96 then 64 else if l_ = 97 then 65 else if l_ = 98 then 66 else if l_ = 99 then 67 else l_) rfl), (f665.relab (fun l_ => if l_ = 95 then 63 else if l_ = 96 then 64 else if l_ = 97 then 65 else if l_ = 98 then 66 else if l_ = 99 then 67 else l_) rfl), (f5.relab (fun l_ => if l_ = 95 then 63 else if l_ = 96 then 64 else if l_ = 97 then 65 else if l_ = 98 then 66 else if l_ = 99 then 67 else l_) rfl), (f900000.relab (fun l_ => if l_ = 95 then 63 else if l_ = 96 then 64 else if l_ = 97 then 65 else if l_ = 98 then 66 else if l_ = 99 then 67 else l_) rfl), (f900001.relab (fun l_ => if l_ = 95 then 63 else if l_ = 96 then 64 else if l_ = 97 then 65 else if l_ = 98 then 66 else if l_ = 99 then 67 else l_) rfl), hc662, hc666, H⟩
      have N701 : ∀ (a_ : Act) (w_ : World), (∃ o693 : Nat → Nat, ∃ bx694 : Nat, ∃ A696 : Option Addr, ∃ c697 : Nat, Kn 80 a_ [(1, .int .i64 p1), (2, .int .i64 p2), (3, .int .i64 p3), (4, .string p4), (5, .pointer (some ⟨bx4, 0, none⟩)), (10, .pointer (some ⟨bx9, 0, none⟩)), (12, .pointer (some ⟨bx694, 0, none⟩)), (38, .int .i64 p1), (40, .slice A696 ((List.replicate (Int.toNat p3) (false : Bool))).length c697), (41, .int .i64 p3)] ∧ St [] w oi w_ o693 ∧ Ft (Bx bx9 41 [.int .i64 0, .slice none 0 0, .slice none 0 0]) w_ o693 102 ∧ Ft (Bx bx4 41 [.int .i64 p0.Key, .slice Ap0_0 (p0.Has).length cp0_0, .slice Ap0_1 (p0.Parts).length cp0_1]) w_ o693 101 ∧ Ft (Bx bx694 41 [.int .i64 0, .slice none 0 0, .slice none 0 0]) w_ o693 103 ∧ Ft (Own encBool 4 (.slice A696 ((List.replicate (Int.toNat p3) (false : Bool))).length c697) (List.replicate (Int.toNat p3) (false : Bool))) w_ o693 104 ∧ Ft (RdC encBool Ap0_0 p0.Has) w_ o693 1 ∧ Ft (RdC encStr Ap0_1 p0.Parts) w_ o693 2 ∧ ((List.replicate (Int.toNat p3) (false : Bool))).length ≤ c697) → G 3 #[true, true, true, true, false, false, true, false] a_ w_ := by
        rintro a w700 ⟨o693, bx694, A696, c697, hk, hs, f10, f5, f695, f698, f900000, f900001, hc699⟩
        refine xd_of hG ?_
        refine xd_op hk (i := 4) (by kernel_rfl) rfl rfl ?_
        refine op_make (o := o693) (E := encStr) (zx := (⟨#[]⟩ : ByteArray)) tab hk rfl rfl rfl rfl rfl q507 q508 105 fun A705 c706 w702 o703 st704 f707 hc708 => ?_
        replace f10 := f10.st st704 (by decide)
        replace f5 := f5.st st704 (by decide)
        replace f695 := f695.st st704 (by decide)
        replace f698 := f698.st st704 (by decide)
        replace f900000 := f900000.st st704 (by decide)
        replace f900001 := f900001.st st704 (by decide)
        replace hs := hs.locQ st704 hob rfl
        have hk := hk.put 42 (.slice A705 ((List.replicate (Int.toNat p3) ((⟨#[]⟩ : ByteArray) : ByteArray))).length c706) rfl
        refine ⟨.inr trivial, ?_⟩
        refine xd_take tab hk (k := 1) (is := [5]) (ls' := #[true, true, true, true, true, true, true, false]) (lv := []) (ks := [1, 2, 3, 4, 5, 10, 12, 43]) (e' := [(1, .int .i64 p1), (2, .int .i64 p2), (3, .int .i64 p3), (4, .string p4), (5, .pointer (some ⟨bx4, 0, none⟩)), (10, .pointer (some ⟨bx9, 0, none⟩)), (12, .pointer (some ⟨bx694, 0, none⟩)), (43, .agg #[.int .i64 p1, .slice A696 ((List.replicate (Int.toNat p3) (false : Bool))).length c697, .slice A705 ((List.replicate (Int.toNat p3) ((⟨#[]⟩ : ByteArray) : ByteArray))).length c706])]) (by kernel_rfl) rfl rfl (by kernel_rfl) (np_then (np_then np_body)) trivial (fun W_ hS => trivial) fun a hk => ?_
        refine xd_op hk (i := 7) (by kernel_rfl) rfl rfl ?_
        refine op_store tab hk (t := 41) (v := .agg #[.int .i64 p1, .slice A696 ((List.replicate (Int.toNat p3) (false : Bool))).length c697, .slice A705 ((List.replicate (Int.toNat p3) ((⟨#[]⟩ : ByteArray) : ByteArray))).length c706]) (b := bx694) (k := 0) (cs' := [.int .i64 p1, .slice A696 ((List.replicate (Int.toNat p3) (false : Bool))).length c697, .slice A705 ((List.replicate (Int.toNat p3) ((⟨#[]⟩ : ByteArray) : ByteArray))).length c706]) rfl rfl rfl rfl rfl rfl f695 rfl rfl fun w709 o710 st711 f695_ => ?_
        replace f10 := f10.st st711 (by decide)
        replace f5 := f5.st st711 (by decide)
        replace f698 := f698.st st711 (by decide)
        replace f707 := f707.st st711 (by decide)
        replace f900000 := f900000.st st711 (by decide)
        replace f900001 := f900001.st st711 (by decide)
        replace hs := hs.locQ st711 hob rfl
        replace f695 := f695_
        refine ⟨.inl (by kernel_rfl), ?_⟩
        refine xd_done (by kernel_rfl) ?_
        refine then_n ?_
        exact ⟨(fun b_ => (fun l_ => if l_ = 101 then 63 else if l_ = 102 then 64 else if l_ = 103 then 67 else if l_ = 104 then 65 else if l_ = 105 then 66 else l_) (o710 b_)), bx694, A696, c697, A705, c706, (by exact Kn.pick (ks := [1, 2, 3, 4, 5, 10, 12]) hk rfl), (hs.relabM hob (fun l_ => if l_ = 101 then 63 else if l_ = 102 then 64 else if l_ = 103 then 67 else if l_ = 104 then 65 else if l_ = 105 then 66 else l_) (by decide)), (f10.relab (fun l_ => if l_ = 101 then 63 else if l_ = 102 then 64 else if l_ = 103 then 67 else if l_ = 104 then 65 else if l_ = 105 then 66 else l_) rfl), (f695.relab (fun l_ => if l_ = 101 then 63 else if l_ = 102 then 64 else if l_ = 103 then 67 else if l_ = 104 then 65 else if l_ = 105 then 66 else l_) rfl), (f698.relab (fun l_ => if l_ = 101 then 63 else if l_ = 102 then 64 else if l_ = 103 then 67 else if l_ = 104 then 65 else if l_ = 105 then 66 else l_) rfl), (f707.relab (fun l_ => if l_ = 101 then 63 else if l_ = 102 then 64 else if l_ = 103 then 67 else if l_ = 104 then 65 else if l_ = 105 then 66 else l_) rfl), (f5.relab (fun l_ => if l_ = 101 then 63 else if l_ = 102 then 64 else if l_ = 103 then 67 else if l_ = 104 then 65 else if l_ = 105 then 66 else l_) rfl), (f900000.relab (fun l_ => if l_ = 101 then 63 else if l_ = 102 then 64 else if l_ = 103 then 67 else if l_ = 104 then 65 else if l_ = 105 then 66 else l_) rfl), (f900001.relab (fun l_ => if l_ = 101 then 63 else if l_ = 102 then 64 else if l_ = 103 then 67 else if l_ = 104 then 65 else if l_ = 105 then 66 else l_) rfl), hc699, hc708, H⟩
      have N637 : ∀ (a_ : Act) (w_ : World), (∃ o631 : Nat → Nat, ∃ A632 : Option Addr, ∃ c633 : Nat, Kn 80 a_ [(1, .int .i64 p1), (2, .int .i64 p2), (3, .int .i64 p3), (4, .string p4), (5, .pointer (some ⟨bx4, 0, none⟩)), (10, .pointer (some ⟨bx9, 0, none⟩)), (38, .int .i64 p1), (40, .slice A632 ((List.replicate (Int.toNat p3) (false : Bool))).length c633), (41, .int .i64 p3)] ∧ St [] w oi w_ o631 ∧ Ft (Bx bx9 41 [.int .i64 0, .slice none 0 0, .slice none 0 0]) w_ o631 92 ∧ Ft (Bx bx4 41 [.int .i64 p0.Key, .slice Ap0_0 (p0.Has).length cp0_0, .slice Ap0_1 (p0.Parts).length cp0_1]) w_ o631 91 ∧ Ft (Own encBool 4 (.slice A632 ((List.replicate (Int.toNat p3) (false : Bool))).length c633) (List.replicate (Int.toNat p3) (false : Bool))) w_ o631 93 ∧ Ft (RdC encBool Ap0_0 p0.Has) w_ o631 1 ∧ Ft (RdC encStr Ap0_1 p0.Parts) w_ o631 2 ∧ ((List.replicate (Int.toNat p3) (false : Bool))).length ≤ c633) → G 4 #[true, true, true, true, false, false, false, false] a_ w_ := by
        rintro a w636 ⟨o631, A632, c633, hk, hs, f10, f5, f634, f900000, f900001, hc635⟩
        refine xd_of hG ?_
        refine xd_each [4, 6] (by kernel_rfl) rfl ⟨?_, ?_, trivial⟩
        · refine xd_one hk rfl rfl ?_
          refine op_make (o := o631) (E := encStr) (zx := (⟨#[]⟩ : ByteArray)) tab hk rfl rfl rfl rfl rfl q507 q508 94 fun A641 c642 w638 o639 st640 f643 hc644 => ?_
          replace f10 := f10.st st640 (by decide)
          replace f5 := f5.st st640 (by decide)
          replace f634 := f634.st st640 (by decide)
          replace f900000 := f900000.st st640 (by decide)
          replace f900001 := f900001.st st640 (by decide)
          replace hs := hs.locQ st640 hob rfl
          have hk := hk.put 42 (.slice A641 ((List.replicate (Int.toNat p3) ((⟨#[]⟩ : ByteArray) : ByteArray))).length c642) rfl
          refine ⟨.inr trivial, ?_⟩
          exact xd_to hG rfl (N668 _ _ ⟨(fun b_ => (fun l_ => if l_ = 91 then 95 else if l_ = 92 then 96 else if l_ = 93 then 97 else if l_ = 94 then 98 else l_) (o639 b_)), A632, c633, A641, c642, (by exact Kn.pick (ks := [1, 2, 3, 4, 5, 10, 38, 40, 42]) hk rfl), (hs.relabM hob (fun l_ => if l_ = 91 then 95 else if l_ = 92 then 96 else if l_ = 93 then 97 else if l_ = 94 then 98 else l_) (by decide)), (f10.relab (fun l_ => if l_ = 91 then 95 else if l_ = 92 then 96 else if l_ = 93 then 97 else if l_ = 94 then 98 else l_) rfl), (f5.relab (fun l_ => if l_ = 91 then 95 else if l_ = 92 then 96 else if l_ = 93 then 97 else if l_ = 94 then 98 else l_) rfl), (f634.relab (fun l_ => if l_ = 91 then 95 else if l_ = 92 then 96 else if l_ = 93 then 97 else if l_ = 94 then 98 else l_) rfl), (f643.relab (fun l_ => if l_ = 91 then 95 else if l_ = 92 then 96 else if l_ = 93 then 97 else if l_ = 94 then 98 else l_) rfl), (f900000.relab (fun l_ => if l_ = 91 then 95 else if l_ = 92 then 96 else if l_ = 93 then 97 else if l_ = 94 then 98 else l_) rfl), (f900001.relab (fun l_ => if l_ = 91 then 95 else if l_ = 92 then 96 else if l_ = 93 then 97 else if l_ = 94 then 98 else l_) rfl), hc635, hc644⟩)
        · refine xd_one hk rfl rfl ?_
          refine op_alloc (o := o631) tab (t := 41) (cs := [.int .i64 0, .slice none 0 0, .slice none 0 0]) rfl rfl 100 fun bx680 w677 o678 st679 f681 => ?_
          replace f10 := f10.st st679 (by decide)
          replace f5 := f5.st st679 (by decide)
          replace f634 := f634.st st679 (by decide)
          replace f900000 := f900000.st st679 (by decide)
          replace f900001 := f900001.st st679 (by decide)
          replace hs := hs.locQ st679 hob rfl
          have hk := hk.put 12 (.pointer (some ⟨bx680, 0, none⟩)) rfl
          refine ⟨.inr trivial, ?_⟩
          exact xd_to hG rfl (N701 _ _ ⟨(fun b_ => (fun l_ => if l_ = 91 then 101 else if l_ = 92 then 102 else if l_ = 93 then 104 else if l_ = 100 then 103 else l_) (o678 b_)), bx680, A632, c633, (by exact Kn.pick (ks := [1, 2, 3, 4, 5, 10, 12, 38, 40, 41]) hk rfl), (hs.relabM hob (fun l_ => if l_ = 91 then 101 else if l_ = 92 then 102 else if l_ = 93 then 104 else if l_ = 100 then 103 else l_) (by decide)), (f10.relab (fun l_ => if l_ = 91 then 101 else if l_ = 92 then 102 else if l_ = 93 then 104 else if l_ = 100 then 103 else l_) rfl), (f5.relab (fun l_ => if l_ = 91 then 101 else if l_ = 92 then 102 else if l_ = 93 then 104 else if l_ = 100 then 103 else l_) rfl), (f681.relab (fun l_ => if l_ = 91 then 101 else if l_ = 92 then 102 else if l_ = 93 then 104 else if l_ = 100 then 103 else l_) rfl), (f634.relab (fun l_ => if l_ = 91 then 101 else if l_ = 92 then 102 else if l_ = 93 then 104 else if l_ = 100 then 103 else l_) rfl), (f900000.relab (fun l_ => if l_ = 91 then 101 else if l_ = 92 then 102 else if l_ = 93 then 104 else if l_ = 100 then 103 else l_) rfl), (f900001.relab (fun l_ => if l_ = 91 then 101 else if l_ = 92 then 102 else if l_ = 93 then 104 else if l_ = 100 then 103 else l_) rfl), hc635⟩)
      have N766 : ∀ (a_ : Act) (w_ : World), (∃ o758 : Nat → Nat, ∃ bx759 : Nat, ∃ A761 : Option Addr, ∃ c762 : Nat, Kn 80 a_ [(1, .int .i64 p1), (2, .int .i64 p2), (3, .int .i64 p3), (4, .string p4), (5, .pointer (some ⟨bx4, 0, none⟩)), (10, .pointer (some ⟨bx9, 0, none⟩)), (12, .pointer (some ⟨bx759, 0, none⟩)), (38, .int .i64 p1), (39, .int .i64 p3), (42, .slice A761 ((List.replicate (Int.toNat p3) ((⟨#[]⟩ : ByteArray) : ByteArray))).length c762)] ∧ St [] w oi w_ o758 ∧ Ft (Bx bx9 41 [.int .i64 0, .slice none 0 0, .slice none 0 0]) w_ o758 113 ∧ Ft (Bx bx4 41 [.int .i64 p0.Key, .slice Ap0_0 (p0.Has).length cp0_0, .slice Ap0_1 (p0.Parts).length cp0_1]) w_ o758 112 ∧ Ft (Bx bx759 41 [.int .i64 0, .slice none 0 0, .slice none 0 0]) w_ o758 114 ∧ Ft (Own encStr 9 (.slice A761 ((List.replicate (Int.toNat p3) ((⟨#[]⟩ : ByteArray) : ByteArray))).length c762) (List.replicate (Int.toNat p3) ((⟨#[]⟩ : ByteArray) : ByteArray))) w_ o758 115 ∧ Ft (RdC encBool Ap0_0 p0.Has) w_ o758 1 ∧ Ft (RdC encStr Ap0_1 p0.Parts) w_ o758 2 ∧ ((List.replicate (Int.toNat p3) ((⟨#[]⟩ : ByteArray) : ByteArray))).length ≤ c762) → G 3 #[true, true, false, true, true, false, true, false] a_ w_ := by
        rintro a w765 ⟨o758, bx759, A761, c762, hk, hs, f10, f5, f760, f763, f900000, f900001, hc764⟩
        refine xd_of hG ?_
        refine xd_op hk (i := 2) (by kernel_rfl) rfl rfl ?_
        refine op_make (o := o758) (E := encBool) (zx := false) tab hk rfl rfl rfl rfl rfl q507 q508 116 fun A770 c771 w767 o768 st769 f772 hc773 => ?_
        replace f10 := f10.st st769 (by decide)
        replace f5 := f5.st st769 (by decide)
        replace f760 := f760.st st769 (by decide)
        replace f763 := f763.st st769 (by decide)
        replace f900000 := f900000.st st769 (by decide)
        replace f900001 := f900001.st st769 (by decide)
        replace hs := hs.locQ st769 hob rfl
        have hk := hk.put 40 (.slice A770 ((List.replicate (Int.toNat p3) (false : Bool))).length c771) rfl
        refine ⟨.inr trivial, ?_⟩
        refine xd_take tab hk (k := 1) (is := [5]) (ls' := #[true, true, true, true, true, true, true, false]) (lv := []) (ks := [1, 2, 3, 4, 5, 10, 12, 43]) (e' := [(1, .int .i64 p1), (2, .int .i64 p2), (3, .int .i64 p3), (4, .string p4), (5, .pointer (some ⟨bx4, 0, none⟩)), (10, .pointer (some ⟨bx9, 0, none⟩)), (12, .pointer (some ⟨bx759, 0, none⟩)), (43, .agg #[.int .i64 p1, .slice A770 ((List.replicate (Int.toNat p3) (false : Bool))).length c771, .slice A761 ((List.replicate (Int.toNat p3) ((⟨#[]⟩ : ByteArray) : ByteArray))).length c762])]) (by kernel_rfl) rfl rfl (by kernel_rfl) (np_then (np_then np_body)) trivial (fun W_ hS => trivial) fun a hk => ?_
        refine xd_op hk (i := 7) (by kernel_rfl) rfl rfl ?_
        refine op_store tab hk (t := 41) (v := .agg #[.int .i64 p1, .slice A770 ((List.replicate (Int.toNat p3) (false : Bool))).length c771, .slice A761 ((List.replicate (Int.toNat p3) ((⟨#[]⟩ : ByteArray) : ByteArray))).length c762]) (b := bx759) (k := 0) (cs' := [.int .i64 p1, .slice A770 ((List.replicate (Int.toNat p3) (false : Bool))).length c771, .slice A761 ((List.replicate (Int.toNat p3) ((⟨#[]⟩ : ByteArray) : ByteArray))).length c762]) rfl rfl rfl rfl rfl rfl f760 rfl rfl fun w774 o775 st776 f760_ => ?_
        replace f10 := f10.st st776 (by decide)
        replace f5 := f5.st st776 (by decide)
        replace f763 := f763.st st776 (by decide)
        replace f772 := f772.st st776 (by decide)
        replace f900000 := f900000.st st776 (by decide)
        replace f900001 := f900001.st st776 (by decide)
        replace hs := hs.locQ st776 hob rfl
        replace f760 := f760_
        refine ⟨.inl (by kernel_rfl), ?_⟩
        refine xd_done (by kernel_rfl) ?_
        refine then_n ?_
        exact ⟨(fun b_ => (fun l_ => if l_ = 112 then 63 else if l_ = 113 then 64 else if l_ = 114 then 67 else if l_ = 115 then 66 else if l_ = 116 then 65 else l_) (o775 b_)), bx759, A770, c771, A761, c762, (by exact Kn.pick (ks := [1, 2, 3, 4, 5, 10, 12]) hk rfl), (hs.relabM hob (fun l_ => if l_ = 112 then 63 else if l_ = 113 then 64 else if l_ = 114 then 67 else if l_ = 115 then 66 else if l_ = 116 then 65 else l_) (by decide)), (f10.relab (fun l_ => if l_ = 112 then 63 else if l_ = 113 then 64 else if l_ = 114 then 67 else if l_ = 115 then 66 else if l_ = 116 then 65 else l_) rfl), (f760.relab (fun l_ => if l_ = 112 then 63 else if l_ = 113 then 64 else if l_ = 114 then 67 else if l_ = 115 then 66 else if l_ = 116 then 65 else l_) rfl), (f772.relab (fun l_ => if l_ = 112 then 63 else if l_ = 113 then 64 else if l_ = 114 then 67 else if l_ = 115 then 66 else if l_ = 116 then 65 else l_) rfl), (f763.relab (fun l_ => if l_ = 112 then 63 else if l_ = 113 then 64 else if l_ = 114 then 67 else if l_ = 115 then 66 else if l_ = 116 then 65 else l_) rfl), (f5.relab (fun l_ => if l_ = 112 then 63 else if l_ = 113 then 64 else if l_ = 114 then 67 else if l_ = 115 then 66 else if l_ = 116 then 65 else l_) rfl), (f900000.relab (fun l_ => if l_ = 112 then 63 else if l_ = 113 then 64 else if l_ = 114 then 67 else if l_ = 115 then 66 else if l_ = 116 then 65 else l_) rfl), (f900001.relab (fun l_ => if l_ = 112 then 63 else if l_ = 113 then 64 else if l_ = 114 then 67 else if l_ = 115 then 66 else if l_ = 116 then 65 else l_) rfl), hc773, hc764, H⟩
      have N734 : ∀ (a_ : Act) (w_ : World), (∃ o728 : Nat → Nat, ∃ A729 : Option Addr, ∃ c730 : Nat, Kn 80 a_ [(1, .int .i64 p1), (2, .int .i64 p2), (3, .int .i64 p3), (4, .string p4), (5, .pointer (some ⟨bx4, 0, none⟩)), (10, .pointer (some ⟨bx9, 0, none⟩)), (38, .int .i64 p1), (39, .int .i64 p3), (42, .slice A729 ((List.replicate (Int.toNat p3) ((⟨#[]⟩ : ByteArray) : ByteArray))).length c730)] ∧ St [] w oi w_ o728 ∧ Ft (Bx bx9 41 [.int .i64 0, .slice none 0 0, .slice none 0 0]) w_ o728 108 ∧ Ft (Bx bx4 41 [.int .i64 p0.Key, .slice Ap0_0 (p0.Has).length cp0_0, .slice Ap0_1 (p0.Parts).length cp0_1]) w_ o728 107 ∧ Ft (Own encStr 9 (.slice A729 ((List.replicate (Int.toNat p3) ((⟨#[]⟩ : ByteArray) : ByteArray))).length c730) (List.replicate (Int.toNat p3) ((⟨#[]⟩ : ByteArray) : ByteArray))) w_ o728 109 ∧ Ft (RdC encBool Ap0_0 p0.Has) w_ o728 1 ∧ Ft (RdC encStr Ap0_1 p0.Parts) w_ o728 2 ∧ ((List.replicate (Int.toNat p3) ((⟨#[]⟩ : ByteArray) : ByteArray))).length ≤ c730) → G 4 #[true, true, false, true, true, false, false, false] a_ w_ := by
        rintro a w733 ⟨o728, A729, c730, hk, hs, f10, f5, f731, f900000, f900001, hc732⟩
        refine xd_of hG ?_
        refine xd_each [2, 6] (by kernel_rfl) rfl ⟨?_, ?_, trivial⟩
        · refine xd_one hk rfl rfl ?_
          refine op_make (o := o728) (E := encBool) (zx := false) tab hk rfl rfl rfl rfl rfl q507 q508 110 fun A738 c739 w735 o736 st737 f740 hc741 => ?_
          replace f10 := f10.st st737 (by decide)
          replace f5 := f5.st st737 (by decide)
          replace f731 := f731.st st737 (by decide)
          replace f900000 := f900000.st st737 (by decide)
          replace f900001 := f900001.st st737 (by decide)
          replace hs := hs.locQ st737 hob rfl
          have hk := hk.put 40 (.slice A738 ((List.replicate (Int.toNat p3) (false : Bool))).length c739) rfl
          refine ⟨.inr trivial, ?_⟩
          exact xd_to hG rfl (N668 _ _ ⟨(fun b_ => (fun l_ => if l_ = 107 then 95 else if l_ = 108 then 96 else if l_ = 109 then 98 else if l_ = 110 then 97 else l_) (o736 b_)), A738, c739, A729, c730, (by exact Kn.pick (ks := [1, 2, 3, 4, 5, 10, 38, 40, 42]) hk rfl), (hs.relabM hob (fun l_ => if l_ = 107 then 95 else if l_ = 108 then 96 else if l_ = 109 then 98 else if l_ = 110 then 97 else l_) (by decide)), (f10.relab (fun l_ => if l_ = 107 then 95 else if l_ = 108 then 96 else if l_ = 109 then 98 else if l_ = 110 then 97 else l_) rfl), (f5.relab (fun l_ => if l_ = 107 then 95 else if l_ = 108 then 96 else if l_ = 109 then 98 else if l_ = 110 then 97 else l_) rfl), (f740.relab (fun l_ => if l_ = 107 then 95 else if l_ = 108 then 96 else if l_ = 109 then 98 else if l_ = 110 then 97 else l_) rfl), (f731.relab (fun l_ => if l_ = 107 then 95 else if l_ = 108 then 96 else if l_ = 109 then 98 else if l_ = 110 then 97 else l_) rfl), (f900000.relab (fun l_ => if l_ = 107 then 95 else if l_ = 108 then 96 else if l_ = 109 then 98 else if l_ = 110 then 97 else l_) rfl), (f900001.relab (fun l_ => if l_ = 107 then 95 else if l_ = 108 then 96 else if l_ = 109 then 98 else if l_ = 110 then 97 else l_) rfl), hc741, hc732⟩)
        · refine xd_one hk rfl rfl ?_
          refine op_alloc (o := o728) tab (t := 41) (cs := [.int .i64 0, .slice none 0 0, .slice none 0 0]) rfl rfl 111 fun bx745 w742 o743 st744 f746 => ?_
          replace f10 := f10.st st744 (by decide)
          replace f5 := f5.st st744 (by decide)
          replace f731 := f731.st st744 (by decide)
          replace f900000 := f900000.st st744 (by decide)
          replace f900001 := f900001.st st744 (by decide)
          replace hs := hs.locQ st744 hob rfl
          have hk := hk.put 12 (.pointer (some ⟨bx745, 0, none⟩)) rfl
          refine ⟨.inr trivial, ?_⟩
          exact xd_to hG rfl (N766 _ _ ⟨(fun b_ => (fun l_ => if l_ = 107 then 112 else if l_ = 108 then 113 else if l_ = 109 then 115 else if l_ = 111 then 114 else l_) (o743 b_)), bx745, A729, c730, (by exact Kn.pick (ks := [1, 2, 3, 4, 5, 10, 12, 38, 39, 42]) hk rfl), (hs.relabM hob (fun l_ => if l_ = 107 then 112 else if l_ = 108 then 113 else if l_ = 109 then 115 else if l_ = 111 then 114 else l_) (by decide)), (f10.relab (fun l_ => if l_ = 107 then 112 else if l_ = 108 then 113 else if l_ = 109 then 115 else if l_ = 111 then 114 else l_) rfl), (f5.relab (fun l_ => if l_ = 107 then 112 else if l_ = 108 then 113 else if l_ = 109 then 115 else if l_ = 111 then 114 else l_) rfl), (f746.relab (fun l_ => if l_ = 107 then 112 else if l_ = 108 then 113 else if l_ = 109 then 115 else if l_ = 111 then 114 else l_) rfl), (f731.relab (fun l_ => if l_ = 107 then 112 else if l_ = 108 then 113 else if l_ = 109 then 115 else if l_ = 111 then 114 else l_) rfl), (f900000.relab (fun l_ => if l_ = 107 then 112 else if l_ = 108 then 113 else if l_ = 109 then 115 else if l_ = 111 then 114 else l_) rfl), (f900001.relab (fun l_ => if l_ = 107 then 112 else if l_ = 108 then 113 else if l_ = 109 then 115 else if l_ = 111 then 114 else l_) rfl), hc732⟩)
      have N793 : ∀ (a_ : Act) (w_ : World), (∃ o789 : Nat → Nat, ∃ bx790 : Nat, Kn 80 a_ [(1, .int .i64 p1), (2, .int .i64 p2), (3, .int .i64 p3), (4, .string p4), (5, .pointer (some ⟨bx4, 0, none⟩)), (10, .pointer (some ⟨bx9, 0, none⟩)), (12, .pointer (some ⟨bx790, 0, none⟩)), (38, .int .i64 p1), (39, .int .i64 p3), (41, .int .i64 p3)] ∧ St [] w oi w_ o789 ∧ Ft (Bx bx9 41 [.int .i64 0, .slice none 0 0, .slice none 0 0]) w_ o789 119 ∧ Ft (Bx bx4 41 [.int .i64 p0.Key, .slice Ap0_0 (p0.Has).length cp0_0, .slice Ap0_1 (p0.Parts).length cp0_1]) w_ o789 118 ∧ Ft (Bx bx790 41 [.int .i64 0, .slice none 0 0, .slice none 0 0]) w_ o789 120 ∧ Ft (RdC encBool Ap0_0 p0.Has) w_ o789 1 ∧ Ft (RdC encStr Ap0_1 p0.Parts) w_ o789 2) → G 4 #[true, true, false, true, false, false, true, false] a_ w_ := by
        rintro a w792 ⟨o789, bx790, hk, hs, f10, f5, f791, f900000, f900001⟩
        refine xd_of hG ?_
        refine xd_each [2, 4] (by kernel_rfl) rfl ⟨?_, ?_, trivial⟩
        · refine xd_one hk rfl rfl ?_
          refine op_make (o := o789) (E := encBool) (zx := false) tab hk rfl rfl rfl rfl rfl q507 q508 121 fun A797 c798 w794 o795 st796 f799 hc800 => ?_
          replace f10 := f10.st st796 (by decide)
          replace f5 := f5.st st796 (by decide)
          replace f791 := f791.st st796 (by decide)
          replace f900000 := f900000.st st796 (by decide)
          replace f900001 := f900001.st st796 (by decide)
          replace hs := hs.locQ st796 hob rfl
          have hk := hk.put 40 (.slice A797 ((List.replicate (Int.toNat p3) (false : Bool))).length c798) rfl
          refine ⟨.inr trivial, ?_⟩
          exact xd_to hG rfl (N701 _ _ ⟨(fun b_ => (fun l_ => if l_ = 118 then 101 else if l_ = 119 then 102 else if l_ = 120 then 103 else if l_ = 121 then 104 else l_) (o795 b_)), bx790, A797, c798, (by exact Kn.pick (ks := [1, 2, 3, 4, 5, 10, 12, 38, 40, 41]) hk rfl), (hs.relabM hob (fun l_ => if l_ = 118 then 101 else if l_ = 119 then 102 else if l_ = 120 then 103 else if l_ = 121 then 104 else l_) (by decide)), (f10.relab (fun l_ => if l_ = 118 then 101 else if l_ = 119 then 102 else if l_ = 120 then 103 else if l_ = 121 then 104 else l_) rfl), (f5.relab (fun l_ => if l_ = 118 then 101 else if l_ = 119 then 102 else if l_ = 120 then 103 else if l_ = 121 then 104 else l_) rfl), (f791.relab (fun l_ => if l_ = 118 then 101 else if l_ = 119 then 102 else if l_ = 120 then 103 else if l_ = 121 then 104 else l_) rfl), (f799.relab (fun l_ => if l_ = 118 then 101 else if l_ = 119 then 102 else if l_ = 120 then 103 else if l_ = 121 then 104 else l_) rfl), (f900000.relab (fun l_ => if l_ = 118 then 101 else if l_ = 119 then 102 else if l_ = 120 then 103 else if l_ = 121 then 104 else l_) rfl), (f900001.relab (fun l_ => if l_ = 118 then 101 else if l_ = 119 then 102 else if l_ = 120 then 103 else if l_ = 121 then 104 else l_) rfl), hc800⟩)
        · refine xd_one hk rfl rfl ?_
          refine op_make (o := o789) (E := encStr) (zx := (⟨#[]⟩ : ByteArray)) tab hk rfl rfl rfl rfl rfl q507 q508 122 fun A804 c805 w801 o802 st803 f806 hc807 => ?_
          replace f10 := f10.st st803 (by decide)
          replace f5 := f5.st st803 (by decide)
          replace f791 := f791.st st803 (by decide)
          replace f900000 := f900000.st st803 (by decide)
          replace f900001 := f900001.st st803 (by decide)
          replace hs := hs.locQ st803 hob rfl
          have hk := hk.put 42 (.slice A804 ((List.replicate (Int.toNat p3) ((⟨#[]⟩ : ByteArray) : ByteArray))).length c805) rfl
          refine ⟨.inr trivial, ?_⟩
          exact xd_to hG rfl (N766 _ _ ⟨(fun b_ => (fun l_ => if l_ = 118 then 112 else if l_ = 119 then 113 else if l_ = 120 then 114 else if l_ = 122 then 115 else l_) (o802 b_)), bx790, A804, c805, (by exact Kn.pick (ks := [1, 2, 3, 4, 5, 10, 12, 38, 39, 42]) hk rfl), (hs.relabM hob (fun l_ => if l_ = 118 then 112 else if l_ = 119 then 113 else if l_ = 120 then 114 else if l_ = 122 then 115 else l_) (by decide)), (f10.relab (fun l_ => if l_ = 118 then 112 else if l_ = 119 then 113 else if l_ = 120 then 114 else if l_ = 122 then 115 else l_) rfl), (f5.relab (fun l_ => if l_ = 118 then 112 else if l_ = 119 then 113 else if l_ = 120 then 114 else if l_ = 122 then 115 else l_) rfl), (f791.relab (fun l_ => if l_ = 118 then 112 else if l_ = 119 then 113 else if l_ = 120 then 114 else if l_ = 122 then 115 else l_) rfl), (f806.relab (fun l_ => if l_ = 118 then 112 else if l_ = 119 then 113 else if l_ = 120 then 114 else if l_ = 122 then 115 else l_) rfl), (f900000.relab (fun l_ => if l_ = 118 then 112 else if l_ = 119 then 113 else if l_ = 120 then 114 else if l_ = 122 then 115 else l_) rfl), (f900001.relab (fun l_ => if l_ = 118 then 112 else if l_ = 119 then 113 else if l_ = 120 then 114 else if l_ = 122 then 115 else l_) rfl), hc807⟩)
      refine xd_of hG ?_
      refine xd_take tab hk (k := 5) (is := [0, 1, 3]) (ls' := #[true, true, false, true, false, false, false, false]) (lv := []) (ks := [1, 2, 3, 4, 5, 10, 38, 39, 41]) (e' := [(1, .int .i64 p1), (2, .int .i64 p2), (3, .int .i64 p3), (4, .string p4), (5, .pointer (some ⟨bx4, 0, none⟩)), (10, .pointer (some ⟨bx9, 0, none⟩)), (38, .int .i64 p1), (39, .int .i64 p3), (41, .int .i64 p3)]) (by kernel_rfl) rfl rfl (by kernel_rfl) (np_then (np_then np_body)) trivial (fun W_ hS => trivial) fun a hk => ?_
      refine xd_each [2, 4, 6] (by kernel_rfl) rfl ⟨?_, ?_, ?_, trivial⟩
      · refine xd_one hk rfl rfl ?_
        refine op_make (o := o35) (E := encBool) (zx := false) tab hk rfl rfl rfl rfl rfl q507 q508 90 fun A618 c619 w615 o616 st617 f620 hc621 => ?_
        replace f10 := f10.st st617 (by decide)
        replace f5 := f5.st st617 (by decide)
        replace f900000 := f900000.st st617 (by decide)
        replace f900001 := f900001.st st617 (by decide)
        replace hs := hs.locQ st617 hob rfl
        have hk := hk.put 40 (.slice A618 ((List.replicate (Int.toNat p3) (false : Bool))).length c619) rfl
        refine ⟨.inr trivial, ?_⟩
        exact xd_to hG rfl (N637 _ _ ⟨(fun b_ => (fun l_ => if l_ = 7 then 91 else if l_ = 8 then 92 else if l_ = 90 then 93 else l_) (o616 b_)), A618, c619, (by exact Kn.pick (ks := [1, 2, 3, 4, 5, 10, 38, 40, 41]) hk rfl), (hs.relabM hob (fun l_ => if l_ = 7 then 91 else if l_ = 8 then 92 else if l_ = 90 then 93 else l_) (by decide)), (f10.relab (fun l_ => if l_ = 7 then 91 else if l_ = 8 then 92 else if l_ = 90 then 93 else l_) rfl), (f5.relab (fun l_ => if l_ = 7 then 91 else if l_ = 8 then 92 else if l_ = 90 then 93 else l_) rfl), (f620.relab (fun l_ => if l_ = 7 then 91 else if l_ = 8 then 92 else if l_ = 90 then 93 else l_) rfl), (f900000.relab (fun l_ => if l_ = 7 then 91 else if l_ = 8 then 92 else if l_ = 90 then 93 else l_) rfl), (f900001.relab (fun l_ => if l_ = 7 then 91 else if l_ = 8 then 92 else if l_ = 90 then 93 else l_) rfl), hc621⟩)
      · refine xd_one hk rfl rfl ?_
        refine op_make (o := o35) (E := encStr) (zx := (⟨#[]⟩ : ByteArray)) tab hk rfl rfl rfl rfl rfl q507 q508 106 fun A715 c716 w712 o713 st714 f717 hc718 => ?_
        replace f10 := f10.st st714 (by decide)
        replace f5 := f5.st st714 (by decide)
        replace f900000 := f900000.st st714 (by decide)
        replace f900001 := f900001.st st714 (by decide)
        replace hs := hs.locQ st714 hob rfl
        have hk := hk.put 42 (.slice A715 ((List.replicate (Int.toNat p3) ((⟨#[]⟩ : ByteArray) : ByteArray))).length c716) rfl
        refine ⟨.inr trivial, ?_⟩
        exact xd_to hG rfl (N734 _ _ ⟨(fun b_ => (fun l_ => if l_ = 7 then 107 else if l_ = 8 then 108 else if l_ = 106 then 109 else l_) (o713 b_)), A715, c716, (by exact Kn.pick (ks := [1, 2, 3, 4, 5, 10, 38, 39, 42]) hk rfl), (hs.relabM hob (fun l_ => if l_ = 7 then 107 else if l_ = 8 then 108 else if l_ = 106 then 109 else l_) (by decide)), (f10.relab (fun l_ => if l_ = 7 then 107 else if l_ = 8 then 108 else if l_ = 106 then 109 else l_) rfl), (f5.relab (fun l_ => if l_ = 7 then 107 else if l_ = 8 then 108 else if l_ = 106 then 109 else l_) rfl), (f717.relab (fun l_ => if l_ = 7 then 107 else if l_ = 8 then 108 else if l_ = 106 then 109 else l_) rfl), (f900000.relab (fun l_ => if l_ = 7 then 107 else if l_ = 8 then 108 else if l_ = 106 then 109 else l_) rfl), (f900001.relab (fun l_ => if l_ = 7 then 107 else if l_ = 8 then 108 else if l_ = 106 then 109 else l_) rfl), hc718⟩)
      · refine xd_one hk rfl rfl ?_
        refine op_alloc (o := o35) tab (t := 41) (cs := [.int .i64 0, .slice none 0 0, .slice none 0 0]) rfl rfl 117 fun bx780 w777 o778 st779 f781 => ?_
        replace f10 := f10.st st779 (by decide)
        replace f5 := f5.st st779 (by decide)
        replace f900000 := f900000.st st779 (by decide)
        replace f900001 := f900001.st st779 (by decide)
        replace hs := hs.locQ st779 hob rfl
        have hk := hk.put 12 (.pointer (some ⟨bx780, 0, none⟩)) rfl
        refine ⟨.inr trivial, ?_⟩
        exact xd_to hG rfl (N793 _ _ ⟨(fun b_ => (fun l_ => if l_ = 7 then 118 else if l_ = 8 then 119 else if l_ = 117 then 120 else l_) (o778 b_)), bx780, (by exact Kn.pick (ks := [1, 2, 3, 4, 5, 10, 12, 38, 39, 41]) hk rfl), (hs.relabM hob (fun l_ => if l_ = 7 then 118 else if l_ = 8 then 119 else if l_ = 117 then 120 else l_) (by decide)), (f10.relab (fun l_ => if l_ = 7 then 118 else if l_ = 8 then 119 else if l_ = 117 then 120 else l_) rfl), (f5.relab (fun l_ => if l_ = 7 then 118 else if l_ = 8 then 119 else if l_ = 117 then 120 else l_) rfl), (f781.relab (fun l_ => if l_ = 7 then 118 else if l_ = 8 then 119 else if l_ = 117 then 120 else l_) rfl), (f900000.relab (fun l_ => if l_ = 7 then 118 else if l_ = 8 then 119 else if l_ = 117 then 120 else l_) rfl), (f900001.relab (fun l_ => if l_ = 7 then 118 else if l_ = 8 then 119 else if l_ = 117 then 120 else l_) rfl)⟩)
    · rw [b37] at hk H
      replace H := bifT H
      refine x_if hk (b := true) rfl ?_
      refine (show Code.wpIn _ _ _ _ _ _ _ from ?_)
      refine x_seq ?_
      refine wpIn_region_lit ?_
      refine x_run tab hk (k := 1) (lv := [.agg #[.int .i64 p0.Key, .slice Ap0_0 (p0.Has).length cp0_0, .slice Ap0_1 (p0.Parts).length cp0_1]]) (ks := [10, 37]) (e' := [(10, .pointer (some ⟨bx9, 0, none⟩)), (37, .agg #[.int .i64 p0.Key, .slice Ap0_0 (p0.Has).length cp0_0, .slice Ap0_1 (p0.Parts).length cp0_1])]) rfl ⟨(load_box tab rfl rfl f5.now (k := 0) rfl rfl), trivial⟩ fun a hk => ?_
      refine x_op hk rfl ?_
      refine op_store tab hk (t := 41) (v := .agg #[.int .i64 p0.Key, .slice Ap0_0 (p0.Has).length cp0_0, .slice Ap0_1 (p0.Parts).length cp0_1]) (b := bx9) (k := 0) (cs' := [.int .i64 p0.Key, .slice Ap0_0 (p0.Has).length cp0_0, .slice Ap0_1 (p0.Parts).length cp0_1]) rfl rfl rfl rfl rfl rfl f10 rfl rfl fun w808 o809 st810 f10_ => ?_
      replace f900000 := f900000.st st810 (by decide)
      replace f900001 := f900001.st st810 (by decide)
      replace hs := hs.locQ st810 hob rfl
      replace f10 := f10_
      refine x_run tab hk (k := 1) (lv := []) (ks := [10, 11]) (e' := [(10, .pointer (some ⟨bx9, 0, none⟩)), (11, .int .i64 8)]) rfl trivial fun a hk => ?_
      refine wpListIn_nil ?_
      refine then_n ?_
      refine wpIn_ret ?_
      refine then_r ?_
      obtain rfl := Option.some.inj H
      exact x_retG hk (rs := [.cell 10 41, .tmp 11]) (vs := [.agg #[.int .i64 p0.Key, .slice Ap0_0 (p0.Has).length cp0_0, .slice Ap0_1 (p0.Parts).length cp0_1], .int .i64 8]) rfl ⟨⟨_, rfl, load_box tab rfl rfl f10.now (k := 0) rfl rfl⟩, rfl, trivial⟩ ⟨fun b_ => if b_ < w.heap.size then o b_ else (fun l_ => if l_ = 1 then Lp0_0 else if l_ = 2 then Lp0_1 else 0) (o809 b_), Ap0_0, cp0_0, Ap0_1, cp0_1, rfl, hs.closeQ (Lm := []) (Sh := [Lp0_0, Lp0_1]) hoa rfl (fun l_ => if l_ = 1 then Lp0_0 else if l_ = 2 then Lp0_1 else 0), hs.closeM_ft (o := o) (ρ := fun l_ => if l_ = 1 then Lp0_0 else if l_ = 2 then Lp0_1 else 0) f900000 (lab_at hoa (i := 0) rfl) rfl, hcp0_0, hs.closeM_ft (o := o) (ρ := fun l_ => if l_ = 1 then Lp0_0 else if l_ = 2 then Lp0_1 else 0) f900001 (lab_at hoa (i := 1) rfl) rfl, hcp0_1⟩
  refine x_mid (fun a_ w_ => ∃ o821 : Nat → Nat, ∃ x822 : Bool, Kn 80 a_ [(1, .int .i64 p1), (2, .int .i64 p2), (3, .int .i64 p3), (4, .string p4), (5, .pointer (some ⟨bx4, 0, none⟩)), (10, .pointer (some ⟨bx9, 0, none⟩)), (31, .bool x822)] ∧ St [] w oi w_ o821 ∧ Ft (Bx bx9 41 [.int .i64 0, .slice none 0 0, .slice none 0 0]) w_ o821 124 ∧ Ft (Bx bx4 41 [.int .i64 p0.Key, .slice Ap0_0 (p0.Has).length cp0_0, .slice Ap0_1 (p0.Parts).length cp0_1]) w_ o821 123 ∧ Ft (RdC encBool Ap0_0 p0.Has) w_ o821 1 ∧ Ft (RdC encStr Ap0_1 p0.Parts) w_ o821 2 ∧ tidewrackref04_Put_j4 p0 p1 p2 p3 p4 x822 = some r) ?_ ?_
  rotate_left
  · rintro a w823 ⟨o821, x822, hk, hs, f10, f5, f900000, f900001, H⟩
    rw [tidewrackref04_Put_j4] at H
    cases b824 : x822
    · rw [b824] at hk H
      replace H := bifF H
      refine x_if hk (b := false) rfl ?_
      refine (show Code.wpIn _ _ _ _ _ _ _ from ?_)
      refine wpIn_skip ?_
      refine then_n ?_
      exact ⟨(fun b_ => (fun l_ => if l_ = 123 then 7 else if l_ = 124 then 8 else l_) (o821 b_)), (by exact Kn.pick (ks := [1, 2, 3, 4, 5, 10]) hk rfl), (hs.relabM hob (fun l_ => if l_ = 123 then 7 else if l_ = 124 then 8 else l_) (by decide)), (f10.relab (fun l_ => if l_ = 123 then 7 else if l_ = 124 then 8 else l_) rfl), (f5.relab (fun l_ => if l_ = 123 then 7 else if l_ = 124 then 8 else l_) rfl), (f900000.relab (fun l_ => if l_ = 123 then 7 else if l_ = 124 then 8 else l_) rfl), (f900001.relab (fun l_ => if l_ = 123 then 7 else if l_ = 124 then 8 else l_) rfl), H⟩
    · rw [b824] at hk H
      replace H := bifT H
      refine x_if hk (b := true) rfl ?_
      refine (show Code.wpIn _ _ _ _ _ _ _ from ?_)
      refine x_seq ?_
      refine wpIn_region_lit ?_
      refine x_run tab hk (k := 1) (lv := [.agg #[.int .i64 p0.Key, .slice Ap0_0 (p0.Has).length cp0_0, .slice Ap0_1 (p0.Parts).length cp0_1]]) (ks := [10, 32]) (e' := [(10, .pointer (some ⟨bx9, 0, none⟩)), (32, .agg #[.int .i64 p0.Key, .slice Ap0_0 (p0.Has).length cp0_0, .slice Ap0_1 (p0.Parts).length cp0_1])]) rfl ⟨(load_box tab rfl rfl f5.now (k := 0) rfl rfl), trivial⟩ fun a hk => ?_
      refine x_op hk rfl ?_
      refine op_store tab hk (t := 41) (v := .agg #[.int .i64 p0.Key, .slice Ap0_0 (p0.Has).length cp0_0, .slice Ap0_1 (p0.Parts).length cp0_1]) (b := bx9) (k := 0) (cs' := [.int .i64 p0.Key, .slice Ap0_0 (p0.Has).length cp0_0, .slice Ap0_1 (p0.Parts).length cp0_1]) rfl rfl rfl rfl rfl rfl f10 rfl rfl fun w825 o826 st827 f10_ => ?_
      replace f900000 := f900000.st st827 (by decide)
      replace f900001 := f900001.st st827 (by decide)
      replace hs := hs.locQ st827 hob rfl
      replace f10 := f10_
      refine x_run tab hk (k := 1) (lv := []) (ks := [10, 11]) (e' := [(10, .pointer (some ⟨bx9, 0, none⟩)), (11, .int .i64 6)]) rfl trivial fun a hk => ?_
      refine wpListIn_nil ?_
      refine then_n ?_
      refine wpIn_ret ?_
      refine then_r ?_
      obtain rfl := Option.some.inj H
      exact x_retG hk (rs := [.cell 10 41, .tmp 11]) (vs := [.agg #[.int .i64 p0.Key, .slice Ap0_0 (p0.Has).length cp0_0, .slice Ap0_1 (p0.Parts).length cp0_1], .int .i64 6]) rfl ⟨⟨_, rfl, load_box tab rfl rfl f10.now (k := 0) rfl rfl⟩, rfl, trivial⟩ ⟨fun b_ => if b_ < w.heap.size then o b_ else (fun l_ => if l_ = 1 then Lp0_0 else if l_ = 2 then Lp0_1 else 0) (o826 b_), Ap0_0, cp0_0, Ap0_1, cp0_1, rfl, hs.closeQ (Lm := []) (Sh := [Lp0_0, Lp0_1]) hoa rfl (fun l_ => if l_ = 1 then Lp0_0 else if l_ = 2 then Lp0_1 else 0), hs.closeM_ft (o := o) (ρ := fun l_ => if l_ = 1 then Lp0_0 else if l_ = 2 then Lp0_1 else 0) f900000 (lab_at hoa (i := 0) rfl) rfl, hcp0_0, hs.closeM_ft (o := o) (ρ := fun l_ => if l_ = 1 then Lp0_0 else if l_ = 2 then Lp0_1 else 0) f900001 (lab_at hoa (i := 1) rfl) rfl, hcp0_1⟩
  refine wpIn_region_lit ?_
  refine x_run tab hk (k := 3) (lv := []) (ks := [1, 2, 3, 4, 5, 10, 15]) (e' := [(1, .int .i64 p1), (2, .int .i64 p2), (3, .int .i64 p3), (4, .string p4), (5, .pointer (some ⟨bx4, 0, none⟩)), (10, .pointer (some ⟨bx9, 0, none⟩)), (15, .bool (decide (p3 < (1 : Int))))]) rfl trivial fun a hk => ?_
  cases b828 : (decide (p3 < (1 : Int)))
  · rw [b828] at hk H
    replace H := bifF H
    refine x_run tab hk (k := 4) (lv := []) (ks := [1, 2, 3, 4, 5, 10, 19]) (e' := [(1, .int .i64 p1), (2, .int .i64 p2), (3, .int .i64 p3), (4, .string p4), (5, .pointer (some ⟨bx4, 0, none⟩)), (10, .pointer (some ⟨bx9, 0, none⟩)), (19, .bool (decide (p3 > (4096 : Int))))]) rfl trivial fun a hk => ?_
    cases b829 : (decide (p3 > (4096 : Int)))
    · rw [b829] at hk H
      replace H := bifF H
      refine x_run tab hk (k := 4) (lv := []) (ks := [1, 2, 3, 4, 5, 10, 23]) (e' := [(1, .int .i64 p1), (2, .int .i64 p2), (3, .int .i64 p3), (4, .string p4), (5, .pointer (some ⟨bx4, 0, none⟩)), (10, .pointer (some ⟨bx9, 0, none⟩)), (23, .bool (decide (p2 < (0 : Int))))]) rfl trivial fun a hk => ?_
      cases b830 : (decide (p2 < (0 : Int)))
      · rw [b830] at hk H
        replace H := bifF H
        refine x_run tab hk (k := 5) (lv := []) (ks := [1, 2, 3, 4, 5, 10, 28]) (e' := [(1, .int .i64 p1), (2, .int .i64 p2), (3, .int .i64 p3), (4, .string p4), (5, .pointer (some ⟨bx4, 0, none⟩)), (10, .pointer (some ⟨bx9, 0, none⟩)), (28, .bool (decide (p2 ≥ p3)))]) rfl trivial fun a hk => ?_
        cases b831 : (decide (p2 ≥ p3))
        · rw [b831] at hk H
          replace H := bifF H
          refine x_run tab hk (k := 3) (lv := []) (ks := [1, 2, 3, 4, 5, 10, 31]) (e' := [(1, .int .i64 p1), (2, .int .i64 p2), (3, .int .i64 p3), (4, .string p4), (5, .pointer (some ⟨bx4, 0, none⟩)), (10, .pointer (some ⟨bx9, 0, none⟩)), (31, .bool (decide (p1 < (1 : Int))))]) rfl trivial fun a hk => ?_
          refine wpListIn_nil ?_
          refine then_n ?_
          exact ⟨(fun b_ => (fun l_ => if l_ = 3 then 123 else if l_ = 4 then 124 else l_) (o7 b_)), (decide (p1 < (1 : Int))), (by exact Kn.pick (ks := [1, 2, 3, 4, 5, 10, 31]) hk rfl), (hs.relabM hob (fun l_ => if l_ = 3 then 123 else if l_ = 4 then 124 else l_) (by decide)), (f10.relab (fun l_ => if l_ = 3 then 123 else if l_ = 4 then 124 else l_) rfl), (f5.relab (fun l_ => if l_ = 3 then 123 else if l_ = 4 then 124 else l_) rfl), (f900000.relab (fun l_ => if l_ = 3 then 123 else if l_ = 4 then 124 else l_) rfl), (f900001.relab (fun l_ => if l_ = 3 then 123 else if l_ = 4 then 124 else l_) rfl), H⟩
        · rw [b831] at hk H
          replace H := bifT H
          refine x_run tab hk (k := 3) (lv := []) (ks := [1, 2, 3, 4, 5, 10, 31]) (e' := [(1, .int .i64 p1), (2, .int .i64 p2), (3, .int .i64 p3), (4, .string p4), (5, .pointer (some ⟨bx4, 0, none⟩)), (10, .pointer (some ⟨bx9, 0, none⟩)), (31, .bool true)]) rfl trivial fun a hk => ?_
          refine wpListIn_nil ?_
          refine then_n ?_
          exact ⟨(fun b_ => (fun l_ => if l_ = 3 then 123 else if l_ = 4 then 124 else l_) (o7 b_)), true, (by exact Kn.pick (ks := [1, 2, 3, 4, 5, 10, 31]) hk rfl), (hs.relabM hob (fun l_ => if l_ = 3 then 123 else if l_ = 4 then 124 else l_) (by decide)), (f10.relab (fun l_ => if l_ = 3 then 123 else if l_ = 4 then 124 else l_) rfl), (f5.relab (fun l_ => if l_ = 3 then 123 else if l_ = 4 then 124 else l_) rfl), (f900000.relab (fun l_ => if l_ = 3 then 123 else if l_ = 4 then 124 else l_) rfl), (f900001.relab (fun l_ => if l_ = 3 then 123 else if l_ = 4 then 124 else l_) rfl), H⟩
      · rw [b830] at hk H
        replace H := bifT H
        refine x_run tab hk (k := 8) (lv := []) (ks := [1, 2, 3, 4, 5, 10, 31]) (e' := [(1, .int .i64 p1), (2, .int .i64 p2), (3, .int .i64 p3), (4, .string p4), (5, .pointer (some ⟨bx4, 0, none⟩)), (10, .pointer (some ⟨bx9, 0, none⟩)), (31, .bool true)]) rfl trivial fun a hk => ?_
        refine wpListIn_nil ?_
        refine then_n ?_
        exact ⟨(fun b_ => (fun l_ => if l_ = 3 then 123 else if l_ = 4 then 124 else l_) (o7 b_)), true, (by exact Kn.pick (ks := [1, 2, 3, 4, 5, 10, 31]) hk rfl), (hs.relabM hob (fun l_ => if l_ = 3 then 123 else if l_ = 4 then 124 else l_) (by decide)), (f10.relab (fun l_ => if l_ = 3 then 123 else if l_ = 4 then 124 else l_) rfl), (f5.relab (fun l_ => if l_ = 3 then 123 else if l_ = 4 then 124 else l_) rfl), (f900000.relab (fun l_ => if l_ = 3 then 123 else if l_ = 4 then 124 else l_) rfl), (f900001.relab (fun l_ => if l_ = 3 then 123 else if l_ = 4 then 124 else l_) rfl), H⟩
    · rw [b829] at hk H
      replace H := bifT H
      refine x_run tab hk (k := 11) (lv := []) (ks := [1, 2, 3, 4, 5, 10, 28, 30]) (e' := [(1, .int .i64 p1), (2, .int .i64 p2), (3, .int .i64 p3), (4, .string p4), (5, .pointer (some ⟨bx4, 0, none⟩)), (10, .pointer (some ⟨bx9, 0, none⟩)), (28, .bool true), (30, undef)]) rfl trivial fun a hk => ?_
      refine x_run tab hk (k := 1) (lv := []) (ks := [1, 2, 3, 4, 5, 10, 31]) (e' := [(1, .int .i64 p1), (2, .int .i64 p2), (3, .int .i64 p3), (4, .string p4), (5, .pointer (some ⟨bx4, 0, none⟩)), (10, .pointer (some ⟨bx9, 0, none⟩)), (31, .bool true)]) rfl trivial fun a hk => ?_
      refine wpListIn_nil ?_
      refine then_n ?_
      exact ⟨(fun b_ => (fun l_ => if l_ = 3 then 123 else if l_ = 4 then 124 else l_) (o7 b_)), true, (by exact Kn.pick (ks := [1, 2, 3, 4, 5, 10, 31]) hk rfl), (hs.relabM hob (fun l_ => if l_ = 3 then 123 else if l_ = 4 then 124 else l_) (by decide)), (f10.relab (fun l_ => if l_ = 3 then 123 else if l_ = 4 then 124 else l_) rfl), (f5.relab (fun l_ => if l_ = 3 then 123 else if l_ = 4 then 124 else l_) rfl), (f900000.relab (fun l_ => if l_ = 3 then 123 else if l_ = 4 then 124 else l_) rfl), (f900001.relab (fun l_ => if l_ = 3 then 123 else if l_ = 4 then 124 else l_) rfl), H⟩
  · rw [b828] at hk H
    replace H := bifT H
    refine x_run tab hk (k := 11) (lv := []) (ks := [1, 2, 3, 4, 5, 10, 23, 26]) (e' := [(1, .int .i64 p1), (2, .int .i64 p2), (3, .int .i64 p3), (4, .string p4), (5, .pointer (some ⟨bx4, 0, none⟩)), (10, .pointer (some ⟨bx9, 0, none⟩)), (23, .bool true), (26, undef)]) rfl trivial fun a hk => ?_
    refine x_run tab hk (k := 5) (lv := []) (ks := [1, 2, 3, 4, 5, 10, 31]) (e' := [(1, .int .i64 p1), (2, .int .i64 p2), (3, .int .i64 p3), (4, .string p4), (5, .pointer (some ⟨bx4, 0, none⟩)), (10, .pointer (some ⟨bx9, 0, none⟩)), (31, .bool true)]) rfl trivial fun a hk => ?_
    refine wpListIn_nil ?_
    refine then_n ?_
    exact ⟨(fun b_ => (fun l_ => if l_ = 3 then 123 else if l_ = 4 then 124 else l_) (o7 b_)), true, (by exact Kn.pick (ks := [1, 2, 3, 4, 5, 10, 31]) hk rfl), (hs.relabM hob (fun l_ => if l_ = 3 then 123 else if l_ = 4 then 124 else l_) (by decide)), (f10.relab (fun l_ => if l_ = 3 then 123 else if l_ = 4 then 124 else l_) rfl), (f5.relab (fun l_ => if l_ = 3 then 123 else if l_ = 4 then 124 else l_) rfl), (f900000.relab (fun l_ => if l_ = 3 then 123 else if l_ = 4 then 124 else l_) rfl), (f900001.relab (fun l_ => if l_ = 3 then 123 else if l_ = 4 then 124 else l_) rfl), H⟩

/-! tidewrack/tidewracklaw04.PartsPlay -/
set_option maxHeartbeats 4000000 in
theorem tidewracklaw04_PartsPlay_calls (K : Nat) (Ap0 : Option Addr) (cp0 : Nat) (p0 : List T42) (w : World) (o : Nat → Nat) (Lp0 : Nat) (hp0 : Ft (RdC ET42 Ap0 p0) w o Lp0) (hcp0 : (p0).length ≤ cp0)  (r : Bool) (H : tidewracklaw04_PartsPlay K p0 = some r) :
    Calls Try.prog 6 #[.slice Ap0 (p0).length cp0] w (Ret fun v_ w' => ∃ o' : Nat → Nat, v_ = .bool r ∧ St [] w o w' o') := by
  refine x_enter (vs := [.slice Ap0 (p0).length cp0]) Try.func6 rfl rfl rfl fun a hk => ?_
  obtain ⟨o0, hs, h0⟩ := St.start w o
  have f900000 := h0 _ _ hp0
  clear h0
  rw [tidewracklaw04_PartsPlay] at H
  refine x_seq ?_
  refine wpIn_region_lit ?_
  refine x_run tab hk (k := 1) (lv := []) (ks := [0]) (e' := [(0, .slice Ap0 (p0).length cp0)]) rfl trivial fun a hk => ?_
  refine wpListIn_nil ?_
  refine then_n ?_
  refine x_seq ?_
  refine x_seq ?_
  refine wpIn_region_lit ?_
  refine x_op hk rfl ?_
  obtain ⟨t4, hc5, H⟩ := bindS H
  refine op_call hk ent_7 (vs := []) rfl (tidewracklaw04_awake_calls K  _ o0    _ hc5) ?_
  rintro _ w6 ⟨o7, rfl, st8⟩
  replace f900000 := f900000.st st8 (by decide)
  replace hs := hs.loc0 st8 (by decide)
  have hk := hk.put 11 (.bool t4) rfl
  refine x_run tab hk (k := 1) (lv := []) (ks := [0, 12]) (e' := [(0, .slice Ap0 (p0).length cp0), (12, .bool (!t4))]) rfl trivial fun a hk => ?_
  refine wpListIn_nil ?_
  refine then_n ?_
  cases b9 : (!t4)
  · rw [b9] at hk H
    replace H := bifF H
    refine x_if hk (b := false) rfl ?_
    refine (show Code.wpIn _ _ _ _ _ _ _ from ?_)
    refine wpIn_skip ?_
    refine then_n ?_
    refine x_seq ?_
    refine wpIn_region_lit ?_
    refine x_op hk rfl ?_
    refine op_alloc (o := o7) tab (t := 30) (cs := [.int .i64 0, .int .i64 0, mv none, .int .i64 0]) rfl rfl 1 fun bx13 w10 o11 st12 f14 => ?_
    replace f900000 := f900000.st st12 (by decide)
    replace hs := hs.loc0 st12 (by decide)
    have hk := hk.put 3 (.pointer (some ⟨bx13, 0, none⟩)) rfl
    refine wpListIn_nil ?_
    refine then_n ?_
    refine x_seq ?_
    refine wpIn_region_lit ?_
    refine x_run tab hk (k := 1) (lv := []) (ks := [0, 3, 13]) (e' := [(0, .slice Ap0 (p0).length cp0), (3, .pointer (some ⟨bx13, 0, none⟩)), (13, .agg #[.int .i64 0, .slice none 0 0, .slice none 0 0])]) rfl trivial fun a hk => ?_
    refine x_op hk rfl ?_
    refine op_alloc (o := o11) tab (t := 41) (cs := [.int .i64 0, .slice none 0 0, .slice none 0 0]) rfl rfl 2 fun bx18 w15 o16 st17 f19 => ?_
    replace f14 := f14.st st17 (by decide)
    replace f900000 := f900000.st st17 (by decide)
    replace hs := hs.loc0 st17 (by decide)
    have hk := hk.put 4 (.pointer (some ⟨bx18, 0, none⟩)) rfl
    refine x_op hk rfl ?_
    refine op_store tab hk (t := 41) (v := .agg #[.int .i64 0, .slice none 0 0, .slice none 0 0]) (b := bx18) (k := 0) (cs' := [.int .i64 0, .slice none 0 0, .slice none 0 0]) rfl rfl rfl rfl rfl rfl f19 rfl rfl fun w20 o21 st22 f19_ => ?_
    replace f14 := f14.st st22 (by decide)
    replace f900000 := f900000.st st22 (by decide)
    replace hs := hs.loc0 st22 (by decide)
    replace f19 := f19_
    refine wpListIn_nil ?_
    refine then_n ?_
    refine x_mid (fun a_ w_ => ∃ o1218 : Nat → Nat, Kn 89 a_ [] ∧ St [] w (fun _ => 0) w_ o1218 ∧ tidewracklaw04_PartsPlay_j1 = some r) ?_ ?_
    rotate_left
    · rintro a w1219 ⟨o1218, hk, hs, H⟩
      rw [tidewracklaw04_PartsPlay_j1] at H
      refine x_seq ?_
      refine wpIn_region_lit ?_
      refine x_run tab hk (k := 1) (lv := []) (ks := [2]) (e' := [(2, .bool true)]) rfl trivial fun a hk => ?_
      refine wpListIn_nil ?_
      refine then_n ?_
      refine wpIn_ret ?_
      obtain rfl := Option.some.inj H
      exact x_retG hk (rs := [.tmp 2]) (vs := [.bool true]) rfl ⟨rfl, trivial⟩ ⟨fun b_ => if b_ < w.heap.size then o b_ else (fun _ => 0) (o1218 b_), rfl, hs.close0 o (fun _ => 0)⟩
    refine x_seq ?_
    refine wpIn_region_lit ?_
    refine x_run tab hk (k := 1) (lv := []) (ks := [0, 3, 4, 5]) (e' := [(0, .slice Ap0 (p0).length cp0), (3, .pointer (some ⟨bx13, 0, none⟩)), (4, .pointer (some ⟨bx18, 0, none⟩)), (5, .int .i64 0)]) rfl trivial fun a hk => ?_
    refine wpListIn_nil ?_
    refine then_n ?_
    refine wpIn_block ?_
    refine x_loop (fun j_ a_ w_ => ∃ o1611 : Nat → Nat, ∃ x1612 : Int, ∃ x1613 : Int, ∃ A1614 : Option Addr, ∃ c1615 : Nat, ∃ l1616 : M ByteArray, ∃ x1619 : Int, ∃ x1620 : Int, ∃ A1621 : Option Addr, ∃ c1622 : Nat, ∃ l1623 : List Bool, ∃ A1626 : Option Addr, ∃ c1627 : Nat, ∃ l1628 : List ByteArray, ∃ x1631 : Int, Kn 89 a_ [(0, .slice Ap0 (p0).length cp0), (3, .pointer (some ⟨bx13, 0, none⟩)), (4, .pointer (some ⟨bx18, 0, none⟩)), (5, .int .i64 x1631)] ∧ St [] w (fun _ => 0) w_ o1611 ∧ Ft (Bx bx13 30 [.int .i64 x1612, .int .i64 x1613, mv A1614, .int .i64 x1619]) w_ o1611 265 ∧ Ft (MpF encStr false A1614 l1616) w_ o1611 264 ∧ Ft (RdC encBool A1621 l1623) w_ o1611 266 ∧ Ft (RdC encStr A1626 l1628) w_ o1611 267 ∧ Ft (Bx bx18 41 [.int .i64 x1620, .slice A1621 (l1623).length c1622, .slice A1626 (l1628).length c1627]) w_ o1611 268 ∧ Ft (RdC ET42 Ap0 p0) w_ o1611 0 ∧ (l1616).length ≤ c1615 ∧ (l1623).length ≤ c1622 ∧ (l1628).length ≤ c1627 ∧ tidewracklaw04_PartsPlay_l2 K p0 j_ x1612 x1613 l1616 x1619 x1620 l1623 l1628 x1631 = some r) (k := K) ⟨(fun b_ => (fun l_ => if l_ = 1 then 265 else if l_ = 2 then 268 else l_) (o21 b_)), 0, 0, none, 0, (M.nil : M ByteArray), 0, 0, none, 0, ([] : List Bool), none, 0, ([] : List ByteArray), 0, (by exact Kn.pick (ks := [0, 3, 4, 5]) hk rfl), (hs.relab0 (fun l_ => if l_ = 1 then 265 else if l_ = 2 then 268 else l_) rfl), (f14.relab (fun l_ => if l_ = 1 then 265 else if l_ = 2 then 268 else l_) rfl), (Ft.of_all (fun _ => MpF.nil _ _ _) _ _ _), (Ft.of_all (fun _ => (fun h_ => absurd h_ (by simp))) _ _ _), (Ft.of_all (fun _ => (fun h_ => absurd h_ (by simp))) _ _ _), (f19.relab (fun l_ => if l_ = 1 then 265 else if l_ = 2 then 268 else l_) rfl), (f900000.relab (fun l_ => if l_ = 1 then 265 else if l_ = 2 then 268 else l_) rfl), (Nat.le_refl _), (by simp), (by simp), H⟩ (by rintro _ _ ⟨_, _, _, _, _, _, _, _, _, _, _, _, _, _, _, _, _, _, _, _, _, _, _, _, _, _, H_⟩; exact absurd (show (none : Option Bool) = some r from H_) (by simp)) ?_
    rintro k2021 a w2020 ⟨o1611, x1612, x1613, A1614, c1615, l1616, x1619, x1620, A1621, c1622, l1623, A1626, c1627, l1628, x1631, hk, hs, f14, f1617, f1624, f1629, f19, f900000, hc1618, hc1625, hc1630, H⟩
    rw [tidewracklaw04_PartsPlay_l2] at H
    obtain ⟨lp2022, hlp2023⟩ : ∃ lp_, lp_ = tidewracklaw04_PartsPlay_l2 K p0 k2021 := ⟨_, rfl⟩
    rw [← hlp2023] at H
    refine x_mid (fun a_ w_ => ∃ o2029 : Nat → Nat, Kn 89 a_ [(0, .slice Ap0 (p0).length cp0), (3, .pointer (some ⟨bx13, 0, none⟩)), (4, .pointer (some ⟨bx18, 0, none⟩)), (5, .int .i64 x1631)] ∧ St [] w (fun _ => 0) w_ o2029 ∧ Ft (Bx bx13 30 [.int .i64 x1612, .int .i64 x1613, mv A1614, .int .i64 x1619]) w_ o2029 341 ∧ Ft (MpF encStr false A1614 l1616) w_ o2029 340 ∧ Ft (RdC encBool A1621 l1623) w_ o2029 342 ∧ Ft (RdC encStr A1626 l1628) w_ o2029 343 ∧ Ft (Bx bx18 41 [.int .i64 x1620, .slice A1621 (l1623).length c1622, .slice A1626 (l1628).length c1627]) w_ o2029 344 ∧ Ft (RdC ET42 Ap0 p0) w_ o2029 0 ∧ tidewracklaw04_PartsPlay_j3 K p0 x1612 x1613 l1616 x1619 x1620 l1623 l1628 x1631 lp2022 = some r) ?_ ?_
    rotate_left
    · rintro a w2030 ⟨o2029, hk, hs, f14, f1617, f1624, f1629, f19, f900000, H⟩
      rw [tidewracklaw04_PartsPlay_j3] at H
      refine x_seq ?_
      refine wpIn_block ?_
      refine x_seq ?_
      refine wpIn_region_lit ?_
      obtain ⟨q2031, H⟩ := ifS H
      obtain ⟨ad2032, hAad2032⟩ := RdC.addr f900000.now q2031
      have hk_C := hk
      have f14_C := f14
      have f1617_C := f1617
      have f1624_C := f1624
      have f1629_C := f1629
      have f19_C := f19
      have f900000_C := f900000
      subst hAad2032
      have hk := hk_C
      clear hk_C
      have f14 := f14_C
      clear f14_C
      have f1617 := f1617_C
      clear f1617_C
      have f1624 := f1624_C
      clear f1624_C
      have f1629 := f1629_C
      clear f1629_C
      have f19 := f19_C
      clear f19_C
      have f900000 := f900000_C
      clear f900000_C
      refine x_run tab hk (k := 4) (lv := [.agg #[.bool ((rdD zT42 p0 x1631).Forget), .int .i64 ((rdD zT42 p0 x1631).Key), .int .i64 ((rdD zT42 p0 x1631).Index), .int .i64 ((rdD zT42 p0 x1631).Count), .string ((rdD zT42 p0 x1631).Data)]]) (ks := [0, 3, 4, 5, 27]) (e' := [(0, .slice (some ad2032) (p0).length cp0), (3, .pointer (some ⟨bx13, 0, none⟩)), (4, .pointer (some ⟨bx18, 0, none⟩)), (5, .int .i64 x1631), (27, .agg #[.bool ((rdD zT42 p0 x1631).Forget), .int .i64 ((rdD zT42 p0 x1631).Key), .int .i64 ((rdD zT42 p0 x1631).Index), .int .i64 ((rdD zT42 p0 x1631).Count), .string ((rdD zT42 p0 x1631).Data)])]) rfl ⟨q2031, (load_elem (E := ET42) (i := x1631) (dx := zT42) tab rfl rfl f900000.now q2031), trivial⟩ fun a hk => ?_
      refine x_op hk rfl ?_
      refine op_alloc (o := o2029) tab (t := 43) (cs := [.bool false, .int .i64 0, .int .i64 0, .int .i64 0, .string (⟨#[]⟩ : ByteArray)]) rfl rfl 345 fun bx2036 w2033 o2034 st2035 f2037 => ?_
      replace f14 := f14.st st2035 (by decide)
      replace f1617 := f1617.st st2035 (by decide)
      replace f1624 := f1624.st st2035 (by decide)
      replace f1629 := f1629.st st2035 (by decide)
      replace f19 := f19.st st2035 (by decide)
      replace f900000 := f900000.st st2035 (by decide)
      replace hs := hs.loc0 st2035 (by decide)
      have hk := hk.put 6 (.pointer (some ⟨bx2036, 0, none⟩)) rfl
      refine x_op hk rfl ?_
      refine op_store tab hk (t := 43) (v := .agg #[.bool ((rdD zT42 p0 x1631).Forget), .int .i64 ((rdD zT42 p0 x1631).Key), .int .i64 ((rdD zT42 p0 x1631).Index), .int .i64 ((rdD zT42 p0 x1631).Count), .string ((rdD zT42 p0 x1631).Data)]) (b := bx2036) (k := 0) (cs' := [.bool ((rdD zT42 p0 x1631).Forget), .int .i64 ((rdD zT42 p0 x1631).Key), .int .i64 ((rdD zT42 p0 x1631).Index), .int .i64 ((rdD zT42 p0 x1631).Count), .string ((rdD zT42 p0 x1631).Data)]) rfl rfl rfl rfl rfl rfl f2037 rfl rfl fun w2038 o2039 st2040 f2037_ => ?_
      replace f14 := f14.st st2040 (by decide)
      replace f1617 := f1617.st st2040 (by decide)
      replace f1624 := f1624.st st2040 (by decide)
      replace f1629 := f1629.st st2040 (by decide)
      replace f19 := f19.st st2040 (by decide)
      replace f900000 := f900000.st st2040 (by decide)
      replace hs := hs.loc0 st2040 (by decide)
      replace f2037 := f2037_
      refine wpListIn_nil ?_
      refine then_n ?_
      refine x_seq ?_
      refine wpIn_region_lit ?_
      refine x_op hk rfl ?_
      obtain ⟨t2044, hc2045, H⟩ := bindS H
      refine op_call hk ent_15 (vs := [.pointer (some ⟨bx13, 0, none⟩)]) rfl (parts_Slot_Clone_calls bx13 A1614 c1615 (⟨x1612, x1613, l1616, x1619⟩ : T29) _ o2039 341 f14 _ f1617 hc1618 346 347  _ hc2045) ?_
      rintro _ w2046 ⟨o2047, bx2049, A2051, c2052, rfl, st2048, f2050, f2053, hc2054⟩
      replace f14 := f14.st st2048 (by decide)
      replace f1617 := f1617.st st2048 (by decide)
      replace f1624 := f1624.st st2048 (by decide)
      replace f1629 := f1629.st st2048 (by decide)
      replace f19 := f19.st st2048 (by decide)
      replace f2037 := f2037.st st2048 (by decide)
      replace f900000 := f900000.st st2048 (by decide)
      replace hs := hs.loc0 st2048 (by decide)
      have hk := hk.put 28 (.pointer (some ⟨bx2049, 0, none⟩)) rfl
      refine x_run tab hk (k := 1) (lv := []) (ks := [0, 3, 4, 5, 6, 7]) (e' := [(0, .slice (some ad2032) (p0).length cp0), (3, .pointer (some ⟨bx13, 0, none⟩)), (4, .pointer (some ⟨bx18, 0, none⟩)), (5, .int .i64 x1631), (6, .pointer (some ⟨bx2036, 0, none⟩)), (7, .pointer (some ⟨bx2049, 0, none⟩))]) rfl trivial fun a hk => ?_
      refine wpListIn_nil ?_
      refine then_n ?_
      refine x_mid (fun a_ w_ => ∃ o2067 : Nat → Nat, Kn 89 a_ [(0, .slice (some ad2032) (p0).length cp0), (3, .pointer (some ⟨bx13, 0, none⟩)), (4, .pointer (some ⟨bx18, 0, none⟩)), (5, .int .i64 x1631), (6, .pointer (some ⟨bx2036, 0, none⟩)), (7, .pointer (some ⟨bx2049, 0, none⟩))] ∧ St [] w (fun _ => 0) w_ o2067 ∧ Ft (Bx bx13 30 [.int .i64 x1612, .int .i64 x1613, mv A1614, .int .i64 x1619]) w_ o2067 349 ∧ Ft (MpF encStr false A1614 l1616) w_ o2067 348 ∧ Ft (RdC encBool A1621 l1623) w_ o2067 350 ∧ Ft (RdC encStr A1626 l1628) w_ o2067 351 ∧ Ft (Bx bx18 41 [.int .i64 x1620, .slice A1621 (l1623).length c1622, .slice A1626 (l1628).length c1627]) w_ o2067 352 ∧ Ft (Bx bx2036 43 [.bool ((rdD zT42 p0 x1631).Forget), .int .i64 ((rdD zT42 p0 x1631).Key), .int .i64 ((rdD zT42 p0 x1631).Index), .int .i64 ((rdD zT42 p0 x1631).Count), .string ((rdD zT42 p0 x1631).Data)]) w_ o2067 353 ∧ Ft (Bx bx2049 30 [.int .i64 t2044.key, .int .i64 t2044.count, mv A2051, .int .i64 t2044.bytes]) w_ o2067 355 ∧ Ft (MpF encStr false A2051 t2044.parts) w_ o2067 354 ∧ Ft (RdC ET42 (some ad2032) p0) w_ o2067 0 ∧ tidewracklaw04_PartsPlay_j4 K p0 x1612 x1613 l1616 x1619 x1620 l1623 l1628 x1631 lp2022 t2044 = some r) ?_ ?_
      rotate_left
      · rintro a w2068 ⟨o2067, hk, hs, f14, f1617, f1624, f1629, f19, f2037, f2050, f2053, f900000, H⟩
        rw [tidewracklaw04_PartsPlay_j4] at H
        refine x_mid (fun a_ w_ => ∃ o2232 : Nat → Nat, ∃ x2233 : Int, ∃ x2234 : Int, ∃ A2235 : Option Addr, ∃ c2236 : Nat, ∃ l2237 : M ByteArray, ∃ x2240 : Int, ∃ x2241 : Int, ∃ A2242 : Option Addr, ∃ c2243 : Nat, ∃ l2244 : List Bool, ∃ A2247 : Option Addr, ∃ c2248 : Nat, ∃ l2249 : List ByteArray, Kn 89 a_ [(0, .slice (some ad2032) (p0).length cp0), (3, .pointer (some ⟨bx13, 0, none⟩)), (4, .pointer (some ⟨bx18, 0, none⟩)), (5, .int .i64 x1631)] ∧ St [] w (fun _ => 0) w_ o2232 ∧ Ft (Bx bx18 41 [.int .i64 x2241, .slice A2242 (l2244).length c2243, .slice A2247 (l2249).length c2248]) w_ o2232 385 ∧ Ft (Bx bx13 30 [.int .i64 x2233, .int .i64 x2234, mv A2235, .int .i64 x2240]) w_ o2232 382 ∧ Ft (MpF encStr false A2235 l2237) w_ o2232 381 ∧ Ft (RdC encBool A2242 l2244) w_ o2232 383 ∧ Ft (RdC encStr A2247 l2249) w_ o2232 384 ∧ Ft (RdC ET42 (some ad2032) p0) w_ o2232 0 ∧ (l2237).length ≤ c2236 ∧ (l2244).length ≤ c2243 ∧ (l2249).length ≤ c2248 ∧ tidewracklaw04_PartsPlay_j5 K x1631 lp2022 x2233 x2234 l2237 x2240 x2241 l2244 l2249 = some r) ?_ ?_
        rotate_left
        · rintro a w2252 ⟨o2232, x2233, x2234, A2235, c2236, l2237, x2240, x2241, A2242, c2243, l2244, A2247, c2248, l2249, hk, hs, f19, f2137, f2238, f2245, f2250, f900000, hc2239, hc2246, hc2251, H⟩
          rw [tidewracklaw04_PartsPlay_j5] at H
          refine x_seq ?_
          refine wpIn_region_lit ?_
          refine x_run tab hk (k := 1) (lv := [.agg #[.int .i64 x2241, .slice A2242 (l2244).length c2243, .slice A2247 (l2249).length c2248]]) (ks := [0, 3, 4, 5, 86]) (e' := [(0, .slice (some ad2032) (p0).length cp0), (3, .pointer (some ⟨bx13, 0, none⟩)), (4, .pointer (some ⟨bx18, 0, none⟩)), (5, .int .i64 x1631), (86, .agg #[.int .i64 x2241, .slice A2242 (l2244).length c2243, .slice A2247 (l2249).length c2248])]) rfl ⟨(load_box tab rfl rfl f19.now (k := 0) rfl rfl), trivial⟩ fun a hk => ?_
          refine x_op hk rfl ?_
          obtain ⟨t2256, hc2257, H⟩ := bindS H
          refine op_call hk ent_16 (vs := [.pointer (some ⟨bx13, 0, none⟩), .agg #[.int .i64 x2241, .slice A2242 (l2244).length c2243, .slice A2247 (l2249).length c2248]]) rfl (tidewracklaw04_Is_calls K bx13 A2235 c2236 (⟨x2233, x2234, l2237, x2240⟩ : T29) A2242 c2243 A2247 c2248 (⟨x2241, l2244, l2249⟩ : T40) _ o2232 382 f2137 _ f2238 hc2239 _ f2245 hc2246 _ f2250 hc2251   _ hc2257) ?_
          rintro _ w2258 ⟨o2259, rfl, st2260⟩
          replace f19 := f19.st st2260 (by decide)
          replace f2137 := f2137.st st2260 (by decide)
          replace f2238 := f2238.st st2260 (by decide)
          replace f2245 := f2245.st st2260 (by decide)
          replace f2250 := f2250.st st2260 (by decide)
          replace f900000 := f900000.st st2260 (by decide)
          replace hs := hs.loc0 st2260 (by decide)
          have hk := hk.put 87 (.bool t2256) rfl
          refine x_run tab hk (k := 1) (lv := []) (ks := [0, 3, 4, 5, 88]) (e' := [(0, .slice (some ad2032) (p0).length cp0), (3, .pointer (some ⟨bx13, 0, none⟩)), (4, .pointer (some ⟨bx18, 0, none⟩)), (5, .int .i64 x1631), (88, .bool (!t2256))]) rfl trivial fun a hk => ?_
          refine wpListIn_nil ?_
          refine then_n ?_
          cases b2261 : (!t2256)
          · rw [b2261] at hk H
            replace H := bifF H
            refine x_if hk (b := false) rfl ?_
            refine (show Code.wpIn _ _ _ _ _ _ _ from ?_)
            refine wpIn_skip ?_
            refine blk_n ?_
            refine then_n ?_
            refine wpIn_region_lit ?_
            refine x_run tab hk (k := 3) (lv := []) (ks := [0, 3, 4, 5]) (e' := [(0, .slice (some ad2032) (p0).length cp0), (3, .pointer (some ⟨bx13, 0, none⟩)), (4, .pointer (some ⟨bx18, 0, none⟩)), (5, .int .i64 (IntKind.wrap .i64 (x1631 + 1)))]) rfl trivial fun a hk => ?_
            refine wpListIn_nil ?_
            refine then_n ?_
            exact ⟨k2021, Nat.le_refl _, (fun b_ => (fun l_ => if l_ = 381 then 264 else if l_ = 382 then 265 else if l_ = 383 then 266 else if l_ = 384 then 267 else if l_ = 385 then 268 else l_) (o2259 b_)), x2233, x2234, A2235, c2236, l2237, x2240, x2241, A2242, c2243, l2244, A2247, c2248, l2249, (IntKind.wrap .i64 (x1631 + 1)), (by exact Kn.pick (ks := [0, 3, 4, 5]) hk rfl), (hs.relab0 (fun l_ => if l_ = 381 then 264 else if l_ = 382 then 265 else if l_ = 383 then 266 else if l_ = 384 then 267 else if l_ = 385 then 268 else l_) rfl), (f2137.relab (fun l_ => if l_ = 381 then 264 else if l_ = 382 then 265 else if l_ = 383 then 266 else if l_ = 384 then 267 else if l_ = 385 then 268 else l_) rfl), (f2238.relab (fun l_ => if l_ = 381 then 264 else if l_ = 382 then 265 else if l_ = 383 then 266 else if l_ = 384 then 267 else if l_ = 385 then 268 else l_) rfl), (f2245.relab (fun l_ => if l_ = 381 then 264 else if l_ = 382 then 265 else if l_ = 383 then 266 else if l_ = 384 then 267 else if l_ = 385 then 268 else l_) rfl), (f2250.relab (fun l_ => if l_ = 381 then 264 else if l_ = 382 then 265 else if l_ = 383 then 266 else if l_ = 384 then 267 else if l_ = 385 then 268 else l_) rfl), (f19.relab (fun l_ => if l_ = 381 then 264 else if l_ = 382 then 265 else if l_ = 383 then 266 else if l_ = 384 then 267 else if l_ = 385 then 268 else l_) rfl), (f900000.relab (fun l_ => if l_ = 381 then 264 else if l_ = 382 then 265 else if l_ = 383 then 266 else if l_ = 384 then 267 else if l_ = 385 then 268 else l_) rfl), hc2239, hc2246, hc2251, (hlp2023 ▸ H)⟩
          · rw [b2261] at hk H
            replace H := bifT H
            refine x_if hk (b := true) rfl ?_
            refine (show Code.wpIn _ _ _ _ _ _ _ from ?_)
            refine x_seq ?_
            refine wpIn_region_lit ?_
            refine x_run tab hk (k := 1) (lv := []) (ks := [2]) (e' := [(2, .bool false)]) rfl trivial fun a hk => ?_
            refine wpListIn_nil ?_
            refine then_n ?_
            refine wpIn_ret ?_
            refine blk_r ?_
            refine then_r ?_
            refine then_r ?_
            refine blk_r ?_
            refine then_r ?_
            obtain rfl := Option.some.inj H
            exact x_retG hk (rs := [.tmp 2]) (vs := [.bool false]) rfl ⟨rfl, trivial⟩ ⟨fun b_ => if b_ < w.heap.size then o b_ else (fun _ => 0) (o2259 b_), rfl, hs.close0 o (fun _ => 0)⟩
        refine x_seq ?_
        refine wpIn_region_lit ?_
        refine x_run tab hk (k := 2) (lv := [.bool ((rdD zT42 p0 x1631).Forget)]) (ks := [0, 3, 4, 5, 6, 7, 38]) (e' := [(0, .slice (some ad2032) (p0).length cp0), (3, .pointer (some ⟨bx13, 0, none⟩)), (4, .pointer (some ⟨bx18, 0, none⟩)), (5, .int .i64 x1631), (6, .pointer (some ⟨bx2036, 0, none⟩)), (7, .pointer (some ⟨bx2049, 0, none⟩)), (38, .bool ((rdD zT42 p0 x1631).Forget))]) rfl ⟨(load1 tab rfl ((Bx.cell f2037.now 0).trans rfl)), trivial⟩ fun a hk => ?_
        refine wpListIn_nil ?_
        refine then_n ?_
        cases b2262 : (rdD zT42 p0 x1631).Forget
        · rw [b2262] at hk H
          replace H := bifF H
          rw [b2262] at f2037
          refine x_if hk (b := false) rfl ?_
          refine (show Code.wpIn _ _ _ _ _ _ _ from ?_)
          refine x_seq ?_
          refine wpIn_region_lit ?_
          refine x_run tab hk (k := 2) (lv := [.string ((rdD zT42 p0 x1631).Data)]) (ks := [0, 3, 4, 5, 6, 7, 42]) (e' := [(0, .slice (some ad2032) (p0).length cp0), (3, .pointer (some ⟨bx13, 0, none⟩)), (4, .pointer (some ⟨bx18, 0, none⟩)), (5, .int .i64 x1631), (6, .pointer (some ⟨bx2036, 0, none⟩)), (7, .pointer (some ⟨bx2049, 0, none⟩)), (42, .string ((rdD zT42 p0 x1631).Data))]) rfl ⟨(load1 tab rfl ((Bx.cell f2037.now 4).trans rfl)), trivial⟩ fun a hk => ?_
          refine x_op hk rfl ?_
          obtain ⟨t2266, hc2267, H⟩ := bindS H
          refine op_call hk ent_8 (vs := [.string ((rdD zT42 p0 x1631).Data), .int .i64 20]) rfl (tidewracklaw01_Cut_calls ((rdD zT42 p0 x1631).Data) 20 _ o2067    _ hc2267) ?_
          rintro _ w2268 ⟨o2269, rfl, st2270⟩
          replace f14 := f14.st st2270 (by decide)
          replace f1617 := f1617.st st2270 (by decide)
          replace f1624 := f1624.st st2270 (by decide)
          replace f1629 := f1629.st st2270 (by decide)
          replace f19 := f19.st st2270 (by decide)
          replace f2037 := f2037.st st2270 (by decide)
          replace f2050 := f2050.st st2270 (by decide)
          replace f2053 := f2053.st st2270 (by decide)
          replace f900000 := f900000.st st2270 (by decide)
          replace hs := hs.loc0 st2270 (by decide)
          have hk := hk.put 43 (.string t2266) rfl
          refine x_run tab hk (k := 1) (lv := []) (ks := [0, 3, 4, 5, 6, 7, 8]) (e' := [(0, .slice (some ad2032) (p0).length cp0), (3, .pointer (some ⟨bx13, 0, none⟩)), (4, .pointer (some ⟨bx18, 0, none⟩)), (5, .int .i64 x1631), (6, .pointer (some ⟨bx2036, 0, none⟩)), (7, .pointer (some ⟨bx2049, 0, none⟩)), (8, .string t2266)]) rfl trivial fun a hk => ?_
          refine wpListIn_nil ?_
          refine then_n ?_
          refine x_mid (fun a_ w_ => ∃ o2292 : Nat → Nat, ∃ x2293 : T42, Kn 89 a_ [(0, .slice (some ad2032) (p0).length cp0), (3, .pointer (some ⟨bx13, 0, none⟩)), (4, .pointer (some ⟨bx18, 0, none⟩)), (5, .int .i64 x1631), (6, .pointer (some ⟨bx2036, 0, none⟩)), (7, .pointer (some ⟨bx2049, 0, none⟩)), (8, .string t2266)] ∧ St [] w (fun _ => 0) w_ o2292 ∧ Ft (Bx bx13 30 [.int .i64 x1612, .int .i64 x1613, mv A1614, .int .i64 x1619]) w_ o2292 395 ∧ Ft (MpF encStr false A1614 l1616) w_ o2292 394 ∧ Ft (RdC encBool A1621 l1623) w_ o2292 396 ∧ Ft (RdC encStr A1626 l1628) w_ o2292 397 ∧ Ft (Bx bx18 41 [.int .i64 x1620, .slice A1621 (l1623).length c1622, .slice A1626 (l1628).length c1627]) w_ o2292 398 ∧ Ft (Bx bx2036 43 [.bool x2293.Forget, .int .i64 x2293.Key, .int .i64 x2293.Index, .int .i64 x2293.Count, .string x2293.Data]) w_ o2292 399 ∧ Ft (Bx bx2049 30 [.int .i64 t2044.key, .int .i64 t2044.count, mv A2051, .int .i64 t2044.bytes]) w_ o2292 401 ∧ Ft (MpF encStr false A2051 t2044.parts) w_ o2292 400 ∧ Ft (RdC ET42 (some ad2032) p0) w_ o2292 0 ∧ tidewracklaw04_PartsPlay_j6 K x1612 x1613 l1616 x1619 x1620 l1623 l1628 x1631 lp2022 t2044 t2266 x2293 = some r) ?_ ?_
          rotate_left
          · rintro a w2294 ⟨o2292, x2293, hk, hs, f14, f1617, f1624, f1629, f19, f2037, f2050, f2053, f900000, H⟩
            rw [tidewracklaw04_PartsPlay_j6] at H
            refine x_seq ?_
            refine wpIn_region_lit ?_
            refine x_run tab hk (k := 8) (lv := [.agg #[.int .i64 x1620, .slice A1621 (l1623).length c1622, .slice A1626 (l1628).length c1627], .int .i64 x2293.Key, .int .i64 x2293.Index, .int .i64 x2293.Count]) (ks := [0, 3, 4, 5, 6, 7, 8, 54, 56, 58, 60, 61]) (e' := [(0, .slice (some ad2032) (p0).length cp0), (3, .pointer (some ⟨bx13, 0, none⟩)), (4, .pointer (some ⟨bx18, 0, none⟩)), (5, .int .i64 x1631), (6, .pointer (some ⟨bx2036, 0, none⟩)), (7, .pointer (some ⟨bx2049, 0, none⟩)), (8, .string t2266), (54, .agg #[.int .i64 x1620, .slice A1621 (l1623).length c1622, .slice A1626 (l1628).length c1627]), (56, .int .i64 x2293.Key), (58, .int .i64 x2293.Index), (60, .int .i64 x2293.Count), (61, .string t2266)]) rfl ⟨(load_box tab rfl rfl f19.now (k := 0) rfl rfl), (load1 tab rfl ((Bx.cell f2037.now 1).trans rfl)), (load1 tab rfl ((Bx.cell f2037.now 2).trans rfl)), (load1 tab rfl ((Bx.cell f2037.now 3).trans rfl)), trivial⟩ fun a hk => ?_
            refine x_op hk rfl ?_
            obtain ⟨t2298, hc2299, H⟩ := bindS H
            refine op_call hk ent_18 (vs := [.agg #[.int .i64 x1620, .slice A1621 (l1623).length c1622, .slice A1626 (l1628).length c1627], .int .i64 x2293.Key, .int .i64 x2293.Index, .int .i64 x2293.Count, .string t2266]) rfl (tidewrackref04_Put_calls A1621 c1622 A1626 c1627 (⟨x1620, l1623, l1628⟩ : T40) x2293.Key x2293.Index x2293.Count t2266 _ o2292 396 f1624 hc1625 397 f1629 hc1630 (by decide)   _ hc2299) ?_
            rintro _ w2300 ⟨o2301, A2303, c2304, A2307, c2308, rfl, st2302, f2305, hc2306, f2309, hc2310⟩
            replace f14 := f14.st st2302 (by decide)
            replace f1617 := f1617.st st2302 (by decide)
            replace f1624 := f1624.st st2302 (by decide)
            replace f1629 := f1629.st st2302 (by decide)
            replace f19 := f19.st st2302 (by decide)
            replace f2037 := f2037.st st2302 (by decide)
            replace f2050 := f2050.st st2302 (by decide)
            replace f2053 := f2053.st st2302 (by decide)
            replace f900000 := f900000.st st2302 (by decide)
            replace hs := hs.loc0 st2302 (by decide)
            have hk := hk.put 62 (.tuple #[.agg #[.int .i64 t2298.1.Key, .slice A2303 (t2298.1.Has).length c2304, .slice A2307 (t2298.1.Parts).length c2308], .int .i64 t2298.2]) rfl
            refine x_run tab hk (k := 3) (lv := []) (ks := [0, 3, 4, 5, 6, 7, 8, 63, 64]) (e' := [(0, .slice (some ad2032) (p0).length cp0), (3, .pointer (some ⟨bx13, 0, none⟩)), (4, .pointer (some ⟨bx18, 0, none⟩)), (5, .int .i64 x1631), (6, .pointer (some ⟨bx2036, 0, none⟩)), (7, .pointer (some ⟨bx2049, 0, none⟩)), (8, .string t2266), (63, .agg #[.int .i64 t2298.1.Key, .slice A2303 (t2298.1.Has).length c2304, .slice A2307 (t2298.1.Parts).length c2308]), (64, .int .i64 t2298.2)]) rfl trivial fun a hk => ?_
            refine x_op hk rfl ?_
            refine op_alloc (o := o2301) tab (t := 41) (cs := [.int .i64 0, .slice none 0 0, .slice none 0 0]) rfl rfl 402 fun bx2314 w2311 o2312 st2313 f2315 => ?_
            replace f14 := f14.st st2313 (by decide)
            replace f1617 := f1617.st st2313 (by decide)
            replace f1624 := f1624.st st2313 (by decide)
            replace f1629 := f1629.st st2313 (by decide)
            replace f19 := f19.st st2313 (by decide)
            replace f2037 := f2037.st st2313 (by decide)
            replace f2050 := f2050.st st2313 (by decide)
            replace f2053 := f2053.st st2313 (by decide)
            replace f2305 := f2305.st st2313 (by decide)
            replace f2309 := f2309.st st2313 (by decide)
            replace f900000 := f900000.st st2313 (by decide)
            replace hs := hs.loc0 st2313 (by decide)
            have hk := hk.put 9 (.pointer (some ⟨bx2314, 0, none⟩)) rfl
            refine x_op hk rfl ?_
            refine op_store tab hk (t := 41) (v := .agg #[.int .i64 t2298.1.Key, .slice A2303 (t2298.1.Has).length c2304, .slice A2307 (t2298.1.Parts).length c2308]) (b := bx2314) (k := 0) (cs' := [.int .i64 t2298.1.Key, .slice A2303 (t2298.1.Has).length c2304, .slice A2307 (t2298.1.Parts).length c2308]) rfl rfl rfl rfl rfl rfl f2315 rfl rfl fun w2316 o2317 st2318 f2315_ => ?_
            replace f14 := f14.st st2318 (by decide)
            replace f1617 := f1617.st st2318 (by decide)
            replace f1624 := f1624.st st2318 (by decide)
            replace f1629 := f1629.st st2318 (by decide)
            replace f19 := f19.st st2318 (by decide)
            replace f2037 := f2037.st st2318 (by decide)
            replace f2050 := f2050.st st2318 (by decide)
            replace f2053 := f2053.st st2318 (by decide)
            replace f2305 := f2305.st st2318 (by decide)
            replace f2309 := f2309.st st2318 (by decide)
            replace f900000 := f900000.st st2318 (by decide)
            replace hs := hs.loc0 st2318 (by decide)
            replace f2315 := f2315_
            refine x_run tab hk (k := 1) (lv := []) (ks := [0, 3, 4, 5, 6, 7, 8, 9, 10]) (e' := [(0, .slice (some ad2032) (p0).length cp0), (3, .pointer (some ⟨bx13, 0, none⟩)), (4, .pointer (some ⟨bx18, 0, none⟩)), (5, .int .i64 x1631), (6, .pointer (some ⟨bx2036, 0, none⟩)), (7, .pointer (some ⟨bx2049, 0, none⟩)), (8, .string t2266), (9, .pointer (some ⟨bx2314, 0, none⟩)), (10, .int .i64 t2298.2)]) rfl trivial fun a hk => ?_
            refine wpListIn_nil ?_
            refine then_n ?_
            refine x_seq ?_
            refine x_seq ?_
            refine wpIn_region_lit ?_
            refine x_run tab hk (k := 1) (lv := [.agg #[.int .i64 t2298.1.Key, .slice A2303 (t2298.1.Has).length c2304, .slice A2307 (t2298.1.Parts).length c2308]]) (ks := [0, 3, 4, 5, 6, 7, 8, 10, 65]) (e' := [(0, .slice (some ad2032) (p0).length cp0), (3, .pointer (some ⟨bx13, 0, none⟩)), (4, .pointer (some ⟨bx18, 0, none⟩)), (5, .int .i64 x1631), (6, .pointer (some ⟨bx2036, 0, none⟩)), (7, .pointer (some ⟨bx2049, 0, none⟩)), (8, .string t2266), (10, .int .i64 t2298.2), (65, .agg #[.int .i64 t2298.1.Key, .slice A2303 (t2298.1.Has).length c2304, .slice A2307 (t2298.1.Parts).length c2308])]) rfl ⟨(load_box tab rfl rfl f2315.now (k := 0) rfl rfl), trivial⟩ fun a hk => ?_
            refine x_op hk rfl ?_
            refine op_store tab hk (t := 41) (v := .agg #[.int .i64 t2298.1.Key, .slice A2303 (t2298.1.Has).length c2304, .slice A2307 (t2298.1.Parts).length c2308]) (b := bx18) (k := 0) (cs' := [.int .i64 t2298.1.Key, .slice A2303 (t2298.1.Has).length c2304, .slice A2307 (t2298.1.Parts).length c2308]) rfl rfl rfl rfl rfl rfl f19 rfl rfl fun w2319 o2320 st2321 f19_ => ?_
            replace f14 := f14.st st2321 (by decide)
            replace f1617 := f1617.st st2321 (by decide)
            replace f1624 := f1624.st st2321 (by decide)
            replace f1629 := f1629.st st2321 (by decide)
            replace f2037 := f2037.st st2321 (by decide)
            replace f2050 := f2050.st st2321 (by decide)
            replace f2053 := f2053.st st2321 (by decide)
            replace f2305 := f2305.st st2321 (by decide)
            replace f2309 := f2309.st st2321 (by decide)
            replace f900000 := f900000.st st2321 (by decide)
            replace hs := hs.loc0 st2321 (by decide)
            replace f19 := f19_
            refine wpListIn_nil ?_
            refine then_n ?_
            refine x_seq ?_
            refine wpIn_region_lit ?_
            refine x_run tab hk (k := 7) (lv := [.int .i64 x2293.Key, .int .i64 x2293.Index, .int .i64 x2293.Count]) (ks := [0, 3, 4, 5, 7, 10, 67, 69, 71, 72]) (e' := [(0, .slice (some ad2032) (p0).length cp0), (3, .pointer (some ⟨bx13, 0, none⟩)), (4, .pointer (some ⟨bx18, 0, none⟩)), (5, .int .i64 x1631), (7, .pointer (some ⟨bx2049, 0, none⟩)), (10, .int .i64 t2298.2), (67, .int .i64 x2293.Key), (69, .int .i64 x2293.Index), (71, .int .i64 x2293.Count), (72, .string t2266)]) rfl ⟨(load1 tab rfl ((Bx.cell f2037.now 1).trans rfl)), (load1 tab rfl ((Bx.cell f2037.now 2).trans rfl)), (load1 tab rfl ((Bx.cell f2037.now 3).trans rfl)), trivial⟩ fun a hk => ?_
            refine x_op hk rfl ?_
            obtain ⟨t2325, hc2326, H⟩ := bindS H
            refine op_call hk ent_11 (vs := [.pointer (some ⟨bx13, 0, none⟩), .int .i64 x2293.Key, .int .i64 x2293.Index, .int .i64 x2293.Count, .string t2266]) rfl (parts_Slot_Put_calls bx13 A1614 c1615 (⟨x1612, x1613, l1616, x1619⟩ : T29) x2293.Key x2293.Index x2293.Count t2266 _ o2320 395 f14 394 f1617 hc1618 (by decide)   _ hc2326) ?_
            rintro _ w2327 ⟨o2328, A2331, c2332, rfl, st2329, f2330, f2333, hc2334⟩
            replace f19 := f19.st st2329 (by decide)
            replace f2050 := f2050.st st2329 (by decide)
            replace f2053 := f2053.st st2329 (by decide)
            replace f2305 := f2305.st st2329 (by decide)
            replace f2309 := f2309.st st2329 (by decide)
            replace f900000 := f900000.st st2329 (by decide)
            replace hs := hs.loc0 st2329 (by decide)
            have hk := hk.put 73 (.int .i64 t2325.1) rfl
            refine x_run tab hk (k := 2) (lv := []) (ks := [0, 3, 4, 5, 7, 75]) (e' := [(0, .slice (some ad2032) (p0).length cp0), (3, .pointer (some ⟨bx13, 0, none⟩)), (4, .pointer (some ⟨bx18, 0, none⟩)), (5, .int .i64 x1631), (7, .pointer (some ⟨bx2049, 0, none⟩)), (75, .bool (t2325.1 != t2298.2))]) rfl trivial fun a hk => ?_
            refine wpListIn_nil ?_
            refine then_n ?_
            cases b2335 : (t2325.1 != t2298.2)
            · rw [b2335] at hk H
              replace H := bifF H
              refine x_if hk (b := false) rfl ?_
              refine (show Code.wpIn _ _ _ _ _ _ _ from ?_)
              refine wpIn_skip ?_
              refine then_n ?_
              refine x_seq ?_
              refine wpIn_region_lit ?_
              refine x_run tab hk (k := 1) (lv := []) (ks := [0, 3, 4, 5, 7, 76]) (e' := [(0, .slice (some ad2032) (p0).length cp0), (3, .pointer (some ⟨bx13, 0, none⟩)), (4, .pointer (some ⟨bx18, 0, none⟩)), (5, .int .i64 x1631), (7, .pointer (some ⟨bx2049, 0, none⟩)), (76, .pointer (some ⟨bx2049, 0, none⟩))]) rfl trivial fun a hk => ?_
              refine x_op hk rfl ?_
              obtain ⟨t2339, hc2340, H⟩ := bindS H
              refine op_call hk ent_14 (vs := [.pointer (some ⟨bx2049, 0, none⟩)]) rfl (parts_Slot_Bytes_calls bx2049 A2051 c2052 t2044 _ o2328 401 f2050 _ f2053 hc2054   _ hc2340) ?_
              rintro _ w2341 ⟨o2342, rfl, st2343⟩
              replace f19 := f19.st st2343 (by decide)
              replace f2050 := f2050.st st2343 (by decide)
              replace f2053 := f2053.st st2343 (by decide)
              replace f2305 := f2305.st st2343 (by decide)
              replace f2309 := f2309.st st2343 (by decide)
              replace f2330 := f2330.st st2343 (by decide)
              replace f2333 := f2333.st st2343 (by decide)
              replace f900000 := f900000.st st2343 (by decide)
              replace hs := hs.loc0 st2343 (by decide)
              have hk := hk.put 77 (.int .i64 t2339) rfl
              refine x_op hk rfl ?_
              obtain ⟨t2347, hc2348, H⟩ := bindS H
              refine op_call hk ent_14 (vs := [.pointer (some ⟨bx13, 0, none⟩)]) rfl (parts_Slot_Bytes_calls bx13 A2331 c2332 t2325.2 _ o2342 395 f2330 _ f2333 hc2334   _ hc2348) ?_
              rintro _ w2349 ⟨o2350, rfl, st2351⟩
              replace f19 := f19.st st2351 (by decide)
              replace f2050 := f2050.st st2351 (by decide)
              replace f2053 := f2053.st st2351 (by decide)
              replace f2305 := f2305.st st2351 (by decide)
              replace f2309 := f2309.st st2351 (by decide)
              replace f2330 := f2330.st st2351 (by decide)
              replace f2333 := f2333.st st2351 (by decide)
              replace f900000 := f900000.st st2351 (by decide)
              replace hs := hs.loc0 st2351 (by decide)
              have hk := hk.put 78 (.int .i64 t2347) rfl
              refine x_run tab hk (k := 2) (lv := []) (ks := [0, 3, 4, 5, 7, 80]) (e' := [(0, .slice (some ad2032) (p0).length cp0), (3, .pointer (some ⟨bx13, 0, none⟩)), (4, .pointer (some ⟨bx18, 0, none⟩)), (5, .int .i64 x1631), (7, .pointer (some ⟨bx2049, 0, none⟩)), (80, .bool (decide (t2339 > t2347)))]) rfl trivial fun a hk => ?_
              cases b2352 : (decide (t2339 > t2347))
              · rw [b2352] at hk H
                replace H := bifF H
                refine x_run tab hk (k := 5) (lv := []) (ks := [0, 3, 4, 5, 85]) (e' := [(0, .slice (some ad2032) (p0).length cp0), (3, .pointer (some ⟨bx13, 0, none⟩)), (4, .pointer (some ⟨bx18, 0, none⟩)), (5, .int .i64 x1631), (85, .bool false)]) rfl trivial fun a hk => ?_
                refine wpListIn_nil ?_
                refine then_n ?_
                refine x_if hk (b := false) rfl ?_
                refine (show Code.wpIn _ _ _ _ _ _ _ from ?_)
                refine wpIn_skip ?_
                refine then_n ?_
                exact ⟨(fun b_ => (fun l_ => if l_ = 394 then 381 else if l_ = 395 then 382 else if l_ = 396 then 383 else if l_ = 397 then 384 else if l_ = 398 then 385 else l_) (o2350 b_)), t2325.2.key, t2325.2.count, A2331, c2332, t2325.2.parts, t2325.2.bytes, t2298.1.Key, A2303, c2304, t2298.1.Has, A2307, c2308, t2298.1.Parts, (by exact Kn.pick (ks := [0, 3, 4, 5]) hk rfl), (hs.relab0 (fun l_ => if l_ = 394 then 381 else if l_ = 395 then 382 else if l_ = 396 then 383 else if l_ = 397 then 384 else if l_ = 398 then 385 else l_) rfl), (f19.relab (fun l_ => if l_ = 394 then 381 else if l_ = 395 then 382 else if l_ = 396 then 383 else if l_ = 397 then 384 else if l_ = 398 then 385 else l_) rfl), (f2330.relab (fun l_ => if l_ = 394 then 381 else if l_ = 395 then 382 else if l_ = 396 then 383 else if l_ = 397 then 384 else if l_ = 398 then 385 else l_) rfl), (f2333.relab (fun l_ => if l_ = 394 then 381 else if l_ = 395 then 382 else if l_ = 396 then 383 else if l_ = 397 then 384 else if l_ = 398 then 385 else l_) rfl), (f2305.relab (fun l_ => if l_ = 394 then 381 else if l_ = 395 then 382 else if l_ = 396 then 383 else if l_ = 397 then 384 else if l_ = 398 then 385 else l_) rfl), (f2309.relab (fun l_ => if l_ = 394 then 381 else if l_ = 395 then 382 else if l_ = 396 then 383 else if l_ = 397 then 384 else if l_ = 398 then 385 else l_) rfl), (f900000.relab (fun l_ => if l_ = 394 then 381 else if l_ = 395 then 382 else if l_ = 396 then 383 else if l_ = 397 then 384 else if l_ = 398 then 385 else l_) rfl), hc2334, hc2306, hc2310, H⟩
              · rw [b2352] at hk H
                replace H := bifT H
                refine x_run tab hk (k := 1) (lv := []) (ks := [0, 3, 4, 5, 80, 81]) (e' := [(0, .slice (some ad2032) (p0).length cp0), (3, .pointer (some ⟨bx13, 0, none⟩)), (4, .pointer (some ⟨bx18, 0, none⟩)), (5, .int .i64 x1631), (80, .bool true), (81, .pointer (some ⟨bx2049, 0, none⟩))]) rfl trivial fun a hk => ?_
                refine x_op hk rfl ?_
                obtain ⟨t2356, hc2357, H⟩ := bindS H
                refine op_call hk ent_19 (vs := [.pointer (some ⟨bx2049, 0, none⟩)]) rfl (parts_Slot_Key_calls bx2049 A2051 c2052 t2044 _ o2350 401 f2050 _ f2053 hc2054   _ hc2357) ?_
                rintro _ w2358 ⟨o2359, rfl, st2360⟩
                replace f19 := f19.st st2360 (by decide)
                replace f2050 := f2050.st st2360 (by decide)
                replace f2053 := f2053.st st2360 (by decide)
                replace f2305 := f2305.st st2360 (by decide)
                replace f2309 := f2309.st st2360 (by decide)
                replace f2330 := f2330.st st2360 (by decide)
                replace f2333 := f2333.st st2360 (by decide)
                replace f900000 := f900000.st st2360 (by decide)
                replace hs := hs.loc0 st2360 (by decide)
                have hk := hk.put 82 (.int .i64 t2356) rfl
                refine x_op hk rfl ?_
                obtain ⟨t2364, hc2365, H⟩ := bindS H
                refine op_call hk ent_19 (vs := [.pointer (some ⟨bx13, 0, none⟩)]) rfl (parts_Slot_Key_calls bx13 A2331 c2332 t2325.2 _ o2359 395 f2330 _ f2333 hc2334   _ hc2365) ?_
                rintro _ w2366 ⟨o2367, rfl, st2368⟩
                replace f19 := f19.st st2368 (by decide)
                replace f2050 := f2050.st st2368 (by decide)
                replace f2053 := f2053.st st2368 (by decide)
                replace f2305 := f2305.st st2368 (by decide)
                replace f2309 := f2309.st st2368 (by decide)
                replace f2330 := f2330.st st2368 (by decide)
                replace f2333 := f2333.st st2368 (by decide)
                replace f900000 := f900000.st st2368 (by decide)
                replace hs := hs.loc0 st2368 (by decide)
                have hk := hk.put 83 (.int .i64 t2364) rfl
                refine x_run tab hk (k := 2) (lv := []) (ks := [0, 3, 4, 5, 85]) (e' := [(0, .slice (some ad2032) (p0).length cp0), (3, .pointer (some ⟨bx13, 0, none⟩)), (4, .pointer (some ⟨bx18, 0, none⟩)), (5, .int .i64 x1631), (85, .bool (t2356 == t2364))]) rfl trivial fun a hk => ?_
                refine wpListIn_nil ?_
                refine then_n ?_
                cases b2369 : (t2356 == t2364)
                · rw [b2369] at hk H
                  replace H := bifF H
                  refine x_if hk (b := false) rfl ?_
                  refine (show Code.wpIn _ _ _ _ _ _ _ from ?_)
                  refine wpIn_skip ?_
                  refine then_n ?_
                  exact ⟨(fun b_ => (fun l_ => if l_ = 394 then 381 else if l_ = 395 then 382 else if l_ = 396 then 383 else if l_ = 397 then 384 else if l_ = 398 then 385 else l_) (o2367 b_)), t2325.2.key, t2325.2.count, A2331, c2332, t2325.2.parts, t2325.2.bytes, t2298.1.Key, A2303, c2304, t2298.1.Has, A2307, c2308, t2298.1.Parts, (by exact Kn.pick (ks := [0, 3, 4, 5]) hk rfl), (hs.relab0 (fun l_ => if l_ = 394 then 381 else if l_ = 395 then 382 else if l_ = 396 then 383 else if l_ = 397 then 384 else if l_ = 398 then 385 else l_) rfl), (f19.relab (fun l_ => if l_ = 394 then 381 else if l_ = 395 then 382 else if l_ = 396 then 383 else if l_ = 397 then 384 else if l_ = 398 then 385 else l_) rfl), (f2330.relab (fun l_ => if l_ = 394 then 381 else if l_ = 395 then 382 else if l_ = 396 then 383 else if l_ = 397 then 384 else if l_ = 398 then 385 else l_) rfl), (f2333.relab (fun l_ => if l_ = 394 then 381 else if l_ = 395 then 382 else if l_ = 396 then 383 else if l_ = 397 then 384 else if l_ = 398 then 385 else l_) rfl), (f2305.relab (fun l_ => if l_ = 394 then 381 else if l_ = 395 then 382 else if l_ = 396 then 383 else if l_ = 397 then 384 else if l_ = 398 then 385 else l_) rfl), (f2309.relab (fun l_ => if l_ = 394 then 381 else if l_ = 395 then 382 else if l_ = 396 then 383 else if l_ = 397 then 384 else if l_ = 398 then 385 else l_) rfl), (f900000.relab (fun l_ => if l_ = 394 then 381 else if l_ = 395 then 382 else if l_ = 396 then 383 else if l_ = 397 then 384 else if l_ = 398 then 385 else l_) rfl), hc2334, hc2306, hc2310, H⟩
                · rw [b2369] at hk H
                  replace H := bifT H
                  refine x_if hk (b := true) rfl ?_
                  refine (show Code.wpIn _ _ _ _ _ _ _ from ?_)
                  refine x_seq ?_
                  refine wpIn_region_lit ?_
                  refine x_run tab hk (k := 1) (lv := []) (ks := [2]) (e' := [(2, .bool false)]) rfl trivial fun a hk => ?_
                  refine wpListIn_nil ?_
                  refine then_n ?_
                  refine wpIn_ret ?_
                  refine then_r ?_
                  refine blk_r ?_
                  refine then_r ?_
                  refine then_r ?_
                  refine blk_r ?_
                  refine then_r ?_
                  obtain rfl := Option.some.inj H
                  exact x_retG hk (rs := [.tmp 2]) (vs := [.bool false]) rfl ⟨rfl, trivial⟩ ⟨fun b_ => if b_ < w.heap.size then o b_ else (fun _ => 0) (o2367 b_), rfl, hs.close0 o (fun _ => 0)⟩
            · rw [b2335] at hk H
              replace H := bifT H
              refine x_if hk (b := true) rfl ?_
              refine (show Code.wpIn _ _ _ _ _ _ _ from ?_)
              refine x_seq ?_
              refine wpIn_region_lit ?_
              refine x_run tab hk (k := 1) (lv := []) (ks := [2]) (e' := [(2, .bool false)]) rfl trivial fun a hk => ?_
              refine wpListIn_nil ?_
              refine then_n ?_
              refine wpIn_ret ?_
              refine then_r ?_
              refine then_r ?_
              refine blk_r ?_
              refine then_r ?_
              refine then_r ?_
              refine blk_r ?_
              refine then_r ?_
              obtain rfl := Option.some.inj H
              exact x_retG hk (rs := [.tmp 2]) (vs := [.bool false]) rfl ⟨rfl, trivial⟩ ⟨fun b_ => if b_ < w.heap.size then o b_ else (fun _ => 0) (o2328 b_), rfl, hs.close0 o (fun _ => 0)⟩
          refine x_mid (fun a_ w_ => ∃ o2377 : Nat → Nat, ∃ x2378 : Bool, Kn 89 a_ [(0, .slice (some ad2032) (p0).length cp0), (3, .pointer (some ⟨bx13, 0, none⟩)), (4, .pointer (some ⟨bx18, 0, none⟩)), (5, .int .i64 x1631), (6, .pointer (some ⟨bx2036, 0, none⟩)), (7, .pointer (some ⟨bx2049, 0, none⟩)), (8, .string t2266), (51, .bool x2378)] ∧ St [] w (fun _ => 0) w_ o2377 ∧ Ft (Bx bx13 30 [.int .i64 x1612, .int .i64 x1613, mv A1614, .int .i64 x1619]) w_ o2377 404 ∧ Ft (MpF encStr false A1614 l1616) w_ o2377 403 ∧ Ft (RdC encBool A1621 l1623) w_ o2377 405 ∧ Ft (RdC encStr A1626 l1628) w_ o2377 406 ∧ Ft (Bx bx18 41 [.int .i64 x1620, .slice A1621 (l1623).length c1622, .slice A1626 (l1628).length c1627]) w_ o2377 407 ∧ Ft (Bx bx2036 43 [.bool false, .int .i64 ((rdD zT42 p0 x1631).Key), .int .i64 ((rdD zT42 p0 x1631).Index), .int .i64 ((rdD zT42 p0 x1631).Count), .string ((rdD zT42 p0 x1631).Data)]) w_ o2377 408 ∧ Ft (Bx bx2049 30 [.int .i64 t2044.key, .int .i64 t2044.count, mv A2051, .int .i64 t2044.bytes]) w_ o2377 410 ∧ Ft (MpF encStr false A2051 t2044.parts) w_ o2377 409 ∧ Ft (RdC ET42 (some ad2032) p0) w_ o2377 0 ∧ tidewracklaw04_PartsPlay_j7 K p0 x1612 x1613 l1616 x1619 x1620 l1623 l1628 x1631 lp2022 t2044 t2266 x2378 = some r) ?_ ?_
          rotate_left
          · rintro a w2379 ⟨o2377, x2378, hk, hs, f14, f1617, f1624, f1629, f19, f2037, f2050, f2053, f900000, H⟩
            rw [tidewracklaw04_PartsPlay_j7] at H
            cases b2380 : x2378
            · rw [b2380] at hk H
              replace H := bifF H
              refine x_if hk (b := false) rfl ?_
              refine (show Code.wpIn _ _ _ _ _ _ _ from ?_)
              refine wpIn_skip ?_
              refine then_n ?_
              exact ⟨(fun b_ => (fun l_ => if l_ = 403 then 394 else if l_ = 404 then 395 else if l_ = 405 then 396 else if l_ = 406 then 397 else if l_ = 407 then 398 else if l_ = 408 then 399 else if l_ = 409 then 400 else if l_ = 410 then 401 else l_) (o2377 b_)), (⟨false, (rdD zT42 p0 x1631).Key, (rdD zT42 p0 x1631).Index, (rdD zT42 p0 x1631).Count, (rdD zT42 p0 x1631).Data⟩ : T42), (by exact Kn.pick (ks := [0, 3, 4, 5, 6, 7, 8]) hk rfl), (hs.relab0 (fun l_ => if l_ = 403 then 394 else if l_ = 404 then 395 else if l_ = 405 then 396 else if l_ = 406 then 397 else if l_ = 407 then 398 else if l_ = 408 then 399 else if l_ = 409 then 400 else if l_ = 410 then 401 else l_) rfl), (f14.relab (fun l_ => if l_ = 403 then 394 else if l_ = 404 then 395 else if l_ = 405 then 396 else if l_ = 406 then 397 else if l_ = 407 then 398 else if l_ = 408 then 399 else if l_ = 409 then 400 else if l_ = 410 then 401 else l_) rfl), (f1617.relab (fun l_ => if l_ = 403 then 394 else if l_ = 404 then 395 else if l_ = 405 then 396 else if l_ = 406 then 397 else if l_ = 407 then 398 else if l_ = 408 then 399 else if l_ = 409 then 400 else if l_ = 410 then 401 else l_) rfl), (f1624.relab (fun l_ => if l_ = 403 then 394 else if l_ = 404 then 395 else if l_ = 405 then 396 else if l_ = 406 then 397 else if l_ = 407 then 398 else if l_ = 408 then 399 else if l_ = 409 then 400 else if l_ = 410 then 401 else l_) rfl), (f1629.relab (fun l_ => if l_ = 403 then 394 else if l_ = 404 then 395 else if l_ = 405 then 396 else if l_ = 406 then 397 else if l_ = 407 then 398 else if l_ = 408 then 399 else if l_ = 409 then 400 else if l_ = 410 then 401 else l_) rfl), (f19.relab (fun l_ => if l_ = 403 then 394 else if l_ = 404 then 395 else if l_ = 405 then 396 else if l_ = 406 then 397 else if l_ = 407 then 398 else if l_ = 408 then 399 else if l_ = 409 then 400 else if l_ = 410 then 401 else l_) rfl), (f2037.relab (fun l_ => if l_ = 403 then 394 else if l_ = 404 then 395 else if l_ = 405 then 396 else if l_ = 406 then 397 else if l_ = 407 then 398 else if l_ = 408 then 399 else if l_ = 409 then 400 else if l_ = 410 then 401 else l_) rfl), (f2050.relab (fun l_ => if l_ = 403 then 394 else if l_ = 404 then 395 else if l_ = 405 then 396 else if l_ = 406 then 397 else if l_ = 407 then 398 else if l_ = 408 then 399 else if l_ = 409 then 400 else if l_ = 410 then 401 else l_) rfl), (f2053.relab (fun l_ => if l_ = 403 then 394 else if l_ = 404 then 395 else if l_ = 405 then 396 else if l_ = 406 then 397 else if l_ = 407 then 398 else if l_ = 408 then 399 else if l_ = 409 then 400 else if l_ = 410 then 401 else l_) rfl), (f900000.relab (fun l_ => if l_ = 403 then 394 else if l_ = 404 then 395 else if l_ = 405 then 396 else if l_ = 406 then 397 else if l_ = 407 then 398 else if l_ = 408 then 399 else if l_ = 409 then 400 else if l_ = 410 then 401 else l_) rfl), H⟩
            · rw [b2380] at hk H
              replace H := bifT H
              refine x_if hk (b := true) rfl ?_
              refine (show Code.wpIn _ _ _ _ _ _ _ from ?_)
              refine wpIn_region_lit ?_
              refine x_run tab hk (k := 1) (lv := []) (ks := [0, 3, 4, 5, 6, 7, 8, 52]) (e' := [(0, .slice (some ad2032) (p0).length cp0), (3, .pointer (some ⟨bx13, 0, none⟩)), (4, .pointer (some ⟨bx18, 0, none⟩)), (5, .int .i64 x1631), (6, .pointer (some ⟨bx2036, 0, none⟩)), (7, .pointer (some ⟨bx2049, 0, none⟩)), (8, .string t2266), (52, .pointer (some ((⟨bx2036, 0, none⟩ : Addr).add 3)))]) rfl trivial fun a hk => ?_
              refine x_op hk rfl ?_
              refine op_store tab hk (t := 3) (v := .int .i64 40) (b := bx2036) (k := 3) (cs' := [.bool false, .int .i64 ((rdD zT42 p0 x1631).Key), .int .i64 ((rdD zT42 p0 x1631).Index), .int .i64 40, .string ((rdD zT42 p0 x1631).Data)]) rfl rfl rfl rfl rfl rfl f2037 rfl rfl fun w2381 o2382 st2383 f2037_ => ?_
              replace f14 := f14.st st2383 (by decide)
              replace f1617 := f1617.st st2383 (by decide)
              replace f1624 := f1624.st st2383 (by decide)
              replace f1629 := f1629.st st2383 (by decide)
              replace f19 := f19.st st2383 (by decide)
              replace f2050 := f2050.st st2383 (by decide)
              replace f2053 := f2053.st st2383 (by decide)
              replace f900000 := f900000.st st2383 (by decide)
              replace hs := hs.loc0 st2383 (by decide)
              replace f2037 := f2037_
              refine wpListIn_nil ?_
              refine then_n ?_
              exact ⟨(fun b_ => (fun l_ => if l_ = 403 then 394 else if l_ = 404 then 395 else if l_ = 405 then 396 else if l_ = 406 then 397 else if l_ = 407 then 398 else if l_ = 408 then 399 else if l_ = 409 then 400 else if l_ = 410 then 401 else l_) (o2382 b_)), (⟨false, (rdD zT42 p0 x1631).Key, (rdD zT42 p0 x1631).Index, 40, (rdD zT42 p0 x1631).Data⟩ : T42), (by exact Kn.pick (ks := [0, 3, 4, 5, 6, 7, 8]) hk rfl), (hs.relab0 (fun l_ => if l_ = 403 then 394 else if l_ = 404 then 395 else if l_ = 405 then 396 else if l_ = 406 then 397 else if l_ = 407 then 398 else if l_ = 408 then 399 else if l_ = 409 then 400 else if l_ = 410 then 401 else l_) rfl), (f14.relab (fun l_ => if l_ = 403 then 394 else if l_ = 404 then 395 else if l_ = 405 then 396 else if l_ = 406 then 397 else if l_ = 407 then 398 else if l_ = 408 then 399 else if l_ = 409 then 400 else if l_ = 410 then 401 else l_) rfl), (f1617.relab (fun l_ => if l_ = 403 then 394 else if l_ = 404 then 395 else if l_ = 405 then 396 else if l_ = 406 then 397 else if l_ = 407 then 398 else if l_ = 408 then 399 else if l_ = 409 then 400 else if l_ = 410 then 401 else l_) rfl), (f1624.relab (fun l_ => if l_ = 403 then 394 else if l_ = 404 then 395 else if l_ = 405 then 396 else if l_ = 406 then 397 else if l_ = 407 then 398 else if l_ = 408 then 399 else if l_ = 409 then 400 else if l_ = 410 then 401 else l_) rfl), (f1629.relab (fun l_ => if l_ = 403 then 394 else if l_ = 404 then 395 else if l_ = 405 then 396 else if l_ = 406 then 397 else if l_ = 407 then 398 else if l_ = 408 then 399 else if l_ = 409 then 400 else if l_ = 410 then 401 else l_) rfl), (f19.relab (fun l_ => if l_ = 403 then 394 else if l_ = 404 then 395 else if l_ = 405 then 396 else if l_ = 406 then 397 else if l_ = 407 then 398 else if l_ = 408 then 399 else if l_ = 409 then 400 else if l_ = 410 then 401 else l_) rfl), (f2037.relab (fun l_ => if l_ = 403 then 394 else if l_ = 404 then 395 else if l_ = 405 then 396 else if l_ = 406 then 397 else if l_ = 407 then 398 else if l_ = 408 then 399 else if l_ = 409 then 400 else if l_ = 410 then 401 else l_) rfl), (f2050.relab (fun l_ => if l_ = 403 then 394 else if l_ = 404 then 395 else if l_ = 405 then 396 else if l_ = 406 then 397 else if l_ = 407 then 398 else if l_ = 408 then 399 else if l_ = 409 then 400 else if l_ = 410 then 401 else l_) rfl), (f2053.relab (fun l_ => if l_ = 403 then 394 else if l_ = 404 then 395 else if l_ = 405 then 396 else if l_ = 406 then 397 else if l_ = 407 then 398 else if l_ = 408 then 399 else if l_ = 409 then 400 else if l_ = 410 then 401 else l_) rfl), (f900000.relab (fun l_ => if l_ = 403 then 394 else if l_ = 404 then 395 else if l_ = 405 then 396 else if l_ = 406 then 397 else if l_ = 407 then 398 else if l_ = 408 then 399 else if l_ = 409 then 400 else if l_ = 410 then 401 else l_) rfl), H⟩
          refine wpIn_region_lit ?_
          refine x_run tab hk (k := 4) (lv := [.int .i64 ((rdD zT42 p0 x1631).Count)]) (ks := [0, 3, 4, 5, 6, 7, 8, 47]) (e' := [(0, .slice (some ad2032) (p0).length cp0), (3, .pointer (some ⟨bx13, 0, none⟩)), (4, .pointer (some ⟨bx18, 0, none⟩)), (5, .int .i64 x1631), (6, .pointer (some ⟨bx2036, 0, none⟩)), (7, .pointer (some ⟨bx2049, 0, none⟩)), (8, .string t2266), (47, .bool (decide (((rdD zT42 p0 x1631).Count) > (40 : Int))))]) rfl ⟨(load1 tab rfl ((Bx.cell f2037.now 3).trans rfl)), trivial⟩ fun a hk => ?_
          cases b2384 : (decide (((rdD zT42 p0 x1631).Count) > (40 : Int)))
          · rw [b2384] at hk H
            replace H := bifF H
            refine x_run tab hk (k := 4) (lv := []) (ks := [0, 3, 4, 5, 6, 7, 8, 51]) (e' := [(0, .slice (some ad2032) (p0).length cp0), (3, .pointer (some ⟨bx13, 0, none⟩)), (4, .pointer (some ⟨bx18, 0, none⟩)), (5, .int .i64 x1631), (6, .pointer (some ⟨bx2036, 0, none⟩)), (7, .pointer (some ⟨bx2049, 0, none⟩)), (8, .string t2266), (51, .bool false)]) rfl trivial fun a hk => ?_
            refine wpListIn_nil ?_
            refine then_n ?_
            exact ⟨(fun b_ => (fun l_ => if l_ = 348 then 403 else if l_ = 349 then 404 else if l_ = 350 then 405 else if l_ = 351 then 406 else if l_ = 352 then 407 else if l_ = 353 then 408 else if l_ = 354 then 409 else if l_ = 355 then 410 else l_) (o2269 b_)), false, (by exact Kn.pick (ks := [0, 3, 4, 5, 6, 7, 8, 51]) hk rfl), (hs.relab0 (fun l_ => if l_ = 348 then 403 else if l_ = 349 then 404 else if l_ = 350 then 405 else if l_ = 351 then 406 else if l_ = 352 then 407 else if l_ = 353 then 408 else if l_ = 354 then 409 else if l_ = 355 then 410 else l_) rfl), (f14.relab (fun l_ => if l_ = 348 then 403 else if l_ = 349 then 404 else if l_ = 350 then 405 else if l_ = 351 then 406 else if l_ = 352 then 407 else if l_ = 353 then 408 else if l_ = 354 then 409 else if l_ = 355 then 410 else l_) rfl), (f1617.relab (fun l_ => if l_ = 348 then 403 else if l_ = 349 then 404 else if l_ = 350 then 405 else if l_ = 351 then 406 else if l_ = 352 then 407 else if l_ = 353 then 408 else if l_ = 354 then 409 else if l_ = 355 then 410 else l_) rfl), (f1624.relab (fun l_ => if l_ = 348 then 403 else if l_ = 349 then 404 else if l_ = 350 then 405 else if l_ = 351 then 406 else if l_ = 352 then 407 else if l_ = 353 then 408 else if l_ = 354 then 409 else if l_ = 355 then 410 else l_) rfl), (f1629.relab (fun l_ => if l_ = 348 then 403 else if l_ = 349 then 404 else if l_ = 350 then 405 else if l_ = 351 then 406 else if l_ = 352 then 407 else if l_ = 353 then 408 else if l_ = 354 then 409 else if l_ = 355 then 410 else l_) rfl), (f19.relab (fun l_ => if l_ = 348 then 403 else if l_ = 349 then 404 else if l_ = 350 then 405 else if l_ = 351 then 406 else if l_ = 352 then 407 else if l_ = 353 then 408 else if l_ = 354 then 409 else if l_ = 355 then 410 else l_) rfl), (f2037.relab (fun l_ => if l_ = 348 then 403 else if l_ = 349 then 404 else if l_ = 350 then 405 else if l_ = 351 then 406 else if l_ = 352 then 407 else if l_ = 353 then 408 else if l_ = 354 then 409 else if l_ = 355 then 410 else l_) rfl), (f2050.relab (fun l_ => if l_ = 348 then 403 else if l_ = 349 then 404 else if l_ = 350 then 405 else if l_ = 351 then 406 else if l_ = 352 then 407 else if l_ = 353 then 408 else if l_ = 354 then 409 else if l_ = 355 then 410 else l_) rfl), (f2053.relab (fun l_ => if l_ = 348 then 403 else if l_ = 349 then 404 else if l_ = 350 then 405 else if l_ = 351 then 406 else if l_ = 352 then 407 else if l_ = 353 then 408 else if l_ = 354 then 409 else if l_ = 355 then 410 else l_) rfl), (f900000.relab (fun l_ => if l_ = 348 then 403 else if l_ = 349 then 404 else if l_ = 350 then 405 else if l_ = 351 then 406 else if l_ = 352 then 407 else if l_ = 353 then 408 else if l_ = 354 then 409 else if l_ = 355 then 410 else l_) rfl), H⟩
          · rw [b2384] at hk H
            replace H := bifT H
            refine x_run tab hk (k := 4) (lv := [.int .i64 ((rdD zT42 p0 x1631).Count)]) (ks := [0, 3, 4, 5, 6, 7, 8, 51]) (e' := [(0, .slice (some ad2032) (p0).length cp0), (3, .pointer (some ⟨bx13, 0, none⟩)), (4, .pointer (some ⟨bx18, 0, none⟩)), (5, .int .i64 x1631), (6, .pointer (some ⟨bx2036, 0, none⟩)), (7, .pointer (some ⟨bx2049, 0, none⟩)), (8, .string t2266), (51, .bool (decide (((rdD zT42 p0 x1631).Count) ≤ (4096 : Int))))]) rfl ⟨(load1 tab rfl ((Bx.cell f2037.now 3).trans rfl)), trivial⟩ fun a hk => ?_
            refine wpListIn_nil ?_
            refine then_n ?_
            exact ⟨(fun b_ => (fun l_ => if l_ = 348 then 403 else if l_ = 349 then 404 else if l_ = 350 then 405 else if l_ = 351 then 406 else if l_ = 352 then 407 else if l_ = 353 then 408 else if l_ = 354 then 409 else if l_ = 355 then 410 else l_) (o2269 b_)), (decide (((rdD zT42 p0 x1631).Count) ≤ (4096 : Int))), (by exact Kn.pick (ks := [0, 3, 4, 5, 6, 7, 8, 51]) hk rfl), (hs.relab0 (fun l_ => if l_ = 348 then 403 else if l_ = 349 then 404 else if l_ = 350 then 405 else if l_ = 351 then 406 else if l_ = 352 then 407 else if l_ = 353 then 408 else if l_ = 354 then 409 else if l_ = 355 then 410 else l_) rfl), (f14.relab (fun l_ => if l_ = 348 then 403 else if l_ = 349 then 404 else if l_ = 350 then 405 else if l_ = 351 then 406 else if l_ = 352 then 407 else if l_ = 353 then 408 else if l_ = 354 then 409 else if l_ = 355 then 410 else l_) rfl), (f1617.relab (fun l_ => if l_ = 348 then 403 else if l_ = 349 then 404 else if l_ = 350 then 405 else if l_ = 351 then 406 else if l_ = 352 then 407 else if l_ = 353 then 408 else if l_ = 354 then 409 else if l_ = 355 then 410 else l_) rfl), (f1624.relab (fun l_ => if l_ = 348 then 403 else if l_ = 349 then 404 else if l_ = 350 then 405 else if l_ = 351 then 406 else if l_ = 352 then 407 else if l_ = 353 then 408 else if l_ = 354 then 409 else if l_ = 355 then 410 else l_) rfl), (f1629.relab (fun l_ => if l_ = 348 then 403 else if l_ = 349 then 404 else if l_ = 350 then 405 else if l_ = 351 then 406 else if l_ = 352 then 407 else if l_ = 353 then 408 else if l_ = 354 then 409 else if l_ = 355 then 410 else l_) rfl), (f19.relab (fun l_ => if l_ = 348 then 403 else if l_ = 349 then 404 else if l_ = 350 then 405 else if l_ = 351 then 406 else if l_ = 352 then 407 else if l_ = 353 then 408 else if l_ = 354 then 409 else if l_ = 355 then 410 else l_) rfl), (f2037.relab (fun l_ => if l_ = 348 then 403 else if l_ = 349 then 404 else if l_ = 350 then 405 else if l_ = 351 then 406 else if l_ = 352 then 407 else if l_ = 353 then 408 else if l_ = 354 then 409 else if l_ = 355 then 410 else l_) rfl), (f2050.relab (fun l_ => if l_ = 348 then 403 else if l_ = 349 then 404 else if l_ = 350 then 405 else if l_ = 351 then 406 else if l_ = 352 then 407 else if l_ = 353 then 408 else if l_ = 354 then 409 else if l_ = 355 then 410 else l_) rfl), (f2053.relab (fun l_ => if l_ = 348 then 403 else if l_ = 349 then 404 else if l_ = 350 then 405 else if l_ = 351 then 406 else if l_ = 352 then 407 else if l_ = 353 then 408 else if l_ = 354 then 409 else if l_ = 355 then 410 else l_) rfl), (f900000.relab (fun l_ => if l_ = 348 then 403 else if l_ = 349 then 404 else if l_ = 350 then 405 else if l_ = 351 then 406 else if l_ = 352 then 407 else if l_ = 353 then 408 else if l_ = 354 then 409 else if l_ = 355 then 410 else l_) rfl), H⟩
        · rw [b2262] at hk H
          replace H := bifT H
          rw [b2262] at f2037
          refine x_if hk (b := true) rfl ?_
          refine (show Code.wpIn _ _ _ _ _ _ _ from ?_)
          refine x_seq ?_
          refine wpIn_region_lit ?_
          refine x_op hk rfl ?_
          obtain ⟨t2388, hc2389, H⟩ := bindS H
          refine op_call hk ent_17 (vs := [.pointer (some ⟨bx13, 0, none⟩)]) rfl (parts_Slot_Forget_calls bx13 A1614 c1615 (⟨x1612, x1613, l1616, x1619⟩ : T29) _ o2067 349 f14 348 f1617 hc1618 (by decide)   _ hc2389) ?_
          rintro _ w2390 ⟨o2391, A2394, c2395, rfl, st2392, f2393, f2396, hc2397⟩
          replace f1624 := f1624.st st2392 (by decide)
          replace f1629 := f1629.st st2392 (by decide)
          replace f19 := f19.st st2392 (by decide)
          replace f2037 := f2037.st st2392 (by decide)
          replace f2050 := f2050.st st2392 (by decide)
          replace f2053 := f2053.st st2392 (by decide)
          replace f900000 := f900000.st st2392 (by decide)
          replace hs := hs.loc0 st2392 (by decide)
          have hk := hk.put 39 (.tuple #[]) rfl
          refine wpListIn_nil ?_
          refine then_n ?_
          refine wpIn_region_lit ?_
          refine x_run tab hk (k := 1) (lv := []) (ks := [0, 3, 4, 5, 40]) (e' := [(0, .slice (some ad2032) (p0).length cp0), (3, .pointer (some ⟨bx13, 0, none⟩)), (4, .pointer (some ⟨bx18, 0, none⟩)), (5, .int .i64 x1631), (40, .agg #[.int .i64 0, .slice none 0 0, .slice none 0 0])]) rfl trivial fun a hk => ?_
          refine x_op hk rfl ?_
          refine op_store tab hk (t := 41) (v := .agg #[.int .i64 0, .slice none 0 0, .slice none 0 0]) (b := bx18) (k := 0) (cs' := [.int .i64 0, .slice none 0 0, .slice none 0 0]) rfl rfl rfl rfl rfl rfl f19 rfl rfl fun w2398 o2399 st2400 f19_ => ?_
          replace f1624 := f1624.st st2400 (by decide)
          replace f1629 := f1629.st st2400 (by decide)
          replace f2393 := f2393.st st2400 (by decide)
          replace f2396 := f2396.st st2400 (by decide)
          replace f900000 := f900000.st st2400 (by decide)
          replace hs := hs.loc0 st2400 (by decide)
          replace f19 := f19_
          refine wpListIn_nil ?_
          refine then_n ?_
          exact ⟨(fun b_ => (fun l_ => if l_ = 348 then 381 else if l_ = 349 then 382 else if l_ = 352 then 385 else l_) (o2399 b_)), t2388.key, t2388.count, A2394, c2395, t2388.parts, t2388.bytes, 0, none, 0, ([] : List Bool), none, 0, ([] : List ByteArray), (by exact Kn.pick (ks := [0, 3, 4, 5]) hk rfl), (hs.relab0 (fun l_ => if l_ = 348 then 381 else if l_ = 349 then 382 else if l_ = 352 then 385 else l_) rfl), (f19.relab (fun l_ => if l_ = 348 then 381 else if l_ = 349 then 382 else if l_ = 352 then 385 else l_) rfl), (f2393.relab (fun l_ => if l_ = 348 then 381 else if l_ = 349 then 382 else if l_ = 352 then 385 else l_) rfl), (f2396.relab (fun l_ => if l_ = 348 then 381 else if l_ = 349 then 382 else if l_ = 352 then 385 else l_) rfl), (Ft.of_all (fun _ => (fun h_ => absurd h_ (by simp))) _ _ _), (Ft.of_all (fun _ => (fun h_ => absurd h_ (by simp))) _ _ _), (f900000.relab (fun l_ => if l_ = 348 then 381 else if l_ = 349 then 382 else if l_ = 352 then 385 else l_) rfl), hc2397, (by simp), (by simp), H⟩
      refine x_seq ?_
      refine wpIn_region_lit ?_
      refine x_run tab hk (k := 5) (lv := [.agg #[.int .i64 x1620, .slice A1621 (l1623).length c1622, .slice A1626 (l1628).length c1627]]) (ks := [0, 3, 4, 5, 6, 7, 31, 32, 33]) (e' := [(0, .slice (some ad2032) (p0).length cp0), (3, .pointer (some ⟨bx13, 0, none⟩)), (4, .pointer (some ⟨bx18, 0, none⟩)), (5, .int .i64 x1631), (6, .pointer (some ⟨bx2036, 0, none⟩)), (7, .pointer (some ⟨bx2049, 0, none⟩)), (31, .bool false), (32, .pointer (some ⟨bx2049, 0, none⟩)), (33, .agg #[.int .i64 x1620, .slice A1621 (l1623).length c1622, .slice A1626 (l1628).length c1627])]) rfl ⟨(load_box tab rfl rfl f19.now (k := 0) rfl rfl), trivial⟩ fun a hk => ?_
      refine x_op hk rfl ?_
      obtain ⟨t2404, hc2405, H⟩ := bindS H
      refine op_call hk ent_16 (vs := [.pointer (some ⟨bx2049, 0, none⟩), .agg #[.int .i64 x1620, .slice A1621 (l1623).length c1622, .slice A1626 (l1628).length c1627]]) rfl (tidewracklaw04_Is_calls K bx2049 A2051 c2052 t2044 A1621 c1622 A1626 c1627 (⟨x1620, l1623, l1628⟩ : T40) _ o2047 346 f2050 _ f2053 hc2054 _ f1624 hc1625 _ f1629 hc1630   _ hc2405) ?_
      rintro _ w2406 ⟨o2407, rfl, st2408⟩
      replace f14 := f14.st st2408 (by decide)
      replace f1617 := f1617.st st2408 (by decide)
      replace f1624 := f1624.st st2408 (by decide)
      replace f1629 := f1629.st st2408 (by decide)
      replace f19 := f19.st st2408 (by decide)
      replace f2037 := f2037.st st2408 (by decide)
      replace f2050 := f2050.st st2408 (by decide)
      replace f2053 := f2053.st st2408 (by decide)
      replace f900000 := f900000.st st2408 (by decide)
      replace hs := hs.loc0 st2408 (by decide)
      have hk := hk.put 34 (.bool t2404) rfl
      refine x_run tab hk (k := 2) (lv := []) (ks := [0, 3, 4, 5, 6, 7, 36]) (e' := [(0, .slice (some ad2032) (p0).length cp0), (3, .pointer (some ⟨bx13, 0, none⟩)), (4, .pointer (some ⟨bx18, 0, none⟩)), (5, .int .i64 x1631), (6, .pointer (some ⟨bx2036, 0, none⟩)), (7, .pointer (some ⟨bx2049, 0, none⟩)), (36, .bool (!t2404))]) rfl trivial fun a hk => ?_
      refine wpListIn_nil ?_
      refine then_n ?_
      cases b2409 : (!t2404)
      · rw [b2409] at hk H
        replace H := bifF H
        refine x_if hk (b := false) rfl ?_
        refine (show Code.wpIn _ _ _ _ _ _ _ from ?_)
        refine wpIn_skip ?_
        refine then_n ?_
        exact ⟨(fun b_ => (fun l_ => if l_ = 340 then 348 else if l_ = 341 then 349 else if l_ = 342 then 350 else if l_ = 343 then 351 else if l_ = 344 then 352 else if l_ = 345 then 353 else if l_ = 346 then 355 else if l_ = 347 then 354 else l_) (o2407 b_)), (by exact Kn.pick (ks := [0, 3, 4, 5, 6, 7]) hk rfl), (hs.relab0 (fun l_ => if l_ = 340 then 348 else if l_ = 341 then 349 else if l_ = 342 then 350 else if l_ = 343 then 351 else if l_ = 344 then 352 else if l_ = 345 then 353 else if l_ = 346 then 355 else if l_ = 347 then 354 else l_) rfl), (f14.relab (fun l_ => if l_ = 340 then 348 else if l_ = 341 then 349 else if l_ = 342 then 350 else if l_ = 343 then 351 else if l_ = 344 then 352 else if l_ = 345 then 353 else if l_ = 346 then 355 else if l_ = 347 then 354 else l_) rfl), (f1617.relab (fun l_ => if l_ = 340 then 348 else if l_ = 341 then 349 else if l_ = 342 then 350 else if l_ = 343 then 351 else if l_ = 344 then 352 else if l_ = 345 then 353 else if l_ = 346 then 355 else if l_ = 347 then 354 else l_) rfl), (f1624.relab (fun l_ => if l_ = 340 then 348 else if l_ = 341 then 349 else if l_ = 342 then 350 else if l_ = 343 then 351 else if l_ = 344 then 352 else if l_ = 345 then 353 else if l_ = 346 then 355 else if l_ = 347 then 354 else l_) rfl), (f1629.relab (fun l_ => if l_ = 340 then 348 else if l_ = 341 then 349 else if l_ = 342 then 350 else if l_ = 343 then 351 else if l_ = 344 then 352 else if l_ = 345 then 353 else if l_ = 346 then 355 else if l_ = 347 then 354 else l_) rfl), (f19.relab (fun l_ => if l_ = 340 then 348 else if l_ = 341 then 349 else if l_ = 342 then 350 else if l_ = 343 then 351 else if l_ = 344 then 352 else if l_ = 345 then 353 else if l_ = 346 then 355 else if l_ = 347 then 354 else l_) rfl), (f2037.relab (fun l_ => if l_ = 340 then 348 else if l_ = 341 then 349 else if l_ = 342 then 350 else if l_ = 343 then 351 else if l_ = 344 then 352 else if l_ = 345 then 353 else if l_ = 346 then 355 else if l_ = 347 then 354 else l_) rfl), (f2050.relab (fun l_ => if l_ = 340 then 348 else if l_ = 341 then 349 else if l_ = 342 then 350 else if l_ = 343 then 351 else if l_ = 344 then 352 else if l_ = 345 then 353 else if l_ = 346 then 355 else if l_ = 347 then 354 else l_) rfl), (f2053.relab (fun l_ => if l_ = 340 then 348 else if l_ = 341 then 349 else if l_ = 342 then 350 else if l_ = 343 then 351 else if l_ = 344 then 352 else if l_ = 345 then 353 else if l_ = 346 then 355 else if l_ = 347 then 354 else l_) rfl), (f900000.relab (fun l_ => if l_ = 340 then 348 else if l_ = 341 then 349 else if l_ = 342 then 350 else if l_ = 343 then 351 else if l_ = 344 then 352 else if l_ = 345 then 353 else if l_ = 346 then 355 else if l_ = 347 then 354 else l_) rfl), H⟩
      · rw [b2409] at hk H
        replace H := bifT H
        refine x_if hk (b := true) rfl ?_
        refine (show Code.wpIn _ _ _ _ _ _ _ from ?_)
        refine x_seq ?_
        refine wpIn_region_lit ?_
        refine x_run tab hk (k := 1) (lv := []) (ks := [2]) (e' := [(2, .bool false)]) rfl trivial fun a hk => ?_
        refine wpListIn_nil ?_
        refine then_n ?_
        refine wpIn_ret ?_
        refine then_r ?_
        refine blk_r ?_
        refine then_r ?_
        refine then_r ?_
        refine blk_r ?_
        refine then_r ?_
        obtain rfl := Option.some.inj H
        exact x_retG hk (rs := [.tmp 2]) (vs := [.bool false]) rfl ⟨rfl, trivial⟩ ⟨fun b_ => if b_ < w.heap.size then o b_ else (fun _ => 0) (o2407 b_), rfl, hs.close0 o (fun _ => 0)⟩
    refine x_seq ?_
    refine wpIn_region_lit ?_
    refine x_run tab hk (k := 5) (lv := []) (ks := [0, 3, 4, 5, 18]) (e' := [(0, .slice Ap0 (p0).length cp0), (3, .pointer (some ⟨bx13, 0, none⟩)), (4, .pointer (some ⟨bx18, 0, none⟩)), (5, .int .i64 x1631), (18, .bool (decide (x1631 < ((p0).length : Int))))]) rfl trivial fun a hk => ?_
    cases b2410 : (decide (x1631 < ((p0).length : Int)))
    · rw [b2410] at hk H
      replace H := bifF H
      refine x_run tab hk (k := 3) (lv := []) (ks := [0, 3, 4, 5, 21]) (e' := [(0, .slice Ap0 (p0).length cp0), (3, .pointer (some ⟨bx13, 0, none⟩)), (4, .pointer (some ⟨bx18, 0, none⟩)), (5, .int .i64 x1631), (21, .bool false)]) rfl trivial fun a hk => ?_
      refine wpListIn_nil ?_
      refine then_n ?_
      refine x_if hk (b := false) rfl ?_
      refine (show Code.wpIn _ _ _ _ _ _ _ from ?_)
      refine wpIn_exit ?_
      refine then_x ?_
      refine then_x ?_
      refine blk_x ?_
      refine then_n ?_
      exact ⟨o1611, (by exact Kn.pick (ks := []) hk rfl), hs, H⟩
    · rw [b2410] at hk H
      replace H := bifT H
      refine x_run tab hk (k := 3) (lv := []) (ks := [0, 3, 4, 5, 21]) (e' := [(0, .slice Ap0 (p0).length cp0), (3, .pointer (some ⟨bx13, 0, none⟩)), (4, .pointer (some ⟨bx18, 0, none⟩)), (5, .int .i64 x1631), (21, .bool (decide (x1631 < (40 : Int))))]) rfl trivial fun a hk => ?_
      refine wpListIn_nil ?_
      refine then_n ?_
      cases b2411 : (decide (x1631 < (40 : Int)))
      · rw [b2411] at hk H
        replace H := bifF H
        refine x_if hk (b := false) rfl ?_
        refine (show Code.wpIn _ _ _ _ _ _ _ from ?_)
        refine wpIn_exit ?_
        refine then_x ?_
        refine then_x ?_
        refine blk_x ?_
        refine then_n ?_
        exact ⟨o1611, (by exact Kn.pick (ks := []) hk rfl), hs, H⟩
      · rw [b2411] at hk H
        replace H := bifT H
        refine x_if hk (b := true) rfl ?_
        refine (show Code.wpIn _ _ _ _ _ _ _ from ?_)
        refine wpIn_skip ?_
        refine then_n ?_
        exact ⟨(fun b_ => (fun l_ => if l_ = 264 then 340 else if l_ = 265 then 341 else if l_ = 266 then 342 else if l_ = 267 then 343 else if l_ = 268 then 344 else l_) (o1611 b_)), (by exact Kn.pick (ks := [0, 3, 4, 5]) hk rfl), (hs.relab0 (fun l_ => if l_ = 264 then 340 else if l_ = 265 then 341 else if l_ = 266 then 342 else if l_ = 267 then 343 else if l_ = 268 then 344 else l_) rfl), (f14.relab (fun l_ => if l_ = 264 then 340 else if l_ = 265 then 341 else if l_ = 266 then 342 else if l_ = 267 then 343 else if l_ = 268 then 344 else l_) rfl), (f1617.relab (fun l_ => if l_ = 264 then 340 else if l_ = 265 then 341 else if l_ = 266 then 342 else if l_ = 267 then 343 else if l_ = 268 then 344 else l_) rfl), (f1624.relab (fun l_ => if l_ = 264 then 340 else if l_ = 265 then 341 else if l_ = 266 then 342 else if l_ = 267 then 343 else if l_ = 268 then 344 else l_) rfl), (f1629.relab (fun l_ => if l_ = 264 then 340 else if l_ = 265 then 341 else if l_ = 266 then 342 else if l_ = 267 then 343 else if l_ = 268 then 344 else l_) rfl), (f19.relab (fun l_ => if l_ = 264 then 340 else if l_ = 265 then 341 else if l_ = 266 then 342 else if l_ = 267 then 343 else if l_ = 268 then 344 else l_) rfl), (f900000.relab (fun l_ => if l_ = 264 then 340 else if l_ = 265 then 341 else if l_ = 266 then 342 else if l_ = 267 then 343 else if l_ = 268 then 344 else l_) rfl), H⟩
  · rw [b9] at hk H
    replace H := bifT H
    refine x_if hk (b := true) rfl ?_
    refine (show Code.wpIn _ _ _ _ _ _ _ from ?_)
    refine x_seq ?_
    refine wpIn_region_lit ?_
    refine x_run tab hk (k := 1) (lv := []) (ks := [2]) (e' := [(2, .bool false)]) rfl trivial fun a hk => ?_
    refine wpListIn_nil ?_
    refine then_n ?_
    refine wpIn_ret ?_
    refine then_r ?_
    obtain rfl := Option.some.inj H
    exact x_retG hk (rs := [.tmp 2]) (vs := [.bool false]) rfl ⟨rfl, trivial⟩ ⟨fun b_ => if b_ < w.heap.size then o b_ else (fun _ => 0) (o7 b_), rfl, hs.close0 o (fun _ => 0)⟩

end Go.Proofs.Ytibcjohofabllaa
