/- Walks, printed by an own program: the machine's calls compute the plain functions. -/
import Derived.Test.YtjbdijgenhhgaaaW2
set_option linter.unusedVariables false
set_option linter.unusedSimpArgs false
namespace Go.Proofs.Ytjbdijgenhhgaaa
open Go Go.Proofs.XC
/-! tidewrack/tidewrackref13.Cut -/
theorem tidewrackref13_Cut_calls (K : Nat) (Ap0 : Option Addr) (cp0 : Nat) (p0 : List T28) (p1 : T28) (w : World) (o : Nat → Nat) (Lp0 : Nat) (hp0 : Ft (RdC ET28 Ap0 p0) w o Lp0) (hcp0 : (p0).length ≤ cp0)  (R0 : Nat) (r : List T28) (H : tidewrackref13_Cut K p0 p1 = some r) :
    Calls Try.prog 19 #[.slice Ap0 (p0).length cp0, .agg #[.int .i64 p1.From, .int .i64 p1.To]] w (Ret fun v_ w' => ∃ o' : Nat → Nat, ∃ A0 : Option Addr, ∃ c0 : Nat, v_ = .slice A0 (r).length c0 ∧ St [] w o w' o' ∧ Ft (Own ET28 30 (.slice A0 (r).length c0) (r)) w' o' R0 ∧ (r).length ≤ c0) := by
  refine x_enter (vs := [.slice Ap0 (p0).length cp0, .agg #[.int .i64 p1.From, .int .i64 p1.To]]) Try.func19 rfl rfl rfl fun a hk => ?_
  obtain ⟨o0, hs, h0⟩ := St.start w o
  have f900000 := h0 _ _ hp0
  clear h0
  rw [tidewrackref13_Cut] at H
  refine x_seq ?_
  refine wpIn_region_lit ?_
  refine x_op hk rfl ?_
  refine op_box (o := o0) (t := 30) (v := .agg #[.int .i64 p1.From, .int .i64 p1.To]) (cs := [.int .i64 p1.From, .int .i64 p1.To]) hk rfl rfl 1 fun bx4 w1 o2 st3 f5 => ?_
  replace f900000 := f900000.st st3 (by decide)
  replace hs := hs.loc0 st3 (by decide)
  have hk := hk.put 3 (.pointer (some ⟨bx4, 0, none⟩)) rfl
  refine x_run tab hk (k := 1) (lv := []) (ks := [0, 3]) (e' := [(0, .slice Ap0 (p0).length cp0), (3, .pointer (some ⟨bx4, 0, none⟩))]) rfl trivial fun a hk => ?_
  refine wpListIn_nil ?_
  refine then_n ?_
  refine x_seq ?_
  refine wpIn_region_lit ?_
  refine x_run tab hk (k := 2) (lv := [.agg #[.int .i64 p1.From, .int .i64 p1.To]]) (ks := [5, 6]) (e' := [(5, .slice Ap0 (p0).length cp0), (6, .agg #[.int .i64 p1.From, .int .i64 p1.To])]) rfl ⟨(load_box tab rfl rfl f5.now (k := 0) rfl rfl), trivial⟩ fun a hk => ?_
  refine x_op hk rfl ?_
  obtain ⟨t9, hc10, H⟩ := bindS H
  refine op_call hk ent_34 (vs := [.agg #[.int .i64 p1.From, .int .i64 p1.To]]) rfl (tidewrackref13_one_calls p1 _ o2  2  _ hc10) ?_
  rintro _ w11 ⟨o12, A14, c15, rfl, st13, f16, hc17⟩
  replace f900000 := f900000.st st13 (by decide)
  replace hs := hs.loc0 st13 (by decide)
  have hk := hk.put 7 (.slice A14 (t9).length c15) rfl
  refine x_op hk rfl ?_
  obtain ⟨t21, hc22, H⟩ := bindS H
  refine op_call hk ent_33 (vs := [.slice Ap0 (p0).length cp0, .slice A14 (t9).length c15, .int .i64 1]) rfl (tidewrackref13_build_calls K Ap0 cp0 p0 A14 c15 t9 1 _ o12 _ f900000 hcp0 _ (f16.imp fun _ h_ => Own.rd h_) hc17 3  _ hc22) ?_
  rintro _ w23 ⟨o24, A26, c27, rfl, st25, f28, hc29⟩
  replace f16 := f16.st st25 (by decide)
  replace f900000 := f900000.st st25 (by decide)
  replace hs := hs.loc0 st25 (by decide)
  have hk := hk.put 8 (.slice A26 (t21).length c27) rfl
  refine x_run tab hk (k := 1) (lv := []) (ks := [4]) (e' := [(4, .slice A26 (t21).length c27)]) rfl trivial fun a hk => ?_
  refine wpListIn_nil ?_
  refine then_n ?_
  refine wpIn_ret ?_
  obtain rfl := Option.some.inj H
  exact x_retG hk (rs := [.tmp 4]) (vs := [.slice A26 (t21).length c27]) rfl ⟨rfl, trivial⟩ ⟨fun b_ => if b_ < w.heap.size then o b_ else (fun _ => R0) (o24 b_), A26, c27, rfl, hs.close0 o (fun _ => R0), hs.close_ft (o := o) (ρ := fun _ => R0) f28 (by decide) rfl, hc29⟩

/-! tidewrack/tidewrackref13.Add -/
theorem tidewrackref13_Add_calls (K : Nat) (Ap0 : Option Addr) (cp0 : Nat) (p0 : List T28) (p1 : T28) (w : World) (o : Nat → Nat) (Lp0 : Nat) (hp0 : Ft (RdC ET28 Ap0 p0) w o Lp0) (hcp0 : (p0).length ≤ cp0)  (R0 : Nat) (r : List T28) (H : tidewrackref13_Add K p0 p1 = some r) :
    Calls Try.prog 20 #[.slice Ap0 (p0).length cp0, .agg #[.int .i64 p1.From, .int .i64 p1.To]] w (Ret fun v_ w' => ∃ o' : Nat → Nat, ∃ A0 : Option Addr, ∃ c0 : Nat, v_ = .slice A0 (r).length c0 ∧ St [] w o w' o' ∧ Ft (Own ET28 30 (.slice A0 (r).length c0) (r)) w' o' R0 ∧ (r).length ≤ c0) := by
  refine x_enter (vs := [.slice Ap0 (p0).length cp0, .agg #[.int .i64 p1.From, .int .i64 p1.To]]) Try.func20 rfl rfl rfl fun a hk => ?_
  obtain ⟨o0, hs, h0⟩ := St.start w o
  have f900000 := h0 _ _ hp0
  clear h0
  rw [tidewrackref13_Add] at H
  refine x_seq ?_
  refine wpIn_region_lit ?_
  refine x_op hk rfl ?_
  refine op_box (o := o0) (t := 30) (v := .agg #[.int .i64 p1.From, .int .i64 p1.To]) (cs := [.int .i64 p1.From, .int .i64 p1.To]) hk rfl rfl 1 fun bx4 w1 o2 st3 f5 => ?_
  replace f900000 := f900000.st st3 (by decide)
  replace hs := hs.loc0 st3 (by decide)
  have hk := hk.put 3 (.pointer (some ⟨bx4, 0, none⟩)) rfl
  refine x_run tab hk (k := 1) (lv := []) (ks := [0, 3]) (e' := [(0, .slice Ap0 (p0).length cp0), (3, .pointer (some ⟨bx4, 0, none⟩))]) rfl trivial fun a hk => ?_
  refine wpListIn_nil ?_
  refine then_n ?_
  refine x_seq ?_
  refine wpIn_region_lit ?_
  refine x_run tab hk (k := 2) (lv := [.agg #[.int .i64 p1.From, .int .i64 p1.To]]) (ks := [5, 6]) (e' := [(5, .slice Ap0 (p0).length cp0), (6, .agg #[.int .i64 p1.From, .int .i64 p1.To])]) rfl ⟨(load_box tab rfl rfl f5.now (k := 0) rfl rfl), trivial⟩ fun a hk => ?_
  refine x_op hk rfl ?_
  obtain ⟨t9, hc10, H⟩ := bindS H
  refine op_call hk ent_34 (vs := [.agg #[.int .i64 p1.From, .int .i64 p1.To]]) rfl (tidewrackref13_one_calls p1 _ o2  2  _ hc10) ?_
  rintro _ w11 ⟨o12, A14, c15, rfl, st13, f16, hc17⟩
  replace f900000 := f900000.st st13 (by decide)
  replace hs := hs.loc0 st13 (by decide)
  have hk := hk.put 7 (.slice A14 (t9).length c15) rfl
  refine x_op hk rfl ?_
  obtain ⟨t21, hc22, H⟩ := bindS H
  refine op_call hk ent_33 (vs := [.slice Ap0 (p0).length cp0, .slice A14 (t9).length c15, .int .i64 0]) rfl (tidewrackref13_build_calls K Ap0 cp0 p0 A14 c15 t9 0 _ o12 _ f900000 hcp0 _ (f16.imp fun _ h_ => Own.rd h_) hc17 3  _ hc22) ?_
  rintro _ w23 ⟨o24, A26, c27, rfl, st25, f28, hc29⟩
  replace f16 := f16.st st25 (by decide)
  replace f900000 := f900000.st st25 (by decide)
  replace hs := hs.loc0 st25 (by decide)
  have hk := hk.put 8 (.slice A26 (t21).length c27) rfl
  refine x_run tab hk (k := 1) (lv := []) (ks := [4]) (e' := [(4, .slice A26 (t21).length c27)]) rfl trivial fun a hk => ?_
  refine wpListIn_nil ?_
  refine then_n ?_
  refine wpIn_ret ?_
  obtain rfl := Option.some.inj H
  exact x_retG hk (rs := [.tmp 4]) (vs := [.slice A26 (t21).length c27]) rfl ⟨rfl, trivial⟩ ⟨fun b_ => if b_ < w.heap.size then o b_ else (fun _ => R0) (o24 b_), A26, c27, rfl, hs.close0 o (fun _ => R0), hs.close_ft (o := o) (ρ := fun _ => R0) f28 (by decide) rfl, hc29⟩

/-! tidewrack/tidewrackref13.In -/
theorem tidewrackref13_In_calls (K : Nat) (Ap0 : Option Addr) (cp0 : Nat) (p0 : List T28) (p1 : T28) (w : World) (o : Nat → Nat) (Lp0 : Nat) (hp0 : Ft (RdC ET28 Ap0 p0) w o Lp0) (hcp0 : (p0).length ≤ cp0)  (R0 : Nat) (r : List T28) (H : tidewrackref13_In K p0 p1 = some r) :
    Calls Try.prog 22 #[.slice Ap0 (p0).length cp0, .agg #[.int .i64 p1.From, .int .i64 p1.To]] w (Ret fun v_ w' => ∃ o' : Nat → Nat, ∃ A0 : Option Addr, ∃ c0 : Nat, v_ = .slice A0 (r).length c0 ∧ St [] w o w' o' ∧ Ft (Own ET28 30 (.slice A0 (r).length c0) (r)) w' o' R0 ∧ (r).length ≤ c0) := by
  refine x_enter (vs := [.slice Ap0 (p0).length cp0, .agg #[.int .i64 p1.From, .int .i64 p1.To]]) Try.func22 rfl rfl rfl fun a hk => ?_
  obtain ⟨o0, hs, h0⟩ := St.start w o
  have f900000 := h0 _ _ hp0
  clear h0
  rw [tidewrackref13_In] at H
  refine x_seq ?_
  refine wpIn_region_lit ?_
  refine x_op hk rfl ?_
  refine op_box (o := o0) (t := 30) (v := .agg #[.int .i64 p1.From, .int .i64 p1.To]) (cs := [.int .i64 p1.From, .int .i64 p1.To]) hk rfl rfl 1 fun bx4 w1 o2 st3 f5 => ?_
  replace f900000 := f900000.st st3 (by decide)
  replace hs := hs.loc0 st3 (by decide)
  have hk := hk.put 3 (.pointer (some ⟨bx4, 0, none⟩)) rfl
  refine x_run tab hk (k := 1) (lv := []) (ks := [0, 3]) (e' := [(0, .slice Ap0 (p0).length cp0), (3, .pointer (some ⟨bx4, 0, none⟩))]) rfl trivial fun a hk => ?_
  refine wpListIn_nil ?_
  refine then_n ?_
  refine x_seq ?_
  refine wpIn_region_lit ?_
  refine x_run tab hk (k := 2) (lv := [.agg #[.int .i64 p1.From, .int .i64 p1.To]]) (ks := [5, 6]) (e' := [(5, .slice Ap0 (p0).length cp0), (6, .agg #[.int .i64 p1.From, .int .i64 p1.To])]) rfl ⟨(load_box tab rfl rfl f5.now (k := 0) rfl rfl), trivial⟩ fun a hk => ?_
  refine x_op hk rfl ?_
  obtain ⟨t9, hc10, H⟩ := bindS H
  refine op_call hk ent_34 (vs := [.agg #[.int .i64 p1.From, .int .i64 p1.To]]) rfl (tidewrackref13_one_calls p1 _ o2  2  _ hc10) ?_
  rintro _ w11 ⟨o12, A14, c15, rfl, st13, f16, hc17⟩
  replace f900000 := f900000.st st13 (by decide)
  replace hs := hs.loc0 st13 (by decide)
  have hk := hk.put 7 (.slice A14 (t9).length c15) rfl
  refine x_op hk rfl ?_
  obtain ⟨t21, hc22, H⟩ := bindS H
  refine op_call hk ent_33 (vs := [.slice Ap0 (p0).length cp0, .slice A14 (t9).length c15, .int .i64 2]) rfl (tidewrackref13_build_calls K Ap0 cp0 p0 A14 c15 t9 2 _ o12 _ f900000 hcp0 _ (f16.imp fun _ h_ => Own.rd h_) hc17 3  _ hc22) ?_
  rintro _ w23 ⟨o24, A26, c27, rfl, st25, f28, hc29⟩
  replace f16 := f16.st st25 (by decide)
  replace f900000 := f900000.st st25 (by decide)
  replace hs := hs.loc0 st25 (by decide)
  have hk := hk.put 8 (.slice A26 (t21).length c27) rfl
  refine x_run tab hk (k := 1) (lv := []) (ks := [4]) (e' := [(4, .slice A26 (t21).length c27)]) rfl trivial fun a hk => ?_
  refine wpListIn_nil ?_
  refine then_n ?_
  refine wpIn_ret ?_
  obtain rfl := Option.some.inj H
  exact x_retG hk (rs := [.tmp 4]) (vs := [.slice A26 (t21).length c27]) rfl ⟨rfl, trivial⟩ ⟨fun b_ => if b_ < w.heap.size then o b_ else (fun _ => R0) (o24 b_), A26, c27, rfl, hs.close0 o (fun _ => R0), hs.close_ft (o := o) (ρ := fun _ => R0) f28 (by decide) rfl, hc29⟩

/-! tidewrack/tidewrackref13.Missing -/
theorem tidewrackref13_Missing_calls (K : Nat) (Ap0 : Option Addr) (cp0 : Nat) (p0 : List T28) (p1 : T28) (w : World) (o : Nat → Nat) (Lp0 : Nat) (hp0 : Ft (RdC ET28 Ap0 p0) w o Lp0) (hcp0 : (p0).length ≤ cp0)  (R0 : Nat) (r : List T28) (H : tidewrackref13_Missing K p0 p1 = some r) :
    Calls Try.prog 23 #[.slice Ap0 (p0).length cp0, .agg #[.int .i64 p1.From, .int .i64 p1.To]] w (Ret fun v_ w' => ∃ o' : Nat → Nat, ∃ A0 : Option Addr, ∃ c0 : Nat, v_ = .slice A0 (r).length c0 ∧ St [] w o w' o' ∧ Ft (Own ET28 30 (.slice A0 (r).length c0) (r)) w' o' R0 ∧ (r).length ≤ c0) := by
  refine x_enter (vs := [.slice Ap0 (p0).length cp0, .agg #[.int .i64 p1.From, .int .i64 p1.To]]) Try.func23 rfl rfl rfl fun a hk => ?_
  obtain ⟨o0, hs, h0⟩ := St.start w o
  have f900000 := h0 _ _ hp0
  clear h0
  rw [tidewrackref13_Missing] at H
  refine x_seq ?_
  refine wpIn_region_lit ?_
  refine x_op hk rfl ?_
  refine op_box (o := o0) (t := 30) (v := .agg #[.int .i64 p1.From, .int .i64 p1.To]) (cs := [.int .i64 p1.From, .int .i64 p1.To]) hk rfl rfl 1 fun bx4 w1 o2 st3 f5 => ?_
  replace f900000 := f900000.st st3 (by decide)
  replace hs := hs.loc0 st3 (by decide)
  have hk := hk.put 3 (.pointer (some ⟨bx4, 0, none⟩)) rfl
  refine x_run tab hk (k := 1) (lv := []) (ks := [0, 3]) (e' := [(0, .slice Ap0 (p0).length cp0), (3, .pointer (some ⟨bx4, 0, none⟩))]) rfl trivial fun a hk => ?_
  refine wpListIn_nil ?_
  refine then_n ?_
  refine x_seq ?_
  refine wpIn_region_lit ?_
  refine x_run tab hk (k := 2) (lv := [.agg #[.int .i64 p1.From, .int .i64 p1.To]]) (ks := [5, 6]) (e' := [(5, .slice Ap0 (p0).length cp0), (6, .agg #[.int .i64 p1.From, .int .i64 p1.To])]) rfl ⟨(load_box tab rfl rfl f5.now (k := 0) rfl rfl), trivial⟩ fun a hk => ?_
  refine x_op hk rfl ?_
  obtain ⟨t9, hc10, H⟩ := bindS H
  refine op_call hk ent_34 (vs := [.agg #[.int .i64 p1.From, .int .i64 p1.To]]) rfl (tidewrackref13_one_calls p1 _ o2  2  _ hc10) ?_
  rintro _ w11 ⟨o12, A14, c15, rfl, st13, f16, hc17⟩
  replace f900000 := f900000.st st13 (by decide)
  replace hs := hs.loc0 st13 (by decide)
  have hk := hk.put 7 (.slice A14 (t9).length c15) rfl
  refine x_op hk rfl ?_
  obtain ⟨t21, hc22, H⟩ := bindS H
  refine op_call hk ent_33 (vs := [.slice Ap0 (p0).length cp0, .slice A14 (t9).length c15, .int .i64 3]) rfl (tidewrackref13_build_calls K Ap0 cp0 p0 A14 c15 t9 3 _ o12 _ f900000 hcp0 _ (f16.imp fun _ h_ => Own.rd h_) hc17 3  _ hc22) ?_
  rintro _ w23 ⟨o24, A26, c27, rfl, st25, f28, hc29⟩
  replace f16 := f16.st st25 (by decide)
  replace f900000 := f900000.st st25 (by decide)
  replace hs := hs.loc0 st25 (by decide)
  have hk := hk.put 8 (.slice A26 (t21).length c27) rfl
  refine x_run tab hk (k := 1) (lv := []) (ks := [4]) (e' := [(4, .slice A26 (t21).length c27)]) rfl trivial fun a hk => ?_
  refine wpListIn_nil ?_
  refine then_n ?_
  refine wpIn_ret ?_
  obtain rfl := Option.some.inj H
  exact x_retG hk (rs := [.tmp 4]) (vs := [.slice A26 (t21).length c27]) rfl ⟨rfl, trivial⟩ ⟨fun b_ => if b_ < w.heap.size then o b_ else (fun _ => R0) (o24 b_), A26, c27, rfl, hs.close0 o (fun _ => R0), hs.close_ft (o := o) (ρ := fun _ => R0) f28 (by decide) rfl, hc29⟩

/-! tidewrack/tidewracklaw13.SpansPlay -/
set_option maxHeartbeats 4000000 in
theorem tidewracklaw13_SpansPlay_calls (K : Nat) (Ap0 : Option Addr) (cp0 : Nat) (p0 : List T35) (p1 : T28) (p2 : Int) (w : World) (o : Nat → Nat) (Lp0 : Nat) (hp0 : Ft (RdC ET35 Ap0 p0) w o Lp0) (hcp0 : (p0).length ≤ cp0)  (r : Bool) (H : tidewracklaw13_SpansPlay K p0 p1 p2 = some r) :
    Calls Try.prog 7 #[.slice Ap0 (p0).length cp0, .agg #[.int .i64 p1.From, .int .i64 p1.To], .int .i64 p2] w (Ret fun v_ w' => ∃ o' : Nat → Nat, v_ = .bool r ∧ St [] w o w' o') := by
  refine x_enter (vs := [.slice Ap0 (p0).length cp0, .agg #[.int .i64 p1.From, .int .i64 p1.To], .int .i64 p2]) Try.func7 rfl rfl rfl fun a hk => ?_
  obtain ⟨o0, hs, h0⟩ := St.start w o
  have f900000 := h0 _ _ hp0
  clear h0
  rw [tidewracklaw13_SpansPlay] at H
  refine x_seq ?_
  refine wpIn_region_lit ?_
  refine x_op hk rfl ?_
  refine op_box (o := o0) (t := 30) (v := .agg #[.int .i64 p1.From, .int .i64 p1.To]) (cs := [.int .i64 p1.From, .int .i64 p1.To]) hk rfl rfl 1 fun bx4 w1 o2 st3 f5 => ?_
  replace f900000 := f900000.st st3 (by decide)
  replace hs := hs.loc0 st3 (by decide)
  have hk := hk.put 4 (.pointer (some ⟨bx4, 0, none⟩)) rfl
  refine x_run tab hk (k := 1) (lv := []) (ks := [0, 2, 4]) (e' := [(0, .slice Ap0 (p0).length cp0), (2, .int .i64 p2), (4, .pointer (some ⟨bx4, 0, none⟩))]) rfl trivial fun a hk => ?_
  refine wpListIn_nil ?_
  refine then_n ?_
  refine x_seq ?_
  refine x_seq ?_
  refine wpIn_region_lit ?_
  refine x_op hk rfl ?_
  obtain ⟨t9, hc10, H⟩ := bindS H
  refine op_call hk ent_8 (vs := []) rfl (tidewracklaw13_awake_calls K  _ o2    _ hc10) ?_
  rintro _ w11 ⟨o12, rfl, st13⟩
  replace f5 := f5.st st13 (by decide)
  replace f900000 := f900000.st st13 (by decide)
  replace hs := hs.loc0 st13 (by decide)
  have hk := hk.put 15 (.bool t9) rfl
  refine x_run tab hk (k := 1) (lv := []) (ks := [0, 2, 4, 16]) (e' := [(0, .slice Ap0 (p0).length cp0), (2, .int .i64 p2), (4, .pointer (some ⟨bx4, 0, none⟩)), (16, .bool (!t9))]) rfl trivial fun a hk => ?_
  refine wpListIn_nil ?_
  refine then_n ?_
  cases b14 : (!t9)
  · rw [b14] at hk H
    replace H := bifF H
    refine x_if hk (b := false) rfl ?_
    refine (show Code.wpIn _ _ _ _ _ _ _ from ?_)
    refine wpIn_skip ?_
    refine then_n ?_
    refine x_seq ?_
    refine wpIn_region_lit ?_
    refine x_op hk rfl ?_
    refine op_alloc (o := o12) tab (t := 26) (cs := [.slice none 0 0]) rfl rfl 2 fun bx18 w15 o16 st17 f19 => ?_
    replace f5 := f5.st st17 (by decide)
    replace f900000 := f900000.st st17 (by decide)
    replace hs := hs.loc0 st17 (by decide)
    have hk := hk.put 7 (.pointer (some ⟨bx18, 0, none⟩)) rfl
    refine wpListIn_nil ?_
    refine then_n ?_
    refine x_seq ?_
    refine wpIn_region_lit ?_
    refine x_run tab hk (k := 1) (lv := []) (ks := [0, 2, 4, 7, 8]) (e' := [(0, .slice Ap0 (p0).length cp0), (2, .int .i64 p2), (4, .pointer (some ⟨bx4, 0, none⟩)), (7, .pointer (some ⟨bx18, 0, none⟩)), (8, .slice none 0 0)]) rfl trivial fun a hk => ?_
    refine wpListIn_nil ?_
    refine then_n ?_
    refine x_mid (fun a_ w_ => ∃ o4138 : Nat → Nat, Kn 108 a_ [] ∧ St [] w (fun _ => 0) w_ o4138 ∧ tidewracklaw13_SpansPlay_j1 = some r) ?_ ?_
    rotate_left
    · rintro a w4139 ⟨o4138, hk, hs, H⟩
      rw [tidewracklaw13_SpansPlay_j1] at H
      refine x_seq ?_
      refine wpIn_region_lit ?_
      refine x_run tab hk (k := 1) (lv := []) (ks := [6]) (e' := [(6, .bool true)]) rfl trivial fun a hk => ?_
      refine wpListIn_nil ?_
      refine then_n ?_
      refine wpIn_ret ?_
      obtain rfl := Option.some.inj H
      exact x_retG hk (rs := [.tmp 6]) (vs := [.bool true]) rfl ⟨rfl, trivial⟩ ⟨fun b_ => if b_ < w.heap.size then o b_ else (fun _ => 0) (o4138 b_), rfl, hs.close0 o (fun _ => 0)⟩
    refine x_seq ?_
    refine wpIn_region_lit ?_
    refine x_run tab hk (k := 1) (lv := []) (ks := [0, 2, 4, 7, 8, 9]) (e' := [(0, .slice Ap0 (p0).length cp0), (2, .int .i64 p2), (4, .pointer (some ⟨bx4, 0, none⟩)), (7, .pointer (some ⟨bx18, 0, none⟩)), (8, .slice none 0 0), (9, .int .i64 0)]) rfl trivial fun a hk => ?_
    refine wpListIn_nil ?_
    refine then_n ?_
    refine wpIn_block ?_
    refine x_loop (fun j_ a_ w_ => ∃ o5507 : Nat → Nat, ∃ A5508 : Option Addr, ∃ c5509 : Nat, ∃ A5512 : Option Addr, ∃ c5513 : Nat, ∃ l5514 : List T28, ∃ A5517 : Option Addr, ∃ c5518 : Nat, ∃ l5519 : List T28, ∃ x5522 : Int, Kn 108 a_ [(0, .slice A5508 (p0).length c5509), (2, .int .i64 p2), (4, .pointer (some ⟨bx4, 0, none⟩)), (7, .pointer (some ⟨bx18, 0, none⟩)), (8, .slice A5517 (l5519).length c5518), (9, .int .i64 x5522)] ∧ St [] w (fun _ => 0) w_ o5507 ∧ Ft (Bx bx18 26 [.slice A5512 (l5514).length c5513]) w_ o5507 569 ∧ Ft (Bx bx4 30 [.int .i64 p1.From, .int .i64 p1.To]) w_ o5507 567 ∧ Ft (RdC ET35 A5508 p0) w_ o5507 0 ∧ Ft (Own ET28 29 (.slice A5512 (l5514).length c5513) l5514) w_ o5507 568 ∧ Ft (Own ET28 30 (.slice A5517 (l5519).length c5518) l5519) w_ o5507 570 ∧ (p0).length ≤ c5509 ∧ (l5514).length ≤ c5513 ∧ (l5519).length ≤ c5518 ∧ tidewracklaw13_SpansPlay_l2 K p0 p1 p2 j_ l5514 l5519 x5522 = some r) (k := K) ⟨(fun b_ => (fun l_ => if l_ = 1 then 567 else if l_ = 2 then 569 else l_) (o16 b_)), Ap0, cp0, none, 0, ([] : List T28), none, 0, ([] : List T28), 0, (by exact Kn.pick (ks := [0, 2, 4, 7, 8, 9]) hk rfl), (hs.relab0 (fun l_ => if l_ = 1 then 567 else if l_ = 2 then 569 else l_) rfl), (f19.relab (fun l_ => if l_ = 1 then 567 else if l_ = 2 then 569 else l_) rfl), (f5.relab (fun l_ => if l_ = 1 then 567 else if l_ = 2 then 569 else l_) rfl), (f900000.relab (fun l_ => if l_ = 1 then 567 else if l_ = 2 then 569 else l_) rfl), (Ft.of_all (fun _ => Own.nil _ _ _) _ _ _), (Ft.of_all (fun _ => Own.nil _ _ _) _ _ _), hcp0, (by simp), (by simp), H⟩ (by rintro _ _ ⟨_, _, _, _, _, _, _, _, _, _, _, _, _, _, _, _, _, _, _, _, H_⟩; exact absurd (show (none : Option Bool) = some r from H_) (by simp)) ?_
    rintro k6888 a w6887 ⟨o5507, A5508, c5509, A5512, c5513, l5514, A5517, c5518, l5519, x5522, hk, hs, f19, f5, f5510, f5515, f5520, hc5511, hc5516, hc5521, H⟩
    rw [tidewracklaw13_SpansPlay_l2] at H
    obtain ⟨lp6889, hlp6890⟩ : ∃ lp_, lp_ = tidewracklaw13_SpansPlay_l2 K p0 p1 p2 k6888 := ⟨_, rfl⟩
    rw [← hlp6890] at H
    refine x_mid (fun a_ w_ => ∃ o6896 : Nat → Nat, Kn 108 a_ [(0, .slice A5508 (p0).length c5509), (2, .int .i64 p2), (4, .pointer (some ⟨bx4, 0, none⟩)), (7, .pointer (some ⟨bx18, 0, none⟩)), (8, .slice A5517 (l5519).length c5518), (9, .int .i64 x5522)] ∧ St [] w (fun _ => 0) w_ o6896 ∧ Ft (Bx bx18 26 [.slice A5512 (l5514).length c5513]) w_ o6896 711 ∧ Ft (Bx bx4 30 [.int .i64 p1.From, .int .i64 p1.To]) w_ o6896 709 ∧ Ft (RdC ET35 A5508 p0) w_ o6896 0 ∧ Ft (Own ET28 29 (.slice A5512 (l5514).length c5513) l5514) w_ o6896 710 ∧ Ft (Own ET28 30 (.slice A5517 (l5519).length c5518) l5519) w_ o6896 712 ∧ tidewracklaw13_SpansPlay_j3 K p0 p1 p2 l5514 l5519 x5522 lp6889 = some r) ?_ ?_
    rotate_left
    · rintro a w6897 ⟨o6896, hk, hs, f19, f5, f5510, f5515, f5520, H⟩
      rw [tidewracklaw13_SpansPlay_j3] at H
      refine x_mid (fun a_ w_ => ∃ o7577 : Nat → Nat, ∃ A7578 : Option Addr, ∃ c7579 : Nat, ∃ A7582 : Option Addr, ∃ c7583 : Nat, ∃ l7584 : List T28, ∃ A7587 : Option Addr, ∃ c7588 : Nat, ∃ l7589 : List T28, Kn 108 a_ [(0, .slice A7578 (p0).length c7579), (2, .int .i64 p2), (4, .pointer (some ⟨bx4, 0, none⟩)), (7, .pointer (some ⟨bx18, 0, none⟩)), (8, .slice A7587 (l7589).length c7588), (9, .int .i64 x5522)] ∧ St [] w (fun _ => 0) w_ o7577 ∧ Ft (Bx bx4 30 [.int .i64 p1.From, .int .i64 p1.To]) w_ o7577 778 ∧ Ft (Bx bx18 26 [.slice A7582 (l7584).length c7583]) w_ o7577 780 ∧ Ft (RdC ET35 A7578 p0) w_ o7577 0 ∧ Ft (Own ET28 29 (.slice A7582 (l7584).length c7583) l7584) w_ o7577 779 ∧ Ft (Own ET28 30 (.slice A7587 (l7589).length c7588) l7589) w_ o7577 781 ∧ (p0).length ≤ c7579 ∧ (l7584).length ≤ c7583 ∧ (l7589).length ≤ c7588 ∧ tidewracklaw13_SpansPlay_j4 x5522 lp6889 l7584 l7589 = some r) ?_ ?_
      rotate_left
      · rintro a w7592 ⟨o7577, A7578, c7579, A7582, c7583, l7584, A7587, c7588, l7589, hk, hs, f5, f6975, f7580, f7585, f7590, hc7581, hc7586, hc7591, H⟩
        rw [tidewracklaw13_SpansPlay_j4] at H
        refine wpIn_region_lit ?_
        refine x_run tab hk (k := 3) (lv := []) (ks := [0, 2, 4, 7, 8, 9]) (e' := [(0, .slice A7578 (p0).length c7579), (2, .int .i64 p2), (4, .pointer (some ⟨bx4, 0, none⟩)), (7, .pointer (some ⟨bx18, 0, none⟩)), (8, .slice A7587 (l7589).length c7588), (9, .int .i64 (IntKind.wrap .i64 (x5522 + 1)))]) rfl trivial fun a hk => ?_
        refine wpListIn_nil ?_
        refine then_n ?_
        exact ⟨k6888, Nat.le_refl _, (fun b_ => (fun l_ => if l_ = 778 then 567 else if l_ = 779 then 568 else if l_ = 780 then 569 else if l_ = 781 then 570 else l_) (o7577 b_)), A7578, c7579, A7582, c7583, l7584, A7587, c7588, l7589, (IntKind.wrap .i64 (x5522 + 1)), (by exact Kn.pick (ks := [0, 2, 4, 7, 8, 9]) hk rfl), (hs.relab0 (fun l_ => if l_ = 778 then 567 else if l_ = 779 then 568 else if l_ = 780 then 569 else if l_ = 781 then 570 else l_) rfl), (f6975.relab (fun l_ => if l_ = 778 then 567 else if l_ = 779 then 568 else if l_ = 780 then 569 else if l_ = 781 then 570 else l_) rfl), (f5.relab (fun l_ => if l_ = 778 then 567 else if l_ = 779 then 568 else if l_ = 780 then 569 else if l_ = 781 then 570 else l_) rfl), (f7580.relab (fun l_ => if l_ = 778 then 567 else if l_ = 779 then 568 else if l_ = 780 then 569 else if l_ = 781 then 570 else l_) rfl), (f7585.relab (fun l_ => if l_ = 778 then 567 else if l_ = 779 then 568 else if l_ = 780 then 569 else if l_ = 781 then 570 else l_) rfl), (f7590.relab (fun l_ => if l_ = 778 then 567 else if l_ = 779 then 568 else if l_ = 780 then 569 else if l_ = 781 then 570 else l_) rfl), hc7581, hc7586, hc7591, (hlp6890 ▸ H)⟩
      refine wpIn_block ?_
      refine x_seq ?_
      refine wpIn_region_lit ?_
      obtain ⟨q7593, H⟩ := ifS H
      obtain ⟨ad7594, hAad7594⟩ := RdC.addr f5510.now q7593
      have hk_C := hk
      have f19_C := f19
      have f5_C := f5
      have f5510_C := f5510
      have f5515_C := f5515
      have f5520_C := f5520
      subst hAad7594
      have hk := hk_C
      clear hk_C
      have f19 := f19_C
      clear f19_C
      have f5 := f5_C
      clear f5_C
      have f5510 := f5510_C
      clear f5510_C
      have f5515 := f5515_C
      clear f5515_C
      have f5520 := f5520_C
      clear f5520_C
      refine x_run tab hk (k := 4) (lv := [.agg #[.bool ((rdD zT35 p0 x5522).Cut), .int .i64 ((rdD zT35 p0 x5522).Span_From), .int .i64 ((rdD zT35 p0 x5522).Span_To)]]) (ks := [0, 2, 4, 7, 8, 9, 30]) (e' := [(0, .slice (some ad7594) (p0).length c5509), (2, .int .i64 p2), (4, .pointer (some ⟨bx4, 0, none⟩)), (7, .pointer (some ⟨bx18, 0, none⟩)), (8, .slice A5517 (l5519).length c5518), (9, .int .i64 x5522), (30, .agg #[.bool ((rdD zT35 p0 x5522).Cut), .int .i64 ((rdD zT35 p0 x5522).Span_From), .int .i64 ((rdD zT35 p0 x5522).Span_To)])]) rfl ⟨q7593, (load_elem (E := ET35) (i := x5522) (dx := zT35) tab rfl rfl f5510.now q7593), trivial⟩ fun a hk => ?_
      refine x_op hk rfl ?_
      refine op_alloc (o := o6896) tab (t := 36) (cs := [.bool false, .int .i64 0, .int .i64 0]) rfl rfl 782 fun bx7598 w7595 o7596 st7597 f7599 => ?_
      replace f19 := f19.st st7597 (by decide)
      replace f5 := f5.st st7597 (by decide)
      replace f5510 := f5510.st st7597 (by decide)
      replace f5515 := f5515.st st7597 (by decide)
      replace f5520 := f5520.st st7597 (by decide)
      replace hs := hs.loc0 st7597 (by decide)
      have hk := hk.put 10 (.pointer (some ⟨bx7598, 0, none⟩)) rfl
      refine x_op hk rfl ?_
      refine op_store tab hk (t := 36) (v := .agg #[.bool ((rdD zT35 p0 x5522).Cut), .int .i64 ((rdD zT35 p0 x5522).Span_From), .int .i64 ((rdD zT35 p0 x5522).Span_To)]) (b := bx7598) (k := 0) (cs' := [.bool ((rdD zT35 p0 x5522).Cut), .int .i64 ((rdD zT35 p0 x5522).Span_From), .int .i64 ((rdD zT35 p0 x5522).Span_To)]) rfl rfl rfl rfl rfl rfl f7599 rfl rfl fun w7600 o7601 st7602 f7599_ => ?_
      replace f19 := f19.st st7602 (by decide)
      replace f5 := f5.st st7602 (by decide)
      replace f5510 := f5510.st st7602 (by decide)
      replace f5515 := f5515.st st7602 (by decide)
      replace f5520 := f5520.st st7602 (by decide)
      replace hs := hs.loc0 st7602 (by decide)
      replace f7599 := f7599_
      refine wpListIn_nil ?_
      refine then_n ?_
      refine x_seq ?_
      refine wpIn_region_lit ?_
      refine x_op hk rfl ?_
      obtain ⟨t7606, hc7607, H⟩ := bindS H
      refine op_call hk ent_18 (vs := [.pointer (some ⟨bx18, 0, none⟩)]) rfl (spans_Set_Clone_calls bx18 A5512 c5513 (⟨l5514⟩ : T25) _ o7601 711 f19 _ (f5515.imp fun _ h_ => Own.rd h_) hc5516 783 784  _ hc7607) ?_
      rintro _ w7608 ⟨o7609, bx7611, A7613, c7614, rfl, st7610, f7612, f7615, hc7616⟩
      replace f19 := f19.st st7610 (by decide)
      replace f5 := f5.st st7610 (by decide)
      replace f5510 := f5510.st st7610 (by decide)
      replace f5515 := f5515.st st7610 (by decide)
      replace f5520 := f5520.st st7610 (by decide)
      replace f7599 := f7599.st st7610 (by decide)
      replace hs := hs.loc0 st7610 (by decide)
      have hk := hk.put 31 (.pointer (some ⟨bx7611, 0, none⟩)) rfl
      refine x_run tab hk (k := 1) (lv := []) (ks := [0, 2, 4, 7, 8, 9, 10, 11]) (e' := [(0, .slice (some ad7594) (p0).length c5509), (2, .int .i64 p2), (4, .pointer (some ⟨bx4, 0, none⟩)), (7, .pointer (some ⟨bx18, 0, none⟩)), (8, .slice A5517 (l5519).length c5518), (9, .int .i64 x5522), (10, .pointer (some ⟨bx7598, 0, none⟩)), (11, .pointer (some ⟨bx7611, 0, none⟩))]) rfl trivial fun a hk => ?_
      refine wpListIn_nil ?_
      refine then_n ?_
      refine x_mid (fun a_ w_ => ∃ o7641 : Nat → Nat, Kn 108 a_ [(0, .slice (some ad7594) (p0).length c5509), (2, .int .i64 p2), (4, .pointer (some ⟨bx4, 0, none⟩)), (7, .pointer (some ⟨bx18, 0, none⟩)), (8, .slice A5517 (l5519).length c5518), (9, .int .i64 x5522), (10, .pointer (some ⟨bx7598, 0, none⟩))] ∧ St [] w (fun _ => 0) w_ o7641 ∧ Ft (Bx bx18 26 [.slice A5512 (l5514).length c5513]) w_ o7641 788 ∧ Ft (Bx bx4 30 [.int .i64 p1.From, .int .i64 p1.To]) w_ o7641 786 ∧ Ft (RdC ET35 (some ad7594) p0) w_ o7641 0 ∧ Ft (Own ET28 29 (.slice A5512 (l5514).length c5513) l5514) w_ o7641 787 ∧ Ft (Own ET28 30 (.slice A5517 (l5519).length c5518) l5519) w_ o7641 789 ∧ Ft (Bx bx7598 36 [.bool ((rdD zT35 p0 x5522).Cut), .int .i64 ((rdD zT35 p0 x5522).Span_From), .int .i64 ((rdD zT35 p0 x5522).Span_To)]) w_ o7641 790 ∧ tidewracklaw13_SpansPlay_j5 K p0 p1 p2 l5514 l5519 x5522 lp6889 = some r) ?_ ?_
      rotate_left
      · rintro a w7642 ⟨o7641, hk, hs, f19, f5, f5510, f5515, f5520, f7599, H⟩
        rw [tidewracklaw13_SpansPlay_j5] at H
        refine x_mid (fun a_ w_ => ∃ o7721 : Nat → Nat, ∃ A7722 : Option Addr, ∃ c7723 : Nat, ∃ l7724 : List T28, ∃ A7727 : Option Addr, ∃ c7728 : Nat, ∃ l7729 : List T28, Kn 108 a_ [(0, .slice (some ad7594) (p0).length c5509), (2, .int .i64 p2), (4, .pointer (some ⟨bx4, 0, none⟩)), (7, .pointer (some ⟨bx18, 0, none⟩)), (8, .slice A7727 (l7729).length c7728), (9, .int .i64 x5522)] ∧ St [] w (fun _ => 0) w_ o7721 ∧ Ft (Bx bx4 30 [.int .i64 p1.From, .int .i64 p1.To]) w_ o7721 795 ∧ Ft (RdC ET35 (some ad7594) p0) w_ o7721 0 ∧ Ft (Bx bx18 26 [.slice A7722 (l7724).length c7723]) w_ o7721 797 ∧ Ft (Own ET28 29 (.slice A7722 (l7724).length c7723) l7724) w_ o7721 796 ∧ Ft (Own ET28 30 (.slice A7727 (l7729).length c7728) l7729) w_ o7721 798 ∧ (l7724).length ≤ c7723 ∧ (l7729).length ≤ c7728 ∧ tidewracklaw13_SpansPlay_j6 K p1 p2 x5522 lp6889 l7724 l7729 = some r) ?_ ?_
        rotate_left
        · rintro a w7732 ⟨o7721, A7722, c7723, l7724, A7727, c7728, l7729, hk, hs, f5, f5510, f7670, f7725, f7730, hc7726, hc7731, H⟩
          rw [tidewracklaw13_SpansPlay_j6] at H
          refine x_seq ?_
          refine wpIn_region_lit ?_
          refine x_run tab hk (k := 1) (lv := []) (ks := [0, 2, 4, 7, 8, 9, 12]) (e' := [(0, .slice (some ad7594) (p0).length c5509), (2, .int .i64 p2), (4, .pointer (some ⟨bx4, 0, none⟩)), (7, .pointer (some ⟨bx18, 0, none⟩)), (8, .slice A7727 (l7729).length c7728), (9, .int .i64 x5522), (12, .int .i64 0)]) rfl trivial fun a hk => ?_
          refine wpListIn_nil ?_
          refine then_n ?_
          refine x_mid (fun a_ w_ => ∃ o7783 : Nat → Nat, ∃ x7784 : Int, Kn 108 a_ [(0, .slice (some ad7594) (p0).length c5509), (2, .int .i64 p2), (4, .pointer (some ⟨bx4, 0, none⟩)), (7, .pointer (some ⟨bx18, 0, none⟩)), (8, .slice A7727 (l7729).length c7728), (9, .int .i64 x5522), (12, .int .i64 x7784)] ∧ St [] w (fun _ => 0) w_ o7783 ∧ Ft (Bx bx4 30 [.int .i64 p1.From, .int .i64 p1.To]) w_ o7783 811 ∧ Ft (RdC ET35 (some ad7594) p0) w_ o7783 0 ∧ Ft (Bx bx18 26 [.slice A7722 (l7724).length c7723]) w_ o7783 813 ∧ Ft (Own ET28 29 (.slice A7722 (l7724).length c7723) l7724) w_ o7783 812 ∧ Ft (Own ET28 30 (.slice A7727 (l7729).length c7728) l7729) w_ o7783 814 ∧ tidewracklaw13_SpansPlay_j7 K p1 p2 x5522 lp6889 l7724 l7729 x7784 = some r) ?_ ?_
          rotate_left
          · rintro a w7785 ⟨o7783, x7784, hk, hs, f5, f5510, f7670, f7725, f7730, H⟩
            rw [tidewracklaw13_SpansPlay_j7] at H
            refine x_seq ?_
            refine xd_begin (o := o7783) (fun W_ => (Bx bx4 30 [.int .i64 p1.From, .int .i64 p1.To]) W_ ∧ True) mixed rfl rfl fun w8010 st8011 => ?_
            replace f5 := f5.st st8011 (by decide)
            replace f5510 := f5510.st st8011 (by decide)
            replace f7670 := f7670.st st8011 (by decide)
            replace f7725 := f7725.st st8011 (by decide)
            replace f7730 := f7730.st st8011 (by decide)
            replace hs := hs.loc0 st8011 (by decide)
            refine xd_take tab hk (k := 34) (is := [1]) (ls' := #[false, true, false, false, false, false, false, false, false, false, false, false, false, false, false, false, false, false, false, false, false, false, false, false, false, false, false, false, false, false, false, false, false, false, false]) (lv := []) (ks := [0, 2, 4, 7, 8, 9, 12, 74]) (e' := [(0, .slice (some ad7594) (p0).length c5509), (2, .int .i64 p2), (4, .pointer (some ⟨bx4, 0, none⟩)), (7, .pointer (some ⟨bx18, 0, none⟩)), (8, .slice A7727 (l7729).length c7728), (9, .int .i64 x5522), (12, .int .i64 x7784), (74, .slice A7727 (l7729).length c7728)]) (by kernel_rfl) rfl rfl (by kernel_rfl) (np_then (np_blk (np_then (np_then (np_blk (np_then np_body)))))) ⟨f5.now, trivial⟩ (fun W_ hS => trivial) fun a hk => ?_
            refine xd_op hk (i := 0) (by kernel_rfl) rfl rfl ?_
            obtain ⟨t8015, hc8016, H⟩ := bindS H
            refine op_call hk ent_10 (vs := [.pointer (some ⟨bx18, 0, none⟩)]) rfl (spans_Set_Spans_calls bx18 A7722 c7723 (⟨l7724⟩ : T25) _ o7783 813 f7670 _ (f7725.imp fun _ h_ => Own.rd h_) hc7726 825  _ hc8016) ?_
            rintro _ w8017 ⟨o8018, A8020, c8021, rfl, st8019, f8022, hc8023⟩
            replace f5 := f5.st st8019 (by decide)
            replace f5510 := f5510.st st8019 (by decide)
            replace f7670 := f7670.st st8019 (by decide)
            replace f7725 := f7725.st st8019 (by decide)
            replace f7730 := f7730.st st8019 (by decide)
            replace hs := hs.loc0 st8019 (by decide)
            have hk := hk.put 73 (.slice A8020 (t8015).length c8021) rfl
            refine ⟨.inr ⟨f5.now, trivial⟩, ?_⟩
            refine xd_op hk (i := 2) (by kernel_rfl) rfl rfl ?_
            obtain ⟨t8027, hc8028, H⟩ := bindS H
            refine op_call hk ent_17 (vs := [.slice A8020 (t8015).length c8021, .slice A7727 (l7729).length c7728]) rfl (tidewracklaw13_Same_calls K A8020 c8021 t8015 A7727 c7728 l7729 _ o8018 _ (f8022.imp fun _ h_ => Own.rd h_) hc8023 _ (f7730.imp fun _ h_ => Own.rd h_) hc7731   _ hc8028) ?_
            rintro _ w8029 ⟨o8030, rfl, st8031⟩
            replace f5 := f5.st st8031 (by decide)
            replace f5510 := f5510.st st8031 (by decide)
            replace f7670 := f7670.st st8031 (by decide)
            replace f7725 := f7725.st st8031 (by decide)
            replace f7730 := f7730.st st8031 (by decide)
            replace f8022 := f8022.st st8031 (by decide)
            replace hs := hs.loc0 st8031 (by decide)
            have hk := hk.put 75 (.bool t8027) rfl
            refine ⟨.inr ⟨f5.now, trivial⟩, ?_⟩
            refine xd_take tab hk (k := 30) (is := [3, 4]) (ls' := #[true, true, true, true, true, false, false, false, false, false, false, false, false, false, false, false, false, false, false, false, false, false, false, false, false, false, false, false, false, false, false, false, false, false, false]) (lv := []) (ks := [0, 2, 4, 7, 8, 9, 12, 77]) (e' := [(0, .slice (some ad7594) (p0).length c5509), (2, .int .i64 p2), (4, .pointer (some ⟨bx4, 0, none⟩)), (7, .pointer (some ⟨bx18, 0, none⟩)), (8, .slice A7727 (l7729).length c7728), (9, .int .i64 x5522), (12, .int .i64 x7784), (77, .bool (!t8027))]) (by kernel_rfl) rfl rfl (by kernel_rfl) (np_then (np_blk (np_then (np_then (np_blk (np_then np_body)))))) ⟨f5.now, trivial⟩ (fun W_ hS => trivial) fun a hk => ?_
            cases b8032 : (!t8027)
            · rw [b8032] at hk H
              replace H := bifF H
              refine xd_take tab hk (k := 29) (is := [6]) (ls' := #[true, true, true, true, true, false, true, false, false, false, false, false, false, false, false, false, false, false, false, false, false, false, false, false, false, false, false, false, false, false, false, false, false, false, false]) (lv := []) (ks := [0, 2, 4, 7, 8, 9, 77, 79]) (e' := [(0, .slice (some ad7594) (p0).length c5509), (2, .int .i64 p2), (4, .pointer (some ⟨bx4, 0, none⟩)), (7, .pointer (some ⟨bx18, 0, none⟩)), (8, .slice A7727 (l7729).length c7728), (9, .int .i64 x5522), (77, .bool false), (79, .int .i64 x7784)]) (by kernel_rfl) rfl rfl (by kernel_rfl) (np_then (np_blk (np_then (np_then (np_blk (np_then np_body)))))) ⟨f5.now, trivial⟩ (fun W_ hS => trivial) fun a hk => ?_
              refine xd_op hk (i := 5) (by kernel_rfl) rfl rfl ?_
              obtain ⟨t8036, hc8037, H⟩ := bindS H
              refine op_call hk ent_11 (vs := [.pointer (some ⟨bx18, 0, none⟩)]) rfl (spans_Set_Len_calls K bx18 A7722 c7723 (⟨l7724⟩ : T25) _ o8030 813 f7670 _ (f7725.imp fun _ h_ => Own.rd h_) hc7726   _ hc8037) ?_
              rintro _ w8038 ⟨o8039, rfl, st8040⟩
              replace f5 := f5.st st8040 (by decide)
              replace f5510 := f5510.st st8040 (by decide)
              replace f7670 := f7670.st st8040 (by decide)
              replace f7725 := f7725.st st8040 (by decide)
              replace f7730 := f7730.st st8040 (by decide)
              replace f8022 := f8022.st st8040 (by decide)
              replace hs := hs.loc0 st8040 (by decide)
              have hk := hk.put 78 (.int .i64 t8036) rfl
              refine ⟨.inr ⟨f5.now, trivial⟩, ?_⟩
              refine xd_take tab hk (k := 25) (is := [7, 8, 9]) (ls' := #[true, true, true, true, true, true, true, true, true, true, false, false, false, false, false, false, false, false, false, false, false, false, false, false, false, false, false, false, false, false, false, false, false, false, false]) (lv := []) (ks := [0, 2, 4, 7, 8, 9, 82]) (e' := [(0, .slice (some ad7594) (p0).length c5509), (2, .int .i64 p2), (4, .pointer (some ⟨bx4, 0, none⟩)), (7, .pointer (some ⟨bx18, 0, none⟩)), (8, .slice A7727 (l7729).length c7728), (9, .int .i64 x5522), (82, .bool (t8036 != x7784))]) (by kernel_rfl) rfl rfl (by kernel_rfl) (np_then (np_blk (np_then (np_then (np_blk (np_then np_body)))))) ⟨f5.now, trivial⟩ (fun W_ hS => trivial) fun a hk => ?_
              cases b8041 : (t8036 != x7784)
              · rw [b8041] at hk H
                replace H := bifF H
                refine xd_take tab hk (k := 22) (is := [10, 12, 13]) (ls' := #[true, true, true, true, true, true, true, true, true, true, true, false, true, true, false, false, false, false, false, false, false, false, false, false, false, false, false, false, false, false, false, false, false, false, false]) (lv := []) (ks := [0, 2, 4, 7, 8, 9, 82, 83, 85, 86]) (e' := [(0, .slice (some ad7594) (p0).length c5509), (2, .int .i64 p2), (4, .pointer (some ⟨bx4, 0, none⟩)), (7, .pointer (some ⟨bx18, 0, none⟩)), (8, .slice A7727 (l7729).length c7728), (9, .int .i64 x5522), (82, .bool false), (83, .int .i64 p2), (85, .slice A7727 (l7729).length c7728), (86, .int .i64 p2)]) (by kernel_rfl) rfl rfl (by kernel_rfl) (np_then (np_blk (np_then (np_then (np_blk (np_then np_body)))))) ⟨f5.now, trivial⟩ (fun W_ hS => trivial) fun a hk => ?_
                refine xd_op hk (i := 11) (by kernel_rfl) rfl rfl ?_
                obtain ⟨t8045, hc8046, H⟩ := bindS H
                refine op_call hk ent_13 (vs := [.pointer (some ⟨bx18, 0, none⟩), .int .i64 p2]) rfl (spans_Set_Has_calls K bx18 A7722 c7723 (⟨l7724⟩ : T25) p2 _ o8039 813 f7670 _ (f7725.imp fun _ h_ => Own.rd h_) hc7726   _ hc8046) ?_
                rintro _ w8047 ⟨o8048, rfl, st8049⟩
                replace f5 := f5.st st8049 (by decide)
                replace f5510 := f5510.st st8049 (by decide)
                replace f7670 := f7670.st st8049 (by decide)
                replace f7725 := f7725.st st8049 (by decide)
                replace f7730 := f7730.st st8049 (by decide)
                replace f8022 := f8022.st st8049 (by decide)
                replace hs := hs.loc0 st8049 (by decide)
                have hk := hk.put 84 (.bool t8045) rfl
                refine ⟨.inr ⟨f5.now, trivial⟩, ?_⟩
                refine xd_op hk (i := 14) (by kernel_rfl) rfl rfl ?_
                obtain ⟨t8053, hc8054, H⟩ := bindS H
                refine op_call hk ent_21 (vs := [.slice A7727 (l7729).length c7728, .int .i64 p2]) rfl (tidewrackref13_Has_calls K A7727 c7728 l7729 p2 _ o8048 _ (f7730.imp fun _ h_ => Own.rd h_) hc7731   _ hc8054) ?_
                rintro _ w8055 ⟨o8056, rfl, st8057⟩
                replace f5 := f5.st st8057 (by decide)
                replace f5510 := f5510.st st8057 (by decide)
                replace f7670 := f7670.st st8057 (by decide)
                replace f7725 := f7725.st st8057 (by decide)
                replace f7730 := f7730.st st8057 (by decide)
                replace f8022 := f8022.st st8057 (by decide)
                replace hs := hs.loc0 st8057 (by decide)
                have hk := hk.put 87 (.bool t8053) rfl
                refine ⟨.inr ⟨f5.now, trivial⟩, ?_⟩
                refine xd_take tab hk (k := 17) (is := [15, 16, 17]) (ls' := #[true, true, true, true, true, true, true, true, true, true, true, true, true, true, true, true, true, true, false, false, false, false, false, false, false, false, false, false, false, false, false, false, false, false, false]) (lv := []) (ks := [0, 2, 4, 7, 8, 9, 90]) (e' := [(0, .slice (some ad7594) (p0).length c5509), (2, .int .i64 p2), (4, .pointer (some ⟨bx4, 0, none⟩)), (7, .pointer (some ⟨bx18, 0, none⟩)), (8, .slice A7727 (l7729).length c7728), (9, .int .i64 x5522), (90, .bool (!(t8045 == t8053)))]) (by kernel_rfl) rfl rfl (by kernel_rfl) (np_then (np_blk (np_then (np_then (np_blk (np_then np_body)))))) ⟨f5.now, trivial⟩ (fun W_ hS => trivial) fun a hk => ?_
                cases b8058 : (!(t8045 == t8053))
                · rw [b8058] at hk H
                  replace H := bifF H
                  refine xd_take tab hk (k := 14) (is := [18, 20, 21]) (ls' := #[true, true, true, true, true, true, true, true, true, true, true, true, true, true, true, true, true, true, true, false, true, true, false, false, false, false, false, false, false, false, false, false, false, false, false]) (lv := [.agg #[.int .i64 p1.From, .int .i64 p1.To], .agg #[.int .i64 p1.From, .int .i64 p1.To]]) (ks := [0, 2, 4, 7, 8, 9, 90, 91, 93, 94]) (e' := [(0, .slice (some ad7594) (p0).length c5509), (2, .int .i64 p2), (4, .pointer (some ⟨bx4, 0, none⟩)), (7, .pointer (some ⟨bx18, 0, none⟩)), (8, .slice A7727 (l7729).length c7728), (9, .int .i64 x5522), (90, .bool false), (91, .agg #[.int .i64 p1.From, .int .i64 p1.To]), (93, .slice A7727 (l7729).length c7728), (94, .agg #[.int .i64 p1.From, .int .i64 p1.To])]) (by kernel_rfl) rfl rfl (by kernel_rfl) (np_then (np_blk (np_then (np_then (np_blk (np_then np_body)))))) ⟨f5.now, trivial⟩ (fun W_ hS => ⟨(load_box tab rfl rfl hS.1 (k := 0) rfl rfl), (load_box tab rfl rfl hS.1 (k := 0) rfl rfl), trivial⟩) fun a hk => ?_
                  refine xd_op hk (i := 19) (by kernel_rfl) rfl rfl ?_
                  obtain ⟨t8062, hc8063, H⟩ := bindS H
                  refine op_call hk ent_14 (vs := [.pointer (some ⟨bx18, 0, none⟩), .agg #[.int .i64 p1.From, .int .i64 p1.To]]) rfl (spans_Set_In_calls K bx18 A7722 c7723 (⟨l7724⟩ : T25) p1 _ o8056 813 f7670 _ (f7725.imp fun _ h_ => Own.rd h_) hc7726 826  _ hc8063) ?_
                  rintro _ w8064 ⟨o8065, A8067, c8068, rfl, st8066, f8069, hc8070⟩
                  replace f5 := f5.st st8066 (by decide)
                  replace f5510 := f5510.st st8066 (by decide)
                  replace f7670 := f7670.st st8066 (by decide)
                  replace f7725 := f7725.st st8066 (by decide)
                  replace f7730 := f7730.st st8066 (by decide)
                  replace f8022 := f8022.st st8066 (by decide)
                  replace hs := hs.loc0 st8066 (by decide)
                  have hk := hk.put 92 (.slice A8067 (t8062).length c8068) rfl
                  refine ⟨.inr ⟨f5.now, trivial⟩, ?_⟩
                  refine xd_op hk (i := 22) (by kernel_rfl) rfl rfl ?_
                  obtain ⟨t8074, hc8075, H⟩ := bindS H
                  refine op_call hk ent_22 (vs := [.slice A7727 (l7729).length c7728, .agg #[.int .i64 p1.From, .int .i64 p1.To]]) rfl (tidewrackref13_In_calls K A7727 c7728 l7729 p1 _ o8065 _ (f7730.imp fun _ h_ => Own.rd h_) hc7731 827  _ hc8075) ?_
                  rintro _ w8076 ⟨o8077, A8079, c8080, rfl, st8078, f8081, hc8082⟩
                  replace f5 := f5.st st8078 (by decide)
                  replace f5510 := f5510.st st8078 (by decide)
                  replace f7670 := f7670.st st8078 (by decide)
                  replace f7725 := f7725.st st8078 (by decide)
                  replace f7730 := f7730.st st8078 (by decide)
                  replace f8022 := f8022.st st8078 (by decide)
                  replace f8069 := f8069.st st8078 (by decide)
                  replace hs := hs.loc0 st8078 (by decide)
                  have hk := hk.put 95 (.slice A8079 (t8074).length c8080) rfl
                  refine ⟨.inr ⟨f5.now, trivial⟩, ?_⟩
                  refine xd_op hk (i := 23) (by kernel_rfl) rfl rfl ?_
                  obtain ⟨t8086, hc8087, H⟩ := bindS H
                  refine op_call hk ent_17 (vs := [.slice A8067 (t8062).length c8068, .slice A8079 (t8074).length c8080]) rfl (tidewracklaw13_Same_calls K A8067 c8068 t8062 A8079 c8080 t8074 _ o8077 _ (f8069.imp fun _ h_ => Own.rd h_) hc8070 _ (f8081.imp fun _ h_ => Own.rd h_) hc8082   _ hc8087) ?_
                  rintro _ w8088 ⟨o8089, rfl, st8090⟩
                  replace f5 := f5.st st8090 (by decide)
                  replace f5510 := f5510.st st8090 (by decide)
                  replace f7670 := f7670.st st8090 (by decide)
                  replace f7725 := f7725.st st8090 (by decide)
                  replace f7730 := f7730.st st8090 (by decide)
                  replace f8022 := f8022.st st8090 (by decide)
                  replace f8069 := f8069.st st8090 (by decide)
                  replace f8081 := f8081.st st8090 (by decide)
                  replace hs := hs.loc0 st8090 (by decide)
                  have hk := hk.put 96 (.bool t8086) rfl
                  refine ⟨.inr ⟨f5.now, trivial⟩, ?_⟩
                  refine xd_take tab hk (k := 8) (is := [24, 25, 26]) (ls' := #[true, true, true, true, true, true, true, true, true, true, true, true, true, true, true, true, true, true, true, true, true, true, true, true, true, true, true, false, false, false, false, false, false, false, false]) (lv := []) (ks := [0, 2, 4, 7, 8, 9, 99]) (e' := [(0, .slice (some ad7594) (p0).length c5509), (2, .int .i64 p2), (4, .pointer (some ⟨bx4, 0, none⟩)), (7, .pointer (some ⟨bx18, 0, none⟩)), (8, .slice A7727 (l7729).length c7728), (9, .int .i64 x5522), (99, .bool (!t8086))]) (by kernel_rfl) rfl rfl (by kernel_rfl) (np_then (np_blk (np_then (np_then (np_blk (np_then np_body)))))) ⟨f5.now, trivial⟩ (fun W_ hS => trivial) fun a hk => ?_
                  cases b8091 : (!t8086)
                  · rw [b8091] at hk H
                    replace H := bifF H
                    refine xd_take tab hk (k := 5) (is := [27, 29, 30]) (ls' := #[true, true, true, true, true, true, true, true, true, true, true, true, true, true, true, true, true, true, true, true, true, true, true, true, true, true, true, true, false, true, true, false, false, false, false]) (lv := [.agg #[.int .i64 p1.From, .int .i64 p1.To], .agg #[.int .i64 p1.From, .int .i64 p1.To]]) (ks := [0, 2, 4, 7, 8, 9, 99, 100, 102, 103]) (e' := [(0, .slice (some ad7594) (p0).length c5509), (2, .int .i64 p2), (4, .pointer (some ⟨bx4, 0, none⟩)), (7, .pointer (some ⟨bx18, 0, none⟩)), (8, .slice A7727 (l7729).length c7728), (9, .int .i64 x5522), (99, .bool false), (100, .agg #[.int .i64 p1.From, .int .i64 p1.To]), (102, .slice A7727 (l7729).length c7728), (103, .agg #[.int .i64 p1.From, .int .i64 p1.To])]) (by kernel_rfl) rfl rfl (by kernel_rfl) (np_then (np_blk (np_then (np_then (np_blk (np_then np_body)))))) ⟨f5.now, trivial⟩ (fun W_ hS => ⟨(load_box tab rfl rfl hS.1 (k := 0) rfl rfl), (load_box tab rfl rfl hS.1 (k := 0) rfl rfl), trivial⟩) fun a hk => ?_
                    refine xd_op hk (i := 28) (by kernel_rfl) rfl rfl ?_
                    obtain ⟨t8095, hc8096, H⟩ := bindS H
                    refine op_call hk ent_15 (vs := [.pointer (some ⟨bx18, 0, none⟩), .agg #[.int .i64 p1.From, .int .i64 p1.To]]) rfl (spans_Set_Missing_calls K bx18 A7722 c7723 (⟨l7724⟩ : T25) p1 _ o8089 813 f7670 _ (f7725.imp fun _ h_ => Own.rd h_) hc7726 828  _ hc8096) ?_
                    rintro _ w8097 ⟨o8098, A8100, c8101, rfl, st8099, f8102, hc8103⟩
                    replace f5 := f5.st st8099 (by decide)
                    replace f5510 := f5510.st st8099 (by decide)
                    replace f7670 := f7670.st st8099 (by decide)
                    replace f7725 := f7725.st st8099 (by decide)
                    replace f7730 := f7730.st st8099 (by decide)
                    replace f8022 := f8022.st st8099 (by decide)
                    replace f8069 := f8069.st st8099 (by decide)
                    replace f8081 := f8081.st st8099 (by decide)
                    replace hs := hs.loc0 st8099 (by decide)
                    have hk := hk.put 101 (.slice A8100 (t8095).length c8101) rfl
                    refine ⟨.inr ⟨f5.now, trivial⟩, ?_⟩
                    refine xd_op hk (i := 31) (by kernel_rfl) rfl rfl ?_
                    obtain ⟨t8107, hc8108, H⟩ := bindS H
                    refine op_call hk ent_23 (vs := [.slice A7727 (l7729).length c7728, .agg #[.int .i64 p1.From, .int .i64 p1.To]]) rfl (tidewrackref13_Missing_calls K A7727 c7728 l7729 p1 _ o8098 _ (f7730.imp fun _ h_ => Own.rd h_) hc7731 829  _ hc8108) ?_
                    rintro _ w8109 ⟨o8110, A8112, c8113, rfl, st8111, f8114, hc8115⟩
                    replace f5 := f5.st st8111 (by decide)
                    replace f5510 := f5510.st st8111 (by decide)
                    replace f7670 := f7670.st st8111 (by decide)
                    replace f7725 := f7725.st st8111 (by decide)
                    replace f7730 := f7730.st st8111 (by decide)
                    replace f8022 := f8022.st st8111 (by decide)
                    replace f8069 := f8069.st st8111 (by decide)
                    replace f8081 := f8081.st st8111 (by decide)
                    replace f8102 := f8102.st st8111 (by decide)
                    replace hs := hs.loc0 st8111 (by decide)
                    have hk := hk.put 104 (.slice A8112 (t8107).length c8113) rfl
                    refine ⟨.inr ⟨f5.now, trivial⟩, ?_⟩
                    refine xd_op hk (i := 32) (by kernel_rfl) rfl rfl ?_
                    obtain ⟨t8119, hc8120, H⟩ := bindS H
                    refine op_call hk ent_17 (vs := [.slice A8100 (t8095).length c8101, .slice A8112 (t8107).length c8113]) rfl (tidewracklaw13_Same_calls K A8100 c8101 t8095 A8112 c8113 t8107 _ o8110 _ (f8102.imp fun _ h_ => Own.rd h_) hc8103 _ (f8114.imp fun _ h_ => Own.rd h_) hc8115   _ hc8120) ?_
                    rintro _ w8121 ⟨o8122, rfl, st8123⟩
                    replace f5 := f5.st st8123 (by decide)
                    replace f5510 := f5510.st st8123 (by decide)
                    replace f7670 := f7670.st st8123 (by decide)
                    replace f7725 := f7725.st st8123 (by decide)
                    replace f7730 := f7730.st st8123 (by decide)
                    replace f8022 := f8022.st st8123 (by decide)
                    replace f8069 := f8069.st st8123 (by decide)
                    replace f8081 := f8081.st st8123 (by decide)
                    replace f8102 := f8102.st st8123 (by decide)
                    replace f8114 := f8114.st st8123 (by decide)
                    replace hs := hs.loc0 st8123 (by decide)
                    have hk := hk.put 105 (.bool t8119) rfl
                    refine ⟨.inr ⟨f5.now, trivial⟩, ?_⟩
                    refine xd_take tab hk (k := 0) (is := [33, 34]) (ls' := #[true, true, true, true, true, true, true, true, true, true, true, true, true, true, true, true, true, true, true, true, true, true, true, true, true, true, true, true, true, true, true, true, true, true, true]) (lv := []) (ks := [0, 2, 4, 7, 8, 9, 107]) (e' := [(0, .slice (some ad7594) (p0).length c5509), (2, .int .i64 p2), (4, .pointer (some ⟨bx4, 0, none⟩)), (7, .pointer (some ⟨bx18, 0, none⟩)), (8, .slice A7727 (l7729).length c7728), (9, .int .i64 x5522), (107, .bool (!t8119))]) (by kernel_rfl) rfl rfl (by kernel_rfl) (np_then (np_blk (np_then (np_then (np_blk (np_then np_body)))))) ⟨f5.now, trivial⟩ (fun W_ hS => trivial) fun a hk => ?_
                    refine xd_done (by kernel_rfl) ?_
                    refine then_n ?_
                    cases b8124 : (!t8119)
                    · rw [b8124] at hk H
                      replace H := bifF H
                      refine x_if hk (b := false) rfl ?_
                      refine (show Code.wpIn _ _ _ _ _ _ _ from ?_)
                      refine wpIn_skip ?_
                      refine blk_n ?_
                      refine then_n ?_
                      exact ⟨(fun b_ => (fun l_ => if l_ = 811 then 778 else if l_ = 812 then 779 else if l_ = 813 then 780 else if l_ = 814 then 781 else l_) (o8122 b_)), (some ad7594), c5509, A7722, c7723, l7724, A7727, c7728, l7729, (by exact Kn.pick (ks := [0, 2, 4, 7, 8, 9]) hk rfl), (hs.relab0 (fun l_ => if l_ = 811 then 778 else if l_ = 812 then 779 else if l_ = 813 then 780 else if l_ = 814 then 781 else l_) rfl), (f5.relab (fun l_ => if l_ = 811 then 778 else if l_ = 812 then 779 else if l_ = 813 then 780 else if l_ = 814 then 781 else l_) rfl), (f7670.relab (fun l_ => if l_ = 811 then 778 else if l_ = 812 then 779 else if l_ = 813 then 780 else if l_ = 814 then 781 else l_) rfl), (f5510.relab (fun l_ => if l_ = 811 then 778 else if l_ = 812 then 779 else if l_ = 813 then 780 else if l_ = 814 then 781 else l_) rfl), (f7725.relab (fun l_ => if l_ = 811 then 778 else if l_ = 812 then 779 else if l_ = 813 then 780 else if l_ = 814 then 781 else l_) rfl), (f7730.relab (fun l_ => if l_ = 811 then 778 else if l_ = 812 then 779 else if l_ = 813 then 780 else if l_ = 814 then 781 else l_) rfl), hc5511, hc7726, hc7731, H⟩
                    · rw [b8124] at hk H
                      replace H := bifT H
                      refine x_if hk (b := true) rfl ?_
                      refine (show Code.wpIn _ _ _ _ _ _ _ from ?_)
                      refine x_seq ?_
                      refine wpIn_region_lit ?_
                      refine x_run tab hk (k := 1) (lv := []) (ks := [6]) (e' := [(6, .bool false)]) rfl trivial fun a hk => ?_
                      refine wpListIn_nil ?_
                      refine then_n ?_
                      refine wpIn_ret ?_
                      refine blk_r ?_
                      refine then_r ?_
                      refine then_r ?_
                      refine blk_r ?_
                      refine then_r ?_
                      obtain rfl := Option.some.inj H
                      exact x_retG hk (rs := [.tmp 6]) (vs := [.bool false]) rfl ⟨rfl, trivial⟩ ⟨fun b_ => if b_ < w.heap.size then o b_ else (fun _ => 0) (o8122 b_), rfl, hs.close0 o (fun _ => 0)⟩
                  · rw [b8091] at hk H
                    replace H := bifT H
                    refine xd_take tab hk (k := 0) (is := [27, 28, 29, 30, 31, 32, 33, 34]) (ls' := #[true, true, true, true, true, true, true, true, true, true, true, true, true, true, true, true, true, true, true, true, true, true, true, true, true, true, true, true, true, true, true, true, true, true, true]) (lv := []) (ks := [0, 2, 4, 7, 8, 9, 107]) (e' := [(0, .slice (some ad7594) (p0).length c5509), (2, .int .i64 p2), (4, .pointer (some ⟨bx4, 0, none⟩)), (7, .pointer (some ⟨bx18, 0, none⟩)), (8, .slice A7727 (l7729).length c7728), (9, .int .i64 x5522), (107, .bool true)]) (by kernel_rfl) rfl rfl (by kernel_rfl) (np_then (np_blk (np_then (np_then (np_blk (np_then np_body)))))) ⟨f5.now, trivial⟩ (fun W_ hS => trivial) fun a hk => ?_
                    refine xd_done (by kernel_rfl) ?_
                    refine then_n ?_
                    refine x_if hk (b := true) rfl ?_
                    refine (show Code.wpIn _ _ _ _ _ _ _ from ?_)
                    refine x_seq ?_
                    refine wpIn_region_lit ?_
                    refine x_run tab hk (k := 1) (lv := []) (ks := [6]) (e' := [(6, .bool false)]) rfl trivial fun a hk => ?_
                    refine wpListIn_nil ?_
                    refine then_n ?_
                    refine wpIn_ret ?_
                    refine blk_r ?_
                    refine then_r ?_
                    refine then_r ?_
                    refine blk_r ?_
                    refine then_r ?_
                    obtain rfl := Option.some.inj H
                    exact x_retG hk (rs := [.tmp 6]) (vs := [.bool false]) rfl ⟨rfl, trivial⟩ ⟨fun b_ => if b_ < w.heap.size then o b_ else (fun _ => 0) (o8089 b_), rfl, hs.close0 o (fun _ => 0)⟩
                · rw [b8058] at hk H
                  replace H := bifT H
                  refine xd_take tab hk (k := 0) (is := [18, 19, 20, 21, 22, 23, 24, 25, 26, 27, 28, 29, 30, 31, 32, 33, 34]) (ls' := #[true, true, true, true, true, true, true, true, true, true, true, true, true, true, true, true, true, true, true, true, true, true, true, true, true, true, true, true, true, true, true, true, true, true, true]) (lv := []) (ks := [0, 2, 4, 7, 8, 9, 107]) (e' := [(0, .slice (some ad7594) (p0).length c5509), (2, .int .i64 p2), (4, .pointer (some ⟨bx4, 0, none⟩)), (7, .pointer (some ⟨bx18, 0, none⟩)), (8, .slice A7727 (l7729).length c7728), (9, .int .i64 x5522), (107, .bool true)]) (by kernel_rfl) rfl rfl (by kernel_rfl) (np_then (np_blk (np_then (np_then (np_blk (np_then np_body)))))) ⟨f5.now, trivial⟩ (fun W_ hS => trivial) fun a hk => ?_
                  refine xd_done (by kernel_rfl) ?_
                  refine then_n ?_
                  refine x_if hk (b := true) rfl ?_
                  refine (show Code.wpIn _ _ _ _ _ _ _ from ?_)
                  refine x_seq ?_
                  refine wpIn_region_lit ?_
                  refine x_run tab hk (k := 1) (lv := []) (ks := [6]) (e' := [(6, .bool false)]) rfl trivial fun a hk => ?_
                  refine wpListIn_nil ?_
                  refine then_n ?_
                  refine wpIn_ret ?_
                  refine blk_r ?_
                  refine then_r ?_
                  refine then_r ?_
                  refine blk_r ?_
                  refine then_r ?_
                  obtain rfl := Option.some.inj H
                  exact x_retG hk (rs := [.tmp 6]) (vs := [.bool false]) rfl ⟨rfl, trivial⟩ ⟨fun b_ => if b_ < w.heap.size then o b_ else (fun _ => 0) (o8056 b_), rfl, hs.close0 o (fun _ => 0)⟩
              · rw [b8041] at hk H
                replace H := bifT H
                refine xd_take tab hk (k := 0) (is := [10, 11, 12, 13, 14, 15, 16, 17, 18, 19, 20, 21, 22, 23, 24, 25, 26, 27, 28, 29, 30, 31, 32, 33, 34]) (ls' := #[true, true, true, true, true, true, true, true, true, true, true, true, true, true, true, true, true, true, true, true, true, true, true, true, true, true, true, true, true, true, true, true, true, true, true]) (lv := []) (ks := [0, 2, 4, 7, 8, 9, 107]) (e' := [(0, .slice (some ad7594) (p0).length c5509), (2, .int .i64 p2), (4, .pointer (some ⟨bx4, 0, none⟩)), (7, .pointer (some ⟨bx18, 0, none⟩)), (8, .slice A7727 (l7729).length c7728), (9, .int .i64 x5522), (107, .bool true)]) (by kernel_rfl) rfl rfl (by kernel_rfl) (np_then (np_blk (np_then (np_then (np_blk (np_then np_body)))))) ⟨f5.now, trivial⟩ (fun W_ hS => trivial) fun a hk => ?_
                refine xd_done (by kernel_rfl) ?_
                refine then_n ?_
                refine x_if hk (b := true) rfl ?_
                refine (show Code.wpIn _ _ _ _ _ _ _ from ?_)
                refine x_seq ?_
                refine wpIn_region_lit ?_
                refine x_run tab hk (k := 1) (lv := []) (ks := [6]) (e' := [(6, .bool false)]) rfl trivial fun a hk => ?_
                refine wpListIn_nil ?_
                refine then_n ?_
                refine wpIn_ret ?_
                refine blk_r ?_
                refine then_r ?_
                refine then_r ?_
                refine blk_r ?_
                refine then_r ?_
                obtain rfl := Option.some.inj H
                exact x_retG hk (rs := [.tmp 6]) (vs := [.bool false]) rfl ⟨rfl, trivial⟩ ⟨fun b_ => if b_ < w.heap.size then o b_ else (fun _ => 0) (o8039 b_), rfl, hs.close0 o (fun _ => 0)⟩
            · rw [b8032] at hk H
              replace H := bifT H
              refine xd_take tab hk (k := 0) (is := [5, 6, 7, 8, 9, 10, 11, 12, 13, 14, 15, 16, 17, 18, 19, 20, 21, 22, 23, 24, 25, 26, 27, 28, 29, 30, 31, 32, 33, 34]) (ls' := #[true, true, true, true, true, true, true, true, true, true, true, true, true, true, true, true, true, true, true, true, true, true, true, true, true, true, true, true, true, true, true, true, true, true, true]) (lv := []) (ks := [0, 2, 4, 7, 8, 9, 107]) (e' := [(0, .slice (some ad7594) (p0).length c5509), (2, .int .i64 p2), (4, .pointer (some ⟨bx4, 0, none⟩)), (7, .pointer (some ⟨bx18, 0, none⟩)), (8, .slice A7727 (l7729).length c7728), (9, .int .i64 x5522), (107, .bool true)]) (by kernel_rfl) rfl rfl (by kernel_rfl) (np_then (np_blk (np_then (np_then (np_blk (np_then np_body)))))) ⟨f5.now, trivial⟩ (fun W_ hS => trivial) fun a hk => ?_
              refine xd_done (by kernel_rfl) ?_
              refine then_n ?_
              refine x_if hk (b := true) rfl ?_
              refine (show Code.wpIn _ _ _ _ _ _ _ from ?_)
              refine x_seq ?_
              refine wpIn_region_lit ?_
              refine x_run tab hk (k := 1) (lv := []) (ks := [6]) (e' := [(6, .bool false)]) rfl trivial fun a hk => ?_
              refine wpListIn_nil ?_
              refine then_n ?_
              refine wpIn_ret ?_
              refine blk_r ?_
              refine then_r ?_
              refine then_r ?_
              refine blk_r ?_
              refine then_r ?_
              obtain rfl := Option.some.inj H
              exact x_retG hk (rs := [.tmp 6]) (vs := [.bool false]) rfl ⟨rfl, trivial⟩ ⟨fun b_ => if b_ < w.heap.size then o b_ else (fun _ => 0) (o8030 b_), rfl, hs.close0 o (fun _ => 0)⟩
          refine x_seq ?_
          refine wpIn_region_lit ?_
          refine x_run tab hk (k := 3) (lv := []) (ks := [0, 2, 4, 7, 8, 9, 12, 59, 60, 61]) (e' := [(0, .slice (some ad7594) (p0).length c5509), (2, .int .i64 p2), (4, .pointer (some ⟨bx4, 0, none⟩)), (7, .pointer (some ⟨bx18, 0, none⟩)), (8, .slice A7727 (l7729).length c7728), (9, .int .i64 x5522), (12, .int .i64 0), (59, .slice A7727 (l7729).length c7728), (60, .int .i64 ((l7729).length : Int)), (61, .int .i64 0)]) rfl trivial fun a hk => ?_
          refine wpListIn_nil ?_
          refine then_n ?_
          refine wpIn_block ?_
          refine x_loop (fun j_ a_ w_ => ∃ o8140 : Nat → Nat, ∃ x8141 : Int, ∃ x8142 : Int, Kn 108 a_ [(0, .slice (some ad7594) (p0).length c5509), (2, .int .i64 p2), (4, .pointer (some ⟨bx4, 0, none⟩)), (7, .pointer (some ⟨bx18, 0, none⟩)), (8, .slice A7727 (l7729).length c7728), (9, .int .i64 x5522), (12, .int .i64 x8141), (59, .slice A7727 (l7729).length c7728), (60, .int .i64 ((l7729).length : Int)), (61, .int .i64 x8142)] ∧ St [] w (fun _ => 0) w_ o8140 ∧ Ft (Bx bx4 30 [.int .i64 p1.From, .int .i64 p1.To]) w_ o8140 836 ∧ Ft (RdC ET35 (some ad7594) p0) w_ o8140 0 ∧ Ft (Bx bx18 26 [.slice A7722 (l7724).length c7723]) w_ o8140 838 ∧ Ft (Own ET28 29 (.slice A7722 (l7724).length c7723) l7724) w_ o8140 837 ∧ Ft (Own ET28 30 (.slice A7727 (l7729).length c7728) l7729) w_ o8140 839 ∧ tidewracklaw13_SpansPlay_l8 K p1 p2 x5522 lp6889 l7724 l7729 j_ x8141 x8142 = some r) (k := K) ⟨(fun b_ => (fun l_ => if l_ = 795 then 836 else if l_ = 796 then 837 else if l_ = 797 then 838 else if l_ = 798 then 839 else l_) (o7721 b_)), 0, 0, (by exact Kn.pick (ks := [0, 2, 4, 7, 8, 9, 12, 59, 60, 61]) hk rfl), (hs.relab0 (fun l_ => if l_ = 795 then 836 else if l_ = 796 then 837 else if l_ = 797 then 838 else if l_ = 798 then 839 else l_) rfl), (f5.relab (fun l_ => if l_ = 795 then 836 else if l_ = 796 then 837 else if l_ = 797 then 838 else if l_ = 798 then 839 else l_) rfl), (f5510.relab (fun l_ => if l_ = 795 then 836 else if l_ = 796 then 837 else if l_ = 797 then 838 else if l_ = 798 then 839 else l_) rfl), (f7670.relab (fun l_ => if l_ = 795 then 836 else if l_ = 796 then 837 else if l_ = 797 then 838 else if l_ = 798 then 839 else l_) rfl), (f7725.relab (fun l_ => if l_ = 795 then 836 else if l_ = 796 then 837 else if l_ = 797 then 838 else if l_ = 798 then 839 else l_) rfl), (f7730.relab (fun l_ => if l_ = 795 then 836 else if l_ = 796 then 837 else if l_ = 797 then 838 else if l_ = 798 then 839 else l_) rfl), H⟩ (by rintro _ _ ⟨_, _, _, _, _, _, _, _, _, _, H_⟩; exact absurd (show (none : Option Bool) = some r from H_) (by simp)) ?_
          rintro k8155 a w8154 ⟨o8140, x8141, x8142, hk, hs, f5, f5510, f7670, f7725, f7730, H⟩
          rw [tidewracklaw13_SpansPlay_l8] at H
          obtain ⟨lp8156, hlp8157⟩ : ∃ lp_, lp_ = tidewracklaw13_SpansPlay_l8 K p1 p2 x5522 lp6889 l7724 l7729 k8155 := ⟨_, rfl⟩
          rw [← hlp8157] at H
          refine x_seq ?_
          refine wpIn_region_lit ?_
          refine x_run tab hk (k := 1) (lv := []) (ks := [0, 2, 4, 7, 8, 9, 12, 59, 60, 61, 62]) (e' := [(0, .slice (some ad7594) (p0).length c5509), (2, .int .i64 p2), (4, .pointer (some ⟨bx4, 0, none⟩)), (7, .pointer (some ⟨bx18, 0, none⟩)), (8, .slice A7727 (l7729).length c7728), (9, .int .i64 x5522), (12, .int .i64 x8141), (59, .slice A7727 (l7729).length c7728), (60, .int .i64 ((l7729).length : Int)), (61, .int .i64 x8142), (62, .bool (decide (x8142 < ((l7729).length : Int))))]) rfl trivial fun a hk => ?_
          refine wpListIn_nil ?_
          refine then_n ?_
          refine x_seq ?_
          cases b8158 : (decide (x8142 < ((l7729).length : Int)))
          · rw [b8158] at hk H
            replace H := bifF H
            refine x_if hk (b := false) rfl ?_
            refine (show Code.wpIn _ _ _ _ _ _ _ from ?_)
            refine wpIn_exit ?_
            refine then_x ?_
            refine then_x ?_
            refine blk_x ?_
            refine then_n ?_
            exact ⟨(fun b_ => (fun l_ => if l_ = 836 then 811 else if l_ = 837 then 812 else if l_ = 838 then 813 else if l_ = 839 then 814 else l_) (o8140 b_)), x8141, (by exact Kn.pick (ks := [0, 2, 4, 7, 8, 9, 12]) hk rfl), (hs.relab0 (fun l_ => if l_ = 836 then 811 else if l_ = 837 then 812 else if l_ = 838 then 813 else if l_ = 839 then 814 else l_) rfl), (f5.relab (fun l_ => if l_ = 836 then 811 else if l_ = 837 then 812 else if l_ = 838 then 813 else if l_ = 839 then 814 else l_) rfl), (f5510.relab (fun l_ => if l_ = 836 then 811 else if l_ = 837 then 812 else if l_ = 838 then 813 else if l_ = 839 then 814 else l_) rfl), (f7670.relab (fun l_ => if l_ = 836 then 811 else if l_ = 837 then 812 else if l_ = 838 then 813 else if l_ = 839 then 814 else l_) rfl), (f7725.relab (fun l_ => if l_ = 836 then 811 else if l_ = 837 then 812 else if l_ = 838 then 813 else if l_ = 839 then 814 else l_) rfl), (f7730.relab (fun l_ => if l_ = 836 then 811 else if l_ = 837 then 812 else if l_ = 838 then 813 else if l_ = 839 then 814 else l_) rfl), H⟩
          · rw [b8158] at hk H
            replace H := bifT H
            refine x_if hk (b := true) rfl ?_
            refine (show Code.wpIn _ _ _ _ _ _ _ from ?_)
            refine wpIn_skip ?_
            refine then_n ?_
            refine x_seq ?_
            refine wpIn_block ?_
            refine x_seq ?_
            refine wpIn_region_lit ?_
            obtain ⟨q8159, H⟩ := ifS H
            obtain ⟨ad8160, hAad8160⟩ := RdC.addr (Own.rd f7730.now) q8159
            have hk_C := hk
            have f5_C := f5
            have f5510_C := f5510
            have f7670_C := f7670
            have f7725_C := f7725
            have f7730_C := f7730
            subst hAad8160
            have hk := hk_C
            clear hk_C
            have f5 := f5_C
            clear f5_C
            have f5510 := f5510_C
            clear f5510_C
            have f7670 := f7670_C
            clear f7670_C
            have f7725 := f7725_C
            clear f7725_C
            have f7730 := f7730_C
            clear f7730_C
            refine x_run tab hk (k := 2) (lv := [.agg #[.int .i64 ((rdD zT28 l7729 x8142).From), .int .i64 ((rdD zT28 l7729 x8142).To)]]) (ks := [0, 2, 4, 7, 8, 9, 12, 59, 60, 61, 64]) (e' := [(0, .slice (some ad7594) (p0).length c5509), (2, .int .i64 p2), (4, .pointer (some ⟨bx4, 0, none⟩)), (7, .pointer (some ⟨bx18, 0, none⟩)), (8, .slice (some ad8160) (l7729).length c7728), (9, .int .i64 x5522), (12, .int .i64 x8141), (59, .slice (some ad8160) (l7729).length c7728), (60, .int .i64 ((l7729).length : Int)), (61, .int .i64 x8142), (64, .agg #[.int .i64 ((rdD zT28 l7729 x8142).From), .int .i64 ((rdD zT28 l7729 x8142).To)])]) rfl ⟨q8159, (load_elem (E := ET28) (i := x8142) (dx := zT28) tab rfl rfl (Own.rd f7730.now) q8159), trivial⟩ fun a hk => ?_
            refine x_op hk rfl ?_
            refine op_alloc (o := o8140) tab (t := 30) (cs := [.int .i64 0, .int .i64 0]) rfl rfl 841 fun bx8164 w8161 o8162 st8163 f8165 => ?_
            replace f5 := f5.st st8163 (by decide)
            replace f5510 := f5510.st st8163 (by decide)
            replace f7670 := f7670.st st8163 (by decide)
            replace f7725 := f7725.st st8163 (by decide)
            replace f7730 := f7730.st st8163 (by decide)
            replace hs := hs.loc0 st8163 (by decide)
            have hk := hk.put 14 (.pointer (some ⟨bx8164, 0, none⟩)) rfl
            refine x_op hk rfl ?_
            refine op_store tab hk (t := 30) (v := .agg #[.int .i64 ((rdD zT28 l7729 x8142).From), .int .i64 ((rdD zT28 l7729 x8142).To)]) (b := bx8164) (k := 0) (cs' := [.int .i64 ((rdD zT28 l7729 x8142).From), .int .i64 ((rdD zT28 l7729 x8142).To)]) rfl rfl rfl rfl rfl rfl f8165 rfl rfl fun w8166 o8167 st8168 f8165_ => ?_
            replace f5 := f5.st st8168 (by decide)
            replace f5510 := f5510.st st8168 (by decide)
            replace f7670 := f7670.st st8168 (by decide)
            replace f7725 := f7725.st st8168 (by decide)
            replace f7730 := f7730.st st8168 (by decide)
            replace hs := hs.loc0 st8168 (by decide)
            replace f8165 := f8165_
            refine wpListIn_nil ?_
            refine then_n ?_
            refine wpIn_region_lit ?_
            refine x_run tab hk (k := 8) (lv := [.int .i64 ((rdD zT28 l7729 x8142).To), .int .i64 ((rdD zT28 l7729 x8142).From)]) (ks := [0, 2, 4, 7, 8, 9, 12, 59, 60, 61]) (e' := [(0, .slice (some ad7594) (p0).length c5509), (2, .int .i64 p2), (4, .pointer (some ⟨bx4, 0, none⟩)), (7, .pointer (some ⟨bx18, 0, none⟩)), (8, .slice (some ad8160) (l7729).length c7728), (9, .int .i64 x5522), (12, .int .i64 (IntKind.wrap .i64 (x8141 + (IntKind.wrap .i64 (((rdD zT28 l7729 x8142).To) - ((rdD zT28 l7729 x8142).From)))))), (59, .slice (some ad8160) (l7729).length c7728), (60, .int .i64 ((l7729).length : Int)), (61, .int .i64 x8142)]) rfl ⟨(load1 tab rfl ((Bx.cell f8165.now 1).trans rfl)), (load1 tab rfl ((Bx.cell f8165.now 0).trans rfl)), trivial⟩ fun a hk => ?_
            refine wpListIn_nil ?_
            refine blk_n ?_
            refine then_n ?_
            refine wpIn_region_lit ?_
            refine x_run tab hk (k := 2) (lv := []) (ks := [0, 2, 4, 7, 8, 9, 12, 59, 60, 61]) (e' := [(0, .slice (some ad7594) (p0).length c5509), (2, .int .i64 p2), (4, .pointer (some ⟨bx4, 0, none⟩)), (7, .pointer (some ⟨bx18, 0, none⟩)), (8, .slice (some ad8160) (l7729).length c7728), (9, .int .i64 x5522), (12, .int .i64 (IntKind.wrap .i64 (x8141 + (IntKind.wrap .i64 (((rdD zT28 l7729 x8142).To) - ((rdD zT28 l7729 x8142).From)))))), (59, .slice (some ad8160) (l7729).length c7728), (60, .int .i64 ((l7729).length : Int)), (61, .int .i64 (IntKind.wrap .i64 (x8142 + 1)))]) rfl trivial fun a hk => ?_
            refine wpListIn_nil ?_
            refine then_n ?_
            exact ⟨k8155, Nat.le_refl _, o8167, (IntKind.wrap .i64 (x8141 + (IntKind.wrap .i64 (((rdD zT28 l7729 x8142).To) - ((rdD zT28 l7729 x8142).From))))), (IntKind.wrap .i64 (x8142 + 1)), (by exact Kn.pick (ks := [0, 2, 4, 7, 8, 9, 12, 59, 60, 61]) hk rfl), hs, f5, f5510, f7670, f7725, f7730, (hlp8157 ▸ H)⟩
        refine x_seq ?_
        refine wpIn_region_lit ?_
        refine x_run tab hk (k := 2) (lv := [.bool ((rdD zT35 p0 x5522).Cut)]) (ks := [0, 2, 4, 7, 8, 9, 10, 42]) (e' := [(0, .slice (some ad7594) (p0).length c5509), (2, .int .i64 p2), (4, .pointer (some ⟨bx4, 0, none⟩)), (7, .pointer (some ⟨bx18, 0, none⟩)), (8, .slice A5517 (l5519).length c5518), (9, .int .i64 x5522), (10, .pointer (some ⟨bx7598, 0, none⟩)), (42, .bool ((rdD zT35 p0 x5522).Cut))]) rfl ⟨(load1 tab rfl ((Bx.cell f7599.now 0).trans rfl)), trivial⟩ fun a hk => ?_
        refine wpListIn_nil ?_
        refine then_n ?_
        cases b8169 : (rdD zT35 p0 x5522).Cut
        · rw [b8169] at hk H
          replace H := bifF H
          rw [b8169] at f7599
          refine x_if hk (b := false) rfl ?_
          refine (show Code.wpIn _ _ _ _ _ _ _ from ?_)
          refine x_seq ?_
          refine wpIn_region_lit ?_
          refine x_run tab hk (k := 3) (lv := [.agg #[.int .i64 ((rdD zT35 p0 x5522).Span_From), .int .i64 ((rdD zT35 p0 x5522).Span_To)]]) (ks := [0, 2, 4, 7, 9, 10, 51, 53]) (e' := [(0, .slice (some ad7594) (p0).length c5509), (2, .int .i64 p2), (4, .pointer (some ⟨bx4, 0, none⟩)), (7, .pointer (some ⟨bx18, 0, none⟩)), (9, .int .i64 x5522), (10, .pointer (some ⟨bx7598, 0, none⟩)), (51, .slice A5517 (l5519).length c5518), (53, .agg #[.int .i64 ((rdD zT35 p0 x5522).Span_From), .int .i64 ((rdD zT35 p0 x5522).Span_To)])]) rfl ⟨(load_box tab rfl rfl f7599.now (k := 1) rfl rfl), trivial⟩ fun a hk => ?_
          refine x_op hk rfl ?_
          obtain ⟨t8173, hc8174, H⟩ := bindS H
          refine op_call hk ent_20 (vs := [.slice A5517 (l5519).length c5518, .agg #[.int .i64 ((rdD zT35 p0 x5522).Span_From), .int .i64 ((rdD zT35 p0 x5522).Span_To)]]) rfl (tidewrackref13_Add_calls K A5517 c5518 l5519 (⟨(rdD zT35 p0 x5522).Span_From, (rdD zT35 p0 x5522).Span_To⟩ : T28) _ o7641 _ (f5520.imp fun _ h_ => Own.rd h_) hc5521 842  _ hc8174) ?_
          rintro _ w8175 ⟨o8176, A8178, c8179, rfl, st8177, f8180, hc8181⟩
          replace f19 := f19.st st8177 (by decide)
          replace f5 := f5.st st8177 (by decide)
          replace f5510 := f5510.st st8177 (by decide)
          replace f5515 := f5515.st st8177 (by decide)
          replace f5520 := f5520.st st8177 (by decide)
          replace f7599 := f7599.st st8177 (by decide)
          replace hs := hs.loc0 st8177 (by decide)
          have hk := hk.put 54 (.slice A8178 (t8173).length c8179) rfl
          refine x_run tab hk (k := 1) (lv := []) (ks := [0, 2, 4, 7, 8, 9, 10]) (e' := [(0, .slice (some ad7594) (p0).length c5509), (2, .int .i64 p2), (4, .pointer (some ⟨bx4, 0, none⟩)), (7, .pointer (some ⟨bx18, 0, none⟩)), (8, .slice A8178 (t8173).length c8179), (9, .int .i64 x5522), (10, .pointer (some ⟨bx7598, 0, none⟩))]) rfl trivial fun a hk => ?_
          refine wpListIn_nil ?_
          refine then_n ?_
          refine wpIn_region_lit ?_
          refine x_run tab hk (k := 2) (lv := [.agg #[.int .i64 ((rdD zT35 p0 x5522).Span_From), .int .i64 ((rdD zT35 p0 x5522).Span_To)]]) (ks := [0, 2, 4, 7, 8, 9, 56]) (e' := [(0, .slice (some ad7594) (p0).length c5509), (2, .int .i64 p2), (4, .pointer (some ⟨bx4, 0, none⟩)), (7, .pointer (some ⟨bx18, 0, none⟩)), (8, .slice A8178 (t8173).length c8179), (9, .int .i64 x5522), (56, .agg #[.int .i64 ((rdD zT35 p0 x5522).Span_From), .int .i64 ((rdD zT35 p0 x5522).Span_To)])]) rfl ⟨(load_box tab rfl rfl f7599.now (k := 1) rfl rfl), trivial⟩ fun a hk => ?_
          refine x_op hk rfl ?_
          refine op_slice (o := o8176) tab hk (vs := [.agg #[.int .i64 ((rdD zT35 p0 x5522).Span_From), .int .i64 ((rdD zT35 p0 x5522).Span_To)]]) (cs := [.int .i64 ((rdD zT35 p0 x5522).Span_From), .int .i64 ((rdD zT35 p0 x5522).Span_To)]) rfl rfl rfl rfl rfl rfl rfl rfl rfl 843 fun bx8185 w8182 o8183 st8184 f8186 => ?_
          replace f19 := f19.st st8184 (by decide)
          replace f5 := f5.st st8184 (by decide)
          replace f5510 := f5510.st st8184 (by decide)
          replace f5515 := f5515.st st8184 (by decide)
          replace f8180 := f8180.st st8184 (by decide)
          replace hs := hs.loc0 st8184 (by decide)
          have f8187 : Ft (Own ET28 29 (.slice (some ⟨bx8185, 0, none⟩) (([(⟨(rdD zT35 p0 x5522).Span_From, (rdD zT35 p0 x5522).Span_To⟩ : T28)] : List T28)).length 1) ([(⟨(rdD zT35 p0 x5522).Span_From, (rdD zT35 p0 x5522).Span_To⟩ : T28)] : List T28)) w8182 o8183 843 := f8186.imp fun _ h_ => Own.of_box h_ rfl (by simp)
          have hk := hk.put 57 (.slice (some ⟨bx8185, 0, none⟩) (([(⟨(rdD zT35 p0 x5522).Span_From, (rdD zT35 p0 x5522).Span_To⟩ : T28)] : List T28)).length 1) rfl
          refine x_op hk rfl ?_
          obtain ⟨t8191, hc8192, H⟩ := bindS H
          refine op_call hk ent_9 (vs := [.pointer (some ⟨bx18, 0, none⟩), .slice (some ⟨bx8185, 0, none⟩) (([(⟨(rdD zT35 p0 x5522).Span_From, (rdD zT35 p0 x5522).Span_To⟩ : T28)] : List T28)).length 1]) rfl (spans_Set_Add_calls K bx18 A5512 c5513 (⟨l5514⟩ : T25) (some ⟨bx8185, 0, none⟩) 1 ([(⟨(rdD zT35 p0 x5522).Span_From, (rdD zT35 p0 x5522).Span_To⟩ : T28)] : List T28) _ o8183 788 f19 787 f5515 hc5516 _ (f8187.imp fun _ h_ => Own.rd h_) (Nat.le_refl _) (by decide) (by decide)   _ hc8192) ?_
          rintro _ w8193 ⟨o8194, A8197, c8198, rfl, st8195, f8196, f8199, hc8200⟩
          replace f5 := f5.st st8195 (by decide)
          replace f5510 := f5510.st st8195 (by decide)
          replace f8180 := f8180.st st8195 (by decide)
          replace f8187 := f8187.st st8195 (by decide)
          replace hs := hs.loc0 st8195 (by decide)
          have hk := hk.put 58 (.tuple #[]) rfl
          refine wpListIn_nil ?_
          refine then_n ?_
          exact ⟨(fun b_ => (fun l_ => if l_ = 786 then 795 else if l_ = 787 then 796 else if l_ = 788 then 797 else if l_ = 842 then 798 else l_) (o8194 b_)), A8197, c8198, t8191.l, A8178, c8179, t8173, (by exact Kn.pick (ks := [0, 2, 4, 7, 8, 9]) hk rfl), (hs.relab0 (fun l_ => if l_ = 786 then 795 else if l_ = 787 then 796 else if l_ = 788 then 797 else if l_ = 842 then 798 else l_) rfl), (f5.relab (fun l_ => if l_ = 786 then 795 else if l_ = 787 then 796 else if l_ = 788 then 797 else if l_ = 842 then 798 else l_) rfl), (f5510.relab (fun l_ => if l_ = 786 then 795 else if l_ = 787 then 796 else if l_ = 788 then 797 else if l_ = 842 then 798 else l_) rfl), (f8196.relab (fun l_ => if l_ = 786 then 795 else if l_ = 787 then 796 else if l_ = 788 then 797 else if l_ = 842 then 798 else l_) rfl), (f8199.relab (fun l_ => if l_ = 786 then 795 else if l_ = 787 then 796 else if l_ = 788 then 797 else if l_ = 842 then 798 else l_) rfl), (f8180.relab (fun l_ => if l_ = 786 then 795 else if l_ = 787 then 796 else if l_ = 788 then 797 else if l_ = 842 then 798 else l_) rfl), hc8200, hc8181, H⟩
        · rw [b8169] at hk H
          replace H := bifT H
          rw [b8169] at f7599
          refine x_if hk (b := true) rfl ?_
          refine (show Code.wpIn _ _ _ _ _ _ _ from ?_)
          refine x_seq ?_
          refine wpIn_region_lit ?_
          refine x_run tab hk (k := 3) (lv := [.agg #[.int .i64 ((rdD zT35 p0 x5522).Span_From), .int .i64 ((rdD zT35 p0 x5522).Span_To)]]) (ks := [0, 2, 4, 7, 9, 10, 43, 45]) (e' := [(0, .slice (some ad7594) (p0).length c5509), (2, .int .i64 p2), (4, .pointer (some ⟨bx4, 0, none⟩)), (7, .pointer (some ⟨bx18, 0, none⟩)), (9, .int .i64 x5522), (10, .pointer (some ⟨bx7598, 0, none⟩)), (43, .slice A5517 (l5519).length c5518), (45, .agg #[.int .i64 ((rdD zT35 p0 x5522).Span_From), .int .i64 ((rdD zT35 p0 x5522).Span_To)])]) rfl ⟨(load_box tab rfl rfl f7599.now (k := 1) rfl rfl), trivial⟩ fun a hk => ?_
          refine x_op hk rfl ?_
          obtain ⟨t8204, hc8205, H⟩ := bindS H
          refine op_call hk ent_19 (vs := [.slice A5517 (l5519).length c5518, .agg #[.int .i64 ((rdD zT35 p0 x5522).Span_From), .int .i64 ((rdD zT35 p0 x5522).Span_To)]]) rfl (tidewrackref13_Cut_calls K A5517 c5518 l5519 (⟨(rdD zT35 p0 x5522).Span_From, (rdD zT35 p0 x5522).Span_To⟩ : T28) _ o7641 _ (f5520.imp fun _ h_ => Own.rd h_) hc5521 844  _ hc8205) ?_
          rintro _ w8206 ⟨o8207, A8209, c8210, rfl, st8208, f8211, hc8212⟩
          replace f19 := f19.st st8208 (by decide)
          replace f5 := f5.st st8208 (by decide)
          replace f5510 := f5510.st st8208 (by decide)
          replace f5515 := f5515.st st8208 (by decide)
          replace f5520 := f5520.st st8208 (by decide)
          replace f7599 := f7599.st st8208 (by decide)
          replace hs := hs.loc0 st8208 (by decide)
          have hk := hk.put 46 (.slice A8209 (t8204).length c8210) rfl
          refine x_run tab hk (k := 1) (lv := []) (ks := [0, 2, 4, 7, 8, 9, 10]) (e' := [(0, .slice (some ad7594) (p0).length c5509), (2, .int .i64 p2), (4, .pointer (some ⟨bx4, 0, none⟩)), (7, .pointer (some ⟨bx18, 0, none⟩)), (8, .slice A8209 (t8204).length c8210), (9, .int .i64 x5522), (10, .pointer (some ⟨bx7598, 0, none⟩))]) rfl trivial fun a hk => ?_
          refine wpListIn_nil ?_
          refine then_n ?_
          refine wpIn_region_lit ?_
          refine x_run tab hk (k := 2) (lv := [.agg #[.int .i64 ((rdD zT35 p0 x5522).Span_From), .int .i64 ((rdD zT35 p0 x5522).Span_To)]]) (ks := [0, 2, 4, 7, 8, 9, 48]) (e' := [(0, .slice (some ad7594) (p0).length c5509), (2, .int .i64 p2), (4, .pointer (some ⟨bx4, 0, none⟩)), (7, .pointer (some ⟨bx18, 0, none⟩)), (8, .slice A8209 (t8204).length c8210), (9, .int .i64 x5522), (48, .agg #[.int .i64 ((rdD zT35 p0 x5522).Span_From), .int .i64 ((rdD zT35 p0 x5522).Span_To)])]) rfl ⟨(load_box tab rfl rfl f7599.now (k := 1) rfl rfl), trivial⟩ fun a hk => ?_
          refine x_op hk rfl ?_
          refine op_slice (o := o8207) tab hk (vs := [.agg #[.int .i64 ((rdD zT35 p0 x5522).Span_From), .int .i64 ((rdD zT35 p0 x5522).Span_To)]]) (cs := [.int .i64 ((rdD zT35 p0 x5522).Span_From), .int .i64 ((rdD zT35 p0 x5522).Span_To)]) rfl rfl rfl rfl rfl rfl rfl rfl rfl 845 fun bx8216 w8213 o8214 st8215 f8217 => ?_
          replace f19 := f19.st st8215 (by decide)
          replace f5 := f5.st st8215 (by decide)
          replace f5510 := f5510.st st8215 (by decide)
          replace f5515 := f5515.st st8215 (by decide)
          replace f8211 := f8211.st st8215 (by decide)
          replace hs := hs.loc0 st8215 (by decide)
          have f8218 : Ft (Own ET28 29 (.slice (some ⟨bx8216, 0, none⟩) (([(⟨(rdD zT35 p0 x5522).Span_From, (rdD zT35 p0 x5522).Span_To⟩ : T28)] : List T28)).length 1) ([(⟨(rdD zT35 p0 x5522).Span_From, (rdD zT35 p0 x5522).Span_To⟩ : T28)] : List T28)) w8213 o8214 845 := f8217.imp fun _ h_ => Own.of_box h_ rfl (by simp)
          have hk := hk.put 49 (.slice (some ⟨bx8216, 0, none⟩) (([(⟨(rdD zT35 p0 x5522).Span_From, (rdD zT35 p0 x5522).Span_To⟩ : T28)] : List T28)).length 1) rfl
          refine x_op hk rfl ?_
          obtain ⟨t8222, hc8223, H⟩ := bindS H
          refine op_call hk ent_12 (vs := [.pointer (some ⟨bx18, 0, none⟩), .slice (some ⟨bx8216, 0, none⟩) (([(⟨(rdD zT35 p0 x5522).Span_From, (rdD zT35 p0 x5522).Span_To⟩ : T28)] : List T28)).length 1]) rfl (spans_Set_Cut_calls K bx18 A5512 c5513 (⟨l5514⟩ : T25) (some ⟨bx8216, 0, none⟩) 1 ([(⟨(rdD zT35 p0 x5522).Span_From, (rdD zT35 p0 x5522).Span_To⟩ : T28)] : List T28) _ o8214 788 f19 787 f5515 hc5516 _ (f8218.imp fun _ h_ => Own.rd h_) (Nat.le_refl _) (by decide) (by decide)   _ hc8223) ?_
          rintro _ w8224 ⟨o8225, A8228, c8229, rfl, st8226, f8227, f8230, hc8231⟩
          replace f5 := f5.st st8226 (by decide)
          replace f5510 := f5510.st st8226 (by decide)
          replace f8211 := f8211.st st8226 (by decide)
          replace f8218 := f8218.st st8226 (by decide)
          replace hs := hs.loc0 st8226 (by decide)
          have hk := hk.put 50 (.tuple #[]) rfl
          refine wpListIn_nil ?_
          refine then_n ?_
          exact ⟨(fun b_ => (fun l_ => if l_ = 786 then 795 else if l_ = 787 then 796 else if l_ = 788 then 797 else if l_ = 844 then 798 else l_) (o8225 b_)), A8228, c8229, t8222.l, A8209, c8210, t8204, (by exact Kn.pick (ks := [0, 2, 4, 7, 8, 9]) hk rfl), (hs.relab0 (fun l_ => if l_ = 786 then 795 else if l_ = 787 then 796 else if l_ = 788 then 797 else if l_ = 844 then 798 else l_) rfl), (f5.relab (fun l_ => if l_ = 786 then 795 else if l_ = 787 then 796 else if l_ = 788 then 797 else if l_ = 844 then 798 else l_) rfl), (f5510.relab (fun l_ => if l_ = 786 then 795 else if l_ = 787 then 796 else if l_ = 788 then 797 else if l_ = 844 then 798 else l_) rfl), (f8227.relab (fun l_ => if l_ = 786 then 795 else if l_ = 787 then 796 else if l_ = 788 then 797 else if l_ = 844 then 798 else l_) rfl), (f8230.relab (fun l_ => if l_ = 786 then 795 else if l_ = 787 then 796 else if l_ = 788 then 797 else if l_ = 844 then 798 else l_) rfl), (f8211.relab (fun l_ => if l_ = 786 then 795 else if l_ = 787 then 796 else if l_ = 788 then 797 else if l_ = 844 then 798 else l_) rfl), hc8231, hc8212, H⟩
      refine x_seq ?_
      refine wpIn_region_lit ?_
      refine x_run tab hk (k := 4) (lv := []) (ks := [0, 2, 4, 7, 8, 9, 10, 34, 35]) (e' := [(0, .slice (some ad7594) (p0).length c5509), (2, .int .i64 p2), (4, .pointer (some ⟨bx4, 0, none⟩)), (7, .pointer (some ⟨bx18, 0, none⟩)), (8, .slice A5517 (l5519).length c5518), (9, .int .i64 x5522), (10, .pointer (some ⟨bx7598, 0, none⟩)), (34, .bool false), (35, .pointer (some ⟨bx7611, 0, none⟩))]) rfl trivial fun a hk => ?_
      refine x_op hk rfl ?_
      obtain ⟨t8235, hc8236, H⟩ := bindS H
      refine op_call hk ent_10 (vs := [.pointer (some ⟨bx7611, 0, none⟩)]) rfl (spans_Set_Spans_calls bx7611 A7613 c7614 t7606 _ o7609 783 f7612 _ (f7615.imp fun _ h_ => Own.rd h_) hc7616 846  _ hc8236) ?_
      rintro _ w8237 ⟨o8238, A8240, c8241, rfl, st8239, f8242, hc8243⟩
      replace f19 := f19.st st8239 (by decide)
      replace f5 := f5.st st8239 (by decide)
      replace f5510 := f5510.st st8239 (by decide)
      replace f5515 := f5515.st st8239 (by decide)
      replace f5520 := f5520.st st8239 (by decide)
      replace f7599 := f7599.st st8239 (by decide)
      replace f7612 := f7612.st st8239 (by decide)
      replace f7615 := f7615.st st8239 (by decide)
      replace hs := hs.loc0 st8239 (by decide)
      have hk := hk.put 36 (.slice A8240 (t8235).length c8241) rfl
      refine x_run tab hk (k := 1) (lv := []) (ks := [0, 2, 4, 7, 8, 9, 10, 34, 36, 37]) (e' := [(0, .slice (some ad7594) (p0).length c5509), (2, .int .i64 p2), (4, .pointer (some ⟨bx4, 0, none⟩)), (7, .pointer (some ⟨bx18, 0, none⟩)), (8, .slice A5517 (l5519).length c5518), (9, .int .i64 x5522), (10, .pointer (some ⟨bx7598, 0, none⟩)), (34, .bool false), (36, .slice A8240 (t8235).length c8241), (37, .slice A5517 (l5519).length c5518)]) rfl trivial fun a hk => ?_
      refine x_op hk rfl ?_
      obtain ⟨t8247, hc8248, H⟩ := bindS H
      refine op_call hk ent_17 (vs := [.slice A8240 (t8235).length c8241, .slice A5517 (l5519).length c5518]) rfl (tidewracklaw13_Same_calls K A8240 c8241 t8235 A5517 c5518 l5519 _ o8238 _ (f8242.imp fun _ h_ => Own.rd h_) hc8243 _ (f5520.imp fun _ h_ => Own.rd h_) hc5521   _ hc8248) ?_
      rintro _ w8249 ⟨o8250, rfl, st8251⟩
      replace f19 := f19.st st8251 (by decide)
      replace f5 := f5.st st8251 (by decide)
      replace f5510 := f5510.st st8251 (by decide)
      replace f5515 := f5515.st st8251 (by decide)
      replace f5520 := f5520.st st8251 (by decide)
      replace f7599 := f7599.st st8251 (by decide)
      replace f8242 := f8242.st st8251 (by decide)
      replace hs := hs.loc0 st8251 (by decide)
      have hk := hk.put 38 (.bool t8247) rfl
      refine x_run tab hk (k := 2) (lv := []) (ks := [0, 2, 4, 7, 8, 9, 10, 40]) (e' := [(0, .slice (some ad7594) (p0).length c5509), (2, .int .i64 p2), (4, .pointer (some ⟨bx4, 0, none⟩)), (7, .pointer (some ⟨bx18, 0, none⟩)), (8, .slice A5517 (l5519).length c5518), (9, .int .i64 x5522), (10, .pointer (some ⟨bx7598, 0, none⟩)), (40, .bool (!t8247))]) rfl trivial fun a hk => ?_
      refine wpListIn_nil ?_
      refine then_n ?_
      cases b8252 : (!t8247)
      · rw [b8252] at hk H
        replace H := bifF H
        refine x_if hk (b := false) rfl ?_
        refine (show Code.wpIn _ _ _ _ _ _ _ from ?_)
        refine wpIn_skip ?_
        refine then_n ?_
        exact ⟨(fun b_ => (fun l_ => if l_ = 709 then 786 else if l_ = 710 then 787 else if l_ = 711 then 788 else if l_ = 712 then 789 else if l_ = 782 then 790 else l_) (o8250 b_)), (by exact Kn.pick (ks := [0, 2, 4, 7, 8, 9, 10]) hk rfl), (hs.relab0 (fun l_ => if l_ = 709 then 786 else if l_ = 710 then 787 else if l_ = 711 then 788 else if l_ = 712 then 789 else if l_ = 782 then 790 else l_) rfl), (f19.relab (fun l_ => if l_ = 709 then 786 else if l_ = 710 then 787 else if l_ = 711 then 788 else if l_ = 712 then 789 else if l_ = 782 then 790 else l_) rfl), (f5.relab (fun l_ => if l_ = 709 then 786 else if l_ = 710 then 787 else if l_ = 711 then 788 else if l_ = 712 then 789 else if l_ = 782 then 790 else l_) rfl), (f5510.relab (fun l_ => if l_ = 709 then 786 else if l_ = 710 then 787 else if l_ = 711 then 788 else if l_ = 712 then 789 else if l_ = 782 then 790 else l_) rfl), (f5515.relab (fun l_ => if l_ = 709 then 786 else if l_ = 710 then 787 else if l_ = 711 then 788 else if l_ = 712 then 789 else if l_ = 782 then 790 else l_) rfl), (f5520.relab (fun l_ => if l_ = 709 then 786 else if l_ = 710 then 787 else if l_ = 711 then 788 else if l_ = 712 then 789 else if l_ = 782 then 790 else l_) rfl), (f7599.relab (fun l_ => if l_ = 709 then 786 else if l_ = 710 then 787 else if l_ = 711 then 788 else if l_ = 712 then 789 else if l_ = 782 then 790 else l_) rfl), H⟩
      · rw [b8252] at hk H
        replace H := bifT H
        refine x_if hk (b := true) rfl ?_
        refine (show Code.wpIn _ _ _ _ _ _ _ from ?_)
        refine x_seq ?_
        refine wpIn_region_lit ?_
        refine x_run tab hk (k := 1) (lv := []) (ks := [6]) (e' := [(6, .bool false)]) rfl trivial fun a hk => ?_
        refine wpListIn_nil ?_
        refine then_n ?_
        refine wpIn_ret ?_
        refine then_r ?_
        refine blk_r ?_
        refine then_r ?_
        refine then_r ?_
        refine blk_r ?_
        refine then_r ?_
        obtain rfl := Option.some.inj H
        exact x_retG hk (rs := [.tmp 6]) (vs := [.bool false]) rfl ⟨rfl, trivial⟩ ⟨fun b_ => if b_ < w.heap.size then o b_ else (fun _ => 0) (o8250 b_), rfl, hs.close0 o (fun _ => 0)⟩
    refine x_seq ?_
    refine wpIn_region_lit ?_
    refine x_run tab hk (k := 5) (lv := []) (ks := [0, 2, 4, 7, 8, 9, 21]) (e' := [(0, .slice A5508 (p0).length c5509), (2, .int .i64 p2), (4, .pointer (some ⟨bx4, 0, none⟩)), (7, .pointer (some ⟨bx18, 0, none⟩)), (8, .slice A5517 (l5519).length c5518), (9, .int .i64 x5522), (21, .bool (decide (x5522 < ((p0).length : Int))))]) rfl trivial fun a hk => ?_
    cases b8253 : (decide (x5522 < ((p0).length : Int)))
    · rw [b8253] at hk H
      replace H := bifF H
      refine x_run tab hk (k := 3) (lv := []) (ks := [0, 2, 4, 7, 8, 9, 24]) (e' := [(0, .slice A5508 (p0).length c5509), (2, .int .i64 p2), (4, .pointer (some ⟨bx4, 0, none⟩)), (7, .pointer (some ⟨bx18, 0, none⟩)), (8, .slice A5517 (l5519).length c5518), (9, .int .i64 x5522), (24, .bool false)]) rfl trivial fun a hk => ?_
      refine wpListIn_nil ?_
      refine then_n ?_
      refine x_if hk (b := false) rfl ?_
      refine (show Code.wpIn _ _ _ _ _ _ _ from ?_)
      refine wpIn_exit ?_
      refine then_x ?_
      refine then_x ?_
      refine blk_x ?_
      refine then_n ?_
      exact ⟨o5507, (by exact Kn.pick (ks := []) hk rfl), hs, H⟩
    · rw [b8253] at hk H
      replace H := bifT H
      refine x_run tab hk (k := 3) (lv := []) (ks := [0, 2, 4, 7, 8, 9, 24]) (e' := [(0, .slice A5508 (p0).length c5509), (2, .int .i64 p2), (4, .pointer (some ⟨bx4, 0, none⟩)), (7, .pointer (some ⟨bx18, 0, none⟩)), (8, .slice A5517 (l5519).length c5518), (9, .int .i64 x5522), (24, .bool (decide (x5522 < (25 : Int))))]) rfl trivial fun a hk => ?_
      refine wpListIn_nil ?_
      refine then_n ?_
      cases b8254 : (decide (x5522 < (25 : Int)))
      · rw [b8254] at hk H
        replace H := bifF H
        refine x_if hk (b := false) rfl ?_
        refine (show Code.wpIn _ _ _ _ _ _ _ from ?_)
        refine wpIn_exit ?_
        refine then_x ?_
        refine then_x ?_
        refine blk_x ?_
        refine then_n ?_
        exact ⟨o5507, (by exact Kn.pick (ks := []) hk rfl), hs, H⟩
      · rw [b8254] at hk H
        replace H := bifT H
        refine x_if hk (b := true) rfl ?_
        refine (show Code.wpIn _ _ _ _ _ _ _ from ?_)
        refine wpIn_skip ?_
        refine then_n ?_
        exact ⟨(fun b_ => (fun l_ => if l_ = 567 then 709 else if l_ = 568 then 710 else if l_ = 569 then 711 else if l_ = 570 then 712 else l_) (o5507 b_)), (by exact Kn.pick (ks := [0, 2, 4, 7, 8, 9]) hk rfl), (hs.relab0 (fun l_ => if l_ = 567 then 709 else if l_ = 568 then 710 else if l_ = 569 then 711 else if l_ = 570 then 712 else l_) rfl), (f19.relab (fun l_ => if l_ = 567 then 709 else if l_ = 568 then 710 else if l_ = 569 then 711 else if l_ = 570 then 712 else l_) rfl), (f5.relab (fun l_ => if l_ = 567 then 709 else if l_ = 568 then 710 else if l_ = 569 then 711 else if l_ = 570 then 712 else l_) rfl), (f5510.relab (fun l_ => if l_ = 567 then 709 else if l_ = 568 then 710 else if l_ = 569 then 711 else if l_ = 570 then 712 else l_) rfl), (f5515.relab (fun l_ => if l_ = 567 then 709 else if l_ = 568 then 710 else if l_ = 569 then 711 else if l_ = 570 then 712 else l_) rfl), (f5520.relab (fun l_ => if l_ = 567 then 709 else if l_ = 568 then 710 else if l_ = 569 then 711 else if l_ = 570 then 712 else l_) rfl), H⟩
  · rw [b14] at hk H
    replace H := bifT H
    refine x_if hk (b := true) rfl ?_
    refine (show Code.wpIn _ _ _ _ _ _ _ from ?_)
    refine x_seq ?_
    refine wpIn_region_lit ?_
    refine x_run tab hk (k := 1) (lv := []) (ks := [6]) (e' := [(6, .bool false)]) rfl trivial fun a hk => ?_
    refine wpListIn_nil ?_
    refine then_n ?_
    refine wpIn_ret ?_
    refine then_r ?_
    obtain rfl := Option.some.inj H
    exact x_retG hk (rs := [.tmp 6]) (vs := [.bool false]) rfl ⟨rfl, trivial⟩ ⟨fun b_ => if b_ < w.heap.size then o b_ else (fun _ => 0) (o12 b_), rfl, hs.close0 o (fun _ => 0)⟩

end Go.Proofs.Ytjbdijgenhhgaaa
