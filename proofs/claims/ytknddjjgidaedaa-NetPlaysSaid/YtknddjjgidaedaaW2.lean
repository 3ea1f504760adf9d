/- Walks, printed by an own program: the machine's calls compute the plain functions. -/
import Derived.Test.YtknddjjgidaedaaW1
set_option linter.unusedVariables false
set_option linter.unusedSimpArgs false
namespace Go.Proofs.Ytknddjjgidaedaa
open Go Go.Proofs.XC
/-! tidewrack/tidewrackref25.New -/
theorem tidewrackref25_New_calls (p0 : Int) (w : World) (o : Nat → Nat)   (R0 : Nat) (r : T46) (H : tidewrackref25_New p0 = some r) :
    Calls Try.prog 18 #[.int .i64 p0] w (Ret fun v_ w' => ∃ o' : Nat → Nat, ∃ A0 : Option Addr, ∃ c0 : Nat, v_ = .agg #[.int .i64 r.Most, .int .i64 r.Lost, .slice A0 (r.L).length c0] ∧ St [] w o w' o' ∧ Ft (Own ET28 39 (.slice A0 (r.L).length c0) (r.L)) w' o' R0 ∧ (r.L).length ≤ c0) := by
  refine x_enter (vs := [.int .i64 p0]) Try.func18 rfl rfl rfl fun a hk => ?_
  obtain ⟨o0, hs, h0⟩ := St.start w o
  clear h0
  rw [tidewrackref25_New] at H
  refine x_seq ?_
  refine wpIn_region_lit ?_
  refine x_op hk rfl ?_
  refine op_alloc (o := o0) tab (t := 47) (cs := [.int .i64 0, .int .i64 0, .slice none 0 0]) rfl rfl 1 fun bx4 w1 o2 st3 f5 => ?_
  replace hs := hs.loc0 st3 (by decide)
  have hk := hk.put 2 (.pointer (some ⟨bx4, 0, none⟩)) rfl
  refine wpListIn_nil ?_
  refine then_n ?_
  refine x_seq ?_
  refine wpIn_region_lit ?_
  refine x_run tab hk (k := 4) (lv := []) (ks := [2, 6]) (e' := [(2, .pointer (some ⟨bx4, 0, none⟩)), (6, .agg #[.int .i64 (mxI 1 (mnI p0 4096)), .int .i64 0, .slice none 0 0])]) rfl trivial fun a hk => ?_
  refine x_op hk rfl ?_
  refine op_store tab hk (t := 47) (v := .agg #[.int .i64 (mxI 1 (mnI p0 4096)), .int .i64 0, .slice none 0 0]) (b := bx4) (k := 0) (cs' := [.int .i64 (mxI 1 (mnI p0 4096)), .int .i64 0, .slice none 0 0]) rfl rfl rfl rfl rfl rfl f5 rfl rfl fun w6 o7 st8 f5_ => ?_
  replace hs := hs.loc0 st8 (by decide)
  replace f5 := f5_
  refine wpListIn_nil ?_
  refine then_n ?_
  refine wpIn_ret ?_
  obtain rfl := Option.some.inj H
  exact x_retG hk (rs := [.cell 2 47]) (vs := [.agg #[.int .i64 (mxI 1 (mnI p0 4096)), .int .i64 0, .slice none 0 0]]) rfl ⟨⟨_, rfl, load_box tab rfl rfl f5.now (k := 0) rfl rfl⟩, trivial⟩ ⟨fun b_ => if b_ < w.heap.size then o b_ else (fun _ => 0) (o7 b_), none, 0, rfl, hs.close0 o (fun _ => 0), (Ft.of_all (fun _ => Own.nil _ _ _) _ _ _), (by simp)⟩

/-! tidewrack/tidewrackref25.put -/
theorem tidewrackref25_put_calls (Ap0_0 : Option Addr) (cp0_0 : Nat) (p0 : T46) (p1 : T28) (w : World) (o : Nat → Nat) (Lp0_0 : Nat) (hp0_0 : Ft (RdC ET28 Ap0_0 p0.L) w o Lp0_0) (hcp0_0 : (p0.L).length ≤ cp0_0) (hd0 : ([Lp0_0] : List Nat).Nodup) (r : T46 × Bool) (H : tidewrackref25_put p0 p1 = some r) :
    Calls Try.prog 34 #[.agg #[.int .i64 p0.Most, .int .i64 p0.Lost, .slice Ap0_0 (p0.L).length cp0_0], .agg #[.int .i64 p1.From, .int .i64 p1.To, .string p1.Data]] w (Ret fun v_ w' => ∃ o' : Nat → Nat, ∃ A0 : Option Addr, ∃ c0 : Nat, v_ = .tuple #[.agg #[.int .i64 r.1.Most, .int .i64 r.1.Lost, .slice A0 (r.1.L).length c0], .bool r.2] ∧ St [] w o w' o' ∧ Ft (RdC ET28 A0 (r.1.L)) w' o' Lp0_0 ∧ (r.1.L).length ≤ c0) := by
  refine x_enter (vs := [.agg #[.int .i64 p0.Most, .int .i64 p0.Lost, .slice Ap0_0 (p0.L).length cp0_0], .agg #[.int .i64 p1.From, .int .i64 p1.To, .string p1.Data]]) Try.func34 rfl rfl rfl fun a hk => ?_
  obtain ⟨oi, hs0, h0, h1, hob, hoz, hoa⟩ := St.startM2 w o (m := 1) hd0 rfl
  have hs := hs0 []
  have f900000 := h1 0 1 hp0_0 rfl rfl
  clear h0 h1 hs0
  rw [tidewrackref25_put] at H
  refine x_seq ?_
  refine wpIn_region_lit ?_
  refine x_op hk rfl ?_
  refine op_box (o := oi) (t := 47) (v := .agg #[.int .i64 p0.Most, .int .i64 p0.Lost, .slice Ap0_0 (p0.L).length cp0_0]) (cs := [.int .i64 p0.Most, .int .i64 p0.Lost, .slice Ap0_0 (p0.L).length cp0_0]) hk rfl rfl 2 fun bx4 w1 o2 st3 f5 => ?_
  replace f900000 := f900000.st st3 (by decide)
  replace hs := hs.locQ st3 hob rfl
  have hk := hk.put 2 (.pointer (some ⟨bx4, 0, none⟩)) rfl
  refine x_op hk rfl ?_
  refine op_box (o := o2) (t := 39) (v := .agg #[.int .i64 p1.From, .int .i64 p1.To, .string p1.Data]) (cs := [.int .i64 p1.From, .int .i64 p1.To, .string p1.Data]) hk rfl rfl 3 fun bx9 w6 o7 st8 f10 => ?_
  replace f5 := f5.st st8 (by decide)
  replace f900000 := f900000.st st8 (by decide)
  replace hs := hs.locQ st8 hob rfl
  have hk := hk.put 3 (.pointer (some ⟨bx9, 0, none⟩)) rfl
  refine x_op hk rfl ?_
  refine op_alloc (o := o7) tab (t := 47) (cs := [.int .i64 0, .int .i64 0, .slice none 0 0]) rfl rfl 4 fun bx14 w11 o12 st13 f15 => ?_
  replace f10 := f10.st st13 (by decide)
  replace f5 := f5.st st13 (by decide)
  replace f900000 := f900000.st st13 (by decide)
  replace hs := hs.locQ st13 hob rfl
  have hk := hk.put 4 (.pointer (some ⟨bx14, 0, none⟩)) rfl
  refine x_run tab hk (k := 1) (lv := []) (ks := [2, 3, 4]) (e' := [(2, .pointer (some ⟨bx4, 0, none⟩)), (3, .pointer (some ⟨bx9, 0, none⟩)), (4, .pointer (some ⟨bx14, 0, none⟩))]) rfl trivial fun a hk => ?_
  refine wpListIn_nil ?_
  refine then_n ?_
  refine x_mid (fun a_ w_ => ∃ o36 : Nat → Nat, Kn 33 a_ [(2, .pointer (some ⟨bx4, 0, none⟩)), (3, .pointer (some ⟨bx9, 0, none⟩)), (4, .pointer (some ⟨bx14, 0, none⟩))] ∧ St [] w oi w_ o36 ∧ Ft (Bx bx9 39 [.int .i64 p1.From, .int .i64 p1.To, .string p1.Data]) w_ o36 9 ∧ Ft (Bx bx14 47 [.int .i64 0, .int .i64 0, .slice none 0 0]) w_ o36 10 ∧ Ft (Bx bx4 47 [.int .i64 p0.Most, .int .i64 p0.Lost, .slice Ap0_0 (p0.L).length cp0_0]) w_ o36 8 ∧ Ft (RdC ET28 Ap0_0 p0.L) w_ o36 1 ∧ tidewrackref25_put_j1 p0 p1 = some r) ?_ ?_
  rotate_left
  · rintro a w37 ⟨o36, hk, hs, f10, f15, f5, f900000, H⟩
    rw [tidewrackref25_put_j1] at H
    refine x_seq ?_
    refine x_cut (fun a_ w_ => ∃ o370 : Nat → Nat, ∃ A371 : Option Addr, ∃ c372 : Nat, Kn 33 a_ [(2, .pointer (some ⟨bx4, 0, none⟩)), (4, .pointer (some ⟨bx14, 0, none⟩))] ∧ St [] w oi w_ o370 ∧ Ft (Bx bx14 47 [.int .i64 0, .int .i64 0, .slice none 0 0]) w_ o370 46 ∧ Ft (Own ET28 39 (.slice A371 (((([] : List T28) ++ p0.L) ++ ([p1] : List T28))).length c372) ((([] : List T28) ++ p0.L) ++ ([p1] : List T28))) w_ o370 44 ∧ Ft (Bx bx4 47 [.int .i64 p0.Most, .int .i64 p0.Lost, .slice A371 (((([] : List T28) ++ p0.L) ++ ([p1] : List T28))).length c372]) w_ o370 45 ∧ (((([] : List T28) ++ p0.L) ++ ([p1] : List T28))).length ≤ c372 ∧ tidewrackref25_put_j2 p0 p1 = some r) ?_ ?_
    rotate_left
    · rintro a w375 ⟨o370, A371, c372, hk, hs, f15, f373, f5, hc374, H⟩
      rw [tidewrackref25_put_j2] at H
      refine then_n ?_
      refine x_seq ?_
      refine wpIn_region_lit ?_
      refine x_run tab hk (k := 1) (lv := [.agg #[.int .i64 p0.Most, .int .i64 p0.Lost, .slice A371 (((([] : List T28) ++ p0.L) ++ ([p1] : List T28))).length c372]]) (ks := [4, 32]) (e' := [(4, .pointer (some ⟨bx14, 0, none⟩)), (32, .agg #[.int .i64 p0.Most, .int .i64 p0.Lost, .slice A371 (((([] : List T28) ++ p0.L) ++ ([p1] : List T28))).length c372])]) rfl ⟨(load_box tab rfl rfl f5.now (k := 0) rfl rfl), trivial⟩ fun a hk => ?_
      refine x_op hk rfl ?_
      refine op_store tab hk (t := 47) (v := .agg #[.int .i64 p0.Most, .int .i64 p0.Lost, .slice A371 (((([] : List T28) ++ p0.L) ++ ([p1] : List T28))).length c372]) (b := bx14) (k := 0) (cs' := [.int .i64 p0.Most, .int .i64 p0.Lost, .slice A371 (((([] : List T28) ++ p0.L) ++ ([p1] : List T28))).length c372]) rfl rfl rfl rfl rfl rfl f15 rfl rfl fun w376 o377 st378 f15_ => ?_
      replace f373 := f373.st st378 (by decide)
      replace hs := hs.locQ st378 hob rfl
      replace f15 := f15_
      refine x_run tab hk (k := 1) (lv := []) (ks := [4, 5]) (e' := [(4, .pointer (some ⟨bx14, 0, none⟩)), (5, .bool true)]) rfl trivial fun a hk => ?_
      refine wpListIn_nil ?_
      refine then_n ?_
      refine wpIn_ret ?_
      obtain rfl := Option.some.inj H
      exact x_retG hk (rs := [.cell 4 47, .tmp 5]) (vs := [.agg #[.int .i64 p0.Most, .int .i64 p0.Lost, .slice A371 (((([] : List T28) ++ p0.L) ++ ([p1] : List T28))).length c372], .bool true]) rfl ⟨⟨_, rfl, load_box tab rfl rfl f15.now (k := 0) rfl rfl⟩, rfl, trivial⟩ ⟨fun b_ => if b_ < w.heap.size then o b_ else (fun l_ => if l_ = 44 then Lp0_0 else 0) (o377 b_), A371, c372, rfl, hs.closeQ (Lm := []) (Sh := [Lp0_0]) hoa rfl (fun l_ => if l_ = 44 then Lp0_0 else 0), ((hs.closeM_ft (o := o) (ρ := fun l_ => if l_ = 44 then Lp0_0 else 0) f373 (lab_none hob rfl) rfl).imp fun _ h_ => Own.rd h_), hc374⟩
    obtain ⟨q416, H⟩ := ifS H
    obtain ⟨q430, H⟩ := ifS H
    refine xd_begin (o := o36) (fun W_ => (Bx bx9 39 [.int .i64 p1.From, .int .i64 p1.To, .string p1.Data]) W_ ∧ (Bx bx4 47 [.int .i64 p0.Most, .int .i64 p0.Lost, .slice Ap0_0 (p0.L).length cp0_0]) W_ ∧ True) mixed rfl rfl fun w519 st520 => ?_
    replace f10 := f10.st st520 (by decide)
    replace f15 := f15.st st520 (by decide)
    replace f5 := f5.st st520 (by decide)
    replace f900000 := f900000.st st520 (by decide)
    replace hs := hs.locQ st520 hob rfl
    refine xd_abs fun G hG => ?_
    have N565 : ∀ (a_ : Act) (w_ : World), (∃ o559 : Nat → Nat, ∃ A560 : Option Addr, ∃ c561 : Nat, Kn 33 a_ [(2, .pointer (some ⟨bx4, 0, none⟩)), (4, .pointer (some ⟨bx14, 0, none⟩)), (27, .slice A560 ((([] : List T28) ++ p0.L)).length c561), (28, .agg #[.int .i64 p1.From, .int .i64 p1.To, .string p1.Data])] ∧ St [] w oi w_ o559 ∧ Ft (Bx bx9 39 [.int .i64 p1.From, .int .i64 p1.To, .string p1.Data]) w_ o559 62 ∧ Ft (Bx bx14 47 [.int .i64 0, .int .i64 0, .slice none 0 0]) w_ o559 63 ∧ Ft (Bx bx4 47 [.int .i64 p0.Most, .int .i64 p0.Lost, .slice Ap0_0 (p0.L).length cp0_0]) w_ o559 61 ∧ Ft (Own ET28 39 (.slice A560 ((([] : List T28) ++ p0.L)).length c561) (([] : List T28) ++ p0.L)) w_ o559 64 ∧ Ft (RdC ET28 Ap0_0 p0.L) w_ o559 1 ∧ ((([] : List T28) ++ p0.L)).length ≤ c561) → G 4 #[true, true, true, true, true, false, false, false, false] a_ w_ := by
      rintro a w564 ⟨o559, A560, c561, hk, hs, f10, f15, f5, f562, f900000, hc563⟩
      refine xd_of hG ?_
      refine xd_op hk (i := 5) (by kernel_rfl) rfl rfl ?_
      refine op_slice (o := o559) tab hk (vs := [.agg #[.int .i64 p1.From, .int .i64 p1.To, .string p1.Data]]) (cs := [.int .i64 p1.From, .int .i64 p1.To, .string p1.Data]) rfl rfl rfl rfl rfl rfl rfl rfl rfl 65 fun bx569 w566 o567 st568 f570 => ?_
      replace f10 := f10.st st568 (by decide)
      replace f15 := f15.st st568 (by decide)
      replace f5 := f5.st st568 (by decide)
      replace f562 := f562.st st568 (by decide)
      replace f900000 := f900000.st st568 (by decide)
      replace hs := hs.locQ st568 hob rfl
      have f571 : Ft (Own ET28 39 (.slice (some ⟨bx569, 0, none⟩) (([p1] : List T28)).length 1) ([p1] : List T28)) w566 o567 65 := f570.imp fun _ h_ => Own.of_box h_ rfl (by simp)
      have hk := hk.put 29 (.slice (some ⟨bx569, 0, none⟩) (([p1] : List T28)).length 1) rfl
      refine ⟨.inr ⟨f10.now, f5.now, trivial⟩, ?_⟩
      refine xd_op hk (i := 6) (by kernel_rfl) rfl rfl ?_
      refine op_append (o := o567) (E := ET28) (xs := (([] : List T28) ++ p0.L)) (ys := ([p1] : List T28)) tab hk rfl rfl rfl rfl rfl rfl rfl f562 (Own.rd f571.now) q430 fun A575 c576 w572 o573 st574 f577 hc578 => ?_
      replace f10 := f10.st st574 (by decide)
      replace f15 := f15.st st574 (by decide)
      replace f5 := f5.st st574 (by decide)
      replace f571 := f571.st st574 (by decide)
      replace f900000 := f900000.st st574 (by decide)
      replace hs := hs.locQ st574 hob rfl
      have hk := hk.put 30 (.slice A575 (((([] : List T28) ++ p0.L) ++ ([p1] : List T28))).length c576) rfl
      refine ⟨.inr ⟨f10.now, f5.now, trivial⟩, ?_⟩
      refine xd_take tab hk (k := 1) (is := [7]) (ls' := #[true, true, true, true, true, true, true, true, false]) (lv := []) (ks := [2, 4, 30, 31]) (e' := [(2, .pointer (some ⟨bx4, 0, none⟩)), (4, .pointer (some ⟨bx14, 0, none⟩)), (30, .slice A575 (((([] : List T28) ++ p0.L) ++ ([p1] : List T28))).length c576), (31, .pointer (some ((⟨bx4, 0, none⟩ : Addr).add 2)))]) (by kernel_rfl) rfl rfl (by kernel_rfl) (np_then (np_then np_body)) ⟨f10.now, f5.now, trivial⟩ (fun W_ hS => trivial) fun a hk => ?_
      refine xd_op hk (i := 8) (by kernel_rfl) rfl rfl ?_
      refine op_store tab hk (t := 45) (v := .slice A575 (((([] : List T28) ++ p0.L) ++ ([p1] : List T28))).length c576) (b := bx4) (k := 2) (cs' := [.int .i64 p0.Most, .int .i64 p0.Lost, .slice A575 (((([] : List T28) ++ p0.L) ++ ([p1] : List T28))).length c576]) rfl rfl rfl rfl rfl rfl f5 rfl rfl fun w579 o580 st581 f5_ => ?_
      replace f10 := f10.st st581 (by decide)
      replace f15 := f15.st st581 (by decide)
      replace f571 := f571.st st581 (by decide)
      replace f577 := f577.st st581 (by decide)
      replace f900000 := f900000.st st581 (by decide)
      replace hs := hs.locQ st581 hob rfl
      replace f5 := f5_
      refine ⟨.inl (by kernel_rfl), ?_⟩
      refine xd_done (by kernel_rfl) ?_
      refine then_n ?_
      exact ⟨(fun b_ => (fun l_ => if l_ = 61 then 45 else if l_ = 63 then 46 else if l_ = 64 then 44 else l_) (o580 b_)), A575, c576, (by exact Kn.pick (ks := [2, 4]) hk rfl), (hs.relabM hob (fun l_ => if l_ = 61 then 45 else if l_ = 63 then 46 else if l_ = 64 then 44 else l_) (by decide)), (f15.relab (fun l_ => if l_ = 61 then 45 else if l_ = 63 then 46 else if l_ = 64 then 44 else l_) rfl), (f577.relab (fun l_ => if l_ = 61 then 45 else if l_ = 63 then 46 else if l_ = 64 then 44 else l_) rfl), (f5.relab (fun l_ => if l_ = 61 then 45 else if l_ = 63 then 46 else if l_ = 64 then 44 else l_) rfl), hc578, H⟩
    have N611 : ∀ (a_ : Act) (w_ : World), (∃ o601 : Nat → Nat, ∃ A602 : Option Addr, ∃ c603 : Nat, ∃ A606 : Option Addr, ∃ c607 : Nat, Kn 33 a_ [(2, .pointer (some ⟨bx4, 0, none⟩)), (4, .pointer (some ⟨bx14, 0, none⟩)), (24, .slice A602 (([] : List T28)).length c603), (26, .slice Ap0_0 (p0.L).length cp0_0), (29, .slice A606 (([p1] : List T28)).length c607)] ∧ St [] w oi w_ o601 ∧ Ft (Bx bx9 39 [.int .i64 p1.From, .int .i64 p1.To, .string p1.Data]) w_ o601 68 ∧ Ft (Bx bx14 47 [.int .i64 0, .int .i64 0, .slice none 0 0]) w_ o601 69 ∧ Ft (Bx bx4 47 [.int .i64 p0.Most, .int .i64 p0.Lost, .slice Ap0_0 (p0.L).length cp0_0]) w_ o601 67 ∧ Ft (Own ET28 39 (.slice A602 (([] : List T28)).length c603) ([] : List T28)) w_ o601 70 ∧ Ft (Own ET28 39 (.slice A606 (([p1] : List T28)).length c607) ([p1] : List T28)) w_ o601 71 ∧ Ft (RdC ET28 Ap0_0 p0.L) w_ o601 1 ∧ (([] : List T28)).length ≤ c603 ∧ (([p1] : List T28)).length ≤ c607) → G 4 #[true, true, true, false, true, true, false, false, false] a_ w_ := by
      rintro a w610 ⟨o601, A602, c603, A606, c607, hk, hs, f10, f15, f5, f604, f608, f900000, hc605, hc609⟩
      refine xd_of hG ?_
      refine xd_op hk (i := 3) (by kernel_rfl) rfl rfl ?_
      refine op_append (o := o601) (E := ET28) (xs := ([] : List T28)) (ys := p0.L) tab hk rfl rfl rfl rfl rfl rfl rfl f604 f900000.now q416 fun A615 c616 w612 o613 st614 f617 hc618 => ?_
      replace f10 := f10.st st614 (by decide)
      replace f15 := f15.st st614 (by decide)
      replace f5 := f5.st st614 (by decide)
      replace f608 := f608.st st614 (by decide)
      replace f900000 := f900000.st st614 (by decide)
      replace hs := hs.locQ st614 hob rfl
      have hk := hk.put 27 (.slice A615 ((([] : List T28) ++ p0.L)).length c616) rfl
      refine ⟨.inr ⟨f10.now, f5.now, trivial⟩, ?_⟩
      refine xd_op hk (i := 6) (by kernel_rfl) rfl rfl ?_
      refine op_append (o := o613) (E := ET28) (xs := (([] : List T28) ++ p0.L)) (ys := ([p1] : List T28)) tab hk rfl rfl rfl rfl rfl rfl rfl f617 (Own.rd f608.now) q430 fun A622 c623 w619 o620 st621 f624 hc625 => ?_
      replace f10 := f10.st st621 (by decide)
      replace f15 := f15.st st621 (by decide)
      replace f5 := f5.st st621 (by decide)
      replace f608 := f608.st st621 (by decide)
      replace f900000 := f900000.st st621 (by decide)
      replace hs := hs.locQ st621 hob rfl
      have hk := hk.put 30 (.slice A622 (((([] : List T28) ++ p0.L) ++ ([p1] : List T28))).length c623) rfl
      refine ⟨.inr ⟨f10.now, f5.now, trivial⟩, ?_⟩
      refine xd_take tab hk (k := 1) (is := [7]) (ls' := #[true, true, true, true, true, true, true, true, false]) (lv := []) (ks := [2, 4, 30, 31]) (e' := [(2, .pointer (some ⟨bx4, 0, none⟩)), (4, .pointer (some ⟨bx14, 0, none⟩)), (30, .slice A622 (((([] : List T28) ++ p0.L) ++ ([p1] : List T28))).length c623), (31, .pointer (some ((⟨bx4, 0, none⟩ : Addr).add 2)))]) (by kernel_rfl) rfl rfl (by kernel_rfl) (np_then (np_then np_body)) ⟨f10.now, f5.now, trivial⟩ (fun W_ hS => trivial) fun a hk => ?_
      refine xd_op hk (i := 8) (by kernel_rfl) rfl rfl ?_
      refine op_store tab hk (t := 45) (v := .slice A622 (((([] : List T28) ++ p0.L) ++ ([p1] : List T28))).length c623) (b := bx4) (k := 2) (cs' := [.int .i64 p0.Most, .int .i64 p0.Lost, .slice A622 (((([] : List T28) ++ p0.L) ++ ([p1] : List T28))).length c623]) rfl rfl rfl rfl rfl rfl f5 rfl rfl fun w626 o627 st628 f5_ => ?_
      replace f10 := f10.st st628 (by decide)
      replace f15 := f15.st st628 (by decide)
      replace f608 := f608.st st628 (by decide)
      replace f624 := f624.st st628 (by decide)
      replace f900000 := f900000.st st628 (by decide)
      replace hs := hs.locQ st628 hob rfl
      replace f5 := f5_
      refine ⟨.inl (by kernel_rfl), ?_⟩
      refine xd_done (by kernel_rfl) ?_
      refine then_n ?_
      exact ⟨(fun b_ => (fun l_ => if l_ = 67 then 45 else if l_ = 69 then 46 else if l_ = 70 then 44 else l_) (o627 b_)), A622, c623, (by exact Kn.pick (ks := [2, 4]) hk rfl), (hs.relabM hob (fun l_ => if l_ = 67 then 45 else if l_ = 69 then 46 else if l_ = 70 then 44 else l_) (by decide)), (f15.relab (fun l_ => if l_ = 67 then 45 else if l_ = 69 then 46 else if l_ = 70 then 44 else l_) rfl), (f624.relab (fun l_ => if l_ = 67 then 45 else if l_ = 69 then 46 else if l_ = 70 then 44 else l_) rfl), (f5.relab (fun l_ => if l_ = 67 then 45 else if l_ = 69 then 46 else if l_ = 70 then 44 else l_) rfl), hc625, H⟩
    have N542 : ∀ (a_ : Act) (w_ : World), (∃ o536 : Nat → Nat, ∃ A537 : Option Addr, ∃ c538 : Nat, Kn 33 a_ [(2, .pointer (some ⟨bx4, 0, none⟩)), (4, .pointer (some ⟨bx14, 0, none⟩)), (24, .slice A537 (([] : List T28)).length c538), (26, .slice Ap0_0 (p0.L).length cp0_0), (28, .agg #[.int .i64 p1.From, .int .i64 p1.To, .string p1.Data])] ∧ St [] w oi w_ o536 ∧ Ft (Bx bx9 39 [.int .i64 p1.From, .int .i64 p1.To, .string p1.Data]) w_ o536 58 ∧ Ft (Bx bx14 47 [.int .i64 0, .int .i64 0, .slice none 0 0]) w_ o536 59 ∧ Ft (Bx bx4 47 [.int .i64 p0.Most, .int .i64 p0.Lost, .slice Ap0_0 (p0.L).length cp0_0]) w_ o536 57 ∧ Ft (Own ET28 39 (.slice A537 (([] : List T28)).length c538) ([] : List T28)) w_ o536 60 ∧ Ft (RdC ET28 Ap0_0 p0.L) w_ o536 1 ∧ (([] : List T28)).length ≤ c538) → G 5 #[true, true, true, false, true, false, false, false, false] a_ w_ := by
      rintro a w541 ⟨o536, A537, c538, hk, hs, f10, f15, f5, f539, f900000, hc540⟩
      refine xd_of hG ?_
      refine xd_each [3, 5] (by kernel_rfl) rfl ⟨?_, ?_, trivial⟩
      · refine xd_one hk rfl rfl ?_
        refine op_append (o := o536) (E := ET28) (xs := ([] : List T28)) (ys := p0.L) tab hk rfl rfl rfl rfl rfl rfl rfl f539 f900000.now q416 fun A546 c547 w543 o544 st545 f548 hc549 => ?_
        replace f10 := f10.st st545 (by decide)
        replace f15 := f15.st st545 (by decide)
        replace f5 := f5.st st545 (by decide)
        replace f900000 := f900000.st st545 (by decide)
        replace hs := hs.locQ st545 hob rfl
        have hk := hk.put 27 (.slice A546 ((([] : List T28) ++ p0.L)).length c547) rfl
        refine ⟨.inr ⟨f10.now, f5.now, trivial⟩, ?_⟩
        exact xd_to hG rfl (N565 _ _ ⟨(fun b_ => (fun l_ => if l_ = 57 then 61 else if l_ = 58 then 62 else if l_ = 59 then 63 else if l_ = 60 then 64 else l_) (o544 b_)), A546, c547, (by exact Kn.pick (ks := [2, 4, 27, 28]) hk rfl), (hs.relabM hob (fun l_ => if l_ = 57 then 61 else if l_ = 58 then 62 else if l_ = 59 then 63 else if l_ = 60 then 64 else l_) (by decide)), (f10.relab (fun l_ => if l_ = 57 then 61 else if l_ = 58 then 62 else if l_ = 59 then 63 else if l_ = 60 then 64 else l_) rfl), (f15.relab (fun l_ => if l_ = 57 then 61 else if l_ = 58 then 62 else if l_ = 59 then 63 else if l_ = 60 then 64 else l_) rfl), (f5.relab (fun l_ => if l_ = 57 then 61 else if l_ = 58 then 62 else if l_ = 59 then 63 else if l_ = 60 then 64 else l_) rfl), (f548.relab (fun l_ => if l_ = 57 then 61 else if l_ = 58 then 62 else if l_ = 59 then 63 else if l_ = 60 then 64 else l_) rfl), (f900000.relab (fun l_ => if l_ = 57 then 61 else if l_ = 58 then 62 else if l_ = 59 then 63 else if l_ = 60 then 64 else l_) rfl), hc549⟩)
      · refine xd_one hk rfl rfl ?_
        refine op_slice (o := o536) tab hk (vs := [.agg #[.int .i64 p1.From, .int .i64 p1.To, .string p1.Data]]) (cs := [.int .i64 p1.From, .int .i64 p1.To, .string p1.Data]) rfl rfl rfl rfl rfl rfl rfl rfl rfl 66 fun bx585 w582 o583 st584 f586 => ?_
        replace f10 := f10.st st584 (by decide)
        replace f15 := f15.st st584 (by decide)
        replace f5 := f5.st st584 (by decide)
        replace f539 := f539.st st584 (by decide)
        replace f900000 := f900000.st st584 (by decide)
        replace hs := hs.locQ st584 hob rfl
        have f587 : Ft (Own ET28 39 (.slice (some ⟨bx585, 0, none⟩) (([p1] : List T28)).length 1) ([p1] : List T28)) w582 o583 66 := f586.imp fun _ h_ => Own.of_box h_ rfl (by simp)
        have hk := hk.put 29 (.slice (some ⟨bx585, 0, none⟩) (([p1] : List T28)).length 1) rfl
        refine ⟨.inr ⟨f10.now, f5.now, trivial⟩, ?_⟩
        exact xd_to hG rfl (N611 _ _ ⟨(fun b_ => (fun l_ => if l_ = 57 then 67 else if l_ = 58 then 68 else if l_ = 59 then 69 else if l_ = 60 then 70 else if l_ = 66 then 71 else l_) (o583 b_)), A537, c538, (some ⟨bx585, 0, none⟩), 1, (by exact Kn.pick (ks := [2, 4, 24, 26, 29]) hk rfl), (hs.relabM hob (fun l_ => if l_ = 57 then 67 else if l_ = 58 then 68 else if l_ = 59 then 69 else if l_ = 60 then 70 else if l_ = 66 then 71 else l_) (by decide)), (f10.relab (fun l_ => if l_ = 57 then 67 else if l_ = 58 then 68 else if l_ = 59 then 69 else if l_ = 60 then 70 else if l_ = 66 then 71 else l_) rfl), (f15.relab (fun l_ => if l_ = 57 then 67 else if l_ = 58 then 68 else if l_ = 59 then 69 else if l_ = 60 then 70 else if l_ = 66 then 71 else l_) rfl), (f5.relab (fun l_ => if l_ = 57 then 67 else if l_ = 58 then 68 else if l_ = 59 then 69 else if l_ = 60 then 70 else if l_ = 66 then 71 else l_) rfl), (f539.relab (fun l_ => if l_ = 57 then 67 else if l_ = 58 then 68 else if l_ = 59 then 69 else if l_ = 60 then 70 else if l_ = 66 then 71 else l_) rfl), (f587.relab (fun l_ => if l_ = 57 then 67 else if l_ = 58 then 68 else if l_ = 59 then 69 else if l_ = 60 then 70 else if l_ = 66 then 71 else l_) rfl), (f900000.relab (fun l_ => if l_ = 57 then 67 else if l_ = 58 then 68 else if l_ = 59 then 69 else if l_ = 60 then 70 else if l_ = 66 then 71 else l_) rfl), hc540, (Nat.le_refl _)⟩)
    have N650 : ∀ (a_ : Act) (w_ : World), (∃ o644 : Nat → Nat, ∃ A645 : Option Addr, ∃ c646 : Nat, Kn 33 a_ [(2, .pointer (some ⟨bx4, 0, none⟩)), (4, .pointer (some ⟨bx14, 0, none⟩)), (26, .slice Ap0_0 (p0.L).length cp0_0), (29, .slice A645 (([p1] : List T28)).length c646)] ∧ St [] w oi w_ o644 ∧ Ft (Bx bx9 39 [.int .i64 p1.From, .int .i64 p1.To, .string p1.Data]) w_ o644 74 ∧ Ft (Bx bx14 47 [.int .i64 0, .int .i64 0, .slice none 0 0]) w_ o644 75 ∧ Ft (Bx bx4 47 [.int .i64 p0.Most, .int .i64 p0.Lost, .slice Ap0_0 (p0.L).length cp0_0]) w_ o644 73 ∧ Ft (Own ET28 39 (.slice A645 (([p1] : List T28)).length c646) ([p1] : List T28)) w_ o644 76 ∧ Ft (RdC ET28 Ap0_0 p0.L) w_ o644 1 ∧ (([p1] : List T28)).length ≤ c646) → G 5 #[false, true, true, false, true, true, false, false, false] a_ w_ := by
      rintro a w649 ⟨o644, A645, c646, hk, hs, f10, f15, f5, f647, f900000, hc648⟩
      refine xd_of hG ?_
      refine xd_op hk (i := 0) (by kernel_rfl) rfl rfl ?_
      refine op_slice (o := o644) tab hk (vs := []) (cs := []) rfl rfl rfl rfl rfl rfl rfl rfl rfl 77 fun bx654 w651 o652 st653 f655 => ?_
      replace f10 := f10.st st653 (by decide)
      replace f15 := f15.st st653 (by decide)
      replace f5 := f5.st st653 (by decide)
      replace f647 := f647.st st653 (by decide)
      replace f900000 := f900000.st st653 (by decide)
      replace hs := hs.locQ st653 hob rfl
      have f656 : Ft (Own ET28 39 (.slice (some ⟨bx654, 0, none⟩) (([] : List T28)).length 0) ([] : List T28)) w651 o652 77 := f655.imp fun _ h_ => Own.of_box h_ rfl (by simp)
      have hk := hk.put 24 (.slice (some ⟨bx654, 0, none⟩) (([] : List T28)).length 0) rfl
      refine ⟨.inr ⟨f10.now, f5.now, trivial⟩, ?_⟩
      refine xd_op hk (i := 3) (by kernel_rfl) rfl rfl ?_
      refine op_append (o := o652) (E := ET28) (xs := ([] : List T28)) (ys := p0.L) tab hk rfl rfl rfl rfl rfl rfl rfl f656 f900000.now q416 fun A660 c661 w657 o658 st659 f662 hc663 => ?_
      replace f10 := f10.st st659 (by decide)
      replace f15 := f15.st st659 (by decide)
      replace f5 := f5.st st659 (by decide)
      replace f647 := f647.st st659 (by decide)
      replace f900000 := f900000.st st659 (by decide)
      replace hs := hs.locQ st659 hob rfl
      have hk := hk.put 27 (.slice A660 ((([] : List T28) ++ p0.L)).length c661) rfl
      refine ⟨.inr ⟨f10.now, f5.now, trivial⟩, ?_⟩
      refine xd_op hk (i := 6) (by kernel_rfl) rfl rfl ?_
      refine op_append (o := o658) (E := ET28) (xs := (([] : List T28) ++ p0.L)) (ys := ([p1] : List T28)) tab hk rfl rfl rfl rfl rfl rfl rfl f662 (Own.rd f647.now) q430 fun A667 c668 w664 o665 st666 f669 hc670 => ?_
      replace f10 := f10.st st666 (by decide)
      replace f15 := f15.st st666 (by decide)
      replace f5 := f5.st st666 (by decide)
      replace f647 := f647.st st666 (by decide)
      replace f900000 := f900000.st st666 (by decide)
      replace hs := hs.locQ st666 hob rfl
      have hk := hk.put 30 (.slice A667 (((([] : List T28) ++ p0.L) ++ ([p1] : List T28))).length c668) rfl
      refine ⟨.inr ⟨f10.now, f5.now, trivial⟩, ?_⟩
      refine xd_take tab hk (k := 1) (is := [7]) (ls' := #[true, true, true, true, true, true, true, true, false]) (lv := []) (ks := [2, 4, 30, 31]) (e' := [(2, .pointer (some ⟨bx4, 0, none⟩)), (4, .pointer (some ⟨bx14, 0, none⟩)), (30, .slice A667 (((([] : List T28) ++ p0.L) ++ ([p1] : List T28))).length c668), (31, .pointer (some ((⟨bx4, 0, none⟩ : Addr).add 2)))]) (by kernel_rfl) rfl rfl (by kernel_rfl) (np_then (np_then np_body)) ⟨f10.now, f5.now, trivial⟩ (fun W_ hS => trivial) fun a hk => ?_
      refine xd_op hk (i := 8) (by kernel_rfl) rfl rfl ?_
      refine op_store tab hk (t := 45) (v := .slice A667 (((([] : List T28) ++ p0.L) ++ ([p1] : List T28))).length c668) (b := bx4) (k := 2) (cs' := [.int .i64 p0.Most, .int .i64 p0.Lost, .slice A667 (((([] : List T28) ++ p0.L) ++ ([p1] : List T28))).length c668]) rfl rfl rfl rfl rfl rfl f5 rfl rfl fun w671 o672 st673 f5_ => ?_
      replace f10 := f10.st st673 (by decide)
      replace f15 := f15.st st673 (by decide)
      replace f647 := f647.st st673 (by decide)
      replace f669 := f669.st st673 (by decide)
      replace f900000 := f900000.st st673 (by decide)
      replace hs := hs.locQ st673 hob rfl
      replace f5 := f5_
      refine ⟨.inl (by kernel_rfl), ?_⟩
      refine xd_done (by kernel_rfl) ?_
      refine then_n ?_
      exact ⟨(fun b_ => (fun l_ => if l_ = 73 then 45 else if l_ = 75 then 46 else if l_ = 77 then 44 else l_) (o672 b_)), A667, c668, (by exact Kn.pick (ks := [2, 4]) hk rfl), (hs.relabM hob (fun l_ => if l_ = 73 then 45 else if l_ = 75 then 46 else if l_ = 77 then 44 else l_) (by decide)), (f15.relab (fun l_ => if l_ = 73 then 45 else if l_ = 75 then 46 else if l_ = 77 then 44 else l_) rfl), (f669.relab (fun l_ => if l_ = 73 then 45 else if l_ = 75 then 46 else if l_ = 77 then 44 else l_) rfl), (f5.relab (fun l_ => if l_ = 73 then 45 else if l_ = 75 then 46 else if l_ = 77 then 44 else l_) rfl), hc670, H⟩
    refine xd_of hG ?_
    refine xd_take tab hk (k := 6) (is := [1, 2, 4]) (ls' := #[false, true, true, false, true, false, false, false, false]) (lv := [.slice Ap0_0 (p0.L).length cp0_0, .agg #[.int .i64 p1.From, .int .i64 p1.To, .string p1.Data]]) (ks := [2, 4, 26, 28]) (e' := [(2, .pointer (some ⟨bx4, 0, none⟩)), (4, .pointer (some ⟨bx14, 0, none⟩)), (26, .slice Ap0_0 (p0.L).length cp0_0), (28, .agg #[.int .i64 p1.From, .int .i64 p1.To, .string p1.Data])]) (by kernel_rfl) rfl rfl (by kernel_rfl) (np_then (np_then np_body)) ⟨f10.now, f5.now, trivial⟩ (fun W_ hS => ⟨(load1 tab rfl ((Bx.cell hS.2.1 2).trans rfl)), (load_box tab rfl rfl hS.1 (k := 0) rfl rfl), trivial⟩) fun a hk => ?_
    refine xd_each [0, 5] (by kernel_rfl) rfl ⟨?_, ?_, trivial⟩
    · refine xd_one hk rfl rfl ?_
      refine op_slice (o := o36) tab hk (vs := []) (cs := []) rfl rfl rfl rfl rfl rfl rfl rfl rfl 56 fun bx524 w521 o522 st523 f525 => ?_
      replace f10 := f10.st st523 (by decide)
      replace f15 := f15.st st523 (by decide)
      replace f5 := f5.st st523 (by decide)
      replace f900000 := f900000.st st523 (by decide)
      replace hs := hs.locQ st523 hob rfl
      have f526 : Ft (Own ET28 39 (.slice (some ⟨bx524, 0, none⟩) (([] : List T28)).length 0) ([] : List T28)) w521 o522 56 := f525.imp fun _ h_ => Own.of_box h_ rfl (by simp)
      have hk := hk.put 24 (.slice (some ⟨bx524, 0, none⟩) (([] : List T28)).length 0) rfl
      refine ⟨.inr ⟨f10.now, f5.now, trivial⟩, ?_⟩
      exact xd_to hG rfl (N542 _ _ ⟨(fun b_ => (fun l_ => if l_ = 8 then 57 else if l_ = 9 then 58 else if l_ = 10 then 59 else if l_ = 56 then 60 else l_) (o522 b_)), (some ⟨bx524, 0, none⟩), 0, (by exact Kn.pick (ks := [2, 4, 24, 26, 28]) hk rfl), (hs.relabM hob (fun l_ => if l_ = 8 then 57 else if l_ = 9 then 58 else if l_ = 10 then 59 else if l_ = 56 then 60 else l_) (by decide)), (f10.relab (fun l_ => if l_ = 8 then 57 else if l_ = 9 then 58 else if l_ = 10 then 59 else if l_ = 56 then 60 else l_) rfl), (f15.relab (fun l_ => if l_ = 8 then 57 else if l_ = 9 then 58 else if l_ = 10 then 59 else if l_ = 56 then 60 else l_) rfl), (f5.relab (fun l_ => if l_ = 8 then 57 else if l_ = 9 then 58 else if l_ = 10 then 59 else if l_ = 56 then 60 else l_) rfl), (f526.relab (fun l_ => if l_ = 8 then 57 else if l_ = 9 then 58 else if l_ = 10 then 59 else if l_ = 56 then 60 else l_) rfl), (f900000.relab (fun l_ => if l_ = 8 then 57 else if l_ = 9 then 58 else if l_ = 10 then 59 else if l_ = 56 then 60 else l_) rfl), (Nat.le_refl _)⟩)
    · refine xd_one hk rfl rfl ?_
      refine op_slice (o := o36) tab hk (vs := [.agg #[.int .i64 p1.From, .int .i64 p1.To, .string p1.Data]]) (cs := [.int .i64 p1.From, .int .i64 p1.To, .string p1.Data]) rfl rfl rfl rfl rfl rfl rfl rfl rfl 72 fun bx632 w629 o630 st631 f633 => ?_
      replace f10 := f10.st st631 (by decide)
      replace f15 := f15.st st631 (by decide)
      replace f5 := f5.st st631 (by decide)
      replace f900000 := f900000.st st631 (by decide)
      replace hs := hs.locQ st631 hob rfl
      have f634 : Ft (Own ET28 39 (.slice (some ⟨bx632, 0, none⟩) (([p1] : List T28)).length 1) ([p1] : List T28)) w629 o630 72 := f633.imp fun _ h_ => Own.of_box h_ rfl (by simp)
      have hk := hk.put 29 (.slice (some ⟨bx632, 0, none⟩) (([p1] : List T28)).length 1) rfl
      refine ⟨.inr ⟨f10.now, f5.now, trivial⟩, ?_⟩
      exact xd_to hG rfl (N650 _ _ ⟨(fun b_ => (fun l_ => if l_ = 8 then 73 else if l_ = 9 then 74 else if l_ = 10 then 75 else if l_ = 72 then 76 else l_) (o630 b_)), (some ⟨bx632, 0, none⟩), 1, (by exact Kn.pick (ks := [2, 4, 26, 29]) hk rfl), (hs.relabM hob (fun l_ => if l_ = 8 then 73 else if l_ = 9 then 74 else if l_ = 10 then 75 else if l_ = 72 then 76 else l_) (by decide)), (f10.relab (fun l_ => if l_ = 8 then 73 else if l_ = 9 then 74 else if l_ = 10 then 75 else if l_ = 72 then 76 else l_) rfl), (f15.relab (fun l_ => if l_ = 8 then 73 else if l_ = 9 then 74 else if l_ = 10 then 75 else if l_ = 72 then 76 else l_) rfl), (f5.relab (fun l_ => if l_ = 8 then 73 else if l_ = 9 then 74 else if l_ = 10 then 75 else if l_ = 72 then 76 else l_) rfl), (f634.relab (fun l_ => if l_ = 8 then 73 else if l_ = 9 then 74 else if l_ = 10 then 75 else if l_ = 72 then 76 else l_) rfl), (f900000.relab (fun l_ => if l_ = 8 then 73 else if l_ = 9 then 74 else if l_ = 10 then 75 else if l_ = 72 then 76 else l_) rfl), (Nat.le_refl _)⟩)
  refine x_mid (fun a_ w_ => ∃ o682 : Nat → Nat, ∃ x683 : Bool, Kn 33 a_ [(2, .pointer (some ⟨bx4, 0, none⟩)), (3, .pointer (some ⟨bx9, 0, none⟩)), (4, .pointer (some ⟨bx14, 0, none⟩)), (22, .bool x683)] ∧ St [] w oi w_ o682 ∧ Ft (Bx bx9 39 [.int .i64 p1.From, .int .i64 p1.To, .string p1.Data]) w_ o682 79 ∧ Ft (Bx bx14 47 [.int .i64 0, .int .i64 0, .slice none 0 0]) w_ o682 80 ∧ Ft (Bx bx4 47 [.int .i64 p0.Most, .int .i64 p0.Lost, .slice Ap0_0 (p0.L).length cp0_0]) w_ o682 78 ∧ Ft (RdC ET28 Ap0_0 p0.L) w_ o682 1 ∧ tidewrackref25_put_j3 p0 p1 x683 = some r) ?_ ?_
  rotate_left
  · rintro a w684 ⟨o682, x683, hk, hs, f10, f15, f5, f900000, H⟩
    rw [tidewrackref25_put_j3] at H
    cases b685 : x683
    · rw [b685] at hk H
      replace H := bifF H
      refine x_if hk (b := false) rfl ?_
      refine (show Code.wpIn _ _ _ _ _ _ _ from ?_)
      refine wpIn_skip ?_
      refine then_n ?_
      exact ⟨(fun b_ => (fun l_ => if l_ = 78 then 8 else if l_ = 79 then 9 else if l_ = 80 then 10 else l_) (o682 b_)), (by exact Kn.pick (ks := [2, 3, 4]) hk rfl), (hs.relabM hob (fun l_ => if l_ = 78 then 8 else if l_ = 79 then 9 else if l_ = 80 then 10 else l_) (by decide)), (f10.relab (fun l_ => if l_ = 78 then 8 else if l_ = 79 then 9 else if l_ = 80 then 10 else l_) rfl), (f15.relab (fun l_ => if l_ = 78 then 8 else if l_ = 79 then 9 else if l_ = 80 then 10 else l_) rfl), (f5.relab (fun l_ => if l_ = 78 then 8 else if l_ = 79 then 9 else if l_ = 80 then 10 else l_) rfl), (f900000.relab (fun l_ => if l_ = 78 then 8 else if l_ = 79 then 9 else if l_ = 80 then 10 else l_) rfl), H⟩
    · rw [b685] at hk H
      replace H := bifT H
      refine x_if hk (b := true) rfl ?_
      refine (show Code.wpIn _ _ _ _ _ _ _ from ?_)
      refine x_seq ?_
      refine wpIn_region_lit ?_
      refine x_run tab hk (k := 1) (lv := [.agg #[.int .i64 p0.Most, .int .i64 p0.Lost, .slice Ap0_0 (p0.L).length cp0_0]]) (ks := [4, 23]) (e' := [(4, .pointer (some ⟨bx14, 0, none⟩)), (23, .agg #[.int .i64 p0.Most, .int .i64 p0.Lost, .slice Ap0_0 (p0.L).length cp0_0])]) rfl ⟨(load_box tab rfl rfl f5.now (k := 0) rfl rfl), trivial⟩ fun a hk => ?_
      refine x_op hk rfl ?_
      refine op_store tab hk (t := 47) (v := .agg #[.int .i64 p0.Most, .int .i64 p0.Lost, .slice Ap0_0 (p0.L).length cp0_0]) (b := bx14) (k := 0) (cs' := [.int .i64 p0.Most, .int .i64 p0.Lost, .slice Ap0_0 (p0.L).length cp0_0]) rfl rfl rfl rfl rfl rfl f15 rfl rfl fun w686 o687 st688 f15_ => ?_
      replace f900000 := f900000.st st688 (by decide)
      replace hs := hs.locQ st688 hob rfl
      replace f15 := f15_
      refine x_run tab hk (k := 1) (lv := []) (ks := [4, 5]) (e' := [(4, .pointer (some ⟨bx14, 0, none⟩)), (5, .bool false)]) rfl trivial fun a hk => ?_
      refine wpListIn_nil ?_
      refine then_n ?_
      refine wpIn_ret ?_
      refine then_r ?_
      obtain rfl := Option.some.inj H
      exact x_retG hk (rs := [.cell 4 47, .tmp 5]) (vs := [.agg #[.int .i64 p0.Most, .int .i64 p0.Lost, .slice Ap0_0 (p0.L).length cp0_0], .bool false]) rfl ⟨⟨_, rfl, load_box tab rfl rfl f15.now (k := 0) rfl rfl⟩, rfl, trivial⟩ ⟨fun b_ => if b_ < w.heap.size then o b_ else (fun l_ => if l_ = 1 then Lp0_0 else 0) (o687 b_), Ap0_0, cp0_0, rfl, hs.closeQ (Lm := []) (Sh := [Lp0_0]) hoa rfl (fun l_ => if l_ = 1 then Lp0_0 else 0), hs.closeM_ft (o := o) (ρ := fun l_ => if l_ = 1 then Lp0_0 else 0) f900000 (lab_at hoa (i := 0) rfl) rfl, hcp0_0⟩
  refine wpIn_region_lit ?_
  refine x_run tab hk (k := 4) (lv := [.string p1.Data]) (ks := [2, 3, 4, 9]) (e' := [(2, .pointer (some ⟨bx4, 0, none⟩)), (3, .pointer (some ⟨bx9, 0, none⟩)), (4, .pointer (some ⟨bx14, 0, none⟩)), (9, .bool (ByteArray.toList p1.Data == ByteArray.toList (⟨#[]⟩ : ByteArray)))]) rfl ⟨(load1 tab rfl ((Bx.cell f10.now 2).trans rfl)), trivial⟩ fun a hk => ?_
  cases b689 : (ByteArray.toList p1.Data == ByteArray.toList (⟨#[]⟩ : ByteArray))
  · rw [b689] at hk H
    replace H := bifF H
    refine x_run tab hk (k := 6) (lv := [.string p1.Data]) (ks := [2, 3, 4, 15]) (e' := [(2, .pointer (some ⟨bx4, 0, none⟩)), (3, .pointer (some ⟨bx9, 0, none⟩)), (4, .pointer (some ⟨bx14, 0, none⟩)), (15, .bool (decide (((p1.Data).size : Int) > (8192 : Int))))]) rfl ⟨(load1 tab rfl ((Bx.cell f10.now 2).trans rfl)), trivial⟩ fun a hk => ?_
    cases b690 : (decide (((p1.Data).size : Int) > (8192 : Int)))
    · rw [b690] at hk H
      replace H := bifF H
      refine x_run tab hk (k := 7) (lv := [.slice Ap0_0 (p0.L).length cp0_0, .int .i64 p0.Most]) (ks := [2, 3, 4, 22]) (e' := [(2, .pointer (some ⟨bx4, 0, none⟩)), (3, .pointer (some ⟨bx9, 0, none⟩)), (4, .pointer (some ⟨bx14, 0, none⟩)), (22, .bool (decide (((p0.L).length : Int) ≥ p0.Most)))]) rfl ⟨(load1 tab rfl ((Bx.cell f5.now 2).trans rfl)), (load1 tab rfl ((Bx.cell f5.now 0).trans rfl)), trivial⟩ fun a hk => ?_
      refine wpListIn_nil ?_
      refine then_n ?_
      exact ⟨(fun b_ => (fun l_ => if l_ = 2 then 78 else if l_ = 3 then 79 else if l_ = 4 then 80 else l_) (o12 b_)), (decide (((p0.L).length : Int) ≥ p0.Most)), (by exact Kn.pick (ks := [2, 3, 4, 22]) hk rfl), (hs.relabM hob (fun l_ => if l_ = 2 then 78 else if l_ = 3 then 79 else if l_ = 4 then 80 else l_) (by decide)), (f10.relab (fun l_ => if l_ = 2 then 78 else if l_ = 3 then 79 else if l_ = 4 then 80 else l_) rfl), (f15.relab (fun l_ => if l_ = 2 then 78 else if l_ = 3 then 79 else if l_ = 4 then 80 else l_) rfl), (f5.relab (fun l_ => if l_ = 2 then 78 else if l_ = 3 then 79 else if l_ = 4 then 80 else l_) rfl), (f900000.relab (fun l_ => if l_ = 2 then 78 else if l_ = 3 then 79 else if l_ = 4 then 80 else l_) rfl), H⟩
    · rw [b690] at hk H
      replace H := bifT H
      refine x_run tab hk (k := 7) (lv := []) (ks := [2, 3, 4, 22]) (e' := [(2, .pointer (some ⟨bx4, 0, none⟩)), (3, .pointer (some ⟨bx9, 0, none⟩)), (4, .pointer (some ⟨bx14, 0, none⟩)), (22, .bool true)]) rfl trivial fun a hk => ?_
      refine wpListIn_nil ?_
      refine then_n ?_
      exact ⟨(fun b_ => (fun l_ => if l_ = 2 then 78 else if l_ = 3 then 79 else if l_ = 4 then 80 else l_) (o12 b_)), true, (by exact Kn.pick (ks := [2, 3, 4, 22]) hk rfl), (hs.relabM hob (fun l_ => if l_ = 2 then 78 else if l_ = 3 then 79 else if l_ = 4 then 80 else l_) (by decide)), (f10.relab (fun l_ => if l_ = 2 then 78 else if l_ = 3 then 79 else if l_ = 4 then 80 else l_) rfl), (f15.relab (fun l_ => if l_ = 2 then 78 else if l_ = 3 then 79 else if l_ = 4 then 80 else l_) rfl), (f5.relab (fun l_ => if l_ = 2 then 78 else if l_ = 3 then 79 else if l_ = 4 then 80 else l_) rfl), (f900000.relab (fun l_ => if l_ = 2 then 78 else if l_ = 3 then 79 else if l_ = 4 then 80 else l_) rfl), H⟩
  · rw [b689] at hk H
    replace H := bifT H
    refine x_run tab hk (k := 12) (lv := []) (ks := [2, 3, 4, 15, 21]) (e' := [(2, .pointer (some ⟨bx4, 0, none⟩)), (3, .pointer (some ⟨bx9, 0, none⟩)), (4, .pointer (some ⟨bx14, 0, none⟩)), (15, .bool true), (21, undef)]) rfl trivial fun a hk => ?_
    refine x_run tab hk (k := 1) (lv := []) (ks := [2, 3, 4, 22]) (e' := [(2, .pointer (some ⟨bx4, 0, none⟩)), (3, .pointer (some ⟨bx9, 0, none⟩)), (4, .pointer (some ⟨bx14, 0, none⟩)), (22, .bool true)]) rfl trivial fun a hk => ?_
    refine wpListIn_nil ?_
    refine then_n ?_
    exact ⟨(fun b_ => (fun l_ => if l_ = 2 then 78 else if l_ = 3 then 79 else if l_ = 4 then 80 else l_) (o12 b_)), true, (by exact Kn.pick (ks := [2, 3, 4, 22]) hk rfl), (hs.relabM hob (fun l_ => if l_ = 2 then 78 else if l_ = 3 then 79 else if l_ = 4 then 80 else l_) (by decide)), (f10.relab (fun l_ => if l_ = 2 then 78 else if l_ = 3 then 79 else if l_ = 4 then 80 else l_) rfl), (f15.relab (fun l_ => if l_ = 2 then 78 else if l_ = 3 then 79 else if l_ = 4 then 80 else l_) rfl), (f5.relab (fun l_ => if l_ = 2 then 78 else if l_ = 3 then 79 else if l_ = 4 then 80 else l_) rfl), (f900000.relab (fun l_ => if l_ = 2 then 78 else if l_ = 3 then 79 else if l_ = 4 then 80 else l_) rfl), H⟩

/-! tidewrack/tidewrackref25.Send -/
theorem tidewrackref25_Send_calls (Ap0_0 : Option Addr) (cp0_0 : Nat) (p0 : T46) (p1 : T28) (w : World) (o : Nat → Nat) (Lp0_0 : Nat) (hp0_0 : Ft (RdC ET28 Ap0_0 p0.L) w o Lp0_0) (hcp0_0 : (p0.L).length ≤ cp0_0) (hd0 : ([Lp0_0] : List Nat).Nodup) (r : T46 × Bool) (H : tidewrackref25_Send p0 p1 = some r) :
    Calls Try.prog 26 #[.agg #[.int .i64 p0.Most, .int .i64 p0.Lost, .slice Ap0_0 (p0.L).length cp0_0], .agg #[.int .i64 p1.From, .int .i64 p1.To, .string p1.Data]] w (Ret fun v_ w' => ∃ o' : Nat → Nat, ∃ A0 : Option Addr, ∃ c0 : Nat, v_ = .tuple #[.agg #[.int .i64 r.1.Most, .int .i64 r.1.Lost, .slice A0 (r.1.L).length c0], .bool r.2] ∧ St [] w o w' o' ∧ Ft (RdC ET28 A0 (r.1.L)) w' o' Lp0_0 ∧ (r.1.L).length ≤ c0) := by
  refine x_enter (vs := [.agg #[.int .i64 p0.Most, .int .i64 p0.Lost, .slice Ap0_0 (p0.L).length cp0_0], .agg #[.int .i64 p1.From, .int .i64 p1.To, .string p1.Data]]) Try.func26 rfl rfl rfl fun a hk => ?_
  obtain ⟨oi, hs0, h0, h1, hob, hoz, hoa⟩ := St.startM2 w o (m := 1) hd0 rfl
  have hs := hs0 []
  have f900000 := h1 0 1 hp0_0 rfl rfl
  clear h0 h1 hs0
  rw [tidewrackref25_Send] at H
  refine x_seq ?_
  refine wpIn_region_lit ?_
  refine x_op hk rfl ?_
  refine op_box (o := oi) (t := 47) (v := .agg #[.int .i64 p0.Most, .int .i64 p0.Lost, .slice Ap0_0 (p0.L).length cp0_0]) (cs := [.int .i64 p0.Most, .int .i64 p0.Lost, .slice Ap0_0 (p0.L).length cp0_0]) hk rfl rfl 2 fun bx4 w1 o2 st3 f5 => ?_
  replace f900000 := f900000.st st3 (by decide)
  replace hs := hs.locQ st3 hob rfl
  have hk := hk.put 2 (.pointer (some ⟨bx4, 0, none⟩)) rfl
  refine x_op hk rfl ?_
  refine op_box (o := o2) (t := 39) (v := .agg #[.int .i64 p1.From, .int .i64 p1.To, .string p1.Data]) (cs := [.int .i64 p1.From, .int .i64 p1.To, .string p1.Data]) hk rfl rfl 3 fun bx9 w6 o7 st8 f10 => ?_
  replace f5 := f5.st st8 (by decide)
  replace f900000 := f900000.st st8 (by decide)
  replace hs := hs.locQ st8 hob rfl
  have hk := hk.put 3 (.pointer (some ⟨bx9, 0, none⟩)) rfl
  refine x_op hk rfl ?_
  refine op_alloc (o := o7) tab (t := 47) (cs := [.int .i64 0, .int .i64 0, .slice none 0 0]) rfl rfl 4 fun bx14 w11 o12 st13 f15 => ?_
  replace f10 := f10.st st13 (by decide)
  replace f5 := f5.st st13 (by decide)
  replace f900000 := f900000.st st13 (by decide)
  replace hs := hs.locQ st13 hob rfl
  have hk := hk.put 4 (.pointer (some ⟨bx14, 0, none⟩)) rfl
  refine x_run tab hk (k := 1) (lv := []) (ks := [2, 3, 4]) (e' := [(2, .pointer (some ⟨bx4, 0, none⟩)), (3, .pointer (some ⟨bx9, 0, none⟩)), (4, .pointer (some ⟨bx14, 0, none⟩))]) rfl trivial fun a hk => ?_
  refine wpListIn_nil ?_
  refine then_n ?_
  refine x_seq ?_
  refine wpIn_region_lit ?_
  refine x_run tab hk (k := 2) (lv := [.agg #[.int .i64 p0.Most, .int .i64 p0.Lost, .slice Ap0_0 (p0.L).length cp0_0], .agg #[.int .i64 p1.From, .int .i64 p1.To, .string p1.Data]]) (ks := [4, 9, 10]) (e' := [(4, .pointer (some ⟨bx14, 0, none⟩)), (9, .agg #[.int .i64 p0.Most, .int .i64 p0.Lost, .slice Ap0_0 (p0.L).length cp0_0]), (10, .agg #[.int .i64 p1.From, .int .i64 p1.To, .string p1.Data])]) rfl ⟨(load_box tab rfl rfl f5.now (k := 0) rfl rfl), (load_box tab rfl rfl f10.now (k := 0) rfl rfl), trivial⟩ fun a hk => ?_
  refine x_op hk rfl ?_
  obtain ⟨t19, hc20, H⟩ := bindS H
  refine op_call hk ent_34 (vs := [.agg #[.int .i64 p0.Most, .int .i64 p0.Lost, .slice Ap0_0 (p0.L).length cp0_0], .agg #[.int .i64 p1.From, .int .i64 p1.To, .string p1.Data]]) rfl (tidewrackref25_put_calls Ap0_0 cp0_0 p0 p1 _ o12 1 f900000 hcp0_0 (by decide)   _ hc20) ?_
  rintro _ w21 ⟨o22, A24, c25, rfl, st23, f26, hc27⟩
  replace f15 := f15.st st23 (by decide)
  replace f900000 := f900000.st st23 (by decide)
  replace hs := hs.locQ st23 hob rfl
  have hk := hk.put 11 (.tuple #[.agg #[.int .i64 t19.1.Most, .int .i64 t19.1.Lost, .slice A24 (t19.1.L).length c25], .bool t19.2]) rfl
  refine x_run tab hk (k := 3) (lv := []) (ks := [4, 12, 13]) (e' := [(4, .pointer (some ⟨bx14, 0, none⟩)), (12, .agg #[.int .i64 t19.1.Most, .int .i64 t19.1.Lost, .slice A24 (t19.1.L).length c25]), (13, .bool t19.2)]) rfl trivial fun a hk => ?_
  refine x_op hk rfl ?_
  refine op_alloc (o := o22) tab (t := 47) (cs := [.int .i64 0, .int .i64 0, .slice none 0 0]) rfl rfl 5 fun bx31 w28 o29 st30 f32 => ?_
  replace f15 := f15.st st30 (by decide)
  replace f26 := f26.st st30 (by decide)
  replace hs := hs.locQ st30 hob rfl
  have hk := hk.put 6 (.pointer (some ⟨bx31, 0, none⟩)) rfl
  refine x_op hk rfl ?_
  refine op_store tab hk (t := 47) (v := .agg #[.int .i64 t19.1.Most, .int .i64 t19.1.Lost, .slice A24 (t19.1.L).length c25]) (b := bx31) (k := 0) (cs' := [.int .i64 t19.1.Most, .int .i64 t19.1.Lost, .slice A24 (t19.1.L).length c25]) rfl rfl rfl rfl rfl rfl f32 rfl rfl fun w33 o34 st35 f32_ => ?_
  replace f15 := f15.st st35 (by decide)
  replace f26 := f26.st st35 (by decide)
  replace hs := hs.locQ st35 hob rfl
  replace f32 := f32_
  refine x_run tab hk (k := 1) (lv := []) (ks := [4, 6, 7]) (e' := [(4, .pointer (some ⟨bx14, 0, none⟩)), (6, .pointer (some ⟨bx31, 0, none⟩)), (7, .bool t19.2)]) rfl trivial fun a hk => ?_
  refine wpListIn_nil ?_
  refine then_n ?_
  refine x_seq ?_
  refine x_seq ?_
  refine wpIn_region_lit ?_
  refine x_run tab hk (k := 2) (lv := []) (ks := [4, 6, 7, 15]) (e' := [(4, .pointer (some ⟨bx14, 0, none⟩)), (6, .pointer (some ⟨bx31, 0, none⟩)), (7, .bool t19.2), (15, .bool (!t19.2))]) rfl trivial fun a hk => ?_
  refine wpListIn_nil ?_
  refine then_n ?_
  cases b36 : (!t19.2)
  · rw [b36] at hk H
    replace H := bifF H
    refine x_if hk (b := false) rfl ?_
    refine (show Code.wpIn _ _ _ _ _ _ _ from ?_)
    refine wpIn_skip ?_
    refine then_n ?_
    refine x_seq ?_
    refine wpIn_region_lit ?_
    refine x_run tab hk (k := 2) (lv := [.agg #[.int .i64 t19.1.Most, .int .i64 t19.1.Lost, .slice A24 (t19.1.L).length c25]]) (ks := [4, 20, 21]) (e' := [(4, .pointer (some ⟨bx14, 0, none⟩)), (20, .agg #[.int .i64 t19.1.Most, .int .i64 t19.1.Lost, .slice A24 (t19.1.L).length c25]), (21, .bool t19.2)]) rfl ⟨(load_box tab rfl rfl f32.now (k := 0) rfl rfl), trivial⟩ fun a hk => ?_
    refine x_op hk rfl ?_
    refine op_store tab hk (t := 47) (v := .agg #[.int .i64 t19.1.Most, .int .i64 t19.1.Lost, .slice A24 (t19.1.L).length c25]) (b := bx14) (k := 0) (cs' := [.int .i64 t19.1.Most, .int .i64 t19.1.Lost, .slice A24 (t19.1.L).length c25]) rfl rfl rfl rfl rfl rfl f15 rfl rfl fun w37 o38 st39 f15_ => ?_
    replace f26 := f26.st st39 (by decide)
    replace hs := hs.locQ st39 hob rfl
    replace f15 := f15_
    refine x_run tab hk (k := 1) (lv := []) (ks := [4, 5]) (e' := [(4, .pointer (some ⟨bx14, 0, none⟩)), (5, .bool t19.2)]) rfl trivial fun a hk => ?_
    refine wpListIn_nil ?_
    refine then_n ?_
    refine wpIn_ret ?_
    obtain rfl := Option.some.inj H
    exact x_retG hk (rs := [.cell 4 47, .tmp 5]) (vs := [.agg #[.int .i64 t19.1.Most, .int .i64 t19.1.Lost, .slice A24 (t19.1.L).length c25], .bool t19.2]) rfl ⟨⟨_, rfl, load_box tab rfl rfl f15.now (k := 0) rfl rfl⟩, rfl, trivial⟩ ⟨fun b_ => if b_ < w.heap.size then o b_ else (fun l_ => if l_ = 1 then Lp0_0 else 0) (o38 b_), A24, c25, rfl, hs.closeQ (Lm := []) (Sh := [Lp0_0]) hoa rfl (fun l_ => if l_ = 1 then Lp0_0 else 0), hs.closeM_ft (o := o) (ρ := fun l_ => if l_ = 1 then Lp0_0 else 0) f26 (lab_at hoa (i := 0) rfl) rfl, hc27⟩
  · rw [b36] at hk H
    replace H := bifT H
    refine x_if hk (b := true) rfl ?_
    refine (show Code.wpIn _ _ _ _ _ _ _ from ?_)
    refine wpIn_region_lit ?_
    refine x_run tab hk (k := 4) (lv := [.int .i64 t19.1.Lost]) (ks := [4, 6, 7, 18, 19]) (e' := [(4, .pointer (some ⟨bx14, 0, none⟩)), (6, .pointer (some ⟨bx31, 0, none⟩)), (7, .bool t19.2), (18, .int .i64 (IntKind.wrap .i64 (t19.1.Lost + 1))), (19, .pointer (some ((⟨bx31, 0, none⟩ : Addr).add 1)))]) rfl ⟨(load1 tab rfl ((Bx.cell f32.now 1).trans rfl)), trivial⟩ fun a hk => ?_
    refine x_op hk rfl ?_
    refine op_store tab hk (t := 3) (v := .int .i64 (IntKind.wrap .i64 (t19.1.Lost + 1))) (b := bx31) (k := 1) (cs' := [.int .i64 t19.1.Most, .int .i64 (IntKind.wrap .i64 (t19.1.Lost + 1)), .slice A24 (t19.1.L).length c25]) rfl rfl rfl rfl rfl rfl f32 rfl rfl fun w40 o41 st42 f32_ => ?_
    replace f15 := f15.st st42 (by decide)
    replace f26 := f26.st st42 (by decide)
    replace hs := hs.locQ st42 hob rfl
    replace f32 := f32_
    refine wpListIn_nil ?_
    refine then_n ?_
    refine x_seq ?_
    refine wpIn_region_lit ?_
    refine x_run tab hk (k := 2) (lv := [.agg #[.int .i64 t19.1.Most, .int .i64 (IntKind.wrap .i64 (t19.1.Lost + 1)), .slice A24 (t19.1.L).length c25]]) (ks := [4, 20, 21]) (e' := [(4, .pointer (some ⟨bx14, 0, none⟩)), (20, .agg #[.int .i64 t19.1.Most, .int .i64 (IntKind.wrap .i64 (t19.1.Lost + 1)), .slice A24 (t19.1.L).length c25]), (21, .bool t19.2)]) rfl ⟨(load_box tab rfl rfl f32.now (k := 0) rfl rfl), trivial⟩ fun a hk => ?_
    refine x_op hk rfl ?_
    refine op_store tab hk (t := 47) (v := .agg #[.int .i64 t19.1.Most, .int .i64 (IntKind.wrap .i64 (t19.1.Lost + 1)), .slice A24 (t19.1.L).length c25]) (b := bx14) (k := 0) (cs' := [.int .i64 t19.1.Most, .int .i64 (IntKind.wrap .i64 (t19.1.Lost + 1)), .slice A24 (t19.1.L).length c25]) rfl rfl rfl rfl rfl rfl f15 rfl rfl fun w43 o44 st45 f15_ => ?_
    replace f26 := f26.st st45 (by decide)
    replace hs := hs.locQ st45 hob rfl
    replace f15 := f15_
    refine x_run tab hk (k := 1) (lv := []) (ks := [4, 5]) (e' := [(4, .pointer (some ⟨bx14, 0, none⟩)), (5, .bool t19.2)]) rfl trivial fun a hk => ?_
    refine wpListIn_nil ?_
    refine then_n ?_
    refine wpIn_ret ?_
    obtain rfl := Option.some.inj H
    exact x_retG hk (rs := [.cell 4 47, .tmp 5]) (vs := [.agg #[.int .i64 t19.1.Most, .int .i64 (IntKind.wrap .i64 (t19.1.Lost + 1)), .slice A24 (t19.1.L).length c25], .bool t19.2]) rfl ⟨⟨_, rfl, load_box tab rfl rfl f15.now (k := 0) rfl rfl⟩, rfl, trivial⟩ ⟨fun b_ => if b_ < w.heap.size then o b_ else (fun l_ => if l_ = 1 then Lp0_0 else 0) (o44 b_), A24, c25, rfl, hs.closeQ (Lm := []) (Sh := [Lp0_0]) hoa rfl (fun l_ => if l_ = 1 then Lp0_0 else 0), hs.closeM_ft (o := o) (ρ := fun l_ => if l_ = 1 then Lp0_0 else 0) f26 (lab_at hoa (i := 0) rfl) rfl, hc27⟩

/-! tidewrack/tidewrackref25.Take -/
theorem tidewrackref25_Take_calls (Ap0_0 : Option Addr) (cp0_0 : Nat) (p0 : T46) (p1 : Int) (w : World) (o : Nat → Nat) (Lp0_0 : Nat) (hp0_0 : Ft (RdC ET28 Ap0_0 p0.L) w o Lp0_0) (hcp0_0 : (p0.L).length ≤ cp0_0) (hd0 : ([Lp0_0] : List Nat).Nodup) (r : T46 × T28 × Bool) (H : tidewrackref25_Take p0 p1 = some r) :
    Calls Try.prog 27 #[.agg #[.int .i64 p0.Most, .int .i64 p0.Lost, .slice Ap0_0 (p0.L).length cp0_0], .int .i64 p1] w (Ret fun v_ w' => ∃ o' : Nat → Nat, ∃ A0 : Option Addr, ∃ c0 : Nat, v_ = .tuple #[.agg #[.int .i64 r.1.Most, .int .i64 r.1.Lost, .slice A0 (r.1.L).length c0], .agg #[.int .i64 r.2.1.From, .int .i64 r.2.1.To, .string r.2.1.Data], .bool r.2.2] ∧ St [] w o w' o' ∧ Ft (RdC ET28 A0 (r.1.L)) w' o' Lp0_0 ∧ (r.1.L).length ≤ c0) := by
  refine x_enter (vs := [.agg #[.int .i64 p0.Most, .int .i64 p0.Lost, .slice Ap0_0 (p0.L).length cp0_0], .int .i64 p1]) Try.func27 rfl rfl rfl fun a hk => ?_
  obtain ⟨oi, hs0, h0, h1, hob, hoz, hoa⟩ := St.startM2 w o (m := 1) hd0 rfl
  have hs := hs0 []
  have f900000 := h1 0 1 hp0_0 rfl rfl
  clear h0 h1 hs0
  rw [tidewrackref25_Take] at H
  refine x_seq ?_
  refine wpIn_region_lit ?_
  refine x_op hk rfl ?_
  refine op_box (o := oi) (t := 47) (v := .agg #[.int .i64 p0.Most, .int .i64 p0.Lost, .slice Ap0_0 (p0.L).length cp0_0]) (cs := [.int .i64 p0.Most, .int .i64 p0.Lost, .slice Ap0_0 (p0.L).length cp0_0]) hk rfl rfl 2 fun bx4 w1 o2 st3 f5 => ?_
  replace f900000 := f900000.st st3 (by decide)
  replace hs := hs.locQ st3 hob rfl
  have hk := hk.put 2 (.pointer (some ⟨bx4, 0, none⟩)) rfl
  refine x_op hk rfl ?_
  refine op_alloc (o := o2) tab (t := 47) (cs := [.int .i64 0, .int .i64 0, .slice none 0 0]) rfl rfl 3 fun bx9 w6 o7 st8 f10 => ?_
  replace f5 := f5.st st8 (by decide)
  replace f900000 := f900000.st st8 (by decide)
  replace hs := hs.locQ st8 hob rfl
  have hk := hk.put 4 (.pointer (some ⟨bx9, 0, none⟩)) rfl
  refine x_op hk rfl ?_
  refine op_alloc (o := o7) tab (t := 39) (cs := [.int .i64 0, .int .i64 0, .string (⟨#[]⟩ : ByteArray)]) rfl rfl 4 fun bx14 w11 o12 st13 f15 => ?_
  replace f10 := f10.st st13 (by decide)
  replace f5 := f5.st st13 (by decide)
  replace f900000 := f900000.st st13 (by decide)
  replace hs := hs.locQ st13 hob rfl
  have hk := hk.put 5 (.pointer (some ⟨bx14, 0, none⟩)) rfl
  refine x_run tab hk (k := 1) (lv := []) (ks := [1, 2, 4, 5]) (e' := [(1, .int .i64 p1), (2, .pointer (some ⟨bx4, 0, none⟩)), (4, .pointer (some ⟨bx9, 0, none⟩)), (5, .pointer (some ⟨bx14, 0, none⟩))]) rfl trivial fun a hk => ?_
  refine wpListIn_nil ?_
  refine then_n ?_
  refine x_mid (fun a_ w_ => ∃ o37 : Nat → Nat, Kn 39 a_ [(1, .int .i64 p1), (2, .pointer (some ⟨bx4, 0, none⟩)), (4, .pointer (some ⟨bx9, 0, none⟩)), (5, .pointer (some ⟨bx14, 0, none⟩))] ∧ St [] w oi w_ o37 ∧ Ft (Bx bx9 47 [.int .i64 0, .int .i64 0, .slice none 0 0]) w_ o37 9 ∧ Ft (Bx bx14 39 [.int .i64 0, .int .i64 0, .string (⟨#[]⟩ : ByteArray)]) w_ o37 10 ∧ Ft (Bx bx4 47 [.int .i64 p0.Most, .int .i64 p0.Lost, .slice Ap0_0 (p0.L).length cp0_0]) w_ o37 8 ∧ Ft (RdC ET28 Ap0_0 p0.L) w_ o37 1 ∧ tidewrackref25_Take_j1 p0 p1 = some r) ?_ ?_
  rotate_left
  · rintro a w38 ⟨o37, hk, hs, f10, f15, f5, f900000, H⟩
    rw [tidewrackref25_Take_j1] at H
    refine x_seq ?_
    refine wpIn_region_lit ?_
    obtain ⟨q39, H⟩ := ifS H
    obtain ⟨ad40, hAad40⟩ := RdC.addr f900000.now q39
    have hk_C := hk
    have f10_C := f10
    have f15_C := f15
    have f5_C := f5
    have f900000_C := f900000
    subst hAad40
    have hk := hk_C
    clear hk_C
    have f10 := f10_C
    clear f10_C
    have f15 := f15_C
    clear f15_C
    have f5 := f5_C
    clear f5_C
    have f900000 := f900000_C
    clear f900000_C
    refine x_run tab hk (k := 5) (lv := [.slice (some ad40) (p0.L).length cp0_0, .agg #[.int .i64 ((rdD zT28 p0.L p1).From), .int .i64 ((rdD zT28 p0.L p1).To), .string ((rdD zT28 p0.L p1).Data)]]) (ks := [1, 2, 4, 5, 23]) (e' := [(1, .int .i64 p1), (2, .pointer (some ⟨bx4, 0, none⟩)), (4, .pointer (some ⟨bx9, 0, none⟩)), (5, .pointer (some ⟨bx14, 0, none⟩)), (23, .agg #[.int .i64 ((rdD zT28 p0.L p1).From), .int .i64 ((rdD zT28 p0.L p1).To), .string ((rdD zT28 p0.L p1).Data)])]) rfl ⟨(load1 tab rfl ((Bx.cell f5.now 2).trans rfl)), q39, (load_elem (E := ET28) (i := p1) (dx := zT28) tab rfl rfl f900000.now q39), trivial⟩ fun a hk => ?_
    refine x_op hk rfl ?_
    refine op_alloc (o := o37) tab (t := 39) (cs := [.int .i64 0, .int .i64 0, .string (⟨#[]⟩ : ByteArray)]) rfl rfl 11 fun bx44 w41 o42 st43 f45 => ?_
    replace f10 := f10.st st43 (by decide)
    replace f15 := f15.st st43 (by decide)
    replace f5 := f5.st st43 (by decide)
    replace f900000 := f900000.st st43 (by decide)
    replace hs := hs.locQ st43 hob rfl
    have hk := hk.put 7 (.pointer (some ⟨bx44, 0, none⟩)) rfl
    refine x_op hk rfl ?_
    refine op_store tab hk (t := 39) (v := .agg #[.int .i64 ((rdD zT28 p0.L p1).From), .int .i64 ((rdD zT28 p0.L p1).To), .string ((rdD zT28 p0.L p1).Data)]) (b := bx44) (k := 0) (cs' := [.int .i64 ((rdD zT28 p0.L p1).From), .int .i64 ((rdD zT28 p0.L p1).To), .string ((rdD zT28 p0.L p1).Data)]) rfl rfl rfl rfl rfl rfl f45 rfl rfl fun w46 o47 st48 f45_ => ?_
    replace f10 := f10.st st48 (by decide)
    replace f15 := f15.st st48 (by decide)
    replace f5 := f5.st st48 (by decide)
    replace f900000 := f900000.st st48 (by decide)
    replace hs := hs.locQ st48 hob rfl
    replace f45 := f45_
    refine wpListIn_nil ?_
    refine then_n ?_
    refine x_seq ?_
    refine xd_begin (o := o47) (fun W_ => (Bx bx4 47 [.int .i64 p0.Most, .int .i64 p0.Lost, .slice (some ad40) (p0.L).length cp0_0]) W_ ∧ True) mixed rfl rfl fun w124 st125 => ?_
    replace f10 := f10.st st125 (by decide)
    replace f15 := f15.st st125 (by decide)
    replace f45 := f45.st st125 (by decide)
    replace f5 := f5.st st125 (by decide)
    replace f900000 := f900000.st st125 (by decide)
    replace hs := hs.locQ st125 hob rfl
    obtain ⟨q126, H⟩ := ifS H
    obtain ⟨q127, H⟩ := ifS H
    obtain ⟨A128, c129, ak131, f130, hc132⟩ := ask_cut (P := Try.prog) tab (t := 45) rfl rfl f900000 hcp0_0 none (some (.int .i64 p1)) rfl ⟨q126, (by have := q127; have := hcp0_0; omega), trivial⟩ (by have := q126; have := q127; omega) (by have := q126; have := q127; omega)
    obtain ⟨q133, H⟩ := ifS H
    obtain ⟨q134, H⟩ := ifS H
    obtain ⟨A135, c136, ak138, f137, hc139⟩ := ask_cut (P := Try.prog) tab (t := 45) rfl rfl f900000 hcp0_0 (some (.int .i64 (IntKind.wrap .i64 (p1 + 1)))) none rfl ⟨q133, (by have := q134; omega), trivial⟩ (by have := q133; have := q134; omega) (Nat.le_refl _)
    refine xd_take tab hk (k := 5) (is := [1, 2, 3, 4, 6, 7, 8, 9, 10]) (ls' := #[false, true, true, true, true, false, true, true, true, true, true, false, false, false]) (lv := [.slice (some ad40) (p0.L).length cp0_0, .slice A128 ((List.drop 0 (List.take (Int.toNat p1) p0.L))).length c129, .slice (some ad40) (p0.L).length cp0_0, .slice A135 ((List.drop (Int.toNat (IntKind.wrap .i64 (p1 + 1))) (List.take (p0.L).length p0.L))).length c136]) (ks := [2, 4, 5, 7, 28, 34]) (e' := [(2, .pointer (some ⟨bx4, 0, none⟩)), (4, .pointer (some ⟨bx9, 0, none⟩)), (5, .pointer (some ⟨bx14, 0, none⟩)), (7, .pointer (some ⟨bx44, 0, none⟩)), (28, .slice A128 ((List.drop 0 (List.take (Int.toNat p1) p0.L))).length c129), (34, .slice A135 ((List.drop (Int.toNat (IntKind.wrap .i64 (p1 + 1))) (List.take (p0.L).length p0.L))).length c136)]) (by kernel_rfl) rfl rfl (by kernel_rfl) (np_then np_body) ⟨f5.now, trivial⟩ (fun W_ hS => ⟨(load1 tab rfl ((Bx.cell hS.1 2).trans rfl)), (ak131 rfl rfl rfl _), (load1 tab rfl ((Bx.cell hS.1 2).trans rfl)), (ak138 rfl rfl rfl _), trivial⟩) fun a hk => ?_
    refine xd_op hk (i := 0) (by kernel_rfl) rfl rfl ?_
    refine op_slice (o := o47) tab hk (vs := []) (cs := []) rfl rfl rfl rfl rfl rfl rfl rfl rfl 14 fun bx143 w140 o141 st142 f144 => ?_
    replace f10 := f10.st st142 (by decide)
    replace f130 := f130.st st142 (by decide)
    replace f137 := f137.st st142 (by decide)
    replace f15 := f15.st st142 (by decide)
    replace f45 := f45.st st142 (by decide)
    replace f5 := f5.st st142 (by decide)
    replace f900000 := f900000.st st142 (by decide)
    replace hs := hs.locQ st142 hob rfl
    have f145 : Ft (Own ET28 39 (.slice (some ⟨bx143, 0, none⟩) (([] : List T28)).length 0) ([] : List T28)) w140 o141 14 := f144.imp fun _ h_ => Own.of_box h_ rfl (by simp)
    have hk := hk.put 24 (.slice (some ⟨bx143, 0, none⟩) (([] : List T28)).length 0) rfl
    refine ⟨.inr ⟨f5.now, trivial⟩, ?_⟩
    refine xd_op hk (i := 5) (by kernel_rfl) rfl rfl ?_
    obtain ⟨q149, H⟩ := ifS H
    refine op_append (o := o141) (E := ET28) (xs := ([] : List T28)) (ys := (List.drop 0 (List.take (Int.toNat p1) p0.L))) tab hk rfl rfl rfl rfl rfl rfl rfl f145 f130.now q149 fun A150 c151 w146 o147 st148 f152 hc153 => ?_
    replace f10 := f10.st st148 (by decide)
    replace f130 := f130.st st148 (by decide)
    replace f137 := f137.st st148 (by decide)
    replace f15 := f15.st st148 (by decide)
    replace f45 := f45.st st148 (by decide)
    replace f5 := f5.st st148 (by decide)
    replace f900000 := f900000.st st148 (by decide)
    replace hs := hs.locQ st148 hob rfl
    have hk := hk.put 29 (.slice A150 ((([] : List T28) ++ (List.drop 0 (List.take (Int.toNat p1) p0.L)))).length c151) rfl
    refine ⟨.inr ⟨f5.now, trivial⟩, ?_⟩
    refine xd_op hk (i := 11) (by kernel_rfl) rfl rfl ?_
    obtain ⟨q157, H⟩ := ifS H
    refine op_append (o := o147) (E := ET28) (xs := (([] : List T28) ++ (List.drop 0 (List.take (Int.toNat p1) p0.L)))) (ys := (List.drop (Int.toNat (IntKind.wrap .i64 (p1 + 1))) (List.take (p0.L).length p0.L))) tab hk rfl rfl rfl rfl rfl rfl rfl f152 f137.now q157 fun A158 c159 w154 o155 st156 f160 hc161 => ?_
    replace f10 := f10.st st156 (by decide)
    replace f130 := f130.st st156 (by decide)
    replace f137 := f137.st st156 (by decide)
    replace f15 := f15.st st156 (by decide)
    replace f45 := f45.st st156 (by decide)
    replace f5 := f5.st st156 (by decide)
    replace f900000 := f900000.st st156 (by decide)
    replace hs := hs.locQ st156 hob rfl
    have hk := hk.put 35 (.slice A158 (((([] : List T28) ++ (List.drop 0 (List.take (Int.toNat p1) p0.L))) ++ (List.drop (Int.toNat (IntKind.wrap .i64 (p1 + 1))) (List.take (p0.L).length p0.L)))).length c159) rfl
    refine ⟨.inr ⟨f5.now, trivial⟩, ?_⟩
    refine xd_take tab hk (k := 1) (is := [12]) (ls' := #[true, true, true, true, true, true, true, true, true, true, true, true, true, false]) (lv := []) (ks := [2, 4, 5, 7, 35, 36]) (e' := [(2, .pointer (some ⟨bx4, 0, none⟩)), (4, .pointer (some ⟨bx9, 0, none⟩)), (5, .pointer (some ⟨bx14, 0, none⟩)), (7, .pointer (some ⟨bx44, 0, none⟩)), (35, .slice A158 (((([] : List T28) ++ (List.drop 0 (List.take (Int.toNat p1) p0.L))) ++ (List.drop (Int.toNat (IntKind.wrap .i64 (p1 + 1))) (List.take (p0.L).length p0.L)))).length c159), (36, .pointer (some ((⟨bx4, 0, none⟩ : Addr).add 2)))]) (by kernel_rfl) rfl rfl (by kernel_rfl) (np_then np_body) ⟨f5.now, trivial⟩ (fun W_ hS => trivial) fun a hk => ?_
    refine xd_op hk (i := 13) (by kernel_rfl) rfl rfl ?_
    refine op_store tab hk (t := 45) (v := .slice A158 (((([] : List T28) ++ (List.drop 0 (List.take (Int.toNat p1) p0.L))) ++ (List.drop (Int.toNat (IntKind.wrap .i64 (p1 + 1))) (List.take (p0.L).length p0.L)))).length c159) (b := bx4) (k := 2) (cs' := [.int .i64 p0.Most, .int .i64 p0.Lost, .slice A158 (((([] : List T28) ++ (List.drop 0 (List.take (Int.toNat p1) p0.L))) ++ (List.drop (Int.toNat (IntKind.wrap .i64 (p1 + 1))) (List.take (p0.L).length p0.L)))).length c159]) rfl rfl rfl rfl rfl rfl f5 rfl rfl fun w162 o163 st164 f5_ => ?_
    replace f10 := f10.st st164 (by decide)
    replace f130 := f130.st st164 (by decide)
    replace f137 := f137.st st164 (by decide)
    replace f15 := f15.st st164 (by decide)
    replace f160 := f160.st st164 (by decide)
    replace f45 := f45.st st164 (by decide)
    replace f900000 := f900000.st st164 (by decide)
    replace hs := hs.locQ st164 hob rfl
    replace f5 := f5_
    refine ⟨.inl (by kernel_rfl), ?_⟩
    refine xd_done (by kernel_rfl) ?_
    refine then_n ?_
    refine x_seq ?_
    refine xd_begin (o := o163) (fun W_ => (Bx bx44 39 [.int .i64 ((rdD zT28 p0.L p1).From), .int .i64 ((rdD zT28 p0.L p1).To), .string ((rdD zT28 p0.L p1).Data)]) W_ ∧ (Bx bx4 47 [.int .i64 p0.Most, .int .i64 p0.Lost, .slice A158 (((([] : List T28) ++ (List.drop 0 (List.take (Int.toNat p1) p0.L))) ++ (List.drop (Int.toNat (IntKind.wrap .i64 (p1 + 1))) (List.take (p0.L).length p0.L)))).length c159]) W_ ∧ True) mixed rfl rfl fun w177 st178 => ?_
    replace f10 := f10.st st178 (by decide)
    replace f15 := f15.st st178 (by decide)
    replace f160 := f160.st st178 (by decide)
    replace f45 := f45.st st178 (by decide)
    replace f5 := f5.st st178 (by decide)
    replace hs := hs.locQ st178 hob rfl
    refine xd_take tab hk (k := 3) (is := [0, 1]) (ls' := #[true, true, false, false, false]) (lv := [.agg #[.int .i64 p0.Most, .int .i64 p0.Lost, .slice A158 (((([] : List T28) ++ (List.drop 0 (List.take (Int.toNat p1) p0.L))) ++ (List.drop (Int.toNat (IntKind.wrap .i64 (p1 + 1))) (List.take (p0.L).length p0.L)))).length c159], .agg #[.int .i64 ((rdD zT28 p0.L p1).From), .int .i64 ((rdD zT28 p0.L p1).To), .string ((rdD zT28 p0.L p1).Data)]]) (ks := [4, 5, 37, 38]) (e' := [(4, .pointer (some ⟨bx9, 0, none⟩)), (5, .pointer (some ⟨bx14, 0, none⟩)), (37, .agg #[.int .i64 p0.Most, .int .i64 p0.Lost, .slice A158 (((([] : List T28) ++ (List.drop 0 (List.take (Int.toNat p1) p0.L))) ++ (List.drop (Int.toNat (IntKind.wrap .i64 (p1 + 1))) (List.take (p0.L).length p0.L)))).length c159]), (38, .agg #[.int .i64 ((rdD zT28 p0.L p1).From), .int .i64 ((rdD zT28 p0.L p1).To), .string ((rdD zT28 p0.L p1).Data)])]) (by kernel_rfl) rfl rfl (by kernel_rfl) (np_then np_body) ⟨f45.now, f5.now, trivial⟩ (fun W_ hS => ⟨(load_box tab rfl rfl hS.2.1 (k := 0) rfl rfl), (load_box tab rfl rfl hS.1 (k := 0) rfl rfl), trivial⟩) fun a hk => ?_
    refine xd_op hk (i := 2) (by kernel_rfl) rfl rfl ?_
    refine op_store tab hk (t := 47) (v := .agg #[.int .i64 p0.Most, .int .i64 p0.Lost, .slice A158 (((([] : List T28) ++ (List.drop 0 (List.take (Int.toNat p1) p0.L))) ++ (List.drop (Int.toNat (IntKind.wrap .i64 (p1 + 1))) (List.take (p0.L).length p0.L)))).length c159]) (b := bx9) (k := 0) (cs' := [.int .i64 p0.Most, .int .i64 p0.Lost, .slice A158 (((([] : List T28) ++ (List.drop 0 (List.take (Int.toNat p1) p0.L))) ++ (List.drop (Int.toNat (IntKind.wrap .i64 (p1 + 1))) (List.take (p0.L).length p0.L)))).length c159]) rfl rfl rfl rfl rfl rfl f10 rfl rfl fun w179 o180 st181 f10_ => ?_
    replace f15 := f15.st st181 (by decide)
    replace f160 := f160.st st181 (by decide)
    replace f45 := f45.st st181 (by decide)
    replace f5 := f5.st st181 (by decide)
    replace hs := hs.locQ st181 hob rfl
    replace f10 := f10_
    refine ⟨.inr ⟨f45.now, f5.now, trivial⟩, ?_⟩
    refine xd_op hk (i := 3) (by kernel_rfl) rfl rfl ?_
    refine op_store tab hk (t := 39) (v := .agg #[.int .i64 ((rdD zT28 p0.L p1).From), .int .i64 ((rdD zT28 p0.L p1).To), .string ((rdD zT28 p0.L p1).Data)]) (b := bx14) (k := 0) (cs' := [.int .i64 ((rdD zT28 p0.L p1).From), .int .i64 ((rdD zT28 p0.L p1).To), .string ((rdD zT28 p0.L p1).Data)]) rfl rfl rfl rfl rfl rfl f15 rfl rfl fun w182 o183 st184 f15_ => ?_
    replace f10 := f10.st st184 (by decide)
    replace f160 := f160.st st184 (by decide)
    replace f45 := f45.st st184 (by decide)
    replace f5 := f5.st st184 (by decide)
    replace hs := hs.locQ st184 hob rfl
    replace f15 := f15_
    refine ⟨.inr ⟨f45.now, f5.now, trivial⟩, ?_⟩
    refine xd_take tab hk (k := 0) (is := [4]) (ls' := #[true, true, true, true, true]) (lv := []) (ks := [4, 5, 6]) (e' := [(4, .pointer (some ⟨bx9, 0, none⟩)), (5, .pointer (some ⟨bx14, 0, none⟩)), (6, .bool true)]) (by kernel_rfl) rfl rfl (by kernel_rfl) (np_then np_body) ⟨f45.now, f5.now, trivial⟩ (fun W_ hS => trivial) fun a hk => ?_
    refine xd_done (by kernel_rfl) ?_
    refine then_n ?_
    refine wpIn_ret ?_
    obtain rfl := Option.some.inj H
    exact x_retG hk (rs := [.cell 4 47, .cell 5 39, .tmp 6]) (vs := [.agg #[.int .i64 p0.Most, .int .i64 p0.Lost, .slice A158 (((([] : List T28) ++ (List.drop 0 (List.take (Int.toNat p1) p0.L))) ++ (List.drop (Int.toNat (IntKind.wrap .i64 (p1 + 1))) (List.take (p0.L).length p0.L)))).length c159], .agg #[.int .i64 ((rdD zT28 p0.L p1).From), .int .i64 ((rdD zT28 p0.L p1).To), .string ((rdD zT28 p0.L p1).Data)], .bool true]) rfl ⟨⟨_, rfl, load_box tab rfl rfl f10.now (k := 0) rfl rfl⟩, ⟨_, rfl, load_box tab rfl rfl f15.now (k := 0) rfl rfl⟩, rfl, trivial⟩ ⟨fun b_ => if b_ < w.heap.size then o b_ else (fun l_ => if l_ = 14 then Lp0_0 else 0) (o183 b_), A158, c159, rfl, hs.closeQ (Lm := []) (Sh := [Lp0_0]) hoa rfl (fun l_ => if l_ = 14 then Lp0_0 else 0), ((hs.closeM_ft (o := o) (ρ := fun l_ => if l_ = 14 then Lp0_0 else 0) f160 (lab_none hob rfl) rfl).imp fun _ h_ => Own.rd h_), hc161⟩
  refine x_mid (fun a_ w_ => ∃ o192 : Nat → Nat, ∃ x193 : Bool, Kn 39 a_ [(1, .int .i64 p1), (2, .pointer (some ⟨bx4, 0, none⟩)), (4, .pointer (some ⟨bx9, 0, none⟩)), (5, .pointer (some ⟨bx14, 0, none⟩)), (16, .bool x193)] ∧ St [] w oi w_ o192 ∧ Ft (Bx bx9 47 [.int .i64 0, .int .i64 0, .slice none 0 0]) w_ o192 16 ∧ Ft (Bx bx14 39 [.int .i64 0, .int .i64 0, .string (⟨#[]⟩ : ByteArray)]) w_ o192 17 ∧ Ft (Bx bx4 47 [.int .i64 p0.Most, .int .i64 p0.Lost, .slice Ap0_0 (p0.L).length cp0_0]) w_ o192 15 ∧ Ft (RdC ET28 Ap0_0 p0.L) w_ o192 1 ∧ tidewrackref25_Take_j2 p0 p1 x193 = some r) ?_ ?_
  rotate_left
  · rintro a w194 ⟨o192, x193, hk, hs, f10, f15, f5, f900000, H⟩
    rw [tidewrackref25_Take_j2] at H
    cases b195 : x193
    · rw [b195] at hk H
      replace H := bifF H
      refine x_if hk (b := false) rfl ?_
      refine (show Code.wpIn _ _ _ _ _ _ _ from ?_)
      refine wpIn_skip ?_
      refine then_n ?_
      exact ⟨(fun b_ => (fun l_ => if l_ = 15 then 8 else if l_ = 16 then 9 else if l_ = 17 then 10 else l_) (o192 b_)), (by exact Kn.pick (ks := [1, 2, 4, 5]) hk rfl), (hs.relabM hob (fun l_ => if l_ = 15 then 8 else if l_ = 16 then 9 else if l_ = 17 then 10 else l_) (by decide)), (f10.relab (fun l_ => if l_ = 15 then 8 else if l_ = 16 then 9 else if l_ = 17 then 10 else l_) rfl), (f15.relab (fun l_ => if l_ = 15 then 8 else if l_ = 16 then 9 else if l_ = 17 then 10 else l_) rfl), (f5.relab (fun l_ => if l_ = 15 then 8 else if l_ = 16 then 9 else if l_ = 17 then 10 else l_) rfl), (f900000.relab (fun l_ => if l_ = 15 then 8 else if l_ = 16 then 9 else if l_ = 17 then 10 else l_) rfl), H⟩
    · rw [b195] at hk H
      replace H := bifT H
      refine x_if hk (b := true) rfl ?_
      refine (show Code.wpIn _ _ _ _ _ _ _ from ?_)
      refine x_seq ?_
      refine wpIn_region_lit ?_
      refine x_run tab hk (k := 2) (lv := [.agg #[.int .i64 p0.Most, .int .i64 p0.Lost, .slice Ap0_0 (p0.L).length cp0_0]]) (ks := [4, 5, 17, 18]) (e' := [(4, .pointer (some ⟨bx9, 0, none⟩)), (5, .pointer (some ⟨bx14, 0, none⟩)), (17, .agg #[.int .i64 p0.Most, .int .i64 p0.Lost, .slice Ap0_0 (p0.L).length cp0_0]), (18, .agg #[.int .i64 0, .int .i64 0, .string (⟨#[]⟩ : ByteArray)])]) rfl ⟨(load_box tab rfl rfl f5.now (k := 0) rfl rfl), trivial⟩ fun a hk => ?_
      refine x_op hk rfl ?_
      refine op_store tab hk (t := 47) (v := .agg #[.int .i64 p0.Most, .int .i64 p0.Lost, .slice Ap0_0 (p0.L).length cp0_0]) (b := bx9) (k := 0) (cs' := [.int .i64 p0.Most, .int .i64 p0.Lost, .slice Ap0_0 (p0.L).length cp0_0]) rfl rfl rfl rfl rfl rfl f10 rfl rfl fun w196 o197 st198 f10_ => ?_
      replace f15 := f15.st st198 (by decide)
      replace f900000 := f900000.st st198 (by decide)
      replace hs := hs.locQ st198 hob rfl
      replace f10 := f10_
      refine x_op hk rfl ?_
      refine op_store tab hk (t := 39) (v := .agg #[.int .i64 0, .int .i64 0, .string (⟨#[]⟩ : ByteArray)]) (b := bx14) (k := 0) (cs' := [.int .i64 0, .int .i64 0, .string (⟨#[]⟩ : ByteArray)]) rfl rfl rfl rfl rfl rfl f15 rfl rfl fun w199 o200 st201 f15_ => ?_
      replace f10 := f10.st st201 (by decide)
      replace f900000 := f900000.st st201 (by decide)
      replace hs := hs.locQ st201 hob rfl
      replace f15 := f15_
      refine x_run tab hk (k := 1) (lv := []) (ks := [4, 5, 6]) (e' := [(4, .pointer (some ⟨bx9, 0, none⟩)), (5, .pointer (some ⟨bx14, 0, none⟩)), (6, .bool false)]) rfl trivial fun a hk => ?_
      refine wpListIn_nil ?_
      refine then_n ?_
      refine wpIn_ret ?_
      refine then_r ?_
      obtain rfl := Option.some.inj H
      exact x_retG hk (rs := [.cell 4 47, .cell 5 39, .tmp 6]) (vs := [.agg #[.int .i64 p0.Most, .int .i64 p0.Lost, .slice Ap0_0 (p0.L).length cp0_0], .agg #[.int .i64 0, .int .i64 0, .string (⟨#[]⟩ : ByteArray)], .bool false]) rfl ⟨⟨_, rfl, load_box tab rfl rfl f10.now (k := 0) rfl rfl⟩, ⟨_, rfl, load_box tab rfl rfl f15.now (k := 0) rfl rfl⟩, rfl, trivial⟩ ⟨fun b_ => if b_ < w.heap.size then o b_ else (fun l_ => if l_ = 1 then Lp0_0 else 0) (o200 b_), Ap0_0, cp0_0, rfl, hs.closeQ (Lm := []) (Sh := [Lp0_0]) hoa rfl (fun l_ => if l_ = 1 then Lp0_0 else 0), hs.closeM_ft (o := o) (ρ := fun l_ => if l_ = 1 then Lp0_0 else 0) f900000 (lab_at hoa (i := 0) rfl) rfl, hcp0_0⟩
  refine wpIn_region_lit ?_
  refine x_run tab hk (k := 3) (lv := []) (ks := [1, 2, 4, 5, 10]) (e' := [(1, .int .i64 p1), (2, .pointer (some ⟨bx4, 0, none⟩)), (4, .pointer (some ⟨bx9, 0, none⟩)), (5, .pointer (some ⟨bx14, 0, none⟩)), (10, .bool (decide (p1 < (0 : Int))))]) rfl trivial fun a hk => ?_
  cases b202 : (decide (p1 < (0 : Int)))
  · rw [b202] at hk H
    replace H := bifF H
    refine x_run tab hk (k := 6) (lv := [.slice Ap0_0 (p0.L).length cp0_0]) (ks := [1, 2, 4, 5, 16]) (e' := [(1, .int .i64 p1), (2, .pointer (some ⟨bx4, 0, none⟩)), (4, .pointer (some ⟨bx9, 0, none⟩)), (5, .pointer (some ⟨bx14, 0, none⟩)), (16, .bool (decide (p1 ≥ ((p0.L).length : Int))))]) rfl ⟨(load1 tab rfl ((Bx.cell f5.now 2).trans rfl)), trivial⟩ fun a hk => ?_
    refine wpListIn_nil ?_
    refine then_n ?_
    exact ⟨(fun b_ => (fun l_ => if l_ = 2 then 15 else if l_ = 3 then 16 else if l_ = 4 then 17 else l_) (o12 b_)), (decide (p1 ≥ ((p0.L).length : Int))), (by exact Kn.pick (ks := [1, 2, 4, 5, 16]) hk rfl), (hs.relabM hob (fun l_ => if l_ = 2 then 15 else if l_ = 3 then 16 else if l_ = 4 then 17 else l_) (by decide)), (f10.relab (fun l_ => if l_ = 2 then 15 else if l_ = 3 then 16 else if l_ = 4 then 17 else l_) rfl), (f15.relab (fun l_ => if l_ = 2 then 15 else if l_ = 3 then 16 else if l_ = 4 then 17 else l_) rfl), (f5.relab (fun l_ => if l_ = 2 then 15 else if l_ = 3 then 16 else if l_ = 4 then 17 else l_) rfl), (f900000.relab (fun l_ => if l_ = 2 then 15 else if l_ = 3 then 16 else if l_ = 4 then 17 else l_) rfl), H⟩
  · rw [b202] at hk H
    replace H := bifT H
    refine x_run tab hk (k := 6) (lv := []) (ks := [1, 2, 4, 5, 16]) (e' := [(1, .int .i64 p1), (2, .pointer (some ⟨bx4, 0, none⟩)), (4, .pointer (some ⟨bx9, 0, none⟩)), (5, .pointer (some ⟨bx14, 0, none⟩)), (16, .bool true)]) rfl trivial fun a hk => ?_
    refine wpListIn_nil ?_
    refine then_n ?_
    exact ⟨(fun b_ => (fun l_ => if l_ = 2 then 15 else if l_ = 3 then 16 else if l_ = 4 then 17 else l_) (o12 b_)), true, (by exact Kn.pick (ks := [1, 2, 4, 5, 16]) hk rfl), (hs.relabM hob (fun l_ => if l_ = 2 then 15 else if l_ = 3 then 16 else if l_ = 4 then 17 else l_) (by decide)), (f10.relab (fun l_ => if l_ = 2 then 15 else if l_ = 3 then 16 else if l_ = 4 then 17 else l_) rfl), (f15.relab (fun l_ => if l_ = 2 then 15 else if l_ = 3 then 16 else if l_ = 4 then 17 else l_) rfl), (f5.relab (fun l_ => if l_ = 2 then 15 else if l_ = 3 then 16 else if l_ = 4 then 17 else l_) rfl), (f900000.relab (fun l_ => if l_ = 2 then 15 else if l_ = 3 then 16 else if l_ = 4 then 17 else l_) rfl), H⟩

/-! tidewrack/tidewrackref25.Lose -/
theorem tidewrackref25_Lose_calls (Ap0_0 : Option Addr) (cp0_0 : Nat) (p0 : T46) (p1 : Int) (w : World) (o : Nat → Nat) (Lp0_0 : Nat) (hp0_0 : Ft (RdC ET28 Ap0_0 p0.L) w o Lp0_0) (hcp0_0 : (p0.L).length ≤ cp0_0) (hd0 : ([Lp0_0] : List Nat).Nodup) (r : T46 × Bool) (H : tidewrackref25_Lose p0 p1 = some r) :
    Calls Try.prog 28 #[.agg #[.int .i64 p0.Most, .int .i64 p0.Lost, .slice Ap0_0 (p0.L).length cp0_0], .int .i64 p1] w (Ret fun v_ w' => ∃ o' : Nat → Nat, ∃ A0 : Option Addr, ∃ c0 : Nat, v_ = .tuple #[.agg #[.int .i64 r.1.Most, .int .i64 r.1.Lost, .slice A0 (r.1.L).length c0], .bool r.2] ∧ St [] w o w' o' ∧ Ft (RdC ET28 A0 (r.1.L)) w' o' Lp0_0 ∧ (r.1.L).length ≤ c0) := by
  refine x_enter (vs := [.agg #[.int .i64 p0.Most, .int .i64 p0.Lost, .slice Ap0_0 (p0.L).length cp0_0], .int .i64 p1]) Try.func28 rfl rfl rfl fun a hk => ?_
  obtain ⟨oi, hs0, h0, h1, hob, hoz, hoa⟩ := St.startM2 w o (m := 1) hd0 rfl
  have hs := hs0 []
  have f900000 := h1 0 1 hp0_0 rfl rfl
  clear h0 h1 hs0
  rw [tidewrackref25_Lose] at H
  refine x_seq ?_
  refine wpIn_region_lit ?_
  refine x_op hk rfl ?_
  refine op_box (o := oi) (t := 47) (v := .agg #[.int .i64 p0.Most, .int .i64 p0.Lost, .slice Ap0_0 (p0.L).length cp0_0]) (cs := [.int .i64 p0.Most, .int .i64 p0.Lost, .slice Ap0_0 (p0.L).length cp0_0]) hk rfl rfl 2 fun bx4 w1 o2 st3 f5 => ?_
  replace f900000 := f900000.st st3 (by decide)
  replace hs := hs.locQ st3 hob rfl
  have hk := hk.put 2 (.pointer (some ⟨bx4, 0, none⟩)) rfl
  refine x_op hk rfl ?_
  refine op_alloc (o := o2) tab (t := 47) (cs := [.int .i64 0, .int .i64 0, .slice none 0 0]) rfl rfl 3 fun bx9 w6 o7 st8 f10 => ?_
  replace f5 := f5.st st8 (by decide)
  replace f900000 := f900000.st st8 (by decide)
  replace hs := hs.locQ st8 hob rfl
  have hk := hk.put 4 (.pointer (some ⟨bx9, 0, none⟩)) rfl
  refine x_run tab hk (k := 1) (lv := []) (ks := [1, 2, 4]) (e' := [(1, .int .i64 p1), (2, .pointer (some ⟨bx4, 0, none⟩)), (4, .pointer (some ⟨bx9, 0, none⟩))]) rfl trivial fun a hk => ?_
  refine wpListIn_nil ?_
  refine then_n ?_
  refine x_seq ?_
  refine wpIn_region_lit ?_
  refine x_run tab hk (k := 2) (lv := [.agg #[.int .i64 p0.Most, .int .i64 p0.Lost, .slice Ap0_0 (p0.L).length cp0_0]]) (ks := [4, 10, 11]) (e' := [(4, .pointer (some ⟨bx9, 0, none⟩)), (10, .agg #[.int .i64 p0.Most, .int .i64 p0.Lost, .slice Ap0_0 (p0.L).length cp0_0]), (11, .int .i64 p1)]) rfl ⟨(load_box tab rfl rfl f5.now (k := 0) rfl rfl), trivial⟩ fun a hk => ?_
  refine x_op hk rfl ?_
  obtain ⟨t14, hc15, H⟩ := bindS H
  refine op_call hk ent_27 (vs := [.agg #[.int .i64 p0.Most, .int .i64 p0.Lost, .slice Ap0_0 (p0.L).length cp0_0], .int .i64 p1]) rfl (tidewrackref25_Take_calls Ap0_0 cp0_0 p0 p1 _ o7 1 f900000 hcp0_0 (by decide)   _ hc15) ?_
  rintro _ w16 ⟨o17, A19, c20, rfl, st18, f21, hc22⟩
  replace f10 := f10.st st18 (by decide)
  replace f900000 := f900000.st st18 (by decide)
  replace hs := hs.locQ st18 hob rfl
  have hk := hk.put 12 (.tuple #[.agg #[.int .i64 t14.1.Most, .int .i64 t14.1.Lost, .slice A19 (t14.1.L).length c20], .agg #[.int .i64 t14.2.1.From, .int .i64 t14.2.1.To, .string t14.2.1.Data], .bool t14.2.2]) rfl
  refine x_run tab hk (k := 4) (lv := []) (ks := [4, 13, 14, 15]) (e' := [(4, .pointer (some ⟨bx9, 0, none⟩)), (13, .agg #[.int .i64 t14.1.Most, .int .i64 t14.1.Lost, .slice A19 (t14.1.L).length c20]), (14, .agg #[.int .i64 t14.2.1.From, .int .i64 t14.2.1.To, .string t14.2.1.Data]), (15, .bool t14.2.2)]) rfl trivial fun a hk => ?_
  refine x_op hk rfl ?_
  refine op_alloc (o := o17) tab (t := 47) (cs := [.int .i64 0, .int .i64 0, .slice none 0 0]) rfl rfl 4 fun bx26 w23 o24 st25 f27 => ?_
  replace f10 := f10.st st25 (by decide)
  replace f21 := f21.st st25 (by decide)
  replace hs := hs.locQ st25 hob rfl
  have hk := hk.put 6 (.pointer (some ⟨bx26, 0, none⟩)) rfl
  refine x_op hk rfl ?_
  refine op_alloc (o := o24) tab (t := 39) (cs := [.int .i64 0, .int .i64 0, .string (⟨#[]⟩ : ByteArray)]) rfl rfl 5 fun bx31 w28 o29 st30 f32 => ?_
  replace f10 := f10.st st30 (by decide)
  replace f21 := f21.st st30 (by decide)
  replace f27 := f27.st st30 (by decide)
  replace hs := hs.locQ st30 hob rfl
  have hk := hk.put 7 (.pointer (some ⟨bx31, 0, none⟩)) rfl
  refine x_op hk rfl ?_
  refine op_store tab hk (t := 47) (v := .agg #[.int .i64 t14.1.Most, .int .i64 t14.1.Lost, .slice A19 (t14.1.L).length c20]) (b := bx26) (k := 0) (cs' := [.int .i64 t14.1.Most, .int .i64 t14.1.Lost, .slice A19 (t14.1.L).length c20]) rfl rfl rfl rfl rfl rfl f27 rfl rfl fun w33 o34 st35 f27_ => ?_
  replace f10 := f10.st st35 (by decide)
  replace f21 := f21.st st35 (by decide)
  replace f32 := f32.st st35 (by decide)
  replace hs := hs.locQ st35 hob rfl
  replace f27 := f27_
  refine x_op hk rfl ?_
  refine op_store tab hk (t := 39) (v := .agg #[.int .i64 t14.2.1.From, .int .i64 t14.2.1.To, .string t14.2.1.Data]) (b := bx31) (k := 0) (cs' := [.int .i64 t14.2.1.From, .int .i64 t14.2.1.To, .string t14.2.1.Data]) rfl rfl rfl rfl rfl rfl f32 rfl rfl fun w36 o37 st38 f32_ => ?_
  replace f10 := f10.st st38 (by decide)
  replace f21 := f21.st st38 (by decide)
  replace f27 := f27.st st38 (by decide)
  replace hs := hs.locQ st38 hob rfl
  replace f32 := f32_
  refine x_run tab hk (k := 1) (lv := []) (ks := [4, 6, 8]) (e' := [(4, .pointer (some ⟨bx9, 0, none⟩)), (6, .pointer (some ⟨bx26, 0, none⟩)), (8, .bool t14.2.2)]) rfl trivial fun a hk => ?_
  refine wpListIn_nil ?_
  refine then_n ?_
  refine x_seq ?_
  refine x_seq ?_
  refine wpIn_region_lit ?_
  refine x_run tab hk (k := 1) (lv := []) (ks := [4, 6, 8, 16]) (e' := [(4, .pointer (some ⟨bx9, 0, none⟩)), (6, .pointer (some ⟨bx26, 0, none⟩)), (8, .bool t14.2.2), (16, .bool t14.2.2)]) rfl trivial fun a hk => ?_
  refine wpListIn_nil ?_
  refine then_n ?_
  cases b39 : t14.2.2
  · rw [b39] at hk H
    replace H := bifF H
    refine x_if hk (b := false) rfl ?_
    refine (show Code.wpIn _ _ _ _ _ _ _ from ?_)
    refine wpIn_skip ?_
    refine then_n ?_
    refine x_seq ?_
    refine wpIn_region_lit ?_
    refine x_run tab hk (k := 2) (lv := [.agg #[.int .i64 t14.1.Most, .int .i64 t14.1.Lost, .slice A19 (t14.1.L).length c20]]) (ks := [4, 21, 22]) (e' := [(4, .pointer (some ⟨bx9, 0, none⟩)), (21, .agg #[.int .i64 t14.1.Most, .int .i64 t14.1.Lost, .slice A19 (t14.1.L).length c20]), (22, .bool false)]) rfl ⟨(load_box tab rfl rfl f27.now (k := 0) rfl rfl), trivial⟩ fun a hk => ?_
    refine x_op hk rfl ?_
    refine op_store tab hk (t := 47) (v := .agg #[.int .i64 t14.1.Most, .int .i64 t14.1.Lost, .slice A19 (t14.1.L).length c20]) (b := bx9) (k := 0) (cs' := [.int .i64 t14.1.Most, .int .i64 t14.1.Lost, .slice A19 (t14.1.L).length c20]) rfl rfl rfl rfl rfl rfl f10 rfl rfl fun w40 o41 st42 f10_ => ?_
    replace f21 := f21.st st42 (by decide)
    replace hs := hs.locQ st42 hob rfl
    replace f10 := f10_
    refine x_run tab hk (k := 1) (lv := []) (ks := [4, 5]) (e' := [(4, .pointer (some ⟨bx9, 0, none⟩)), (5, .bool false)]) rfl trivial fun a hk => ?_
    refine wpListIn_nil ?_
    refine then_n ?_
    refine wpIn_ret ?_
    obtain rfl := Option.some.inj H
    exact x_retG hk (rs := [.cell 4 47, .tmp 5]) (vs := [.agg #[.int .i64 t14.1.Most, .int .i64 t14.1.Lost, .slice A19 (t14.1.L).length c20], .bool false]) rfl ⟨⟨_, rfl, load_box tab rfl rfl f10.now (k := 0) rfl rfl⟩, rfl, trivial⟩ ⟨fun b_ => if b_ < w.heap.size then o b_ else (fun l_ => if l_ = 1 then Lp0_0 else 0) (o41 b_), A19, c20, rfl, hs.closeQ (Lm := []) (Sh := [Lp0_0]) hoa rfl (fun l_ => if l_ = 1 then Lp0_0 else 0), hs.closeM_ft (o := o) (ρ := fun l_ => if l_ = 1 then Lp0_0 else 0) f21 (lab_at hoa (i := 0) rfl) rfl, hc22⟩
  · rw [b39] at hk H
    replace H := bifT H
    refine x_if hk (b := true) rfl ?_
    refine (show Code.wpIn _ _ _ _ _ _ _ from ?_)
    refine wpIn_region_lit ?_
    refine x_run tab hk (k := 4) (lv := [.int .i64 t14.1.Lost]) (ks := [4, 6, 8, 19, 20]) (e' := [(4, .pointer (some ⟨bx9, 0, none⟩)), (6, .pointer (some ⟨bx26, 0, none⟩)), (8, .bool true), (19, .int .i64 (IntKind.wrap .i64 (t14.1.Lost + 1))), (20, .pointer (some ((⟨bx26, 0, none⟩ : Addr).add 1)))]) rfl ⟨(load1 tab rfl ((Bx.cell f27.now 1).trans rfl)), trivial⟩ fun a hk => ?_
    refine x_op hk rfl ?_
    refine op_store tab hk (t := 3) (v := .int .i64 (IntKind.wrap .i64 (t14.1.Lost + 1))) (b := bx26) (k := 1) (cs' := [.int .i64 t14.1.Most, .int .i64 (IntKind.wrap .i64 (t14.1.Lost + 1)), .slice A19 (t14.1.L).length c20]) rfl rfl rfl rfl rfl rfl f27 rfl rfl fun w43 o44 st45 f27_ => ?_
    replace f10 := f10.st st45 (by decide)
    replace f21 := f21.st st45 (by decide)
    replace hs := hs.locQ st45 hob rfl
    replace f27 := f27_
    refine wpListIn_nil ?_
    refine then_n ?_
    refine x_seq ?_
    refine wpIn_region_lit ?_
    refine x_run tab hk (k := 2) (lv := [.agg #[.int .i64 t14.1.Most, .int .i64 (IntKind.wrap .i64 (t14.1.Lost + 1)), .slice A19 (t14.1.L).length c20]]) (ks := [4, 21, 22]) (e' := [(4, .pointer (some ⟨bx9, 0, none⟩)), (21, .agg #[.int .i64 t14.1.Most, .int .i64 (IntKind.wrap .i64 (t14.1.Lost + 1)), .slice A19 (t14.1.L).length c20]), (22, .bool true)]) rfl ⟨(load_box tab rfl rfl f27.now (k := 0) rfl rfl), trivial⟩ fun a hk => ?_
    refine x_op hk rfl ?_
    refine op_store tab hk (t := 47) (v := .agg #[.int .i64 t14.1.Most, .int .i64 (IntKind.wrap .i64 (t14.1.Lost + 1)), .slice A19 (t14.1.L).length c20]) (b := bx9) (k := 0) (cs' := [.int .i64 t14.1.Most, .int .i64 (IntKind.wrap .i64 (t14.1.Lost + 1)), .slice A19 (t14.1.L).length c20]) rfl rfl rfl rfl rfl rfl f10 rfl rfl fun w46 o47 st48 f10_ => ?_
    replace f21 := f21.st st48 (by decide)
    replace hs := hs.locQ st48 hob rfl
    replace f10 := f10_
    refine x_run tab hk (k := 1) (lv := []) (ks := [4, 5]) (e' := [(4, .pointer (some ⟨bx9, 0, none⟩)), (5, .bool true)]) rfl trivial fun a hk => ?_
    refine wpListIn_nil ?_
    refine then_n ?_
    refine wpIn_ret ?_
    obtain rfl := Option.some.inj H
    exact x_retG hk (rs := [.cell 4 47, .tmp 5]) (vs := [.agg #[.int .i64 t14.1.Most, .int .i64 (IntKind.wrap .i64 (t14.1.Lost + 1)), .slice A19 (t14.1.L).length c20], .bool true]) rfl ⟨⟨_, rfl, load_box tab rfl rfl f10.now (k := 0) rfl rfl⟩, rfl, trivial⟩ ⟨fun b_ => if b_ < w.heap.size then o b_ else (fun l_ => if l_ = 1 then Lp0_0 else 0) (o47 b_), A19, c20, rfl, hs.closeQ (Lm := []) (Sh := [Lp0_0]) hoa rfl (fun l_ => if l_ = 1 then Lp0_0 else 0), hs.closeM_ft (o := o) (ρ := fun l_ => if l_ = 1 then Lp0_0 else 0) f21 (lab_at hoa (i := 0) rfl) rfl, hc22⟩

/-! tidewrack/tidewrackref25.Twin -/
theorem tidewrackref25_Twin_calls (Ap0_0 : Option Addr) (cp0_0 : Nat) (p0 : T46) (p1 : Int) (w : World) (o : Nat → Nat) (Lp0_0 : Nat) (hp0_0 : Ft (RdC ET28 Ap0_0 p0.L) w o Lp0_0) (hcp0_0 : (p0.L).length ≤ cp0_0) (hd0 : ([Lp0_0] : List Nat).Nodup) (r : T46 × Bool) (H : tidewrackref25_Twin p0 p1 = some r) :
    Calls Try.prog 29 #[.agg #[.int .i64 p0.Most, .int .i64 p0.Lost, .slice Ap0_0 (p0.L).length cp0_0], .int .i64 p1] w (Ret fun v_ w' => ∃ o' : Nat → Nat, ∃ A0 : Option Addr, ∃ c0 : Nat, v_ = .tuple #[.agg #[.int .i64 r.1.Most, .int .i64 r.1.Lost, .slice A0 (r.1.L).length c0], .bool r.2] ∧ St [] w o w' o' ∧ Ft (RdC ET28 A0 (r.1.L)) w' o' Lp0_0 ∧ (r.1.L).length ≤ c0) := by
  refine x_enter (vs := [.agg #[.int .i64 p0.Most, .int .i64 p0.Lost, .slice Ap0_0 (p0.L).length cp0_0], .int .i64 p1]) Try.func29 rfl rfl rfl fun a hk => ?_
  obtain ⟨oi, hs0, h0, h1, hob, hoz, hoa⟩ := St.startM2 w o (m := 1) hd0 rfl
  have hs := hs0 []
  have f900000 := h1 0 1 hp0_0 rfl rfl
  clear h0 h1 hs0
  rw [tidewrackref25_Twin] at H
  refine x_seq ?_
  refine wpIn_region_lit ?_
  refine x_op hk rfl ?_
  refine op_box (o := oi) (t := 47) (v := .agg #[.int .i64 p0.Most, .int .i64 p0.Lost, .slice Ap0_0 (p0.L).length cp0_0]) (cs := [.int .i64 p0.Most, .int .i64 p0.Lost, .slice Ap0_0 (p0.L).length cp0_0]) hk rfl rfl 2 fun bx4 w1 o2 st3 f5 => ?_
  replace f900000 := f900000.st st3 (by decide)
  replace hs := hs.locQ st3 hob rfl
  have hk := hk.put 2 (.pointer (some ⟨bx4, 0, none⟩)) rfl
  refine x_op hk rfl ?_
  refine op_alloc (o := o2) tab (t := 47) (cs := [.int .i64 0, .int .i64 0, .slice none 0 0]) rfl rfl 3 fun bx9 w6 o7 st8 f10 => ?_
  replace f5 := f5.st st8 (by decide)
  replace f900000 := f900000.st st8 (by decide)
  replace hs := hs.locQ st8 hob rfl
  have hk := hk.put 4 (.pointer (some ⟨bx9, 0, none⟩)) rfl
  refine x_run tab hk (k := 1) (lv := []) (ks := [1, 2, 4]) (e' := [(1, .int .i64 p1), (2, .pointer (some ⟨bx4, 0, none⟩)), (4, .pointer (some ⟨bx9, 0, none⟩))]) rfl trivial fun a hk => ?_
  refine wpListIn_nil ?_
  refine then_n ?_
  refine x_mid (fun a_ w_ => ∃ o29 : Nat → Nat, Kn 25 a_ [(1, .int .i64 p1), (2, .pointer (some ⟨bx4, 0, none⟩)), (4, .pointer (some ⟨bx9, 0, none⟩))] ∧ St [] w oi w_ o29 ∧ Ft (Bx bx9 47 [.int .i64 0, .int .i64 0, .slice none 0 0]) w_ o29 7 ∧ Ft (Bx bx4 47 [.int .i64 p0.Most, .int .i64 p0.Lost, .slice Ap0_0 (p0.L).length cp0_0]) w_ o29 6 ∧ Ft (RdC ET28 Ap0_0 p0.L) w_ o29 1 ∧ tidewrackref25_Twin_j1 p0 p1 = some r) ?_ ?_
  rotate_left
  · rintro a w30 ⟨o29, hk, hs, f10, f5, f900000, H⟩
    rw [tidewrackref25_Twin_j1] at H
    refine x_seq ?_
    refine xd_begin (o := o29) (fun W_ => (Bx bx4 47 [.int .i64 p0.Most, .int .i64 p0.Lost, .slice Ap0_0 (p0.L).length cp0_0]) W_ ∧ (RdC ET28 Ap0_0 p0.L) W_ ∧ True) mixed rfl rfl fun w65 st66 => ?_
    replace f10 := f10.st st66 (by decide)
    replace f5 := f5.st st66 (by decide)
    replace f900000 := f900000.st st66 (by decide)
    replace hs := hs.locQ st66 hob rfl
    obtain ⟨q67, H⟩ := ifS H
    obtain ⟨ad68, hAad68⟩ := RdC.addr f900000.now q67
    have hk_C := hk
    have f10_C := f10
    have f5_C := f5
    have f900000_C := f900000
    subst hAad68
    have hk := hk_C
    clear hk_C
    have f10 := f10_C
    clear f10_C
    have f5 := f5_C
    clear f5_C
    have f900000 := f900000_C
    clear f900000_C
    refine xd_take tab hk (k := 5) (is := [0, 1, 2, 3, 4, 5]) (ls' := #[true, true, true, true, true, true, false, false, false, false, false]) (lv := [.agg #[.int .i64 p0.Most, .int .i64 p0.Lost, .slice (some ad68) (p0.L).length cp0_0], .slice (some ad68) (p0.L).length cp0_0, .agg #[.int .i64 ((rdD zT28 p0.L p1).From), .int .i64 ((rdD zT28 p0.L p1).To), .string ((rdD zT28 p0.L p1).Data)]]) (ks := [4, 16, 21]) (e' := [(4, .pointer (some ⟨bx9, 0, none⟩)), (16, .agg #[.int .i64 p0.Most, .int .i64 p0.Lost, .slice (some ad68) (p0.L).length cp0_0]), (21, .agg #[.int .i64 ((rdD zT28 p0.L p1).From), .int .i64 ((rdD zT28 p0.L p1).To), .string ((rdD zT28 p0.L p1).Data)])]) (by kernel_rfl) rfl rfl (by kernel_rfl) (np_then np_body) ⟨f5.now, f900000.now, trivial⟩ (fun W_ hS => ⟨(load_box tab rfl rfl hS.1 (k := 0) rfl rfl), (load1 tab rfl ((Bx.cell hS.1 2).trans rfl)), q67, (load_elem (E := ET28) (i := p1) (dx := zT28) tab rfl rfl hS.2.1 q67), trivial⟩) fun a hk => ?_
    refine xd_op hk (i := 6) (by kernel_rfl) rfl rfl ?_
    obtain ⟨t72, hc73, H⟩ := bindS H
    refine op_call hk ent_34 (vs := [.agg #[.int .i64 p0.Most, .int .i64 p0.Lost, .slice (some ad68) (p0.L).length cp0_0], .agg #[.int .i64 ((rdD zT28 p0.L p1).From), .int .i64 ((rdD zT28 p0.L p1).To), .string ((rdD zT28 p0.L p1).Data)]]) rfl (tidewrackref25_put_calls (some ad68) cp0_0 p0 (rdD zT28 p0.L p1) _ o29 1 f900000 hcp0_0 (by decide)   _ hc73) ?_
    rintro _ w74 ⟨o75, A77, c78, rfl, st76, f79, hc80⟩
    replace f10 := f10.st st76 (by decide)
    replace f5 := f5.st st76 (by decide)
    replace f900000 := f900000.st st76 (by decide)
    replace hs := hs.locQ st76 hob rfl
    have hk := hk.put 22 (.tuple #[.agg #[.int .i64 t72.1.Most, .int .i64 t72.1.Lost, .slice A77 (t72.1.L).length c78], .bool t72.2]) rfl
    refine ⟨.inr ⟨f5.now, f900000.now, trivial⟩, ?_⟩
    refine xd_take tab hk (k := 2) (is := [7, 8]) (ls' := #[true, true, true, true, true, true, true, true, true, false, false]) (lv := []) (ks := [4, 23, 24]) (e' := [(4, .pointer (some ⟨bx9, 0, none⟩)), (23, .agg #[.int .i64 t72.1.Most, .int .i64 t72.1.Lost, .slice A77 (t72.1.L).length c78]), (24, .bool t72.2)]) (by kernel_rfl) rfl rfl (by kernel_rfl) (np_then np_body) ⟨f5.now, f900000.now, trivial⟩ (fun W_ hS => trivial) fun a hk => ?_
    refine xd_op hk (i := 9) (by kernel_rfl) rfl rfl ?_
    refine op_store tab hk (t := 47) (v := .agg #[.int .i64 t72.1.Most, .int .i64 t72.1.Lost, .slice A77 (t72.1.L).length c78]) (b := bx9) (k := 0) (cs' := [.int .i64 t72.1.Most, .int .i64 t72.1.Lost, .slice A77 (t72.1.L).length c78]) rfl rfl rfl rfl rfl rfl f10 rfl rfl fun w81 o82 st83 f10_ => ?_
    replace f5 := f5.st st83 (by decide)
    replace f79 := f79.st st83 (by decide)
    replace f900000 := f900000.st st83 (by decide)
    replace hs := hs.locQ st83 hob rfl
    replace f10 := f10_
    refine ⟨.inr ⟨f5.now, f900000.now, trivial⟩, ?_⟩
    refine xd_take tab hk (k := 0) (is := [10]) (ls' := #[true, true, true, true, true, true, true, true, true, true, true]) (lv := []) (ks := [4, 5]) (e' := [(4, .pointer (some ⟨bx9, 0, none⟩)), (5, .bool t72.2)]) (by kernel_rfl) rfl rfl (by kernel_rfl) (np_then np_body) ⟨f5.now, f900000.now, trivial⟩ (fun W_ hS => trivial) fun a hk => ?_
    refine xd_done (by kernel_rfl) ?_
    refine then_n ?_
    refine wpIn_ret ?_
    obtain rfl := Option.some.inj H
    exact x_retG hk (rs := [.cell 4 47, .tmp 5]) (vs := [.agg #[.int .i64 t72.1.Most, .int .i64 t72.1.Lost, .slice A77 (t72.1.L).length c78], .bool t72.2]) rfl ⟨⟨_, rfl, load_box tab rfl rfl f10.now (k := 0) rfl rfl⟩, rfl, trivial⟩ ⟨fun b_ => if b_ < w.heap.size then o b_ else (fun l_ => if l_ = 1 then Lp0_0 else 0) (o82 b_), A77, c78, rfl, hs.closeQ (Lm := []) (Sh := [Lp0_0]) hoa rfl (fun l_ => if l_ = 1 then Lp0_0 else 0), hs.closeM_ft (o := o) (ρ := fun l_ => if l_ = 1 then Lp0_0 else 0) f79 (lab_at hoa (i := 0) rfl) rfl, hc80⟩
  refine x_mid (fun a_ w_ => ∃ o91 : Nat → Nat, ∃ x92 : Bool, Kn 25 a_ [(1, .int .i64 p1), (2, .pointer (some ⟨bx4, 0, none⟩)), (4, .pointer (some ⟨bx9, 0, none⟩)), (14, .bool x92)] ∧ St [] w oi w_ o91 ∧ Ft (Bx bx9 47 [.int .i64 0, .int .i64 0, .slice none 0 0]) w_ o91 9 ∧ Ft (Bx bx4 47 [.int .i64 p0.Most, .int .i64 p0.Lost, .slice Ap0_0 (p0.L).length cp0_0]) w_ o91 8 ∧ Ft (RdC ET28 Ap0_0 p0.L) w_ o91 1 ∧ tidewrackref25_Twin_j2 p0 p1 x92 = some r) ?_ ?_
  rotate_left
  · rintro a w93 ⟨o91, x92, hk, hs, f10, f5, f900000, H⟩
    rw [tidewrackref25_Twin_j2] at H
    cases b94 : x92
    · rw [b94] at hk H
      replace H := bifF H
      refine x_if hk (b := false) rfl ?_
      refine (show Code.wpIn _ _ _ _ _ _ _ from ?_)
      refine wpIn_skip ?_
      refine then_n ?_
      exact ⟨(fun b_ => (fun l_ => if l_ = 8 then 6 else if l_ = 9 then 7 else l_) (o91 b_)), (by exact Kn.pick (ks := [1, 2, 4]) hk rfl), (hs.relabM hob (fun l_ => if l_ = 8 then 6 else if l_ = 9 then 7 else l_) (by decide)), (f10.relab (fun l_ => if l_ = 8 then 6 else if l_ = 9 then 7 else l_) rfl), (f5.relab (fun l_ => if l_ = 8 then 6 else if l_ = 9 then 7 else l_) rfl), (f900000.relab (fun l_ => if l_ = 8 then 6 else if l_ = 9 then 7 else l_) rfl), H⟩
    · rw [b94] at hk H
      replace H := bifT H
      refine x_if hk (b := true) rfl ?_
      refine (show Code.wpIn _ _ _ _ _ _ _ from ?_)
      refine x_seq ?_
      refine wpIn_region_lit ?_
      refine x_run tab hk (k := 1) (lv := [.agg #[.int .i64 p0.Most, .int .i64 p0.Lost, .slice Ap0_0 (p0.L).length cp0_0]]) (ks := [4, 15]) (e' := [(4, .pointer (some ⟨bx9, 0, none⟩)), (15, .agg #[.int .i64 p0.Most, .int .i64 p0.Lost, .slice Ap0_0 (p0.L).length cp0_0])]) rfl ⟨(load_box tab rfl rfl f5.now (k := 0) rfl rfl), trivial⟩ fun a hk => ?_
      refine x_op hk rfl ?_
      refine op_store tab hk (t := 47) (v := .agg #[.int .i64 p0.Most, .int .i64 p0.Lost, .slice Ap0_0 (p0.L).length cp0_0]) (b := bx9) (k := 0) (cs' := [.int .i64 p0.Most, .int .i64 p0.Lost, .slice Ap0_0 (p0.L).length cp0_0]) rfl rfl rfl rfl rfl rfl f10 rfl rfl fun w95 o96 st97 f10_ => ?_
      replace f900000 := f900000.st st97 (by decide)
      replace hs := hs.locQ st97 hob rfl
      replace f10 := f10_
      refine x_run tab hk (k := 1) (lv := []) (ks := [4, 5]) (e' := [(4, .pointer (some ⟨bx9, 0, none⟩)), (5, .bool false)]) rfl trivial fun a hk => ?_
      refine wpListIn_nil ?_
      refine then_n ?_
      refine wpIn_ret ?_
      refine then_r ?_
      obtain rfl := Option.some.inj H
      exact x_retG hk (rs := [.cell 4 47, .tmp 5]) (vs := [.agg #[.int .i64 p0.Most, .int .i64 p0.Lost, .slice Ap0_0 (p0.L).length cp0_0], .bool false]) rfl ⟨⟨_, rfl, load_box tab rfl rfl f10.now (k := 0) rfl rfl⟩, rfl, trivial⟩ ⟨fun b_ => if b_ < w.heap.size then o b_ else (fun l_ => if l_ = 1 then Lp0_0 else 0) (o96 b_), Ap0_0, cp0_0, rfl, hs.closeQ (Lm := []) (Sh := [Lp0_0]) hoa rfl (fun l_ => if l_ = 1 then Lp0_0 else 0), hs.closeM_ft (o := o) (ρ := fun l_ => if l_ = 1 then Lp0_0 else 0) f900000 (lab_at hoa (i := 0) rfl) rfl, hcp0_0⟩
  refine wpIn_region_lit ?_
  refine x_run tab hk (k := 3) (lv := []) (ks := [1, 2, 4, 8]) (e' := [(1, .int .i64 p1), (2, .pointer (some ⟨bx4, 0, none⟩)), (4, .pointer (some ⟨bx9, 0, none⟩)), (8, .bool (decide (p1 < (0 : Int))))]) rfl trivial fun a hk => ?_
  cases b98 : (decide (p1 < (0 : Int)))
  · rw [b98] at hk H
    replace H := bifF H
    refine x_run tab hk (k := 6) (lv := [.slice Ap0_0 (p0.L).length cp0_0]) (ks := [1, 2, 4, 14]) (e' := [(1, .int .i64 p1), (2, .pointer (some ⟨bx4, 0, none⟩)), (4, .pointer (some ⟨bx9, 0, none⟩)), (14, .bool (decide (p1 ≥ ((p0.L).length : Int))))]) rfl ⟨(load1 tab rfl ((Bx.cell f5.now 2).trans rfl)), trivial⟩ fun a hk => ?_
    refine wpListIn_nil ?_
    refine then_n ?_
    exact ⟨(fun b_ => (fun l_ => if l_ = 2 then 8 else if l_ = 3 then 9 else l_) (o7 b_)), (decide (p1 ≥ ((p0.L).length : Int))), (by exact Kn.pick (ks := [1, 2, 4, 14]) hk rfl), (hs.relabM hob (fun l_ => if l_ = 2 then 8 else if l_ = 3 then 9 else l_) (by decide)), (f10.relab (fun l_ => if l_ = 2 then 8 else if l_ = 3 then 9 else l_) rfl), (f5.relab (fun l_ => if l_ = 2 then 8 else if l_ = 3 then 9 else l_) rfl), (f900000.relab (fun l_ => if l_ = 2 then 8 else if l_ = 3 then 9 else l_) rfl), H⟩
  · rw [b98] at hk H
    replace H := bifT H
    refine x_run tab hk (k := 6) (lv := []) (ks := [1, 2, 4, 14]) (e' := [(1, .int .i64 p1), (2, .pointer (some ⟨bx4, 0, none⟩)), (4, .pointer (some ⟨bx9, 0, none⟩)), (14, .bool true)]) rfl trivial fun a hk => ?_
    refine wpListIn_nil ?_
    refine then_n ?_
    exact ⟨(fun b_ => (fun l_ => if l_ = 2 then 8 else if l_ = 3 then 9 else l_) (o7 b_)), true, (by exact Kn.pick (ks := [1, 2, 4, 14]) hk rfl), (hs.relabM hob (fun l_ => if l_ = 2 then 8 else if l_ = 3 then 9 else l_) (by decide)), (f10.relab (fun l_ => if l_ = 2 then 8 else if l_ = 3 then 9 else l_) rfl), (f5.relab (fun l_ => if l_ = 2 then 8 else if l_ = 3 then 9 else l_) rfl), (f900000.relab (fun l_ => if l_ = 2 then 8 else if l_ = 3 then 9 else l_) rfl), H⟩

/-! tidewrack/tidewrackref02.Turn -/
theorem tidewrackref02_Turn_calls (K : Nat) (p0 : ByteArray) (p1 : Int) (p2 : Int) (w : World) (o : Nat → Nat)   (r : ByteArray) (H : tidewrackref02_Turn K p0 p1 p2 = some r) :
    Calls Try.prog 35 #[.string p0, .int .i64 p1, .int .u32 p2] w (Ret fun v_ w' => ∃ o' : Nat → Nat, v_ = .string r ∧ St [] w o w' o') := by
  refine x_enter (vs := [.string p0, .int .i64 p1, .int .u32 p2]) Try.func35 rfl rfl rfl fun a hk => ?_
  obtain ⟨o0, hs, h0⟩ := St.start w o
  clear h0
  rw [tidewrackref02_Turn] at H
  refine x_seq ?_
  refine wpIn_region_lit ?_
  refine x_run tab hk (k := 1) (lv := []) (ks := [0, 1, 2]) (e' := [(0, .string p0), (1, .int .i64 p1), (2, .int .u32 p2)]) rfl trivial fun a hk => ?_
  refine wpListIn_nil ?_
  refine then_n ?_
  refine x_seq ?_
  refine wpIn_region_lit ?_
  refine x_run tab hk (k := 1) (lv := []) (ks := [1, 2, 9]) (e' := [(1, .int .i64 p1), (2, .int .u32 p2), (9, .string p0)]) rfl trivial fun a hk => ?_
  refine x_op hk rfl ?_
  refine op_bytes (o := o0) (s := p0) tab hk rfl rfl rfl rfl 1 fun A4 c5 w1 o2 st3 f6 hc7 => ?_
  replace hs := hs.loc0 st3 (by decide)
  have hk := hk.put 10 (.slice A4 ((numsOf p0)).length c5) rfl
  refine x_run tab hk (k := 1) (lv := []) (ks := [1, 2, 7]) (e' := [(1, .int .i64 p1), (2, .int .u32 p2), (7, .slice A4 ((numsOf p0)).length c5)]) rfl trivial fun a hk => ?_
  refine wpListIn_nil ?_
  refine then_n ?_
  refine x_seq ?_
  refine wpIn_region_lit ?_
  refine x_run tab hk (k := 7) (lv := []) (ks := [1, 2, 7]) (e' := [(1, .int .i64 (mxI 0 (mnI p1 (IntKind.wrap .i64 (8 * (((numsOf p0)).length : Int)))))), (2, .int .u32 p2), (7, .slice A4 ((numsOf p0)).length c5)]) rfl trivial fun a hk => ?_
  refine wpListIn_nil ?_
  refine then_n ?_
  refine x_mid (fun a_ w_ => ∃ o121 : Nat → Nat, ∃ A122 : Option Addr, ∃ c123 : Nat, ∃ l124 : List Int, Kn 51 a_ [(7, .slice A122 (l124).length c123)] ∧ St [] w (fun _ => 0) w_ o121 ∧ Ft (Wr (encInt .u8) 5 (.slice A122 (l124).length c123) l124) w_ o121 7 ∧ (l124).length ≤ c123 ∧ tidewrackref02_Turn_j1 l124 = some r) ?_ ?_
  rotate_left
  · rintro a w127 ⟨o121, A122, c123, l124, hk, hs, f125, hc126, H⟩
    rw [tidewrackref02_Turn_j1] at H
    refine x_seq ?_
    refine wpIn_region_lit ?_
    refine x_run tab hk (k := 3) (lv := [.string (strOfNums l124)]) (ks := [6]) (e' := [(6, .string (strOfNums l124))]) rfl ⟨(ask_str tab rfl rfl rfl rfl (Wr.rd f125.now) (Wr.plain f125.now _ _ _ rfl)), trivial⟩ fun a hk => ?_
    refine wpListIn_nil ?_
    refine then_n ?_
    refine wpIn_ret ?_
    obtain rfl := Option.some.inj H
    exact x_retG hk (rs := [.tmp 6]) (vs := [.string (strOfNums l124)]) rfl ⟨rfl, trivial⟩ ⟨fun b_ => if b_ < w.heap.size then o b_ else (fun _ => 0) (o121 b_), rfl, hs.close0 o (fun _ => 0)⟩
  refine x_seq ?_
  refine wpIn_region_lit ?_
  refine x_run tab hk (k := 1) (lv := []) (ks := [1, 2, 7, 8]) (e' := [(1, .int .i64 (mxI 0 (mnI p1 (IntKind.wrap .i64 (8 * (((numsOf p0)).length : Int)))))), (2, .int .u32 p2), (7, .slice A4 ((numsOf p0)).length c5), (8, .int .i64 0)]) rfl trivial fun a hk => ?_
  refine wpListIn_nil ?_
  refine then_n ?_
  refine wpIn_block ?_
  refine x_loop (fun j_ a_ w_ => ∃ o160 : Nat → Nat, ∃ A161 : Option Addr, ∃ c162 : Nat, ∃ l163 : List Int, ∃ x166 : Int, Kn 51 a_ [(1, .int .i64 (mxI 0 (mnI p1 (IntKind.wrap .i64 (8 * (((numsOf p0)).length : Int)))))), (2, .int .u32 p2), (7, .slice A161 (l163).length c162), (8, .int .i64 x166)] ∧ St [] w (fun _ => 0) w_ o160 ∧ Ft (Wr (encInt .u8) 5 (.slice A161 (l163).length c162) l163) w_ o160 10 ∧ (l163).length ≤ c162 ∧ tidewrackref02_Turn_l2 p0 p1 p2 j_ l163 x166 = some r) (k := K) ⟨(fun b_ => (fun l_ => if l_ = 1 then 10 else l_) (o2 b_)), A4, c5, (numsOf p0), 0, (by exact Kn.pick (ks := [1, 2, 7, 8]) hk rfl), (hs.relab0 (fun l_ => if l_ = 1 then 10 else l_) rfl), (f6.relab (fun l_ => if l_ = 1 then 10 else l_) rfl), hc7, H⟩ (by rintro _ _ ⟨_, _, _, _, _, _, _, _, _, H_⟩; exact absurd (show (none : Option ByteArray) = some r from H_) (by simp)) ?_
  rintro k198 a w197 ⟨o160, A161, c162, l163, x166, hk, hs, f164, hc165, H⟩
  rw [tidewrackref02_Turn_l2] at H
  obtain ⟨lp199, hlp200⟩ : ∃ lp_, lp_ = tidewrackref02_Turn_l2 p0 p1 p2 k198 := ⟨_, rfl⟩
  rw [← hlp200] at H
  refine x_mid (fun a_ w_ => ∃ o206 : Nat → Nat, Kn 51 a_ [(1, .int .i64 (mxI 0 (mnI p1 (IntKind.wrap .i64 (8 * (((numsOf p0)).length : Int)))))), (2, .int .u32 p2), (7, .slice A161 (l163).length c162), (8, .int .i64 x166)] ∧ St [] w (fun _ => 0) w_ o206 ∧ Ft (Wr (encInt .u8) 5 (.slice A161 (l163).length c162) l163) w_ o206 12 ∧ tidewrackref02_Turn_j3 p0 p1 p2 l163 x166 lp199 = some r) ?_ ?_
  rotate_left
  · rintro a w207 ⟨o206, hk, hs, f164, H⟩
    rw [tidewrackref02_Turn_j3] at H
    refine x_seq ?_
    refine wpIn_block ?_
    refine x_seq ?_
    refine wpIn_region_lit ?_
    obtain ⟨q208, H⟩ := ifS H
    refine x_run tab hk (k := 5) (lv := []) (ks := [1, 2, 7, 8, 34]) (e' := [(1, .int .i64 (mxI 0 (mnI p1 (IntKind.wrap .i64 (8 * (((numsOf p0)).length : Int)))))), (2, .int .u32 p2), (7, .slice A161 (l163).length c162), (8, .int .i64 x166), (34, .bool ((Int.tmod (Int.fdiv p2 (2 ^ min (Int.toNat x166) 32)) 2) == (1 : Int)))]) rfl ⟨q208, (show (2 : Int) ≠ 0 from by decide), trivial⟩ fun a hk => ?_
    refine wpListIn_nil ?_
    refine then_n ?_
    cases b209 : ((Int.tmod (Int.fdiv p2 (2 ^ min (Int.toNat x166) 32)) 2) == (1 : Int))
    · rw [b209] at hk H
      replace H := bifF H
      refine x_if hk (b := false) rfl ?_
      refine (show Code.wpIn _ _ _ _ _ _ _ from ?_)
      refine wpIn_skip ?_
      refine blk_n ?_
      refine then_n ?_
      refine wpIn_region_lit ?_
      refine x_run tab hk (k := 3) (lv := []) (ks := [1, 2, 7, 8]) (e' := [(1, .int .i64 (mxI 0 (mnI p1 (IntKind.wrap .i64 (8 * (((numsOf p0)).length : Int)))))), (2, .int .u32 p2), (7, .slice A161 (l163).length c162), (8, .int .i64 (IntKind.wrap .i64 (x166 + 1)))]) rfl trivial fun a hk => ?_
      refine wpListIn_nil ?_
      refine then_n ?_
      exact ⟨k198, Nat.le_refl _, (fun b_ => (fun l_ => if l_ = 12 then 10 else l_) (o206 b_)), A161, c162, l163, (IntKind.wrap .i64 (x166 + 1)), (by exact Kn.pick (ks := [1, 2, 7, 8]) hk rfl), (hs.relab0 (fun l_ => if l_ = 12 then 10 else l_) rfl), (f164.relab (fun l_ => if l_ = 12 then 10 else l_) rfl), hc165, (hlp200 ▸ H)⟩
    · rw [b209] at hk H
      replace H := bifT H
      refine x_if hk (b := true) rfl ?_
      refine (show Code.wpIn _ _ _ _ _ _ _ from ?_)
      refine xd_begin (o := o206) (fun W_ => (Wr (encInt .u8) 5 (.slice A161 (l163).length c162) l163) W_ ∧ True) mixed rfl rfl fun w220 st221 => ?_
      replace f164 := f164.st st221 (by decide)
      replace hs := hs.loc0 st221 (by decide)
      obtain ⟨q222, H⟩ := ifS H
      obtain ⟨ad223, hAad223⟩ := RdC.addr (Wr.rd f164.now) q222
      have hk_C := hk
      have f164_C := f164
      subst hAad223
      have hk := hk_C
      clear hk_C
      have f164 := f164_C
      clear f164_C
      obtain ⟨q224, H⟩ := ifS H
      refine xd_take tab hk (k := 1) (is := [0, 1, 2, 3, 4, 5, 6, 7, 8, 9, 10, 11, 12, 13]) (ls' := #[true, true, true, true, true, true, true, true, true, true, true, true, true, true, false]) (lv := [.int .u8 (rdD 0 l163 (IntKind.wrap .i64 (Int.tdiv (IntKind.wrap .i64 ((mxI 0 (mnI p1 (IntKind.wrap .i64 (8 * (((numsOf p0)).length : Int))))) + x166)) 8)))]) (ks := [1, 2, 7, 8, 47, 48]) (e' := [(1, .int .i64 (mxI 0 (mnI p1 (IntKind.wrap .i64 (8 * (((numsOf p0)).length : Int)))))), (2, .int .u32 p2), (7, .slice (some ad223) (l163).length c162), (8, .int .i64 x166), (47, .int .u8 (bits .xor .u8 (rdD 0 l163 (IntKind.wrap .i64 (Int.tdiv (IntKind.wrap .i64 ((mxI 0 (mnI p1 (IntKind.wrap .i64 (8 * (((numsOf p0)).length : Int))))) + x166)) 8))) (IntKind.wrap .u8 (1 * 2 ^ min (Int.toNat (Int.tmod (IntKind.wrap .i64 ((mxI 0 (mnI p1 (IntKind.wrap .i64 (8 * (((numsOf p0)).length : Int))))) + x166)) 8)) 8)))), (48, .pointer (some (ad223.add (Int.toNat (IntKind.wrap .i64 (Int.tdiv (IntKind.wrap .i64 ((mxI 0 (mnI p1 (IntKind.wrap .i64 (8 * (((numsOf p0)).length : Int))))) + x166)) 8)) * 1))))]) (by kernel_rfl) rfl rfl (by kernel_rfl) (np_blk (np_then (np_then (np_blk (np_then np_body))))) ⟨f164.now, trivial⟩ (fun W_ hS => ⟨(show (8 : Int) ≠ 0 from by decide), q222, (load1 tab rfl (RdC.at0 (E := (encInt .u8)) (d := 0) (i := (IntKind.wrap .i64 (Int.tdiv (IntKind.wrap .i64 ((mxI 0 (mnI p1 (IntKind.wrap .i64 (8 * (((numsOf p0)).length : Int))))) + x166)) 8))) (Wr.rd hS.1) q222 rfl)), (show (8 : Int) ≠ 0 from by decide), q224, q222, trivial⟩) fun a hk => ?_
      refine xd_op hk (i := 14) (by kernel_rfl) rfl rfl ?_
      refine op_storeW tab hk (E := (encInt .u8)) (i := (IntKind.wrap .i64 (Int.tdiv (IntKind.wrap .i64 ((mxI 0 (mnI p1 (IntKind.wrap .i64 (8 * (((numsOf p0)).length : Int))))) + x166)) 8))) (j := 0) (dx := 0) (y' := (bits .xor .u8 (rdD 0 l163 (IntKind.wrap .i64 (Int.tdiv (IntKind.wrap .i64 ((mxI 0 (mnI p1 (IntKind.wrap .i64 (8 * (((numsOf p0)).length : Int))))) + x166)) 8))) (IntKind.wrap .u8 (1 * 2 ^ min (Int.toNat (Int.tmod (IntKind.wrap .i64 ((mxI 0 (mnI p1 (IntKind.wrap .i64 (8 * (((numsOf p0)).length : Int))))) + x166)) 8)) 8)))) rfl rfl rfl f164 rfl q222 rfl rfl rfl rfl fun w225 o226 st227 f164_ => ?_
      replace hs := hs.loc0 st227 (by decide)
      replace f164 := f164_
      have hl228 : (List.set l163 (Int.toNat (IntKind.wrap .i64 (Int.tdiv (IntKind.wrap .i64 ((mxI 0 (mnI p1 (IntKind.wrap .i64 (8 * (((numsOf p0)).length : Int))))) + x166)) 8))) (bits .xor .u8 (rdD 0 l163 (IntKind.wrap .i64 (Int.tdiv (IntKind.wrap .i64 ((mxI 0 (mnI p1 (IntKind.wrap .i64 (8 * (((numsOf p0)).length : Int))))) + x166)) 8))) (IntKind.wrap .u8 (1 * 2 ^ min (Int.toNat (Int.tmod (IntKind.wrap .i64 ((mxI 0 (mnI p1 (IntKind.wrap .i64 (8 * (((numsOf p0)).length : Int))))) + x166)) 8)) 8)))).length = (l163).length := List.length_set
      replace hk := Kn.re hk [1, 2, 7, 8, 47] (e2 := [(1, .int .i64 (mxI 0 (mnI p1 (IntKind.wrap .i64 (8 * (((numsOf p0)).length : Int)))))), (2, .int .u32 p2), (7, .slice (some ad223) ((List.set l163 (Int.toNat (IntKind.wrap .i64 (Int.tdiv (IntKind.wrap .i64 ((mxI 0 (mnI p1 (IntKind.wrap .i64 (8 * (((numsOf p0)).length : Int))))) + x166)) 8))) (bits .xor .u8 (rdD 0 l163 (IntKind.wrap .i64 (Int.tdiv (IntKind.wrap .i64 ((mxI 0 (mnI p1 (IntKind.wrap .i64 (8 * (((numsOf p0)).length : Int))))) + x166)) 8))) (IntKind.wrap .u8 (1 * 2 ^ min (Int.toNat (Int.tmod (IntKind.wrap .i64 ((mxI 0 (mnI p1 (IntKind.wrap .i64 (8 * (((numsOf p0)).length : Int))))) + x166)) 8)) 8))))).length c162), (8, .int .i64 x166), (47, .int .u8 (bits .xor .u8 (rdD 0 l163 (IntKind.wrap .i64 (Int.tdiv (IntKind.wrap .i64 ((mxI 0 (mnI p1 (IntKind.wrap .i64 (8 * (((numsOf p0)).length : Int))))) + x166)) 8))) (IntKind.wrap .u8 (1 * 2 ^ min (Int.toNat (Int.tmod (IntKind.wrap .i64 ((mxI 0 (mnI p1 (IntKind.wrap .i64 (8 * (((numsOf p0)).length : Int))))) + x166)) 8)) 8))))]) rfl (by rw [hl228])
      refine ⟨.inl (by kernel_rfl), ?_⟩
      refine xd_done (by kernel_rfl) ?_
      refine blk_n ?_
      refine then_n ?_
      refine wpIn_region_lit ?_
      refine x_run tab hk (k := 3) (lv := []) (ks := [1, 2, 7, 8]) (e' := [(1, .int .i64 (mxI 0 (mnI p1 (IntKind.wrap .i64 (8 * (((numsOf p0)).length : Int)))))), (2, .int .u32 p2), (7, .slice (some ad223) ((List.set l163 (Int.toNat (IntKind.wrap .i64 (Int.tdiv (IntKind.wrap .i64 ((mxI 0 (mnI p1 (IntKind.wrap .i64 (8 * (((numsOf p0)).length : Int))))) + x166)) 8))) (bits .xor .u8 (rdD 0 l163 (IntKind.wrap .i64 (Int.tdiv (IntKind.wrap .i64 ((mxI 0 (mnI p1 (IntKind.wrap .i64 (8 * (((numsOf p0)).length : Int))))) + x166)) 8))) (IntKind.wrap .u8 (1 * 2 ^ min (Int.toNat (Int.tmod (IntKind.wrap .i64 ((mxI 0 (mnI p1 (IntKind.wrap .i64 (8 * (((numsOf p0)).length : Int))))) + x166)) 8)) 8))))).length c162), (8, .int .i64 (IntKind.wrap .i64 (x166 + 1)))]) rfl trivial fun a hk => ?_
      refine wpListIn_nil ?_
      refine then_n ?_
      exact ⟨k198, Nat.le_refl _, (fun b_ => (fun l_ => if l_ = 12 then 10 else l_) (o226 b_)), (some ad223), c162, (List.set l163 (Int.toNat (IntKind.wrap .i64 (Int.tdiv (IntKind.wrap .i64 ((mxI 0 (mnI p1 (IntKind.wrap .i64 (8 * (((numsOf p0)).length : Int))))) + x166)) 8))) (bits .xor .u8 (rdD 0 l163 (IntKind.wrap .i64 (Int.tdiv (IntKind.wrap .i64 ((mxI 0 (mnI p1 (IntKind.wrap .i64 (8 * (((numsOf p0)).length : Int))))) + x166)) 8))) (IntKind.wrap .u8 (1 * 2 ^ min (Int.toNat (Int.tmod (IntKind.wrap .i64 ((mxI 0 (mnI p1 (IntKind.wrap .i64 (8 * (((numsOf p0)).length : Int))))) + x166)) 8)) 8)))), (IntKind.wrap .i64 (x166 + 1)), (by exact Kn.pick (ks := [1, 2, 7, 8]) hk rfl), (hs.relab0 (fun l_ => if l_ = 12 then 10 else l_) rfl), (f164.relab (fun l_ => if l_ = 12 then 10 else l_) rfl), (by rw [List.length_set]; exact hc165), (hlp200 ▸ H)⟩
  refine x_seq ?_
  refine wpIn_region_lit ?_
  refine x_run tab hk (k := 3) (lv := []) (ks := [1, 2, 7, 8, 19]) (e' := [(1, .int .i64 (mxI 0 (mnI p1 (IntKind.wrap .i64 (8 * (((numsOf p0)).length : Int)))))), (2, .int .u32 p2), (7, .slice A161 (l163).length c162), (8, .int .i64 x166), (19, .bool (decide (x166 < (32 : Int))))]) rfl trivial fun a hk => ?_
  cases b229 : (decide (x166 < (32 : Int)))
  · rw [b229] at hk H
    replace H := bifF H
    refine x_run tab hk (k := 8) (lv := []) (ks := [1, 2, 7, 8, 27]) (e' := [(1, .int .i64 (mxI 0 (mnI p1 (IntKind.wrap .i64 (8 * (((numsOf p0)).length : Int)))))), (2, .int .u32 p2), (7, .slice A161 (l163).length c162), (8, .int .i64 x166), (27, .bool false)]) rfl trivial fun a hk => ?_
    refine wpListIn_nil ?_
    refine then_n ?_
    refine x_if hk (b := false) rfl ?_
    refine (show Code.wpIn _ _ _ _ _ _ _ from ?_)
    refine wpIn_exit ?_
    refine then_x ?_
    refine then_x ?_
    refine blk_x ?_
    refine then_n ?_
    exact ⟨(fun b_ => (fun l_ => if l_ = 10 then 7 else l_) (o160 b_)), A161, c162, l163, (by exact Kn.pick (ks := [7]) hk rfl), (hs.relab0 (fun l_ => if l_ = 10 then 7 else l_) rfl), (f164.relab (fun l_ => if l_ = 10 then 7 else l_) rfl), hc165, H⟩
  · rw [b229] at hk H
    replace H := bifT H
    refine x_run tab hk (k := 8) (lv := []) (ks := [1, 2, 7, 8, 27]) (e' := [(1, .int .i64 (mxI 0 (mnI p1 (IntKind.wrap .i64 (8 * (((numsOf p0)).length : Int)))))), (2, .int .u32 p2), (7, .slice A161 (l163).length c162), (8, .int .i64 x166), (27, .bool (decide ((IntKind.wrap .i64 ((mxI 0 (mnI p1 (IntKind.wrap .i64 (8 * (((numsOf p0)).length : Int))))) + x166)) < (IntKind.wrap .i64 (8 * ((l163).length : Int))))))]) rfl trivial fun a hk => ?_
    refine wpListIn_nil ?_
    refine then_n ?_
    cases b230 : (decide ((IntKind.wrap .i64 ((mxI 0 (mnI p1 (IntKind.wrap .i64 (8 * (((numsOf p0)).length : Int))))) + x166)) < (IntKind.wrap .i64 (8 * ((l163).length : Int)))))
    · rw [b230] at hk H
      replace H := bifF H
      refine x_if hk (b := false) rfl ?_
      refine (show Code.wpIn _ _ _ _ _ _ _ from ?_)
      refine wpIn_exit ?_
      refine then_x ?_
      refine then_x ?_
      refine blk_x ?_
      refine then_n ?_
      exact ⟨(fun b_ => (fun l_ => if l_ = 10 then 7 else l_) (o160 b_)), A161, c162, l163, (by exact Kn.pick (ks := [7]) hk rfl), (hs.relab0 (fun l_ => if l_ = 10 then 7 else l_) rfl), (f164.relab (fun l_ => if l_ = 10 then 7 else l_) rfl), hc165, H⟩
    · rw [b230] at hk H
      replace H := bifT H
      refine x_if hk (b := true) rfl ?_
      refine (show Code.wpIn _ _ _ _ _ _ _ from ?_)
      refine wpIn_skip ?_
      refine then_n ?_
      exact ⟨(fun b_ => (fun l_ => if l_ = 10 then 12 else l_) (o160 b_)), (by exact Kn.pick (ks := [1, 2, 7, 8]) hk rfl), (hs.relab0 (fun l_ => if l_ = 10 then 12 else l_) rfl), (f164.relab (fun l_ => if l_ = 10 then 12 else l_) rfl), H⟩

/-! tidewrack/tidewrackref25.Turn -/
theorem tidewrackref25_Turn_calls (K : Nat) (Ap0_0 : Option Addr) (cp0_0 : Nat) (p0 : T46) (p1 : Int) (p2 : Int) (p3 : Int) (w : World) (o : Nat → Nat) (Lp0_0 : Nat) (hp0_0 : Ft (RdC ET28 Ap0_0 p0.L) w o Lp0_0) (hcp0_0 : (p0.L).length ≤ cp0_0) (hd0 : ([Lp0_0] : List Nat).Nodup) (r : T46 × Bool) (H : tidewrackref25_Turn K p0 p1 p2 p3 = some r) :
    Calls Try.prog 30 #[.agg #[.int .i64 p0.Most, .int .i64 p0.Lost, .slice Ap0_0 (p0.L).length cp0_0], .int .i64 p1, .int .i64 p2, .int .u32 p3] w (Ret fun v_ w' => ∃ o' : Nat → Nat, ∃ A0 : Option Addr, ∃ c0 : Nat, v_ = .tuple #[.agg #[.int .i64 r.1.Most, .int .i64 r.1.Lost, .slice A0 (r.1.L).length c0], .bool r.2] ∧ St [] w o w' o' ∧ Ft (RdC ET28 A0 (r.1.L)) w' o' Lp0_0 ∧ (r.1.L).length ≤ c0) := by
  refine x_enter (vs := [.agg #[.int .i64 p0.Most, .int .i64 p0.Lost, .slice Ap0_0 (p0.L).length cp0_0], .int .i64 p1, .int .i64 p2, .int .u32 p3]) Try.func30 rfl rfl rfl fun a hk => ?_
  obtain ⟨oi, hs0, h0, h1, hob, hoz, hoa⟩ := St.startM2 w o (m := 1) hd0 rfl
  have hs := hs0 []
  have f900000 := h1 0 1 hp0_0 rfl rfl
  clear h0 h1 hs0
  rw [tidewrackref25_Turn] at H
  refine x_seq ?_
  refine wpIn_region_lit ?_
  refine x_op hk rfl ?_
  refine op_box (o := oi) (t := 47) (v := .agg #[.int .i64 p0.Most, .int .i64 p0.Lost, .slice Ap0_0 (p0.L).length cp0_0]) (cs := [.int .i64 p0.Most, .int .i64 p0.Lost, .slice Ap0_0 (p0.L).length cp0_0]) hk rfl rfl 2 fun bx4 w1 o2 st3 f5 => ?_
  replace f900000 := f900000.st st3 (by decide)
  replace hs := hs.locQ st3 hob rfl
  have hk := hk.put 4 (.pointer (some ⟨bx4, 0, none⟩)) rfl
  refine x_op hk rfl ?_
  refine op_alloc (o := o2) tab (t := 47) (cs := [.int .i64 0, .int .i64 0, .slice none 0 0]) rfl rfl 3 fun bx9 w6 o7 st8 f10 => ?_
  replace f5 := f5.st st8 (by decide)
  replace f900000 := f900000.st st8 (by decide)
  replace hs := hs.locQ st8 hob rfl
  have hk := hk.put 8 (.pointer (some ⟨bx9, 0, none⟩)) rfl
  refine x_run tab hk (k := 1) (lv := []) (ks := [1, 2, 3, 4, 8]) (e' := [(1, .int .i64 p1), (2, .int .i64 p2), (3, .int .u32 p3), (4, .pointer (some ⟨bx4, 0, none⟩)), (8, .pointer (some ⟨bx9, 0, none⟩))]) rfl trivial fun a hk => ?_
  refine wpListIn_nil ?_
  refine then_n ?_
  refine x_mid (fun a_ w_ => ∃ o29 : Nat → Nat, Kn 40 a_ [(1, .int .i64 p1), (2, .int .i64 p2), (3, .int .u32 p3), (4, .pointer (some ⟨bx4, 0, none⟩)), (8, .pointer (some ⟨bx9, 0, none⟩))] ∧ St [] w oi w_ o29 ∧ Ft (Bx bx9 47 [.int .i64 0, .int .i64 0, .slice none 0 0]) w_ o29 7 ∧ Ft (Bx bx4 47 [.int .i64 p0.Most, .int .i64 p0.Lost, .slice Ap0_0 (p0.L).length cp0_0]) w_ o29 6 ∧ Ft (RdC ET28 Ap0_0 p0.L) w_ o29 1 ∧ tidewrackref25_Turn_j1 K p0 p1 p2 p3 = some r) ?_ ?_
  rotate_left
  · rintro a w30 ⟨o29, hk, hs, f10, f5, f900000, H⟩
    rw [tidewrackref25_Turn_j1] at H
    refine x_seq ?_
    refine wpIn_region_lit ?_
    refine x_op hk rfl ?_
    refine op_slice (o := o29) tab hk (vs := []) (cs := []) rfl rfl rfl rfl rfl rfl rfl rfl rfl 8 fun bx34 w31 o32 st33 f35 => ?_
    replace f10 := f10.st st33 (by decide)
    replace f5 := f5.st st33 (by decide)
    replace f900000 := f900000.st st33 (by decide)
    replace hs := hs.locQ st33 hob rfl
    have f36 : Ft (Own ET28 39 (.slice (some ⟨bx34, 0, none⟩) (([] : List T28)).length 0) ([] : List T28)) w31 o32 8 := f35.imp fun _ h_ => Own.of_box h_ rfl (by simp)
    have hk := hk.put 21 (.slice (some ⟨bx34, 0, none⟩) (([] : List T28)).length 0) rfl
    refine x_run tab hk (k := 2) (lv := [.slice Ap0_0 (p0.L).length cp0_0]) (ks := [1, 2, 3, 4, 8, 21, 23]) (e' := [(1, .int .i64 p1), (2, .int .i64 p2), (3, .int .u32 p3), (4, .pointer (some ⟨bx4, 0, none⟩)), (8, .pointer (some ⟨bx9, 0, none⟩)), (21, .slice (some ⟨bx34, 0, none⟩) (([] : List T28)).length 0), (23, .slice Ap0_0 (p0.L).length cp0_0)]) rfl ⟨(load1 tab rfl ((Bx.cell f5.now 2).trans rfl)), trivial⟩ fun a hk => ?_
    refine x_op hk rfl ?_
    obtain ⟨q40, H⟩ := ifS H
    refine op_append (o := o32) (E := ET28) (xs := ([] : List T28)) (ys := p0.L) tab hk rfl rfl rfl rfl rfl rfl rfl f36 f900000.now q40 fun A41 c42 w37 o38 st39 f43 hc44 => ?_
    replace f10 := f10.st st39 (by decide)
    replace f5 := f5.st st39 (by decide)
    replace f900000 := f900000.st st39 (by decide)
    replace hs := hs.locQ st39 hob rfl
    have hk := hk.put 24 (.slice A41 ((([] : List T28) ++ p0.L)).length c42) rfl
    refine x_run tab hk (k := 1) (lv := []) (ks := [1, 2, 3, 4, 8, 10]) (e' := [(1, .int .i64 p1), (2, .int .i64 p2), (3, .int .u32 p3), (4, .pointer (some ⟨bx4, 0, none⟩)), (8, .pointer (some ⟨bx9, 0, none⟩)), (10, .slice A41 ((([] : List T28) ++ p0.L)).length c42)]) rfl trivial fun a hk => ?_
    refine wpListIn_nil ?_
    refine then_n ?_
    refine x_seq ?_
    refine wpIn_region_lit ?_
    obtain ⟨q45, H⟩ := ifS H
    obtain ⟨ad46, hAad46⟩ := RdC.addr (Own.rd f43.now) q45
    have hk_C := hk
    have f10_C := f10
    have f43_C := f43
    have f5_C := f5
    have f900000_C := f900000
    subst hAad46
    have hk := hk_C
    clear hk_C
    have f10 := f10_C
    clear f10_C
    have f43 := f43_C
    clear f43_C
    have f5 := f5_C
    clear f5_C
    have f900000 := f900000_C
    clear f900000_C
    refine x_run tab hk (k := 9) (lv := [.string ((rdD zT28 (([] : List T28) ++ p0.L) p1).Data)]) (ks := [4, 8, 10, 25, 26, 31, 32, 33]) (e' := [(4, .pointer (some ⟨bx4, 0, none⟩)), (8, .pointer (some ⟨bx9, 0, none⟩)), (10, .slice (some ad46) ((([] : List T28) ++ p0.L)).length c42), (25, .slice (some ad46) ((([] : List T28) ++ p0.L)).length c42), (26, .int .i64 p1), (31, .string ((rdD zT28 (([] : List T28) ++ p0.L) p1).Data)), (32, .int .i64 p2), (33, .int .u32 p3)]) rfl ⟨q45, (load1 tab rfl (RdC.at (E := ET28) (d := zT28) (i := p1) (j := 2) (Own.rd f43.now) q45 rfl)), trivial⟩ fun a hk => ?_
    refine x_op hk rfl ?_
    obtain ⟨t50, hc51, H⟩ := bindS H
    refine op_call hk ent_35 (vs := [.string ((rdD zT28 (([] : List T28) ++ p0.L) p1).Data), .int .i64 p2, .int .u32 p3]) rfl (tidewrackref02_Turn_calls K ((rdD zT28 (([] : List T28) ++ p0.L) p1).Data) p2 p3 _ o38    _ hc51) ?_
    rintro _ w52 ⟨o53, rfl, st54⟩
    replace f10 := f10.st st54 (by decide)
    replace f43 := f43.st st54 (by decide)
    replace f5 := f5.st st54 (by decide)
    replace f900000 := f900000.st st54 (by decide)
    replace hs := hs.locQ st54 hob rfl
    have hk := hk.put 34 (.string t50) rfl
    refine x_run tab hk (k := 2) (lv := []) (ks := [4, 8, 10, 34, 36]) (e' := [(4, .pointer (some ⟨bx4, 0, none⟩)), (8, .pointer (some ⟨bx9, 0, none⟩)), (10, .slice (some ad46) ((([] : List T28) ++ p0.L)).length c42), (34, .string t50), (36, .pointer (some ((ad46.add (Int.toNat p1 * 3)).add 2)))]) rfl ⟨q45, trivial⟩ fun a hk => ?_
    refine x_op hk rfl ?_
    refine op_storeO tab hk (E := ET28) (i := p1) (j := 2) (dx := zT28) (y' := (⟨(rdD zT28 (([] : List T28) ++ p0.L) p1).From, (rdD zT28 (([] : List T28) ++ p0.L) p1).To, t50⟩ : T28)) rfl rfl rfl f43 rfl q45 rfl rfl rfl rfl fun w55 o56 st57 f43_ => ?_
    replace f10 := f10.st st57 (by decide)
    replace f5 := f5.st st57 (by decide)
    replace f900000 := f900000.st st57 (by decide)
    replace hs := hs.locQ st57 hob rfl
    replace f43 := f43_
    have hl58 : (List.set (([] : List T28) ++ p0.L) (Int.toNat p1) (⟨(rdD zT28 (([] : List T28) ++ p0.L) p1).From, (rdD zT28 (([] : List T28) ++ p0.L) p1).To, t50⟩ : T28)).length = ((([] : List T28) ++ p0.L)).length := List.length_set
    replace hk := Kn.re hk [4, 8, 10, 34] (e2 := [(4, .pointer (some ⟨bx4, 0, none⟩)), (8, .pointer (some ⟨bx9, 0, none⟩)), (10, .slice (some ad46) ((List.set (([] : List T28) ++ p0.L) (Int.toNat p1) (⟨(rdD zT28 (([] : List T28) ++ p0.L) p1).From, (rdD zT28 (([] : List T28) ++ p0.L) p1).To, t50⟩ : T28))).length c42), (34, .string t50)]) rfl (by rw [hl58])
    refine wpListIn_nil ?_
    refine then_n ?_
    refine x_seq ?_
    refine wpIn_region_lit ?_
    refine x_run tab hk (k := 2) (lv := []) (ks := [4, 8, 37, 38]) (e' := [(4, .pointer (some ⟨bx4, 0, none⟩)), (8, .pointer (some ⟨bx9, 0, none⟩)), (37, .slice (some ad46) ((List.set (([] : List T28) ++ p0.L) (Int.toNat p1) (⟨(rdD zT28 (([] : List T28) ++ p0.L) p1).From, (rdD zT28 (([] : List T28) ++ p0.L) p1).To, t50⟩ : T28))).length c42), (38, .pointer (some ((⟨bx4, 0, none⟩ : Addr).add 2)))]) rfl trivial fun a hk => ?_
    refine x_op hk rfl ?_
    refine op_store tab hk (t := 45) (v := .slice (some ad46) ((List.set (([] : List T28) ++ p0.L) (Int.toNat p1) (⟨(rdD zT28 (([] : List T28) ++ p0.L) p1).From, (rdD zT28 (([] : List T28) ++ p0.L) p1).To, t50⟩ : T28))).length c42) (b := bx4) (k := 2) (cs' := [.int .i64 p0.Most, .int .i64 p0.Lost, .slice (some ad46) ((List.set (([] : List T28) ++ p0.L) (Int.toNat p1) (⟨(rdD zT28 (([] : List T28) ++ p0.L) p1).From, (rdD zT28 (([] : List T28) ++ p0.L) p1).To, t50⟩ : T28))).length c42]) rfl rfl rfl rfl rfl rfl f5 rfl rfl fun w59 o60 st61 f5_ => ?_
    replace f10 := f10.st st61 (by decide)
    replace f43 := f43.st st61 (by decide)
    replace f900000 := f900000.st st61 (by decide)
    replace hs := hs.locQ st61 hob rfl
    replace f5 := f5_
    refine wpListIn_nil ?_
    refine then_n ?_
    refine x_seq ?_
    refine wpIn_region_lit ?_
    refine x_run tab hk (k := 1) (lv := [.agg #[.int .i64 p0.Most, .int .i64 p0.Lost, .slice (some ad46) ((List.set (([] : List T28) ++ p0.L) (Int.toNat p1) (⟨(rdD zT28 (([] : List T28) ++ p0.L) p1).From, (rdD zT28 (([] : List T28) ++ p0.L) p1).To, t50⟩ : T28))).length c42]]) (ks := [8, 39]) (e' := [(8, .pointer (some ⟨bx9, 0, none⟩)), (39, .agg #[.int .i64 p0.Most, .int .i64 p0.Lost, .slice (some ad46) ((List.set (([] : List T28) ++ p0.L) (Int.toNat p1) (⟨(rdD zT28 (([] : List T28) ++ p0.L) p1).From, (rdD zT28 (([] : List T28) ++ p0.L) p1).To, t50⟩ : T28))).length c42])]) rfl ⟨(load_box tab rfl rfl f5.now (k := 0) rfl rfl), trivial⟩ fun a hk => ?_
    refine x_op hk rfl ?_
    refine op_store tab hk (t := 47) (v := .agg #[.int .i64 p0.Most, .int .i64 p0.Lost, .slice (some ad46) ((List.set (([] : List T28) ++ p0.L) (Int.toNat p1) (⟨(rdD zT28 (([] : List T28) ++ p0.L) p1).From, (rdD zT28 (([] : List T28) ++ p0.L) p1).To, t50⟩ : T28))).length c42]) (b := bx9) (k := 0) (cs' := [.int .i64 p0.Most, .int .i64 p0.Lost, .slice (some ad46) ((List.set (([] : List T28) ++ p0.L) (Int.toNat p1) (⟨(rdD zT28 (([] : List T28) ++ p0.L) p1).From, (rdD zT28 (([] : List T28) ++ p0.L) p1).To, t50⟩ : T28))).length c42]) rfl rfl rfl rfl rfl rfl f10 rfl rfl fun w62 o63 st64 f10_ => ?_
    replace f43 := f43.st st64 (by decide)
    replace hs := hs.locQ st64 hob rfl
    replace f10 := f10_
    refine x_run tab hk (k := 1) (lv := []) (ks := [8, 9]) (e' := [(8, .pointer (some ⟨bx9, 0, none⟩)), (9, .bool true)]) rfl trivial fun a hk => ?_
    refine wpListIn_nil ?_
    refine then_n ?_
    refine wpIn_ret ?_
    obtain rfl := Option.some.inj H
    exact x_retG hk (rs := [.cell 8 47, .tmp 9]) (vs := [.agg #[.int .i64 p0.Most, .int .i64 p0.Lost, .slice (some ad46) ((List.set (([] : List T28) ++ p0.L) (Int.toNat p1) (⟨(rdD zT28 (([] : List T28) ++ p0.L) p1).From, (rdD zT28 (([] : List T28) ++ p0.L) p1).To, t50⟩ : T28))).length c42], .bool true]) rfl ⟨⟨_, rfl, load_box tab rfl rfl f10.now (k := 0) rfl rfl⟩, rfl, trivial⟩ ⟨fun b_ => if b_ < w.heap.size then o b_ else (fun l_ => if l_ = 8 then Lp0_0 else 0) (o63 b_), (some ad46), c42, rfl, hs.closeQ (Lm := []) (Sh := [Lp0_0]) hoa rfl (fun l_ => if l_ = 8 then Lp0_0 else 0), ((hs.closeM_ft (o := o) (ρ := fun l_ => if l_ = 8 then Lp0_0 else 0) f43 (lab_none hob rfl) rfl).imp fun _ h_ => Own.rd h_), (by rw [List.length_set]; exact hc44)⟩
  refine x_mid (fun a_ w_ => ∃ o72 : Nat → Nat, ∃ x73 : Bool, Kn 40 a_ [(1, .int .i64 p1), (2, .int .i64 p2), (3, .int .u32 p3), (4, .pointer (some ⟨bx4, 0, none⟩)), (8, .pointer (some ⟨bx9, 0, none⟩)), (19, .bool x73)] ∧ St [] w oi w_ o72 ∧ Ft (Bx bx9 47 [.int .i64 0, .int .i64 0, .slice none 0 0]) w_ o72 10 ∧ Ft (Bx bx4 47 [.int .i64 p0.Most, .int .i64 p0.Lost, .slice Ap0_0 (p0.L).length cp0_0]) w_ o72 9 ∧ Ft (RdC ET28 Ap0_0 p0.L) w_ o72 1 ∧ tidewrackref25_Turn_j2 K p0 p1 p2 p3 x73 = some r) ?_ ?_
  rotate_left
  · rintro a w74 ⟨o72, x73, hk, hs, f10, f5, f900000, H⟩
    rw [tidewrackref25_Turn_j2] at H
    cases b75 : x73
    · rw [b75] at hk H
      replace H := bifF H
      refine x_if hk (b := false) rfl ?_
      refine (show Code.wpIn _ _ _ _ _ _ _ from ?_)
      refine wpIn_skip ?_
      refine then_n ?_
      exact ⟨(fun b_ => (fun l_ => if l_ = 9 then 6 else if l_ = 10 then 7 else l_) (o72 b_)), (by exact Kn.pick (ks := [1, 2, 3, 4, 8]) hk rfl), (hs.relabM hob (fun l_ => if l_ = 9 then 6 else if l_ = 10 then 7 else l_) (by decide)), (f10.relab (fun l_ => if l_ = 9 then 6 else if l_ = 10 then 7 else l_) rfl), (f5.relab (fun l_ => if l_ = 9 then 6 else if l_ = 10 then 7 else l_) rfl), (f900000.relab (fun l_ => if l_ = 9 then 6 else if l_ = 10 then 7 else l_) rfl), H⟩
    · rw [b75] at hk H
      replace H := bifT H
      refine x_if hk (b := true) rfl ?_
      refine (show Code.wpIn _ _ _ _ _ _ _ from ?_)
      refine x_seq ?_
      refine wpIn_region_lit ?_
      refine x_run tab hk (k := 1) (lv := [.agg #[.int .i64 p0.Most, .int .i64 p0.Lost, .slice Ap0_0 (p0.L).length cp0_0]]) (ks := [8, 20]) (e' := [(8, .pointer (some ⟨bx9, 0, none⟩)), (20, .agg #[.int .i64 p0.Most, .int .i64 p0.Lost, .slice Ap0_0 (p0.L).length cp0_0])]) rfl ⟨(load_box tab rfl rfl f5.now (k := 0) rfl rfl), trivial⟩ fun a hk => ?_
      refine x_op hk rfl ?_
      refine op_store tab hk (t := 47) (v := .agg #[.int .i64 p0.Most, .int .i64 p0.Lost, .slice Ap0_0 (p0.L).length cp0_0]) (b := bx9) (k := 0) (cs' := [.int .i64 p0.Most, .int .i64 p0.Lost, .slice Ap0_0 (p0.L).length cp0_0]) rfl rfl rfl rfl rfl rfl f10 rfl rfl fun w76 o77 st78 f10_ => ?_
      replace f900000 := f900000.st st78 (by decide)
      replace hs := hs.locQ st78 hob rfl
      replace f10 := f10_
      refine x_run tab hk (k := 1) (lv := []) (ks := [8, 9]) (e' := [(8, .pointer (some ⟨bx9, 0, none⟩)), (9, .bool false)]) rfl trivial fun a hk => ?_
      refine wpListIn_nil ?_
      refine then_n ?_
      refine wpIn_ret ?_
      refine then_r ?_
      obtain rfl := Option.some.inj H
      exact x_retG hk (rs := [.cell 8 47, .tmp 9]) (vs := [.agg #[.int .i64 p0.Most, .int .i64 p0.Lost, .slice Ap0_0 (p0.L).length cp0_0], .bool false]) rfl ⟨⟨_, rfl, load_box tab rfl rfl f10.now (k := 0) rfl rfl⟩, rfl, trivial⟩ ⟨fun b_ => if b_ < w.heap.size then o b_ else (fun l_ => if l_ = 1 then Lp0_0 else 0) (o77 b_), Ap0_0, cp0_0, rfl, hs.closeQ (Lm := []) (Sh := [Lp0_0]) hoa rfl (fun l_ => if l_ = 1 then Lp0_0 else 0), hs.closeM_ft (o := o) (ρ := fun l_ => if l_ = 1 then Lp0_0 else 0) f900000 (lab_at hoa (i := 0) rfl) rfl, hcp0_0⟩
  refine wpIn_region_lit ?_
  refine x_run tab hk (k := 3) (lv := []) (ks := [1, 2, 3, 4, 8, 13]) (e' := [(1, .int .i64 p1), (2, .int .i64 p2), (3, .int .u32 p3), (4, .pointer (some ⟨bx4, 0, none⟩)), (8, .pointer (some ⟨bx9, 0, none⟩)), (13, .bool (decide (p1 < (0 : Int))))]) rfl trivial fun a hk => ?_
  cases b79 : (decide (p1 < (0 : Int)))
  · rw [b79] at hk H
    replace H := bifF H
    refine x_run tab hk (k := 6) (lv := [.slice Ap0_0 (p0.L).length cp0_0]) (ks := [1, 2, 3, 4, 8, 19]) (e' := [(1, .int .i64 p1), (2, .int .i64 p2), (3, .int .u32 p3), (4, .pointer (some ⟨bx4, 0, none⟩)), (8, .pointer (some ⟨bx9, 0, none⟩)), (19, .bool (decide (p1 ≥ ((p0.L).length : Int))))]) rfl ⟨(load1 tab rfl ((Bx.cell f5.now 2).trans rfl)), trivial⟩ fun a hk => ?_
    refine wpListIn_nil ?_
    refine then_n ?_
    exact ⟨(fun b_ => (fun l_ => if l_ = 2 then 9 else if l_ = 3 then 10 else l_) (o7 b_)), (decide (p1 ≥ ((p0.L).length : Int))), (by exact Kn.pick (ks := [1, 2, 3, 4, 8, 19]) hk rfl), (hs.relabM hob (fun l_ => if l_ = 2 then 9 else if l_ = 3 then 10 else l_) (by decide)), (f10.relab (fun l_ => if l_ = 2 then 9 else if l_ = 3 then 10 else l_) rfl), (f5.relab (fun l_ => if l_ = 2 then 9 else if l_ = 3 then 10 else l_) rfl), (f900000.relab (fun l_ => if l_ = 2 then 9 else if l_ = 3 then 10 else l_) rfl), H⟩
  · rw [b79] at hk H
    replace H := bifT H
    refine x_run tab hk (k := 6) (lv := []) (ks := [1, 2, 3, 4, 8, 19]) (e' := [(1, .int .i64 p1), (2, .int .i64 p2), (3, .int .u32 p3), (4, .pointer (some ⟨bx4, 0, none⟩)), (8, .pointer (some ⟨bx9, 0, none⟩)), (19, .bool true)]) rfl trivial fun a hk => ?_
    refine wpListIn_nil ?_
    refine then_n ?_
    exact ⟨(fun b_ => (fun l_ => if l_ = 2 then 9 else if l_ = 3 then 10 else l_) (o7 b_)), true, (by exact Kn.pick (ks := [1, 2, 3, 4, 8, 19]) hk rfl), (hs.relabM hob (fun l_ => if l_ = 2 then 9 else if l_ = 3 then 10 else l_) (by decide)), (f10.relab (fun l_ => if l_ = 2 then 9 else if l_ = 3 then 10 else l_) rfl), (f5.relab (fun l_ => if l_ = 2 then 9 else if l_ = 3 then 10 else l_) rfl), (f900000.relab (fun l_ => if l_ = 2 then 9 else if l_ = 3 then 10 else l_) rfl), H⟩

/-! tidewrack/tidewracklaw25.do -/
set_option maxHeartbeats 4000000 in
theorem tidewracklaw25_do_calls (K : Nat) (bp0 : Nat) (Ap0_0 : Option Addr) (cp0_0 : Nat) (p0 : T55) (Ap1_0 : Option Addr) (cp1_0 : Nat) (p1 : T46) (p2 : T40) (w : World) (o : Nat → Nat) (Lp0 : Nat) (hp0 : Ft (Bx bp0 56 [.int .i64 p0.most, .int .i64 p0.lost, .slice Ap0_0 (p0.l).length cp0_0]) w o Lp0) (Lp0_0 : Nat) (hp0_0 : Ft (Own ET28 29 (.slice Ap0_0 (p0.l).length cp0_0) p0.l) w o Lp0_0) (hcp0_0 : (p0.l).length ≤ cp0_0) (Lp1_0 : Nat) (hp1_0 : Ft (RdC ET28 Ap1_0 p1.L) w o Lp1_0) (hcp1_0 : (p1.L).length ≤ cp1_0) (hd0 : ([Lp0, Lp0_0, Lp1_0] : List Nat).Nodup) (r : T46 × Bool × T55) (H : tidewracklaw25_do K p0 p1 p2 = some r) :
    Calls Try.prog 19 #[.pointer (some ⟨bp0, 0, none⟩), .agg #[.int .i64 p1.Most, .int .i64 p1.Lost, .slice Ap1_0 (p1.L).length cp1_0], .agg #[.int .i64 p2.Kind, .int .i64 p2.I, .int .i64 p2.At, .int .u32 p2.Mask, .int .i64 p2.Gram_From, .int .i64 p2.Gram_To, .string p2.Gram_Data]] w (Ret fun v_ w' => ∃ o' : Nat → Nat, ∃ A0 : Option Addr, ∃ c0 : Nat, ∃ A1 : Option Addr, ∃ c1 : Nat, v_ = .tuple #[.agg #[.int .i64 r.1.Most, .int .i64 r.1.Lost, .slice A0 (r.1.L).length c0], .bool r.2.1] ∧ St [Lp0, Lp0_0] w o w' o' ∧ Ft (RdC ET28 A0 (r.1.L)) w' o' Lp1_0 ∧ (r.1.L).length ≤ c0 ∧ Ft (Bx bp0 56 [.int .i64 r.2.2.most, .int .i64 r.2.2.lost, .slice A1 (r.2.2.l).length c1]) w' o' Lp0 ∧ Ft (Own ET28 29 (.slice A1 (r.2.2.l).length c1) (r.2.2.l)) w' o' Lp0_0 ∧ (r.2.2.l).length ≤ c1) := by
  refine x_enter (vs := [.pointer (some ⟨bp0, 0, none⟩), .agg #[.int .i64 p1.Most, .int .i64 p1.Lost, .slice Ap1_0 (p1.L).length cp1_0], .agg #[.int .i64 p2.Kind, .int .i64 p2.I, .int .i64 p2.At, .int .u32 p2.Mask, .int .i64 p2.Gram_From, .int .i64 p2.Gram_To, .string p2.Gram_Data]]) Try.func19 rfl rfl rfl fun a hk => ?_
  obtain ⟨oi, hs0, h0, h1, hob, hoz, hoa⟩ := St.startM2 w o (m := 3) hd0 rfl
  have hs := hs0 [1, 2]
  have f900000 := h1 1 2 hp0_0 rfl rfl
  have f900019 := h1 0 1 hp0 rfl rfl
  have f900020 := h1 2 3 hp1_0 rfl rfl
  clear h0 h1 hs0
  rw [tidewracklaw25_do] at H
  refine x_seq ?_
  refine wpIn_region_lit ?_
  refine x_op hk rfl ?_
  refine op_box (o := oi) (t := 47) (v := .agg #[.int .i64 p1.Most, .int .i64 p1.Lost, .slice Ap1_0 (p1.L).length cp1_0]) (cs := [.int .i64 p1.Most, .int .i64 p1.Lost, .slice Ap1_0 (p1.L).length cp1_0]) hk rfl rfl 4 fun bx4 w1 o2 st3 f5 => ?_
  replace f900000 := f900000.st st3 (by decide)
  replace f900019 := f900019.st st3 (by decide)
  replace f900020 := f900020.st st3 (by decide)
  replace hs := hs.locQ st3 hob rfl
  have hk := hk.put 4 (.pointer (some ⟨bx4, 0, none⟩)) rfl
  refine x_op hk rfl ?_
  refine op_box (o := o2) (t := 41) (v := .agg #[.int .i64 p2.Kind, .int .i64 p2.I, .int .i64 p2.At, .int .u32 p2.Mask, .int .i64 p2.Gram_From, .int .i64 p2.Gram_To, .string p2.Gram_Data]) (cs := [.int .i64 p2.Kind, .int .i64 p2.I, .int .i64 p2.At, .int .u32 p2.Mask, .int .i64 p2.Gram_From, .int .i64 p2.Gram_To, .string p2.Gram_Data]) hk rfl rfl 5 fun bx9 w6 o7 st8 f10 => ?_
  replace f5 := f5.st st8 (by decide)
  replace f900000 := f900000.st st8 (by decide)
  replace f900019 := f900019.st st8 (by decide)
  replace f900020 := f900020.st st8 (by decide)
  replace hs := hs.locQ st8 hob rfl
  have hk := hk.put 5 (.pointer (some ⟨bx9, 0, none⟩)) rfl
  refine x_op hk rfl ?_
  refine op_alloc (o := o7) tab (t := 47) (cs := [.int .i64 0, .int .i64 0, .slice none 0 0]) rfl rfl 6 fun bx14 w11 o12 st13 f15 => ?_
  replace f10 := f10.st st13 (by decide)
  replace f5 := f5.st st13 (by decide)
  replace f900000 := f900000.st st13 (by decide)
  replace f900019 := f900019.st st13 (by decide)
  replace f900020 := f900020.st st13 (by decide)
  replace hs := hs.locQ st13 hob rfl
  have hk := hk.put 6 (.pointer (some ⟨bx14, 0, none⟩)) rfl
  refine x_run tab hk (k := 1) (lv := []) (ks := [0, 4, 5, 6]) (e' := [(0, .pointer (some ⟨bp0, 0, none⟩)), (4, .pointer (some ⟨bx4, 0, none⟩)), (5, .pointer (some ⟨bx9, 0, none⟩)), (6, .pointer (some ⟨bx14, 0, none⟩))]) rfl trivial fun a hk => ?_
  refine wpListIn_nil ?_
  refine then_n ?_
  refine x_seq ?_
  refine x_seq ?_
  refine wpIn_region_lit ?_
  refine x_run tab hk (k := 2) (lv := [.int .i64 p2.Kind]) (ks := [0, 4, 5, 6, 26]) (e' := [(0, .pointer (some ⟨bp0, 0, none⟩)), (4, .pointer (some ⟨bx4, 0, none⟩)), (5, .pointer (some ⟨bx9, 0, none⟩)), (6, .pointer (some ⟨bx14, 0, none⟩)), (26, .int .i64 p2.Kind)]) rfl ⟨(load1 tab rfl ((Bx.cell f10.now 0).trans rfl)), trivial⟩ fun a hk => ?_
  refine wpListIn_nil ?_
  refine then_n ?_
  refine wpIn_block ?_
  refine x_seq ?_
  refine wpIn_region_lit ?_
  refine x_run tab hk (k := 2) (lv := []) (ks := [0, 4, 5, 6, 26, 27]) (e' := [(0, .pointer (some ⟨bp0, 0, none⟩)), (4, .pointer (some ⟨bx4, 0, none⟩)), (5, .pointer (some ⟨bx9, 0, none⟩)), (6, .pointer (some ⟨bx14, 0, none⟩)), (26, .int .i64 p2.Kind), (27, .bool (p2.Kind == (0 : Int)))]) rfl trivial fun a hk => ?_
  refine wpListIn_nil ?_
  refine then_n ?_
  cases b16 : (p2.Kind == (0 : Int))
  · rw [b16] at hk H
    replace H := bifF H
    refine x_if hk (b := false) rfl ?_
    refine (show Code.wpIn _ _ _ _ _ _ _ from ?_)
    refine x_seq ?_
    refine wpIn_region_lit ?_
    refine x_run tab hk (k := 2) (lv := []) (ks := [0, 4, 5, 6, 26, 72]) (e' := [(0, .pointer (some ⟨bp0, 0, none⟩)), (4, .pointer (some ⟨bx4, 0, none⟩)), (5, .pointer (some ⟨bx9, 0, none⟩)), (6, .pointer (some ⟨bx14, 0, none⟩)), (26, .int .i64 p2.Kind), (72, .bool (p2.Kind == (1 : Int)))]) rfl trivial fun a hk => ?_
    refine wpListIn_nil ?_
    refine then_n ?_
    cases b17 : (p2.Kind == (1 : Int))
    · rw [b17] at hk H
      replace H := bifF H
      refine x_if hk (b := false) rfl ?_
      refine (show Code.wpIn _ _ _ _ _ _ _ from ?_)
      refine x_seq ?_
      refine wpIn_region_lit ?_
      refine x_run tab hk (k := 2) (lv := []) (ks := [0, 4, 5, 6, 26, 98]) (e' := [(0, .pointer (some ⟨bp0, 0, none⟩)), (4, .pointer (some ⟨bx4, 0, none⟩)), (5, .pointer (some ⟨bx9, 0, none⟩)), (6, .pointer (some ⟨bx14, 0, none⟩)), (26, .int .i64 p2.Kind), (98, .bool (p2.Kind == (2 : Int)))]) rfl trivial fun a hk => ?_
      refine wpListIn_nil ?_
      refine then_n ?_
      cases b18 : (p2.Kind == (2 : Int))
      · rw [b18] at hk H
        replace H := bifF H
        refine x_if hk (b := false) rfl ?_
        refine (show Code.wpIn _ _ _ _ _ _ _ from ?_)
        refine x_seq ?_
        refine wpIn_region_lit ?_
        refine x_run tab hk (k := 2) (lv := []) (ks := [0, 4, 5, 6, 114]) (e' := [(0, .pointer (some ⟨bp0, 0, none⟩)), (4, .pointer (some ⟨bx4, 0, none⟩)), (5, .pointer (some ⟨bx9, 0, none⟩)), (6, .pointer (some ⟨bx14, 0, none⟩)), (114, .bool (p2.Kind == (3 : Int)))]) rfl trivial fun a hk => ?_
        refine wpListIn_nil ?_
        refine then_n ?_
        cases b19 : (p2.Kind == (3 : Int))
        · rw [b19] at hk H
          replace H := bifF H
          refine x_if hk (b := false) rfl ?_
          refine (show Code.wpIn _ _ _ _ _ _ _ from ?_)
          refine wpIn_skip ?_
          refine blk_n ?_
          refine then_n ?_
          refine x_seq ?_
          refine wpIn_region_lit ?_
          refine x_run tab hk (k := 7) (lv := [.agg #[.int .i64 p1.Most, .int .i64 p1.Lost, .slice Ap1_0 (p1.L).length cp1_0], .int .i64 p2.I, .int .i64 p2.At, .int .u32 p2.Mask]) (ks := [0, 5, 6, 131, 133, 135, 137]) (e' := [(0, .pointer (some ⟨bp0, 0, none⟩)), (5, .pointer (some ⟨bx9, 0, none⟩)), (6, .pointer (some ⟨bx14, 0, none⟩)), (131, .agg #[.int .i64 p1.Most, .int .i64 p1.Lost, .slice Ap1_0 (p1.L).length cp1_0]), (133, .int .i64 p2.I), (135, .int .i64 p2.At), (137, .int .u32 p2.Mask)]) rfl ⟨(load_box tab rfl rfl f5.now (k := 0) rfl rfl), (load1 tab rfl ((Bx.cell f10.now 1).trans rfl)), (load1 tab rfl ((Bx.cell f10.now 2).trans rfl)), (load1 tab rfl ((Bx.cell f10.now 3).trans rfl)), trivial⟩ fun a hk => ?_
          refine x_op hk rfl ?_
          obtain ⟨t23, hc24, H⟩ := bindS H
          refine op_call hk ent_30 (vs := [.agg #[.int .i64 p1.Most, .int .i64 p1.Lost, .slice Ap1_0 (p1.L).length cp1_0], .int .i64 p2.I, .int .i64 p2.At, .int .u32 p2.Mask]) rfl (tidewrackref25_Turn_calls K Ap1_0 cp1_0 p1 p2.I p2.At p2.Mask _ o12 3 f900020 hcp1_0 (by decide)   _ hc24) ?_
          rintro _ w25 ⟨o26, A28, c29, rfl, st27, f30, hc31⟩
          replace f10 := f10.st st27 (by decide)
          replace f15 := f15.st st27 (by decide)
          replace f900000 := f900000.st st27 (by decide)
          replace f900019 := f900019.st st27 (by decide)
          replace f900020 := f900020.st st27 (by decide)
          replace hs := hs.locQ st27 hob rfl
          have hk := hk.put 138 (.tuple #[.agg #[.int .i64 t23.1.Most, .int .i64 t23.1.Lost, .slice A28 (t23.1.L).length c29], .bool t23.2]) rfl
          refine x_run tab hk (k := 3) (lv := []) (ks := [0, 5, 6, 139, 140]) (e' := [(0, .pointer (some ⟨bp0, 0, none⟩)), (5, .pointer (some ⟨bx9, 0, none⟩)), (6, .pointer (some ⟨bx14, 0, none⟩)), (139, .agg #[.int .i64 t23.1.Most, .int .i64 t23.1.Lost, .slice A28 (t23.1.L).length c29]), (140, .bool t23.2)]) rfl trivial fun a hk => ?_
          refine x_op hk rfl ?_
          refine op_alloc (o := o26) tab (t := 47) (cs := [.int .i64 0, .int .i64 0, .slice none 0 0]) rfl rfl 7 fun bx35 w32 o33 st34 f36 => ?_
          replace f10 := f10.st st34 (by decide)
          replace f15 := f15.st st34 (by decide)
          replace f30 := f30.st st34 (by decide)
          replace f900000 := f900000.st st34 (by decide)
          replace f900019 := f900019.st st34 (by decide)
          replace hs := hs.locQ st34 hob rfl
          have hk := hk.put 23 (.pointer (some ⟨bx35, 0, none⟩)) rfl
          refine x_op hk rfl ?_
          refine op_store tab hk (t := 47) (v := .agg #[.int .i64 t23.1.Most, .int .i64 t23.1.Lost, .slice A28 (t23.1.L).length c29]) (b := bx35) (k := 0) (cs' := [.int .i64 t23.1.Most, .int .i64 t23.1.Lost, .slice A28 (t23.1.L).length c29]) rfl rfl rfl rfl rfl rfl f36 rfl rfl fun w37 o38 st39 f36_ => ?_
          replace f10 := f10.st st39 (by decide)
          replace f15 := f15.st st39 (by decide)
          replace f30 := f30.st st39 (by decide)
          replace f900000 := f900000.st st39 (by decide)
          replace f900019 := f900019.st st39 (by decide)
          replace hs := hs.locQ st39 hob rfl
          replace f36 := f36_
          refine x_run tab hk (k := 1) (lv := []) (ks := [0, 5, 6, 23, 24]) (e' := [(0, .pointer (some ⟨bp0, 0, none⟩)), (5, .pointer (some ⟨bx9, 0, none⟩)), (6, .pointer (some ⟨bx14, 0, none⟩)), (23, .pointer (some ⟨bx35, 0, none⟩)), (24, .bool t23.2)]) rfl trivial fun a hk => ?_
          refine wpListIn_nil ?_
          refine then_n ?_
          refine x_seq ?_
          refine xd_begin (o := o38) (fun W_ => (Bx bx9 41 [.int .i64 p2.Kind, .int .i64 p2.I, .int .i64 p2.At, .int .u32 p2.Mask, .int .i64 p2.Gram_From, .int .i64 p2.Gram_To, .string p2.Gram_Data]) W_ ∧ (Bx bx35 47 [.int .i64 t23.1.Most, .int .i64 t23.1.Lost, .slice A28 (t23.1.L).length c29]) W_ ∧ True) mixed rfl rfl fun w72 st73 => ?_
          replace f10 := f10.st st73 (by decide)
          replace f15 := f15.st st73 (by decide)
          replace f30 := f30.st st73 (by decide)
          replace f36 := f36.st st73 (by decide)
          replace f900000 := f900000.st st73 (by decide)
          replace f900019 := f900019.st st73 (by decide)
          replace hs := hs.locQ st73 hob rfl
          refine xd_take tab hk (k := 4) (is := [0, 1, 2, 3, 4, 5, 6, 7, 9]) (ls' := #[true, true, true, true, true, true, true, true, false, true, false, false, false]) (lv := [.agg #[.int .i64 t23.1.Most, .int .i64 t23.1.Lost, .slice A28 (t23.1.L).length c29], .int .i64 p2.I, .int .i64 p2.At, .int .u32 p2.Mask]) (ks := [6, 141, 142, 144, 146, 148, 150]) (e' := [(6, .pointer (some ⟨bx14, 0, none⟩)), (141, .agg #[.int .i64 t23.1.Most, .int .i64 t23.1.Lost, .slice A28 (t23.1.L).length c29]), (142, .pointer (some ⟨bp0, 0, none⟩)), (144, .int .i64 p2.I), (146, .int .i64 p2.At), (148, .int .u32 p2.Mask), (150, .bool t23.2)]) (by kernel_rfl) rfl rfl (by kernel_rfl) (np_then np_body) ⟨f10.now, f36.now, trivial⟩ (fun W_ hS => ⟨(load_box tab rfl rfl hS.2.1 (k := 0) rfl rfl), (load1 tab rfl ((Bx.cell hS.1 1).trans rfl)), (load1 tab rfl ((Bx.cell hS.1 2).trans rfl)), (load1 tab rfl ((Bx.cell hS.1 3).trans rfl)), trivial⟩) fun a hk => ?_
          refine xd_op hk (i := 8) (by kernel_rfl) rfl rfl ?_
          obtain ⟨t77, hc78, H⟩ := bindS H
          refine op_call hk ent_17 (vs := [.pointer (some ⟨bp0, 0, none⟩), .int .i64 p2.I, .int .i64 p2.At, .int .u32 p2.Mask]) rfl (net_Net_Turn_calls K bp0 Ap0_0 cp0_0 p0 p2.I p2.At p2.Mask _ o38 1 f900019 2 f900000 hcp0_0 (by decide)   _ hc78) ?_
          rintro _ w79 ⟨o80, A83, c84, rfl, st81, f82, f85, hc86⟩
          replace f10 := f10.st st81 (by decide)
          replace f15 := f15.st st81 (by decide)
          replace f30 := f30.st st81 (by decide)
          replace f36 := f36.st st81 (by decide)
          replace hs := hs.locQ st81 hob rfl
          have hk := hk.put 149 (.bool t77.1) rfl
          refine ⟨.inr ⟨f10.now, f36.now, trivial⟩, ?_⟩
          refine xd_take tab hk (k := 2) (is := [10]) (ls' := #[true, true, true, true, true, true, true, true, true, true, true, false, false]) (lv := []) (ks := [6, 141, 151]) (e' := [(6, .pointer (some ⟨bx14, 0, none⟩)), (141, .agg #[.int .i64 t23.1.Most, .int .i64 t23.1.Lost, .slice A28 (t23.1.L).length c29]), (151, .bool (t77.1 == t23.2))]) (by kernel_rfl) rfl rfl (by kernel_rfl) (np_then np_body) ⟨f10.now, f36.now, trivial⟩ (fun W_ hS => trivial) fun a hk => ?_
          refine xd_op hk (i := 11) (by kernel_rfl) rfl rfl ?_
          refine op_store tab hk (t := 47) (v := .agg #[.int .i64 t23.1.Most, .int .i64 t23.1.Lost, .slice A28 (t23.1.L).length c29]) (b := bx14) (k := 0) (cs' := [.int .i64 t23.1.Most, .int .i64 t23.1.Lost, .slice A28 (t23.1.L).length c29]) rfl rfl rfl rfl rfl rfl f15 rfl rfl fun w87 o88 st89 f15_ => ?_
          replace f10 := f10.st st89 (by decide)
          replace f30 := f30.st st89 (by decide)
          replace f36 := f36.st st89 (by decide)
          replace f82 := f82.st st89 (by decide)
          replace f85 := f85.st st89 (by decide)
          replace hs := hs.locQ st89 hob rfl
          replace f15 := f15_
          refine ⟨.inr ⟨f10.now, f36.now, trivial⟩, ?_⟩
          refine xd_take tab hk (k := 0) (is := [12]) (ls' := #[true, true, true, true, true, true, true, true, true, true, true, true, true]) (lv := []) (ks := [6, 7]) (e' := [(6, .pointer (some ⟨bx14, 0, none⟩)), (7, .bool (t77.1 == t23.2))]) (by kernel_rfl) rfl rfl (by kernel_rfl) (np_then np_body) ⟨f10.now, f36.now, trivial⟩ (fun W_ hS => trivial) fun a hk => ?_
          refine xd_done (by kernel_rfl) ?_
          refine then_n ?_
          refine wpIn_ret ?_
          obtain rfl := Option.some.inj H
          exact x_retG hk (rs := [.cell 6 47, .tmp 7]) (vs := [.agg #[.int .i64 t23.1.Most, .int .i64 t23.1.Lost, .slice A28 (t23.1.L).length c29], .bool (t77.1 == t23.2)]) rfl ⟨⟨_, rfl, load_box tab rfl rfl f15.now (k := 0) rfl rfl⟩, rfl, trivial⟩ ⟨fun b_ => if b_ < w.heap.size then o b_ else (fun l_ => if l_ = 1 then Lp0 else if l_ = 2 then Lp0_0 else if l_ = 3 then Lp1_0 else 0) (o88 b_), A28, c29, A83, c84, rfl, hs.closeQ (Lm := [Lp0, Lp0_0]) (Sh := [Lp1_0]) hoa rfl (fun l_ => if l_ = 1 then Lp0 else if l_ = 2 then Lp0_0 else if l_ = 3 then Lp1_0 else 0), hs.closeM_ft (o := o) (ρ := fun l_ => if l_ = 1 then Lp0 else if l_ = 2 then Lp0_0 else if l_ = 3 then Lp1_0 else 0) f30 (lab_at hoa (i := 2) rfl) rfl, hc31, hs.closeM_ft (o := o) (ρ := fun l_ => if l_ = 1 then Lp0 else if l_ = 2 then Lp0_0 else if l_ = 3 then Lp1_0 else 0) f82 (lab_at hoa (i := 0) rfl) rfl, hs.closeM_ft (o := o) (ρ := fun l_ => if l_ = 1 then Lp0 else if l_ = 2 then Lp0_0 else if l_ = 3 then Lp1_0 else 0) f85 (lab_at hoa (i := 1) rfl) rfl, hc86⟩
        · rw [b19] at hk H
          replace H := bifT H
          refine x_if hk (b := true) rfl ?_
          refine (show Code.wpIn _ _ _ _ _ _ _ from ?_)
          refine x_seq ?_
          refine wpIn_region_lit ?_
          refine x_run tab hk (k := 3) (lv := [.agg #[.int .i64 p1.Most, .int .i64 p1.Lost, .slice Ap1_0 (p1.L).length cp1_0], .int .i64 p2.I]) (ks := [0, 5, 6, 117, 119]) (e' := [(0, .pointer (some ⟨bp0, 0, none⟩)), (5, .pointer (some ⟨bx9, 0, none⟩)), (6, .pointer (some ⟨bx14, 0, none⟩)), (117, .agg #[.int .i64 p1.Most, .int .i64 p1.Lost, .slice Ap1_0 (p1.L).length cp1_0]), (119, .int .i64 p2.I)]) rfl ⟨(load_box tab rfl rfl f5.now (k := 0) rfl rfl), (load1 tab rfl ((Bx.cell f10.now 1).trans rfl)), trivial⟩ fun a hk => ?_
          refine x_op hk rfl ?_
          obtain ⟨t93, hc94, H⟩ := bindS H
          refine op_call hk ent_29 (vs := [.agg #[.int .i64 p1.Most, .int .i64 p1.Lost, .slice Ap1_0 (p1.L).length cp1_0], .int .i64 p2.I]) rfl (tidewrackref25_Twin_calls Ap1_0 cp1_0 p1 p2.I _ o12 3 f900020 hcp1_0 (by decide)   _ hc94) ?_
          rintro _ w95 ⟨o96, A98, c99, rfl, st97, f100, hc101⟩
          replace f10 := f10.st st97 (by decide)
          replace f15 := f15.st st97 (by decide)
          replace f900000 := f900000.st st97 (by decide)
          replace f900019 := f900019.st st97 (by decide)
          replace f900020 := f900020.st st97 (by decide)
          replace hs := hs.locQ st97 hob rfl
          have hk := hk.put 120 (.tuple #[.agg #[.int .i64 t93.1.Most, .int .i64 t93.1.Lost, .slice A98 (t93.1.L).length c99], .bool t93.2]) rfl
          refine x_run tab hk (k := 3) (lv := []) (ks := [0, 5, 6, 121, 122]) (e' := [(0, .pointer (some ⟨bp0, 0, none⟩)), (5, .pointer (some ⟨bx9, 0, none⟩)), (6, .pointer (some ⟨bx14, 0, none⟩)), (121, .agg #[.int .i64 t93.1.Most, .int .i64 t93.1.Lost, .slice A98 (t93.1.L).length c99]), (122, .bool t93.2)]) rfl trivial fun a hk => ?_
          refine x_op hk rfl ?_
          refine op_alloc (o := o96) tab (t := 47) (cs := [.int .i64 0, .int .i64 0, .slice none 0 0]) rfl rfl 8 fun bx105 w102 o103 st104 f106 => ?_
          replace f10 := f10.st st104 (by decide)
          replace f100 := f100.st st104 (by decide)
          replace f15 := f15.st st104 (by decide)
          replace f900000 := f900000.st st104 (by decide)
          replace f900019 := f900019.st st104 (by decide)
          replace hs := hs.locQ st104 hob rfl
          have hk := hk.put 21 (.pointer (some ⟨bx105, 0, none⟩)) rfl
          refine x_op hk rfl ?_
          refine op_store tab hk (t := 47) (v := .agg #[.int .i64 t93.1.Most, .int .i64 t93.1.Lost, .slice A98 (t93.1.L).length c99]) (b := bx105) (k := 0) (cs' := [.int .i64 t93.1.Most, .int .i64 t93.1.Lost, .slice A98 (t93.1.L).length c99]) rfl rfl rfl rfl rfl rfl f106 rfl rfl fun w107 o108 st109 f106_ => ?_
          replace f10 := f10.st st109 (by decide)
          replace f100 := f100.st st109 (by decide)
          replace f15 := f15.st st109 (by decide)
          replace f900000 := f900000.st st109 (by decide)
          replace f900019 := f900019.st st109 (by decide)
          replace hs := hs.locQ st109 hob rfl
          replace f106 := f106_
          refine x_run tab hk (k := 1) (lv := []) (ks := [0, 5, 6, 21, 22]) (e' := [(0, .pointer (some ⟨bp0, 0, none⟩)), (5, .pointer (some ⟨bx9, 0, none⟩)), (6, .pointer (some ⟨bx14, 0, none⟩)), (21, .pointer (some ⟨bx105, 0, none⟩)), (22, .bool t93.2)]) rfl trivial fun a hk => ?_
          refine wpListIn_nil ?_
          refine then_n ?_
          refine x_seq ?_
          refine xd_begin (o := o108) (fun W_ => (Bx bx9 41 [.int .i64 p2.Kind, .int .i64 p2.I, .int .i64 p2.At, .int .u32 p2.Mask, .int .i64 p2.Gram_From, .int .i64 p2.Gram_To, .string p2.Gram_Data]) W_ ∧ (Bx bx105 47 [.int .i64 t93.1.Most, .int .i64 t93.1.Lost, .slice A98 (t93.1.L).length c99]) W_ ∧ True) mixed rfl rfl fun w142 st143 => ?_
          replace f10 := f10.st st143 (by decide)
          replace f100 := f100.st st143 (by decide)
          replace f106 := f106.st st143 (by decide)
          replace f15 := f15.st st143 (by decide)
          replace f900000 := f900000.st st143 (by decide)
          replace f900019 := f900019.st st143 (by decide)
          replace hs := hs.locQ st143 hob rfl
          refine xd_take tab hk (k := 4) (is := [0, 1, 2, 3, 5]) (ls' := #[true, true, true, true, false, true, false, false, false]) (lv := [.agg #[.int .i64 t93.1.Most, .int .i64 t93.1.Lost, .slice A98 (t93.1.L).length c99], .int .i64 p2.I]) (ks := [6, 123, 124, 126, 128]) (e' := [(6, .pointer (some ⟨bx14, 0, none⟩)), (123, .agg #[.int .i64 t93.1.Most, .int .i64 t93.1.Lost, .slice A98 (t93.1.L).length c99]), (124, .pointer (some ⟨bp0, 0, none⟩)), (126, .int .i64 p2.I), (128, .bool t93.2)]) (by kernel_rfl) rfl rfl (by kernel_rfl) (np_then (np_blk (np_then np_body))) ⟨f10.now, f106.now, trivial⟩ (fun W_ hS => ⟨(load_box tab rfl rfl hS.2.1 (k := 0) rfl rfl), (load1 tab rfl ((Bx.cell hS.1 1).trans rfl)), trivial⟩) fun a hk => ?_
          refine xd_op hk (i := 4) (by kernel_rfl) rfl rfl ?_
          obtain ⟨t147, hc148, H⟩ := bindS H
          refine op_call hk ent_16 (vs := [.pointer (some ⟨bp0, 0, none⟩), .int .i64 p2.I]) rfl (net_Net_Twin_calls bp0 Ap0_0 cp0_0 p0 p2.I _ o108 1 f900019 2 f900000 hcp0_0 (by decide)   _ hc148) ?_
          rintro _ w149 ⟨o150, A153, c154, rfl, st151, f152, f155, hc156⟩
          replace f10 := f10.st st151 (by decide)
          replace f100 := f100.st st151 (by decide)
          replace f106 := f106.st st151 (by decide)
          replace f15 := f15.st st151 (by decide)
          replace hs := hs.locQ st151 hob rfl
          have hk := hk.put 127 (.bool t147.1) rfl
          refine ⟨.inr ⟨f10.now, f106.now, trivial⟩, ?_⟩
          refine xd_take tab hk (k := 2) (is := [6]) (ls' := #[true, true, true, true, true, true, true, false, false]) (lv := []) (ks := [6, 123, 129]) (e' := [(6, .pointer (some ⟨bx14, 0, none⟩)), (123, .agg #[.int .i64 t93.1.Most, .int .i64 t93.1.Lost, .slice A98 (t93.1.L).length c99]), (129, .bool (t147.1 == t93.2))]) (by kernel_rfl) rfl rfl (by kernel_rfl) (np_then (np_blk (np_then np_body))) ⟨f10.now, f106.now, trivial⟩ (fun W_ hS => trivial) fun a hk => ?_
          refine xd_op hk (i := 7) (by kernel_rfl) rfl rfl ?_
          refine op_store tab hk (t := 47) (v := .agg #[.int .i64 t93.1.Most, .int .i64 t93.1.Lost, .slice A98 (t93.1.L).length c99]) (b := bx14) (k := 0) (cs' := [.int .i64 t93.1.Most, .int .i64 t93.1.Lost, .slice A98 (t93.1.L).length c99]) rfl rfl rfl rfl rfl rfl f15 rfl rfl fun w157 o158 st159 f15_ => ?_
          replace f10 := f10.st st159 (by decide)
          replace f100 := f100.st st159 (by decide)
          replace f106 := f106.st st159 (by decide)
          replace f152 := f152.st st159 (by decide)
          replace f155 := f155.st st159 (by decide)
          replace hs := hs.locQ st159 hob rfl
          replace f15 := f15_
          refine ⟨.inr ⟨f10.now, f106.now, trivial⟩, ?_⟩
          refine xd_take tab hk (k := 0) (is := [8]) (ls' := #[true, true, true, true, true, true, true, true, true]) (lv := []) (ks := [6, 7]) (e' := [(6, .pointer (some ⟨bx14, 0, none⟩)), (7, .bool (t147.1 == t93.2))]) (by kernel_rfl) rfl rfl (by kernel_rfl) (np_then (np_blk (np_then np_body))) ⟨f10.now, f106.now, trivial⟩ (fun W_ hS => trivial) fun a hk => ?_
          refine xd_done (by kernel_rfl) ?_
          refine then_n ?_
          refine wpIn_ret ?_
          refine blk_r ?_
          refine then_r ?_
          obtain rfl := Option.some.inj H
          exact x_retG hk (rs := [.cell 6 47, .tmp 7]) (vs := [.agg #[.int .i64 t93.1.Most, .int .i64 t93.1.Lost, .slice A98 (t93.1.L).length c99], .bool (t147.1 == t93.2)]) rfl ⟨⟨_, rfl, load_box tab rfl rfl f15.now (k := 0) rfl rfl⟩, rfl, trivial⟩ ⟨fun b_ => if b_ < w.heap.size then o b_ else (fun l_ => if l_ = 1 then Lp0 else if l_ = 2 then Lp0_0 else if l_ = 3 then Lp1_0 else 0) (o158 b_), A98, c99, A153, c154, rfl, hs.closeQ (Lm := [Lp0, Lp0_0]) (Sh := [Lp1_0]) hoa rfl (fun l_ => if l_ = 1 then Lp0 else if l_ = 2 then Lp0_0 else if l_ = 3 then Lp1_0 else 0), hs.closeM_ft (o := o) (ρ := fun l_ => if l_ = 1 then Lp0 else if l_ = 2 then Lp0_0 else if l_ = 3 then Lp1_0 else 0) f100 (lab_at hoa (i := 2) rfl) rfl, hc101, hs.closeM_ft (o := o) (ρ := fun l_ => if l_ = 1 then Lp0 else if l_ = 2 then Lp0_0 else if l_ = 3 then Lp1_0 else 0) f152 (lab_at hoa (i := 0) rfl) rfl, hs.closeM_ft (o := o) (ρ := fun l_ => if l_ = 1 then Lp0 else if l_ = 2 then Lp0_0 else if l_ = 3 then Lp1_0 else 0) f155 (lab_at hoa (i := 1) rfl) rfl, hc156⟩
      · rw [b18] at hk H
        replace H := bifT H
        refine x_if hk (b := true) rfl ?_
        refine (show Code.wpIn _ _ _ _ _ _ _ from ?_)
        refine x_seq ?_
        refine wpIn_region_lit ?_
        refine x_run tab hk (k := 3) (lv := [.agg #[.int .i64 p1.Most, .int .i64 p1.Lost, .slice Ap1_0 (p1.L).length cp1_0], .int .i64 p2.I]) (ks := [0, 5, 6, 101, 103]) (e' := [(0, .pointer (some ⟨bp0, 0, none⟩)), (5, .pointer (some ⟨bx9, 0, none⟩)), (6, .pointer (some ⟨bx14, 0, none⟩)), (101, .agg #[.int .i64 p1.Most, .int .i64 p1.Lost, .slice Ap1_0 (p1.L).length cp1_0]), (103, .int .i64 p2.I)]) rfl ⟨(load_box tab rfl rfl f5.now (k := 0) rfl rfl), (load1 tab rfl ((Bx.cell f10.now 1).trans rfl)), trivial⟩ fun a hk => ?_
        refine x_op hk rfl ?_
        obtain ⟨t163, hc164, H⟩ := bindS H
        refine op_call hk ent_28 (vs := [.agg #[.int .i64 p1.Most, .int .i64 p1.Lost, .slice Ap1_0 (p1.L).length cp1_0], .int .i64 p2.I]) rfl (tidewrackref25_Lose_calls Ap1_0 cp1_0 p1 p2.I _ o12 3 f900020 hcp1_0 (by decide)   _ hc164) ?_
        rintro _ w165 ⟨o166, A168, c169, rfl, st167, f170, hc171⟩
        replace f10 := f10.st st167 (by decide)
        replace f15 := f15.st st167 (by decide)
        replace f900000 := f900000.st st167 (by decide)
        replace f900019 := f900019.st st167 (by decide)
        replace f900020 := f900020.st st167 (by decide)
        replace hs := hs.locQ st167 hob rfl
        have hk := hk.put 104 (.tuple #[.agg #[.int .i64 t163.1.Most, .int .i64 t163.1.Lost, .slice A168 (t163.1.L).length c169], .bool t163.2]) rfl
        refine x_run tab hk (k := 3) (lv := []) (ks := [0, 5, 6, 105, 106]) (e' := [(0, .pointer (some ⟨bp0, 0, none⟩)), (5, .pointer (some ⟨bx9, 0, none⟩)), (6, .pointer (some ⟨bx14, 0, none⟩)), (105, .agg #[.int .i64 t163.1.Most, .int .i64 t163.1.Lost, .slice A168 (t163.1.L).length c169]), (106, .bool t163.2)]) rfl trivial fun a hk => ?_
        refine x_op hk rfl ?_
        refine op_alloc (o := o166) tab (t := 47) (cs := [.int .i64 0, .int .i64 0, .slice none 0 0]) rfl rfl 9 fun bx175 w172 o173 st174 f176 => ?_
        replace f10 := f10.st st174 (by decide)
        replace f15 := f15.st st174 (by decide)
        replace f170 := f170.st st174 (by decide)
        replace f900000 := f900000.st st174 (by decide)
        replace f900019 := f900019.st st174 (by decide)
        replace hs := hs.locQ st174 hob rfl
        have hk := hk.put 19 (.pointer (some ⟨bx175, 0, none⟩)) rfl
        refine x_op hk rfl ?_
        refine op_store tab hk (t := 47) (v := .agg #[.int .i64 t163.1.Most, .int .i64 t163.1.Lost, .slice A168 (t163.1.L).length c169]) (b := bx175) (k := 0) (cs' := [.int .i64 t163.1.Most, .int .i64 t163.1.Lost, .slice A168 (t163.1.L).length c169]) rfl rfl rfl rfl rfl rfl f176 rfl rfl fun w177 o178 st179 f176_ => ?_
        replace f10 := f10.st st179 (by decide)
        replace f15 := f15.st st179 (by decide)
        replace f170 := f170.st st179 (by decide)
        replace f900000 := f900000.st st179 (by decide)
        replace f900019 := f900019.st st179 (by decide)
        replace hs := hs.locQ st179 hob rfl
        replace f176 := f176_
        refine x_run tab hk (k := 1) (lv := []) (ks := [0, 5, 6, 19, 20]) (e' := [(0, .pointer (some ⟨bp0, 0, none⟩)), (5, .pointer (some ⟨bx9, 0, none⟩)), (6, .pointer (some ⟨bx14, 0, none⟩)), (19, .pointer (some ⟨bx175, 0, none⟩)), (20, .bool t163.2)]) rfl trivial fun a hk => ?_
        refine wpListIn_nil ?_
        refine then_n ?_
        refine x_seq ?_
        refine xd_begin (o := o178) (fun W_ => (Bx bx9 41 [.int .i64 p2.Kind, .int .i64 p2.I, .int .i64 p2.At, .int .u32 p2.Mask, .int .i64 p2.Gram_From, .int .i64 p2.Gram_To, .string p2.Gram_Data]) W_ ∧ (Bx bx175 47 [.int .i64 t163.1.Most, .int .i64 t163.1.Lost, .slice A168 (t163.1.L).length c169]) W_ ∧ True) mixed rfl rfl fun w212 st213 => ?_
        replace f10 := f10.st st213 (by decide)
        replace f15 := f15.st st213 (by decide)
        replace f170 := f170.st st213 (by decide)
        replace f176 := f176.st st213 (by decide)
        replace f900000 := f900000.st st213 (by decide)
        replace f900019 := f900019.st st213 (by decide)
        replace hs := hs.locQ st213 hob rfl
        refine xd_take tab hk (k := 4) (is := [0, 1, 2, 3, 5]) (ls' := #[true, true, true, true, false, true, false, false, false]) (lv := [.agg #[.int .i64 t163.1.Most, .int .i64 t163.1.Lost, .slice A168 (t163.1.L).length c169], .int .i64 p2.I]) (ks := [6, 107, 108, 110, 112]) (e' := [(6, .pointer (some ⟨bx14, 0, none⟩)), (107, .agg #[.int .i64 t163.1.Most, .int .i64 t163.1.Lost, .slice A168 (t163.1.L).length c169]), (108, .pointer (some ⟨bp0, 0, none⟩)), (110, .int .i64 p2.I), (112, .bool t163.2)]) (by kernel_rfl) rfl rfl (by kernel_rfl) (np_then (np_blk (np_then np_body))) ⟨f10.now, f176.now, trivial⟩ (fun W_ hS => ⟨(load_box tab rfl rfl hS.2.1 (k := 0) rfl rfl), (load1 tab rfl ((Bx.cell hS.1 1).trans rfl)), trivial⟩) fun a hk => ?_
        refine xd_op hk (i := 4) (by kernel_rfl) rfl rfl ?_
        obtain ⟨t217, hc218, H⟩ := bindS H
        refine op_call hk ent_15 (vs := [.pointer (some ⟨bp0, 0, none⟩), .int .i64 p2.I]) rfl (net_Net_Lose_calls bp0 Ap0_0 cp0_0 p0 p2.I _ o178 1 f900019 2 f900000 hcp0_0 (by decide)   _ hc218) ?_
        rintro _ w219 ⟨o220, A223, c224, rfl, st221, f222, f225, hc226⟩
        replace f10 := f10.st st221 (by decide)
        replace f15 := f15.st st221 (by decide)
        replace f170 := f170.st st221 (by decide)
        replace f176 := f176.st st221 (by decide)
        replace hs := hs.locQ st221 hob rfl
        have hk := hk.put 111 (.bool t217.1) rfl
        refine ⟨.inr ⟨f10.now, f176.now, trivial⟩, ?_⟩
        refine xd_take tab hk (k := 2) (is := [6]) (ls' := #[true, true, true, true, true, true, true, false, false]) (lv := []) (ks := [6, 107, 113]) (e' := [(6, .pointer (some ⟨bx14, 0, none⟩)), (107, .agg #[.int .i64 t163.1.Most, .int .i64 t163.1.Lost, .slice A168 (t163.1.L).length c169]), (113, .bool (t217.1 == t163.2))]) (by kernel_rfl) rfl rfl (by kernel_rfl) (np_then (np_blk (np_then np_body))) ⟨f10.now, f176.now, trivial⟩ (fun W_ hS => trivial) fun a hk => ?_
        refine xd_op hk (i := 7) (by kernel_rfl) rfl rfl ?_
        refine op_store tab hk (t := 47) (v := .agg #[.int .i64 t163.1.Most, .int .i64 t163.1.Lost, .slice A168 (t163.1.L).length c169]) (b := bx14) (k := 0) (cs' := [.int .i64 t163.1.Most, .int .i64 t163.1.Lost, .slice A168 (t163.1.L).length c169]) rfl rfl rfl rfl rfl rfl f15 rfl rfl fun w227 o228 st229 f15_ => ?_
        replace f10 := f10.st st229 (by decide)
        replace f170 := f170.st st229 (by decide)
        replace f176 := f176.st st229 (by decide)
        replace f222 := f222.st st229 (by decide)
        replace f225 := f225.st st229 (by decide)
        replace hs := hs.locQ st229 hob rfl
        replace f15 := f15_
        refine ⟨.inr ⟨f10.now, f176.now, trivial⟩, ?_⟩
        refine xd_take tab hk (k := 0) (is := [8]) (ls' := #[true, true, true, true, true, true, true, true, true]) (lv := []) (ks := [6, 7]) (e' := [(6, .pointer (some ⟨bx14, 0, none⟩)), (7, .bool (t217.1 == t163.2))]) (by kernel_rfl) rfl rfl (by kernel_rfl) (np_then (np_blk (np_then np_body))) ⟨f10.now, f176.now, trivial⟩ (fun W_ hS => trivial) fun a hk => ?_
        refine xd_done (by kernel_rfl) ?_
        refine then_n ?_
        refine wpIn_ret ?_
        refine blk_r ?_
        refine then_r ?_
        obtain rfl := Option.some.inj H
        exact x_retG hk (rs := [.cell 6 47, .tmp 7]) (vs := [.agg #[.int .i64 t163.1.Most, .int .i64 t163.1.Lost, .slice A168 (t163.1.L).length c169], .bool (t217.1 == t163.2)]) rfl ⟨⟨_, rfl, load_box tab rfl rfl f15.now (k := 0) rfl rfl⟩, rfl, trivial⟩ ⟨fun b_ => if b_ < w.heap.size then o b_ else (fun l_ => if l_ = 1 then Lp0 else if l_ = 2 then Lp0_0 else if l_ = 3 then Lp1_0 else 0) (o228 b_), A168, c169, A223, c224, rfl, hs.closeQ (Lm := [Lp0, Lp0_0]) (Sh := [Lp1_0]) hoa rfl (fun l_ => if l_ = 1 then Lp0 else if l_ = 2 then Lp0_0 else if l_ = 3 then Lp1_0 else 0), hs.closeM_ft (o := o) (ρ := fun l_ => if l_ = 1 then Lp0 else if l_ = 2 then Lp0_0 else if l_ = 3 then Lp1_0 else 0) f170 (lab_at hoa (i := 2) rfl) rfl, hc171, hs.closeM_ft (o := o) (ρ := fun l_ => if l_ = 1 then Lp0 else if l_ = 2 then Lp0_0 else if l_ = 3 then Lp1_0 else 0) f222 (lab_at hoa (i := 0) rfl) rfl, hs.closeM_ft (o := o) (ρ := fun l_ => if l_ = 1 then Lp0 else if l_ = 2 then Lp0_0 else if l_ = 3 then Lp1_0 else 0) f225 (lab_at hoa (i := 1) rfl) rfl, hc226⟩
    · rw [b17] at hk H
      replace H := bifT H
      refine x_if hk (b := true) rfl ?_
      refine (show Code.wpIn _ _ _ _ _ _ _ from ?_)
      refine x_seq ?_
      refine wpIn_region_lit ?_
      refine x_run tab hk (k := 3) (lv := [.agg #[.int .i64 p1.Most, .int .i64 p1.Lost, .slice Ap1_0 (p1.L).length cp1_0], .int .i64 p2.I]) (ks := [0, 5, 6, 75, 77]) (e' := [(0, .pointer (some ⟨bp0, 0, none⟩)), (5, .pointer (some ⟨bx9, 0, none⟩)), (6, .pointer (some ⟨bx14, 0, none⟩)), (75, .agg #[.int .i64 p1.Most, .int .i64 p1.Lost, .slice Ap1_0 (p1.L).length cp1_0]), (77, .int .i64 p2.I)]) rfl ⟨(load_box tab rfl rfl f5.now (k := 0) rfl rfl), (load1 tab rfl ((Bx.cell f10.now 1).trans rfl)), trivial⟩ fun a hk => ?_
      refine x_op hk rfl ?_
      obtain ⟨t233, hc234, H⟩ := bindS H
      refine op_call hk ent_27 (vs := [.agg #[.int .i64 p1.Most, .int .i64 p1.Lost, .slice Ap1_0 (p1.L).length cp1_0], .int .i64 p2.I]) rfl (tidewrackref25_Take_calls Ap1_0 cp1_0 p1 p2.I _ o12 3 f900020 hcp1_0 (by decide)   _ hc234) ?_
      rintro _ w235 ⟨o236, A238, c239, rfl, st237, f240, hc241⟩
      replace f10 := f10.st st237 (by decide)
      replace f15 := f15.st st237 (by decide)
      replace f900000 := f900000.st st237 (by decide)
      replace f900019 := f900019.st st237 (by decide)
      replace f900020 := f900020.st st237 (by decide)
      replace hs := hs.locQ st237 hob rfl
      have hk := hk.put 78 (.tuple #[.agg #[.int .i64 t233.1.Most, .int .i64 t233.1.Lost, .slice A238 (t233.1.L).length c239], .agg #[.int .i64 t233.2.1.From, .int .i64 t233.2.1.To, .string t233.2.1.Data], .bool t233.2.2]) rfl
      refine x_run tab hk (k := 4) (lv := []) (ks := [0, 5, 6, 79, 80, 81]) (e' := [(0, .pointer (some ⟨bp0, 0, none⟩)), (5, .pointer (some ⟨bx9, 0, none⟩)), (6, .pointer (some ⟨bx14, 0, none⟩)), (79, .agg #[.int .i64 t233.1.Most, .int .i64 t233.1.Lost, .slice A238 (t233.1.L).length c239]), (80, .agg #[.int .i64 t233.2.1.From, .int .i64 t233.2.1.To, .string t233.2.1.Data]), (81, .bool t233.2.2)]) rfl trivial fun a hk => ?_
      refine x_op hk rfl ?_
      refine op_alloc (o := o236) tab (t := 47) (cs := [.int .i64 0, .int .i64 0, .slice none 0 0]) rfl rfl 10 fun bx245 w242 o243 st244 f246 => ?_
      replace f10 := f10.st st244 (by decide)
      replace f15 := f15.st st244 (by decide)
      replace f240 := f240.st st244 (by decide)
      replace f900000 := f900000.st st244 (by decide)
      replace f900019 := f900019.st st244 (by decide)
      replace hs := hs.locQ st244 hob rfl
      have hk := hk.put 14 (.pointer (some ⟨bx245, 0, none⟩)) rfl
      refine x_op hk rfl ?_
      refine op_alloc (o := o243) tab (t := 39) (cs := [.int .i64 0, .int .i64 0, .string (⟨#[]⟩ : ByteArray)]) rfl rfl 11 fun bx250 w247 o248 st249 f251 => ?_
      replace f10 := f10.st st249 (by decide)
      replace f15 := f15.st st249 (by decide)
      replace f240 := f240.st st249 (by decide)
      replace f246 := f246.st st249 (by decide)
      replace f900000 := f900000.st st249 (by decide)
      replace f900019 := f900019.st st249 (by decide)
      replace hs := hs.locQ st249 hob rfl
      have hk := hk.put 15 (.pointer (some ⟨bx250, 0, none⟩)) rfl
      refine x_op hk rfl ?_
      refine op_store tab hk (t := 47) (v := .agg #[.int .i64 t233.1.Most, .int .i64 t233.1.Lost, .slice A238 (t233.1.L).length c239]) (b := bx245) (k := 0) (cs' := [.int .i64 t233.1.Most, .int .i64 t233.1.Lost, .slice A238 (t233.1.L).length c239]) rfl rfl rfl rfl rfl rfl f246 rfl rfl fun w252 o253 st254 f246_ => ?_
      replace f10 := f10.st st254 (by decide)
      replace f15 := f15.st st254 (by decide)
      replace f240 := f240.st st254 (by decide)
      replace f251 := f251.st st254 (by decide)
      replace f900000 := f900000.st st254 (by decide)
      replace f900019 := f900019.st st254 (by decide)
      replace hs := hs.locQ st254 hob rfl
      replace f246 := f246_
      refine x_op hk rfl ?_
      refine op_store tab hk (t := 39) (v := .agg #[.int .i64 t233.2.1.From, .int .i64 t233.2.1.To, .string t233.2.1.Data]) (b := bx250) (k := 0) (cs' := [.int .i64 t233.2.1.From, .int .i64 t233.2.1.To, .string t233.2.1.Data]) rfl rfl rfl rfl rfl rfl f251 rfl rfl fun w255 o256 st257 f251_ => ?_
      replace f10 := f10.st st257 (by decide)
      replace f15 := f15.st st257 (by decide)
      replace f240 := f240.st st257 (by decide)
      replace f246 := f246.st st257 (by decide)
      replace f900000 := f900000.st st257 (by decide)
      replace f900019 := f900019.st st257 (by decide)
      replace hs := hs.locQ st257 hob rfl
      replace f251 := f251_
      refine x_run tab hk (k := 1) (lv := []) (ks := [0, 5, 6, 14, 15, 16]) (e' := [(0, .pointer (some ⟨bp0, 0, none⟩)), (5, .pointer (some ⟨bx9, 0, none⟩)), (6, .pointer (some ⟨bx14, 0, none⟩)), (14, .pointer (some ⟨bx245, 0, none⟩)), (15, .pointer (some ⟨bx250, 0, none⟩)), (16, .bool t233.2.2)]) rfl trivial fun a hk => ?_
      refine wpListIn_nil ?_
      refine then_n ?_
      refine x_seq ?_
      refine wpIn_region_lit ?_
      refine x_run tab hk (k := 3) (lv := [.int .i64 p2.I]) (ks := [6, 14, 15, 16, 83, 85]) (e' := [(6, .pointer (some ⟨bx14, 0, none⟩)), (14, .pointer (some ⟨bx245, 0, none⟩)), (15, .pointer (some ⟨bx250, 0, none⟩)), (16, .bool t233.2.2), (83, .pointer (some ⟨bp0, 0, none⟩)), (85, .int .i64 p2.I)]) rfl ⟨(load1 tab rfl ((Bx.cell f10.now 1).trans rfl)), trivial⟩ fun a hk => ?_
      refine x_op hk rfl ?_
      obtain ⟨t261, hc262, H⟩ := bindS H
      refine op_call hk ent_12 (vs := [.pointer (some ⟨bp0, 0, none⟩), .int .i64 p2.I]) rfl (net_Net_Take_calls bp0 Ap0_0 cp0_0 p0 p2.I _ o256 1 f900019 2 f900000 hcp0_0 (by decide)   _ hc262) ?_
      rintro _ w263 ⟨o264, A267, c268, rfl, st265, f266, f269, hc270⟩
      replace f15 := f15.st st265 (by decide)
      replace f240 := f240.st st265 (by decide)
      replace f246 := f246.st st265 (by decide)
      replace f251 := f251.st st265 (by decide)
      replace hs := hs.locQ st265 hob rfl
      have hk := hk.put 86 (.tuple #[.agg #[.int .i64 t261.1.From, .int .i64 t261.1.To, .string t261.1.Data], .bool t261.2.1]) rfl
      refine x_run tab hk (k := 3) (lv := []) (ks := [6, 14, 15, 16, 87, 88]) (e' := [(6, .pointer (some ⟨bx14, 0, none⟩)), (14, .pointer (some ⟨bx245, 0, none⟩)), (15, .pointer (some ⟨bx250, 0, none⟩)), (16, .bool t233.2.2), (87, .agg #[.int .i64 t261.1.From, .int .i64 t261.1.To, .string t261.1.Data]), (88, .bool t261.2.1)]) rfl trivial fun a hk => ?_
      refine x_op hk rfl ?_
      refine op_alloc (o := o264) tab (t := 29) (cs := [.int .i64 0, .int .i64 0, .string (⟨#[]⟩ : ByteArray)]) rfl rfl 12 fun bx274 w271 o272 st273 f275 => ?_
      replace f15 := f15.st st273 (by decide)
      replace f240 := f240.st st273 (by decide)
      replace f246 := f246.st st273 (by decide)
      replace f251 := f251.st st273 (by decide)
      replace f266 := f266.st st273 (by decide)
      replace f269 := f269.st st273 (by decide)
      replace hs := hs.locQ st273 hob rfl
      have hk := hk.put 17 (.pointer (some ⟨bx274, 0, none⟩)) rfl
      refine x_op hk rfl ?_
      refine op_store tab hk (t := 29) (v := .agg #[.int .i64 t261.1.From, .int .i64 t261.1.To, .string t261.1.Data]) (b := bx274) (k := 0) (cs' := [.int .i64 t261.1.From, .int .i64 t261.1.To, .string t261.1.Data]) rfl rfl rfl rfl rfl rfl f275 rfl rfl fun w276 o277 st278 f275_ => ?_
      replace f15 := f15.st st278 (by decide)
      replace f240 := f240.st st278 (by decide)
      replace f246 := f246.st st278 (by decide)
      replace f251 := f251.st st278 (by decide)
      replace f266 := f266.st st278 (by decide)
      replace f269 := f269.st st278 (by decide)
      replace hs := hs.locQ st278 hob rfl
      replace f275 := f275_
      refine x_run tab hk (k := 1) (lv := []) (ks := [6, 14, 15, 16, 17, 18]) (e' := [(6, .pointer (some ⟨bx14, 0, none⟩)), (14, .pointer (some ⟨bx245, 0, none⟩)), (15, .pointer (some ⟨bx250, 0, none⟩)), (16, .bool t233.2.2), (17, .pointer (some ⟨bx274, 0, none⟩)), (18, .bool t261.2.1)]) rfl trivial fun a hk => ?_
      refine wpListIn_nil ?_
      refine then_n ?_
      refine x_seq ?_
      refine xd_begin (o := o277) (fun W_ => (Bx bx245 47 [.int .i64 t233.1.Most, .int .i64 t233.1.Lost, .slice A238 (t233.1.L).length c239]) W_ ∧ (Bx bx250 39 [.int .i64 t233.2.1.From, .int .i64 t233.2.1.To, .string t233.2.1.Data]) W_ ∧ (Bx bx274 29 [.int .i64 t261.1.From, .int .i64 t261.1.To, .string t261.1.Data]) W_ ∧ True) mixed rfl rfl fun w293 st294 => ?_
      replace f15 := f15.st st294 (by decide)
      replace f240 := f240.st st294 (by decide)
      replace f246 := f246.st st294 (by decide)
      replace f251 := f251.st st294 (by decide)
      replace f266 := f266.st st294 (by decide)
      replace f269 := f269.st st294 (by decide)
      replace f275 := f275.st st294 (by decide)
      replace hs := hs.locQ st294 hob rfl
      refine xd_take tab hk (k := 6) (is := [0, 1, 2, 3, 4]) (ls' := #[true, true, true, true, true, false, false, false, false, false, false]) (lv := [.agg #[.int .i64 t233.1.Most, .int .i64 t233.1.Lost, .slice A238 (t233.1.L).length c239], .agg #[.int .i64 t261.1.From, .int .i64 t261.1.To, .string t261.1.Data], .agg #[.int .i64 t233.2.1.From, .int .i64 t233.2.1.To, .string t233.2.1.Data], .bool (eqT28 t261.1 t233.2.1)]) (ks := [6, 16, 18, 89, 93]) (e' := [(6, .pointer (some ⟨bx14, 0, none⟩)), (16, .bool t233.2.2), (18, .bool t261.2.1), (89, .agg #[.int .i64 t233.1.Most, .int .i64 t233.1.Lost, .slice A238 (t233.1.L).length c239]), (93, .bool (eqT28 t261.1 t233.2.1))]) (by kernel_rfl) rfl rfl (by kernel_rfl) (np_then (np_blk (np_then np_body))) ⟨f246.now, f251.now, f275.now, trivial⟩ (fun W_ hS => ⟨(load_box tab rfl rfl hS.1 (k := 0) rfl rfl), (load_box tab rfl rfl hS.2.2.1 (k := 0) rfl rfl), (load_box tab rfl rfl hS.2.1 (k := 0) rfl rfl), (ask_eq tab stood rfl rfl rfl rfl), trivial⟩) fun a hk => ?_
      cases b295 : (eqT28 t261.1 t233.2.1)
      · rw [b295] at hk H
        replace H := bifF H
        refine xd_take tab hk (k := 2) (is := [5, 6, 7, 8]) (ls' := #[true, true, true, true, true, true, true, true, true, false, false]) (lv := []) (ks := [6, 89, 97]) (e' := [(6, .pointer (some ⟨bx14, 0, none⟩)), (89, .agg #[.int .i64 t233.1.Most, .int .i64 t233.1.Lost, .slice A238 (t233.1.L).length c239]), (97, .bool false)]) (by kernel_rfl) rfl rfl (by kernel_rfl) (np_then (np_blk (np_then np_body))) ⟨f246.now, f251.now, f275.now, trivial⟩ (fun W_ hS => trivial) fun a hk => ?_
        refine xd_op hk (i := 9) (by kernel_rfl) rfl rfl ?_
        refine op_store tab hk (t := 47) (v := .agg #[.int .i64 t233.1.Most, .int .i64 t233.1.Lost, .slice A238 (t233.1.L).length c239]) (b := bx14) (k := 0) (cs' := [.int .i64 t233.1.Most, .int .i64 t233.1.Lost, .slice A238 (t233.1.L).length c239]) rfl rfl rfl rfl rfl rfl f15 rfl rfl fun w296 o297 st298 f15_ => ?_
        replace f240 := f240.st st298 (by decide)
        replace f246 := f246.st st298 (by decide)
        replace f251 := f251.st st298 (by decide)
        replace f266 := f266.st st298 (by decide)
        replace f269 := f269.st st298 (by decide)
        replace f275 := f275.st st298 (by decide)
        replace hs := hs.locQ st298 hob rfl
        replace f15 := f15_
        refine ⟨.inr ⟨f246.now, f251.now, f275.now, trivial⟩, ?_⟩
        refine xd_take tab hk (k := 0) (is := [10]) (ls' := #[true, true, true, true, true, true, true, true, true, true, true]) (lv := []) (ks := [6, 7]) (e' := [(6, .pointer (some ⟨bx14, 0, none⟩)), (7, .bool false)]) (by kernel_rfl) rfl rfl (by kernel_rfl) (np_then (np_blk (np_then np_body))) ⟨f246.now, f251.now, f275.now, trivial⟩ (fun W_ hS => trivial) fun a hk => ?_
        refine xd_done (by kernel_rfl) ?_
        refine then_n ?_
        refine wpIn_ret ?_
        refine blk_r ?_
        refine then_r ?_
        obtain rfl := Option.some.inj H
        exact x_retG hk (rs := [.cell 6 47, .tmp 7]) (vs := [.agg #[.int .i64 t233.1.Most, .int .i64 t233.1.Lost, .slice A238 (t233.1.L).length c239], .bool false]) rfl ⟨⟨_, rfl, load_box tab rfl rfl f15.now (k := 0) rfl rfl⟩, rfl, trivial⟩ ⟨fun b_ => if b_ < w.heap.size then o b_ else (fun l_ => if l_ = 1 then Lp0 else if l_ = 2 then Lp0_0 else if l_ = 3 then Lp1_0 else 0) (o297 b_), A238, c239, A267, c268, rfl, hs.closeQ (Lm := [Lp0, Lp0_0]) (Sh := [Lp1_0]) hoa rfl (fun l_ => if l_ = 1 then Lp0 else if l_ = 2 then Lp0_0 else if l_ = 3 then Lp1_0 else 0), hs.closeM_ft (o := o) (ρ := fun l_ => if l_ = 1 then Lp0 else if l_ = 2 then Lp0_0 else if l_ = 3 then Lp1_0 else 0) f240 (lab_at hoa (i := 2) rfl) rfl, hc241, hs.closeM_ft (o := o) (ρ := fun l_ => if l_ = 1 then Lp0 else if l_ = 2 then Lp0_0 else if l_ = 3 then Lp1_0 else 0) f266 (lab_at hoa (i := 0) rfl) rfl, hs.closeM_ft (o := o) (ρ := fun l_ => if l_ = 1 then Lp0 else if l_ = 2 then Lp0_0 else if l_ = 3 then Lp1_0 else 0) f269 (lab_at hoa (i := 1) rfl) rfl, hc270⟩
      · rw [b295] at hk H
        replace H := bifT H
        refine xd_take tab hk (k := 2) (is := [5, 6, 7, 8]) (ls' := #[true, true, true, true, true, true, true, true, true, false, false]) (lv := []) (ks := [6, 89, 97]) (e' := [(6, .pointer (some ⟨bx14, 0, none⟩)), (89, .agg #[.int .i64 t233.1.Most, .int .i64 t233.1.Lost, .slice A238 (t233.1.L).length c239]), (97, .bool (t261.2.1 == t233.2.2))]) (by kernel_rfl) rfl rfl (by kernel_rfl) (np_then (np_blk (np_then np_body))) ⟨f246.now, f251.now, f275.now, trivial⟩ (fun W_ hS => trivial) fun a hk => ?_
        refine xd_op hk (i := 9) (by kernel_rfl) rfl rfl ?_
        refine op_store tab hk (t := 47) (v := .agg #[.int .i64 t233.1.Most, .int .i64 t233.1.Lost, .slice A238 (t233.1.L).length c239]) (b := bx14) (k := 0) (cs' := [.int .i64 t233.1.Most, .int .i64 t233.1.Lost, .slice A238 (t233.1.L).length c239]) rfl rfl rfl rfl rfl rfl f15 rfl rfl fun w299 o300 st301 f15_ => ?_
        replace f240 := f240.st st301 (by decide)
        replace f246 := f246.st st301 (by decide)
        replace f251 := f251.st st301 (by decide)
        replace f266 := f266.st st301 (by decide)
        replace f269 := f269.st st301 (by decide)
        replace f275 := f275.st st301 (by decide)
        replace hs := hs.locQ st301 hob rfl
        replace f15 := f15_
        refine ⟨.inr ⟨f246.now, f251.now, f275.now, trivial⟩, ?_⟩
        refine xd_take tab hk (k := 0) (is := [10]) (ls' := #[true, true, true, true, true, true, true, true, true, true, true]) (lv := []) (ks := [6, 7]) (e' := [(6, .pointer (some ⟨bx14, 0, none⟩)), (7, .bool (t261.2.1 == t233.2.2))]) (by kernel_rfl) rfl rfl (by kernel_rfl) (np_then (np_blk (np_then np_body))) ⟨f246.now, f251.now, f275.now, trivial⟩ (fun W_ hS => trivial) fun a hk => ?_
        refine xd_done (by kernel_rfl) ?_
        refine then_n ?_
        refine wpIn_ret ?_
        refine blk_r ?_
        refine then_r ?_
        obtain rfl := Option.some.inj H
        exact x_retG hk (rs := [.cell 6 47, .tmp 7]) (vs := [.agg #[.int .i64 t233.1.Most, .int .i64 t233.1.Lost, .slice A238 (t233.1.L).length c239], .bool (t261.2.1 == t233.2.2)]) rfl ⟨⟨_, rfl, load_box tab rfl rfl f15.now (k := 0) rfl rfl⟩, rfl, trivial⟩ ⟨fun b_ => if b_ < w.heap.size then o b_ else (fun l_ => if l_ = 1 then Lp0 else if l_ = 2 then Lp0_0 else if l_ = 3 then Lp1_0 else 0) (o300 b_), A238, c239, A267, c268, rfl, hs.closeQ (Lm := [Lp0, Lp0_0]) (Sh := [Lp1_0]) hoa rfl (fun l_ => if l_ = 1 then Lp0 else if l_ = 2 then Lp0_0 else if l_ = 3 then Lp1_0 else 0), hs.closeM_ft (o := o) (ρ := fun l_ => if l_ = 1 then Lp0 else if l_ = 2 then Lp0_0 else if l_ = 3 then Lp1_0 else 0) f240 (lab_at hoa (i := 2) rfl) rfl, hc241, hs.closeM_ft (o := o) (ρ := fun l_ => if l_ = 1 then Lp0 else if l_ = 2 then Lp0_0 else if l_ = 3 then Lp1_0 else 0) f266 (lab_at hoa (i := 0) rfl) rfl, hs.closeM_ft (o := o) (ρ := fun l_ => if l_ = 1 then Lp0 else if l_ = 2 then Lp0_0 else if l_ = 3 then Lp1_0 else 0) f269 (lab_at hoa (i := 1) rfl) rfl, hc270⟩
  · rw [b16] at hk H
    replace H := bifT H
    refine x_if hk (b := true) rfl ?_
    refine (show Code.wpIn _ _ _ _ _ _ _ from ?_)
    refine x_seq ?_
    refine wpIn_region_lit ?_
    refine x_run tab hk (k := 2) (lv := [.agg #[.int .i64 p2.Gram_From, .int .i64 p2.Gram_To, .string p2.Gram_Data]]) (ks := [0, 4, 6, 30]) (e' := [(0, .pointer (some ⟨bp0, 0, none⟩)), (4, .pointer (some ⟨bx4, 0, none⟩)), (6, .pointer (some ⟨bx14, 0, none⟩)), (30, .agg #[.int .i64 p2.Gram_From, .int .i64 p2.Gram_To, .string p2.Gram_Data])]) rfl ⟨(load_box tab rfl rfl f10.now (k := 4) rfl rfl), trivial⟩ fun a hk => ?_
    refine x_op hk rfl ?_
    refine op_alloc (o := o12) tab (t := 39) (cs := [.int .i64 0, .int .i64 0, .string (⟨#[]⟩ : ByteArray)]) rfl rfl 13 fun bx305 w302 o303 st304 f306 => ?_
    replace f15 := f15.st st304 (by decide)
    replace f5 := f5.st st304 (by decide)
    replace f900000 := f900000.st st304 (by decide)
    replace f900019 := f900019.st st304 (by decide)
    replace f900020 := f900020.st st304 (by decide)
    replace hs := hs.locQ st304 hob rfl
    have hk := hk.put 8 (.pointer (some ⟨bx305, 0, none⟩)) rfl
    refine x_op hk rfl ?_
    refine op_store tab hk (t := 39) (v := .agg #[.int .i64 p2.Gram_From, .int .i64 p2.Gram_To, .string p2.Gram_Data]) (b := bx305) (k := 0) (cs' := [.int .i64 p2.Gram_From, .int .i64 p2.Gram_To, .string p2.Gram_Data]) rfl rfl rfl rfl rfl rfl f306 rfl rfl fun w307 o308 st309 f306_ => ?_
    replace f15 := f15.st st309 (by decide)
    replace f5 := f5.st st309 (by decide)
    replace f900000 := f900000.st st309 (by decide)
    replace f900019 := f900019.st st309 (by decide)
    replace f900020 := f900020.st st309 (by decide)
    replace hs := hs.locQ st309 hob rfl
    replace f306 := f306_
    refine wpListIn_nil ?_
    refine then_n ?_
    refine x_seq ?_
    refine wpIn_region_lit ?_
    refine x_run tab hk (k := 2) (lv := [.string p2.Gram_Data]) (ks := [0, 4, 6, 8, 32]) (e' := [(0, .pointer (some ⟨bp0, 0, none⟩)), (4, .pointer (some ⟨bx4, 0, none⟩)), (6, .pointer (some ⟨bx14, 0, none⟩)), (8, .pointer (some ⟨bx305, 0, none⟩)), (32, .string p2.Gram_Data)]) rfl ⟨(load1 tab rfl ((Bx.cell f306.now 2).trans rfl)), trivial⟩ fun a hk => ?_
    refine x_op hk rfl ?_
    obtain ⟨t313, hc314, H⟩ := bindS H
    refine op_call hk ent_8 (vs := [.string p2.Gram_Data, .int .i64 40]) rfl (tidewracklaw01_Cut_calls p2.Gram_Data 40 _ o308    _ hc314) ?_
    rintro _ w315 ⟨o316, rfl, st317⟩
    replace f15 := f15.st st317 (by decide)
    replace f306 := f306.st st317 (by decide)
    replace f5 := f5.st st317 (by decide)
    replace f900000 := f900000.st st317 (by decide)
    replace f900019 := f900019.st st317 (by decide)
    replace f900020 := f900020.st st317 (by decide)
    replace hs := hs.locQ st317 hob rfl
    have hk := hk.put 33 (.string t313) rfl
    refine x_run tab hk (k := 1) (lv := []) (ks := [0, 4, 6, 8, 33, 34]) (e' := [(0, .pointer (some ⟨bp0, 0, none⟩)), (4, .pointer (some ⟨bx4, 0, none⟩)), (6, .pointer (some ⟨bx14, 0, none⟩)), (8, .pointer (some ⟨bx305, 0, none⟩)), (33, .string t313), (34, .pointer (some ((⟨bx305, 0, none⟩ : Addr).add 2)))]) rfl trivial fun a hk => ?_
    refine x_op hk rfl ?_
    refine op_store tab hk (t := 9) (v := .string t313) (b := bx305) (k := 2) (cs' := [.int .i64 p2.Gram_From, .int .i64 p2.Gram_To, .string t313]) rfl rfl rfl rfl rfl rfl f306 rfl rfl fun w318 o319 st320 f306_ => ?_
    replace f15 := f15.st st320 (by decide)
    replace f5 := f5.st st320 (by decide)
    replace f900000 := f900000.st st320 (by decide)
    replace f900019 := f900019.st st320 (by decide)
    replace f900020 := f900020.st st320 (by decide)
    replace hs := hs.locQ st320 hob rfl
    replace f306 := f306_
    refine wpListIn_nil ?_
    refine then_n ?_
    refine x_seq ?_
    refine wpIn_region_lit ?_
    refine x_run tab hk (k := 2) (lv := [.agg #[.int .i64 p1.Most, .int .i64 p1.Lost, .slice Ap1_0 (p1.L).length cp1_0], .agg #[.int .i64 p2.Gram_From, .int .i64 p2.Gram_To, .string t313]]) (ks := [0, 6, 8, 36, 37]) (e' := [(0, .pointer (some ⟨bp0, 0, none⟩)), (6, .pointer (some ⟨bx14, 0, none⟩)), (8, .pointer (some ⟨bx305, 0, none⟩)), (36, .agg #[.int .i64 p1.Most, .int .i64 p1.Lost, .slice Ap1_0 (p1.L).length cp1_0]), (37, .agg #[.int .i64 p2.Gram_From, .int .i64 p2.Gram_To, .string t313])]) rfl ⟨(load_box tab rfl rfl f5.now (k := 0) rfl rfl), (load_box tab rfl rfl f306.now (k := 0) rfl rfl), trivial⟩ fun a hk => ?_
    refine x_op hk rfl ?_
    obtain ⟨t324, hc325, H⟩ := bindS H
    refine op_call hk ent_26 (vs := [.agg #[.int .i64 p1.Most, .int .i64 p1.Lost, .slice Ap1_0 (p1.L).length cp1_0], .agg #[.int .i64 p2.Gram_From, .int .i64 p2.Gram_To, .string t313]]) rfl (tidewrackref25_Send_calls Ap1_0 cp1_0 p1 (⟨p2.Gram_From, p2.Gram_To, t313⟩ : T28) _ o319 3 f900020 hcp1_0 (by decide)   _ hc325) ?_
    rintro _ w326 ⟨o327, A329, c330, rfl, st328, f331, hc332⟩
    replace f15 := f15.st st328 (by decide)
    replace f306 := f306.st st328 (by decide)
    replace f900000 := f900000.st st328 (by decide)
    replace f900019 := f900019.st st328 (by decide)
    replace f900020 := f900020.st st328 (by decide)
    replace hs := hs.locQ st328 hob rfl
    have hk := hk.put 38 (.tuple #[.agg #[.int .i64 t324.1.Most, .int .i64 t324.1.Lost, .slice A329 (t324.1.L).length c330], .bool t324.2]) rfl
    refine x_run tab hk (k := 3) (lv := []) (ks := [0, 6, 8, 39, 40]) (e' := [(0, .pointer (some ⟨bp0, 0, none⟩)), (6, .pointer (some ⟨bx14, 0, none⟩)), (8, .pointer (some ⟨bx305, 0, none⟩)), (39, .agg #[.int .i64 t324.1.Most, .int .i64 t324.1.Lost, .slice A329 (t324.1.L).length c330]), (40, .bool t324.2)]) rfl trivial fun a hk => ?_
    refine x_op hk rfl ?_
    refine op_alloc (o := o327) tab (t := 47) (cs := [.int .i64 0, .int .i64 0, .slice none 0 0]) rfl rfl 14 fun bx336 w333 o334 st335 f337 => ?_
    replace f15 := f15.st st335 (by decide)
    replace f306 := f306.st st335 (by decide)
    replace f331 := f331.st st335 (by decide)
    replace f900000 := f900000.st st335 (by decide)
    replace f900019 := f900019.st st335 (by decide)
    replace hs := hs.locQ st335 hob rfl
    have hk := hk.put 9 (.pointer (some ⟨bx336, 0, none⟩)) rfl
    refine x_op hk rfl ?_
    refine op_store tab hk (t := 47) (v := .agg #[.int .i64 t324.1.Most, .int .i64 t324.1.Lost, .slice A329 (t324.1.L).length c330]) (b := bx336) (k := 0) (cs' := [.int .i64 t324.1.Most, .int .i64 t324.1.Lost, .slice A329 (t324.1.L).length c330]) rfl rfl rfl rfl rfl rfl f337 rfl rfl fun w338 o339 st340 f337_ => ?_
    replace f15 := f15.st st340 (by decide)
    replace f306 := f306.st st340 (by decide)
    replace f331 := f331.st st340 (by decide)
    replace f900000 := f900000.st st340 (by decide)
    replace f900019 := f900019.st st340 (by decide)
    replace hs := hs.locQ st340 hob rfl
    replace f337 := f337_
    refine x_run tab hk (k := 1) (lv := []) (ks := [0, 6, 8, 9, 10]) (e' := [(0, .pointer (some ⟨bp0, 0, none⟩)), (6, .pointer (some ⟨bx14, 0, none⟩)), (8, .pointer (some ⟨bx305, 0, none⟩)), (9, .pointer (some ⟨bx336, 0, none⟩)), (10, .bool t324.2)]) rfl trivial fun a hk => ?_
    refine wpListIn_nil ?_
    refine then_n ?_
    refine x_seq ?_
    refine wpIn_region_lit ?_
    refine x_run tab hk (k := 8) (lv := [.agg #[.int .i64 t324.1.Most, .int .i64 t324.1.Lost, .slice A329 (t324.1.L).length c330], .int .i64 p2.Gram_To, .int .i64 p2.Gram_From, .string t313]) (ks := [0, 6, 8, 10, 42, 49]) (e' := [(0, .pointer (some ⟨bp0, 0, none⟩)), (6, .pointer (some ⟨bx14, 0, none⟩)), (8, .pointer (some ⟨bx305, 0, none⟩)), (10, .bool t324.2), (42, .agg #[.int .i64 t324.1.Most, .int .i64 t324.1.Lost, .slice A329 (t324.1.L).length c330]), (49, .agg #[.int .i64 p2.Gram_To, .int .i64 p2.Gram_From, .string t313])]) rfl ⟨(load_box tab rfl rfl f337.now (k := 0) rfl rfl), (load1 tab rfl ((Bx.cell f306.now 1).trans rfl)), (load1 tab rfl ((Bx.cell f306.now 0).trans rfl)), (load1 tab rfl ((Bx.cell f306.now 2).trans rfl)), trivial⟩ fun a hk => ?_
    refine x_op hk rfl ?_
    obtain ⟨t344, hc345, H⟩ := bindS H
    refine op_call hk ent_26 (vs := [.agg #[.int .i64 t324.1.Most, .int .i64 t324.1.Lost, .slice A329 (t324.1.L).length c330], .agg #[.int .i64 p2.Gram_To, .int .i64 p2.Gram_From, .string t313]]) rfl (tidewrackref25_Send_calls A329 c330 t324.1 (⟨p2.Gram_To, p2.Gram_From, t313⟩ : T28) _ o339 3 f331 hc332 (by decide)   _ hc345) ?_
    rintro _ w346 ⟨o347, A349, c350, rfl, st348, f351, hc352⟩
    replace f15 := f15.st st348 (by decide)
    replace f306 := f306.st st348 (by decide)
    replace f331 := f331.st st348 (by decide)
    replace f900000 := f900000.st st348 (by decide)
    replace f900019 := f900019.st st348 (by decide)
    replace hs := hs.locQ st348 hob rfl
    have hk := hk.put 50 (.tuple #[.agg #[.int .i64 t344.1.Most, .int .i64 t344.1.Lost, .slice A349 (t344.1.L).length c350], .bool t344.2]) rfl
    refine x_run tab hk (k := 3) (lv := []) (ks := [0, 6, 8, 10, 51, 52]) (e' := [(0, .pointer (some ⟨bp0, 0, none⟩)), (6, .pointer (some ⟨bx14, 0, none⟩)), (8, .pointer (some ⟨bx305, 0, none⟩)), (10, .bool t324.2), (51, .agg #[.int .i64 t344.1.Most, .int .i64 t344.1.Lost, .slice A349 (t344.1.L).length c350]), (52, .bool t344.2)]) rfl trivial fun a hk => ?_
    refine x_op hk rfl ?_
    refine op_alloc (o := o347) tab (t := 47) (cs := [.int .i64 0, .int .i64 0, .slice none 0 0]) rfl rfl 15 fun bx356 w353 o354 st355 f357 => ?_
    replace f15 := f15.st st355 (by decide)
    replace f306 := f306.st st355 (by decide)
    replace f351 := f351.st st355 (by decide)
    replace f900000 := f900000.st st355 (by decide)
    replace f900019 := f900019.st st355 (by decide)
    replace hs := hs.locQ st355 hob rfl
    have hk := hk.put 11 (.pointer (some ⟨bx356, 0, none⟩)) rfl
    refine x_op hk rfl ?_
    refine op_store tab hk (t := 47) (v := .agg #[.int .i64 t344.1.Most, .int .i64 t344.1.Lost, .slice A349 (t344.1.L).length c350]) (b := bx356) (k := 0) (cs' := [.int .i64 t344.1.Most, .int .i64 t344.1.Lost, .slice A349 (t344.1.L).length c350]) rfl rfl rfl rfl rfl rfl f357 rfl rfl fun w358 o359 st360 f357_ => ?_
    replace f15 := f15.st st360 (by decide)
    replace f306 := f306.st st360 (by decide)
    replace f351 := f351.st st360 (by decide)
    replace f900000 := f900000.st st360 (by decide)
    replace f900019 := f900019.st st360 (by decide)
    replace hs := hs.locQ st360 hob rfl
    replace f357 := f357_
    refine x_run tab hk (k := 1) (lv := []) (ks := [0, 6, 8, 10, 11, 12]) (e' := [(0, .pointer (some ⟨bp0, 0, none⟩)), (6, .pointer (some ⟨bx14, 0, none⟩)), (8, .pointer (some ⟨bx305, 0, none⟩)), (10, .bool t324.2), (11, .pointer (some ⟨bx356, 0, none⟩)), (12, .bool t344.2)]) rfl trivial fun a hk => ?_
    refine wpListIn_nil ?_
    refine then_n ?_
    refine x_seq ?_
    refine wpIn_region_lit ?_
    refine x_run tab hk (k := 9) (lv := [.agg #[.int .i64 p2.Gram_From, .int .i64 p2.Gram_To, .string t313], .int .i64 p2.Gram_To, .int .i64 p2.Gram_From, .string t313]) (ks := [6, 10, 11, 12, 53, 54, 61]) (e' := [(6, .pointer (some ⟨bx14, 0, none⟩)), (10, .bool t324.2), (11, .pointer (some ⟨bx356, 0, none⟩)), (12, .bool t344.2), (53, .pointer (some ⟨bp0, 0, none⟩)), (54, .agg #[.int .i64 p2.Gram_From, .int .i64 p2.Gram_To, .string t313]), (61, .agg #[.int .i64 p2.Gram_To, .int .i64 p2.Gram_From, .string t313])]) rfl ⟨(load_box tab rfl rfl f306.now (k := 0) rfl rfl), (load1 tab rfl ((Bx.cell f306.now 1).trans rfl)), (load1 tab rfl ((Bx.cell f306.now 0).trans rfl)), (load1 tab rfl ((Bx.cell f306.now 2).trans rfl)), trivial⟩ fun a hk => ?_
    refine x_op hk rfl ?_
    refine op_slice (o := o359) tab hk (vs := [.agg #[.int .i64 p2.Gram_From, .int .i64 p2.Gram_To, .string t313], .agg #[.int .i64 p2.Gram_To, .int .i64 p2.Gram_From, .string t313]]) (cs := [.int .i64 p2.Gram_From, .int .i64 p2.Gram_To, .string t313, .int .i64 p2.Gram_To, .int .i64 p2.Gram_From, .string t313]) rfl rfl rfl rfl rfl rfl rfl rfl rfl 16 fun bx364 w361 o362 st363 f365 => ?_
    replace f15 := f15.st st363 (by decide)
    replace f351 := f351.st st363 (by decide)
    replace f357 := f357.st st363 (by decide)
    replace f900000 := f900000.st st363 (by decide)
    replace f900019 := f900019.st st363 (by decide)
    replace hs := hs.locQ st363 hob rfl
    have f366 : Ft (Own ET28 29 (.slice (some ⟨bx364, 0, none⟩) (([(⟨p2.Gram_From, p2.Gram_To, t313⟩ : T28), (⟨p2.Gram_To, p2.Gram_From, t313⟩ : T28)] : List T28)).length 2) ([(⟨p2.Gram_From, p2.Gram_To, t313⟩ : T28), (⟨p2.Gram_To, p2.Gram_From, t313⟩ : T28)] : List T28)) w361 o362 16 := f365.imp fun _ h_ => Own.of_box h_ rfl (by simp)
    have hk := hk.put 62 (.slice (some ⟨bx364, 0, none⟩) (([(⟨p2.Gram_From, p2.Gram_To, t313⟩ : T28), (⟨p2.Gram_To, p2.Gram_From, t313⟩ : T28)] : List T28)).length 2) rfl
    refine x_op hk rfl ?_
    obtain ⟨t370, hc371, H⟩ := bindS H
    refine op_call hk ent_9 (vs := [.pointer (some ⟨bp0, 0, none⟩), .slice (some ⟨bx364, 0, none⟩) (([(⟨p2.Gram_From, p2.Gram_To, t313⟩ : T28), (⟨p2.Gram_To, p2.Gram_From, t313⟩ : T28)] : List T28)).length 2]) rfl (net_Net_Send_calls K bp0 Ap0_0 cp0_0 p0 (some ⟨bx364, 0, none⟩) 2 ([(⟨p2.Gram_From, p2.Gram_To, t313⟩ : T28), (⟨p2.Gram_To, p2.Gram_From, t313⟩ : T28)] : List T28) _ o362 1 f900019 2 f900000 hcp0_0 _ (f366.imp fun _ h_ => Own.rd h_) (Nat.le_refl _) (by decide) (by decide)   _ hc371) ?_
    rintro _ w372 ⟨o373, A376, c377, rfl, st374, f375, f378, hc379⟩
    replace f15 := f15.st st374 (by decide)
    replace f351 := f351.st st374 (by decide)
    replace f357 := f357.st st374 (by decide)
    replace f366 := f366.st st374 (by decide)
    replace hs := hs.locQ st374 hob rfl
    have hk := hk.put 63 (.int .i64 t370.1) rfl
    refine x_run tab hk (k := 1) (lv := []) (ks := [6, 10, 11, 12, 13]) (e' := [(6, .pointer (some ⟨bx14, 0, none⟩)), (10, .bool t324.2), (11, .pointer (some ⟨bx356, 0, none⟩)), (12, .bool t344.2), (13, .int .i64 t370.1)]) rfl trivial fun a hk => ?_
    refine wpListIn_nil ?_
    refine then_n ?_
    refine x_seq ?_
    refine xd_begin (o := o373) (fun W_ => (Bx bx356 47 [.int .i64 t344.1.Most, .int .i64 t344.1.Lost, .slice A349 (t344.1.L).length c350]) W_ ∧ True) mixed rfl rfl fun w418 st419 => ?_
    replace f15 := f15.st st419 (by decide)
    replace f351 := f351.st st419 (by decide)
    replace f357 := f357.st st419 (by decide)
    replace f375 := f375.st st419 (by decide)
    replace f378 := f378.st st419 (by decide)
    replace hs := hs.locQ st419 hob rfl
    refine xd_take tab hk (k := 6) (is := [0, 1, 2, 4]) (ls' := #[true, true, true, false, true, false, false, false, false, false]) (lv := [.agg #[.int .i64 t344.1.Most, .int .i64 t344.1.Lost, .slice A349 (t344.1.L).length c350]]) (ks := [6, 64, 65, 66, 68]) (e' := [(6, .pointer (some ⟨bx14, 0, none⟩)), (64, .agg #[.int .i64 t344.1.Most, .int .i64 t344.1.Lost, .slice A349 (t344.1.L).length c350]), (65, .int .i64 t370.1), (66, .bool t324.2), (68, .bool t344.2)]) (by kernel_rfl) rfl rfl (by kernel_rfl) (np_then (np_blk (np_then np_body))) ⟨f357.now, trivial⟩ (fun W_ hS => ⟨(load_box tab rfl rfl hS.1 (k := 0) rfl rfl), trivial⟩) fun a hk => ?_
    refine xd_op hk (i := 3) (by kernel_rfl) rfl rfl ?_
    obtain ⟨t423, hc424, H⟩ := bindS H
    refine op_call hk ent_10 (vs := [.bool t324.2]) rfl (tidewracklaw25_bit_calls t324.2 _ o373    _ hc424) ?_
    rintro _ w425 ⟨o426, rfl, st427⟩
    replace f15 := f15.st st427 (by decide)
    replace f351 := f351.st st427 (by decide)
    replace f357 := f357.st st427 (by decide)
    replace f375 := f375.st st427 (by decide)
    replace f378 := f378.st st427 (by decide)
    replace hs := hs.locQ st427 hob rfl
    have hk := hk.put 67 (.int .i64 t423) rfl
    refine ⟨.inr ⟨f357.now, trivial⟩, ?_⟩
    refine xd_op hk (i := 5) (by kernel_rfl) rfl rfl ?_
    obtain ⟨t431, hc432, H⟩ := bindS H
    refine op_call hk ent_10 (vs := [.bool t344.2]) rfl (tidewracklaw25_bit_calls t344.2 _ o426    _ hc432) ?_
    rintro _ w433 ⟨o434, rfl, st435⟩
    replace f15 := f15.st st435 (by decide)
    replace f351 := f351.st st435 (by decide)
    replace f357 := f357.st st435 (by decide)
    replace f375 := f375.st st435 (by decide)
    replace f378 := f378.st st435 (by decide)
    replace hs := hs.locQ st435 hob rfl
    have hk := hk.put 69 (.int .i64 t431) rfl
    refine ⟨.inr ⟨f357.now, trivial⟩, ?_⟩
    refine xd_take tab hk (k := 2) (is := [6, 7]) (ls' := #[true, true, true, true, true, true, true, true, false, false]) (lv := []) (ks := [6, 64, 71]) (e' := [(6, .pointer (some ⟨bx14, 0, none⟩)), (64, .agg #[.int .i64 t344.1.Most, .int .i64 t344.1.Lost, .slice A349 (t344.1.L).length c350]), (71, .bool (t370.1 == (IntKind.wrap .i64 (t423 + t431))))]) (by kernel_rfl) rfl rfl (by kernel_rfl) (np_then (np_blk (np_then np_body))) ⟨f357.now, trivial⟩ (fun W_ hS => trivial) fun a hk => ?_
    refine xd_op hk (i := 8) (by kernel_rfl) rfl rfl ?_
    refine op_store tab hk (t := 47) (v := .agg #[.int .i64 t344.1.Most, .int .i64 t344.1.Lost, .slice A349 (t344.1.L).length c350]) (b := bx14) (k := 0) (cs' := [.int .i64 t344.1.Most, .int .i64 t344.1.Lost, .slice A349 (t344.1.L).length c350]) rfl rfl rfl rfl rfl rfl f15 rfl rfl fun w436 o437 st438 f15_ => ?_
    replace f351 := f351.st st438 (by decide)
    replace f357 := f357.st st438 (by decide)
    replace f375 := f375.st st438 (by decide)
    replace f378 := f378.st st438 (by decide)
    replace hs := hs.locQ st438 hob rfl
    replace f15 := f15_
    refine ⟨.inr ⟨f357.now, trivial⟩, ?_⟩
    refine xd_take tab hk (k := 0) (is := [9]) (ls' := #[true, true, true, true, true, true, true, true, true, true]) (lv := []) (ks := [6, 7]) (e' := [(6, .pointer (some ⟨bx14, 0, none⟩)), (7, .bool (t370.1 == (IntKind.wrap .i64 (t423 + t431))))]) (by kernel_rfl) rfl rfl (by kernel_rfl) (np_then (np_blk (np_then np_body))) ⟨f357.now, trivial⟩ (fun W_ hS => trivial) fun a hk => ?_
    refine xd_done (by kernel_rfl) ?_
    refine then_n ?_
    refine wpIn_ret ?_
    refine blk_r ?_
    refine then_r ?_
    obtain rfl := Option.some.inj H
    exact x_retG hk (rs := [.cell 6 47, .tmp 7]) (vs := [.agg #[.int .i64 t344.1.Most, .int .i64 t344.1.Lost, .slice A349 (t344.1.L).length c350], .bool (t370.1 == (IntKind.wrap .i64 (t423 + t431)))]) rfl ⟨⟨_, rfl, load_box tab rfl rfl f15.now (k := 0) rfl rfl⟩, rfl, trivial⟩ ⟨fun b_ => if b_ < w.heap.size then o b_ else (fun l_ => if l_ = 1 then Lp0 else if l_ = 2 then Lp0_0 else if l_ = 3 then Lp1_0 else 0) (o437 b_), A349, c350, A376, c377, rfl, hs.closeQ (Lm := [Lp0, Lp0_0]) (Sh := [Lp1_0]) hoa rfl (fun l_ => if l_ = 1 then Lp0 else if l_ = 2 then Lp0_0 else if l_ = 3 then Lp1_0 else 0), hs.closeM_ft (o := o) (ρ := fun l_ => if l_ = 1 then Lp0 else if l_ = 2 then Lp0_0 else if l_ = 3 then Lp1_0 else 0) f351 (lab_at hoa (i := 2) rfl) rfl, hc352, hs.closeM_ft (o := o) (ρ := fun l_ => if l_ = 1 then Lp0 else if l_ = 2 then Lp0_0 else if l_ = 3 then Lp1_0 else 0) f375 (lab_at hoa (i := 0) rfl) rfl, hs.closeM_ft (o := o) (ρ := fun l_ => if l_ = 1 then Lp0 else if l_ = 2 then Lp0_0 else if l_ = 3 then Lp1_0 else 0) f378 (lab_at hoa (i := 1) rfl) rfl, hc379⟩

/-! slices.Clone[[]tidewrack/net.Gram,tidewrack/net.Gram] -/
theorem net_Gram'_calls (Ap0 : Option Addr) (cp0 : Nat) (p0 : List T28) (w : World) (o : Nat → Nat) (Lp0 : Nat) (hp0 : Ft (RdC ET28 Ap0 p0) w o Lp0) (hcp0 : (p0).length ≤ cp0)  (R0 : Nat) (r : List T28) (H : net_Gram' p0 = some r) :
    Calls Try.prog 33 #[.slice Ap0 (p0).length cp0] w (Ret fun v_ w' => ∃ o' : Nat → Nat, ∃ A0 : Option Addr, ∃ c0 : Nat, v_ = .slice A0 (r).length c0 ∧ St [] w o w' o' ∧ Ft (Own ET28 29 (.slice A0 (r).length c0) (r)) w' o' R0 ∧ (r).length ≤ c0) := by
  refine x_enter (vs := [.slice Ap0 (p0).length cp0]) Try.func33 rfl rfl rfl fun a hk => ?_
  obtain ⟨o0, hs, h0⟩ := St.start w o
  have f900000 := h0 _ _ hp0
  clear h0
  rw [net_Gram'] at H
  refine x_seq ?_
  refine wpIn_region_lit ?_
  refine x_run tab hk (k := 1) (lv := []) (ks := [0]) (e' := [(0, .slice Ap0 (p0).length cp0)]) rfl trivial fun a hk => ?_
  refine wpListIn_nil ?_
  refine then_n ?_
  refine x_seq ?_
  refine x_seq ?_
  refine wpIn_region_lit ?_
  refine x_run tab hk (k := 1) (lv := []) (ks := [0, 3]) (e' := [(0, .slice Ap0 (p0).length cp0), (3, .slice Ap0 (p0).length cp0)]) rfl trivial fun a hk => ?_
  rcases none_or Ap0 with hAad1 | ⟨ad1, hAad1⟩
  · have hk_C := hk
    have f900000_C := f900000
    subst hAad1
    have hk := hk_C
    clear hk_C
    have f900000 := f900000_C
    clear f900000_C
    have hz2 : p0 = [] := RdC.none f900000.now
    replace H : (some ([] : List T28)) = some r := by (try rw [hz2] at H); simpa using H
    refine x_run tab hk (k := 1) (lv := []) (ks := [0, 4]) (e' := [(0, .slice none (p0).length cp0), (4, .bool true)]) rfl trivial fun a hk => ?_
    refine wpListIn_nil ?_
    refine then_n ?_
    refine x_if hk (b := true) rfl ?_
    refine (show Code.wpIn _ _ _ _ _ _ _ from ?_)
    refine x_seq ?_
    refine wpIn_region_lit ?_
    refine x_run tab hk (k := 1) (lv := []) (ks := [2]) (e' := [(2, .slice none 0 0)]) rfl trivial fun a hk => ?_
    refine wpListIn_nil ?_
    refine then_n ?_
    refine wpIn_ret ?_
    refine then_r ?_
    obtain rfl := Option.some.inj H
    exact x_retG hk (rs := [.tmp 2]) (vs := [.slice none 0 0]) rfl ⟨rfl, trivial⟩ ⟨fun b_ => if b_ < w.heap.size then o b_ else (fun _ => 0) (o0 b_), none, 0, rfl, hs.close0 o (fun _ => 0), (Ft.of_all (fun _ => Own.nil _ _ _) _ _ _), (by simp)⟩
  · have hk_C := hk
    have f900000_C := f900000
    subst hAad1
    have hk := hk_C
    clear hk_C
    have f900000 := f900000_C
    clear f900000_C
    refine x_run tab hk (k := 1) (lv := []) (ks := [0, 4]) (e' := [(0, .slice (some ad1) (p0).length cp0), (4, .bool false)]) rfl trivial fun a hk => ?_
    refine wpListIn_nil ?_
    refine then_n ?_
    refine x_if hk (b := false) rfl ?_
    refine (show Code.wpIn _ _ _ _ _ _ _ from ?_)
    refine wpIn_skip ?_
    refine then_n ?_
    refine x_seq ?_
    refine wpIn_region_lit ?_
    refine x_op hk rfl ?_
    refine op_slice (o := o0) tab hk (vs := []) (cs := []) rfl rfl rfl rfl rfl rfl rfl rfl rfl 1 fun bx6 w3 o4 st5 f7 => ?_
    replace f900000 := f900000.st st5 (by decide)
    replace hs := hs.loc0 st5 (by decide)
    have f8 : Ft (Own ET28 29 (.slice (some ⟨bx6, 0, none⟩) (([] : List T28)).length 0) ([] : List T28)) w3 o4 1 := f7.imp fun _ h_ => Own.of_box h_ rfl (by simp)
    have hk := hk.put 5 (.slice (some ⟨bx6, 0, none⟩) (([] : List T28)).length 0) rfl
    refine x_run tab hk (k := 1) (lv := []) (ks := [5, 6]) (e' := [(5, .slice (some ⟨bx6, 0, none⟩) (([] : List T28)).length 0), (6, .slice (some ad1) (p0).length cp0)]) rfl trivial fun a hk => ?_
    refine x_op hk rfl ?_
    obtain ⟨q12, H⟩ := ifS H
    refine op_append (o := o4) (E := ET28) (xs := ([] : List T28)) (ys := p0) tab hk rfl rfl rfl rfl rfl rfl rfl f8 f900000.now q12 fun A13 c14 w9 o10 st11 f15 hc16 => ?_
    replace f900000 := f900000.st st11 (by decide)
    replace hs := hs.loc0 st11 (by decide)
    have hk := hk.put 7 (.slice A13 ((([] : List T28) ++ p0)).length c14) rfl
    refine x_run tab hk (k := 1) (lv := []) (ks := [2]) (e' := [(2, .slice A13 ((([] : List T28) ++ p0)).length c14)]) rfl trivial fun a hk => ?_
    refine wpListIn_nil ?_
    refine then_n ?_
    refine wpIn_ret ?_
    obtain rfl := Option.some.inj H
    exact x_retG hk (rs := [.tmp 2]) (vs := [.slice A13 ((([] : List T28) ++ p0)).length c14]) rfl ⟨rfl, trivial⟩ ⟨fun b_ => if b_ < w.heap.size then o b_ else (fun _ => R0) (o10 b_), A13, c14, rfl, hs.close0 o (fun _ => R0), hs.close_ft (o := o) (ρ := fun _ => R0) f15 (by decide) rfl, hc16⟩

end Go.Proofs.Ytknddjjgidaedaa
