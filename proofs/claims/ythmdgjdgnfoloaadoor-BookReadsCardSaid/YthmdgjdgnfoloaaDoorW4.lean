/- Walks, printed by an own program: the machine's calls compute the plain functions. -/
import Derived.Test.YthmdgjdgnfoloaaDoorW3
set_option linter.unusedVariables false
set_option linter.unusedSimpArgs false
namespace Go.Proofs.YthmdgjdgnfoloaaDoor
open Go Go.Proofs.XC
/-! (*tidewrack/num.In).Err -/
theorem num_In_Err_calls (bp0 : Nat) (p0 : T88) (w : World) (o : Nat → Nat) (Lp0 : Nat) (hp0 : Ft (Bx bp0 89 [.string p0.s, .int .i64 p0.e]) w o Lp0)  (r : Int) (H : num_In_Err p0 = some r) :
    Calls Tryd.prog 28 #[.pointer (some ⟨bp0, 0, none⟩)] w (Ret fun v_ w' => ∃ o' : Nat → Nat, v_ = .int .i64 r ∧ St [] w o w' o') := by
  refine x_enter (vs := [.pointer (some ⟨bp0, 0, none⟩)]) Tryd.func28 rfl rfl rfl fun a hk => ?_
  obtain ⟨o0, hs, h0⟩ := St.start w o
  have f900019 := h0 _ _ hp0
  clear h0
  rw [num_In_Err] at H
  refine x_seq ?_
  refine wpIn_region_lit ?_
  refine x_run tab hk (k := 1) (lv := []) (ks := [0]) (e' := [(0, .pointer (some ⟨bp0, 0, none⟩))]) rfl trivial fun a hk => ?_
  refine wpListIn_nil ?_
  refine then_n ?_
  refine x_seq ?_
  refine wpIn_region_lit ?_
  refine x_run tab hk (k := 5) (lv := [.int .i64 p0.e]) (ks := [2]) (e' := [(2, .int .i64 p0.e)]) rfl ⟨(load1 tab rfl ((Bx.cell f900019.now 1).trans rfl)), trivial⟩ fun a hk => ?_
  refine wpListIn_nil ?_
  refine then_n ?_
  refine wpIn_ret ?_
  obtain rfl := Option.some.inj H
  exact x_retG hk (rs := [.tmp 2]) (vs := [.int .i64 p0.e]) rfl ⟨rfl, trivial⟩ ⟨fun b_ => if b_ < w.heap.size then o b_ else (fun _ => 0) (o0 b_), rfl, hs.close0 o (fun _ => 0)⟩

/-! tidewrack/book.Read -/
theorem book_Read_calls (K : Nat) (bp0 : Nat) (p0 : T88) (w : World) (o : Nat → Nat) (Lp0 : Nat) (hp0 : Ft (Bx bp0 89 [.string p0.s, .int .i64 p0.e]) w o Lp0) (hd0 : ([Lp0] : List Nat).Nodup) (R0 : Nat) (r : (List T49) × T88) (H : book_Read K p0 = some r) :
    Calls Tryd.prog 24 #[.pointer (some ⟨bp0, 0, none⟩)] w (Ret fun v_ w' => ∃ o' : Nat → Nat, ∃ A0 : Option Addr, ∃ c0 : Nat, v_ = .slice A0 (r.1).length c0 ∧ St [Lp0] w o w' o' ∧ Ft (Own ET49 50 (.slice A0 (r.1).length c0) (r.1)) w' o' R0 ∧ (r.1).length ≤ c0 ∧ Ft (Bx bp0 89 [.string r.2.s, .int .i64 r.2.e]) w' o' Lp0) := by
  refine x_enter (vs := [.pointer (some ⟨bp0, 0, none⟩)]) Tryd.func24 rfl rfl rfl fun a hk => ?_
  obtain ⟨oi, hs0, h0, h1, hob, hoz, hoa⟩ := St.startM2 w o (m := 1) hd0 rfl
  have hs := hs0 [1]
  have hom := lab_in hob (MM := [1]) (by decide)
  have f900019 := h1 0 1 hp0 rfl rfl
  clear h0 h1 hs0
  rw [book_Read] at H
  refine x_seq ?_
  refine wpIn_region_lit ?_
  refine x_run tab hk (k := 1) (lv := []) (ks := [0]) (e' := [(0, .pointer (some ⟨bp0, 0, none⟩))]) rfl trivial fun a hk => ?_
  refine wpListIn_nil ?_
  refine then_n ?_
  refine x_seq ?_
  refine wpIn_region_lit ?_
  refine x_run tab hk (k := 1) (lv := []) (ks := [0, 3]) (e' := [(0, .pointer (some ⟨bp0, 0, none⟩)), (3, .slice none 0 0)]) rfl trivial fun a hk => ?_
  refine wpListIn_nil ?_
  refine then_n ?_
  refine x_mid (fun a_ w_ => ∃ o135 : Nat → Nat, ∃ x136 : T88, ∃ A137 : Option Addr, ∃ c138 : Nat, ∃ l139 : List T49, Kn 22 a_ [(0, .pointer (some ⟨bp0, 0, none⟩)), (3, .slice A137 (l139).length c138)] ∧ St [1] w oi w_ o135 ∧ Ft (Own ET49 50 (.slice A137 (l139).length c138) l139) w_ o135 8 ∧ Ft (Bx bp0 89 [.string x136.s, .int .i64 x136.e]) w_ o135 1 ∧ (l139).length ≤ c138 ∧ book_Read_j1 x136 l139 = some r) ?_ ?_
  rotate_left
  · rintro a w142 ⟨o135, x136, A137, c138, l139, hk, hs, f140, f9, hc141, H⟩
    rw [book_Read_j1] at H
    refine x_seq ?_
    refine x_seq ?_
    refine wpIn_region_lit ?_
    refine x_run tab hk (k := 1) (lv := []) (ks := [3, 18]) (e' := [(3, .slice A137 (l139).length c138), (18, .pointer (some ⟨bp0, 0, none⟩))]) rfl trivial fun a hk => ?_
    refine x_op hk rfl ?_
    obtain ⟨t146, hc147, H⟩ := bindS H
    refine op_call hk ent_28 (vs := [.pointer (some ⟨bp0, 0, none⟩)]) rfl (num_In_Err_calls bp0 x136 _ o135 1 f9   _ hc147) ?_
    rintro _ w148 ⟨o149, rfl, st150⟩
    replace f140 := f140.st st150 (by decide)
    replace f9 := f9.st st150 (by decide)
    replace hs := hs.locM st150 (by decide) hom
    have hk := hk.put 19 (.int .i64 t146) rfl
    refine x_run tab hk (k := 1) (lv := []) (ks := [3, 20]) (e' := [(3, .slice A137 (l139).length c138), (20, .bool (t146 != (0 : Int)))]) rfl trivial fun a hk => ?_
    refine wpListIn_nil ?_
    refine then_n ?_
    cases b151 : (t146 != (0 : Int))
    · rw [b151] at hk H
      replace H := bifF H
      refine x_if hk (b := false) rfl ?_
      refine (show Code.wpIn _ _ _ _ _ _ _ from ?_)
      refine wpIn_skip ?_
      refine then_n ?_
      refine x_seq ?_
      refine wpIn_region_lit ?_
      refine x_run tab hk (k := 2) (lv := []) (ks := [2]) (e' := [(2, .slice A137 (l139).length c138)]) rfl trivial fun a hk => ?_
      refine wpListIn_nil ?_
      refine then_n ?_
      refine wpIn_ret ?_
      obtain rfl := Option.some.inj H
      exact x_retG hk (rs := [.tmp 2]) (vs := [.slice A137 (l139).length c138]) rfl ⟨rfl, trivial⟩ ⟨fun b_ => if b_ < w.heap.size then o b_ else (fun l_ => if l_ = 1 then Lp0 else if l_ = 8 then R0 else 0) (o149 b_), A137, c138, rfl, hs.closeM hoz (by decide) (fun l_ => if l_ = 1 then Lp0 else if l_ = 8 then R0 else 0), hs.closeM_ft (o := o) (ρ := fun l_ => if l_ = 1 then Lp0 else if l_ = 8 then R0 else 0) f140 (lab_none hob rfl) rfl, hc141, hs.closeM_ft (o := o) (ρ := fun l_ => if l_ = 1 then Lp0 else if l_ = 8 then R0 else 0) f9 (lab_at hoa (i := 0) rfl) rfl⟩
    · rw [b151] at hk H
      replace H := bifT H
      refine x_if hk (b := true) rfl ?_
      refine (show Code.wpIn _ _ _ _ _ _ _ from ?_)
      refine x_seq ?_
      refine wpIn_region_lit ?_
      refine x_run tab hk (k := 1) (lv := []) (ks := [2]) (e' := [(2, .slice none 0 0)]) rfl trivial fun a hk => ?_
      refine wpListIn_nil ?_
      refine then_n ?_
      refine wpIn_ret ?_
      refine then_r ?_
      obtain rfl := Option.some.inj H
      exact x_retG hk (rs := [.tmp 2]) (vs := [.slice none 0 0]) rfl ⟨rfl, trivial⟩ ⟨fun b_ => if b_ < w.heap.size then o b_ else (fun l_ => if l_ = 1 then Lp0 else 0) (o149 b_), none, 0, rfl, hs.closeM hoz (by decide) (fun l_ => if l_ = 1 then Lp0 else 0), (Ft.of_all (fun _ => Own.nil _ _ _) _ _ _), (by simp), hs.closeM_ft (o := o) (ρ := fun l_ => if l_ = 1 then Lp0 else 0) f9 (lab_at hoa (i := 0) rfl) rfl⟩
  refine x_seq ?_
  refine wpIn_region_lit ?_
  refine x_run tab hk (k := 1) (lv := []) (ks := [0, 3, 4]) (e' := [(0, .pointer (some ⟨bp0, 0, none⟩)), (3, .slice none 0 0), (4, .pointer (some ⟨bp0, 0, none⟩))]) rfl trivial fun a hk => ?_
  refine x_op hk rfl ?_
  obtain ⟨t155, hc156, H⟩ := bindS H
  refine op_call hk ent_40 (vs := [.pointer (some ⟨bp0, 0, none⟩), .int .i64 1024]) rfl (book_limited_calls K bp0 p0 1024 _ oi 1 f900019 (by decide)   _ hc156) ?_
  rintro _ w157 ⟨o158, rfl, st159, f160⟩
  replace hs := hs.locM st159 (by decide) hom
  have hk := hk.put 5 (.int .i64 t155.1) rfl
  refine x_run tab hk (k := 1) (lv := []) (ks := [0, 3, 5, 6]) (e' := [(0, .pointer (some ⟨bp0, 0, none⟩)), (3, .slice none 0 0), (5, .int .i64 t155.1), (6, .int .i64 0)]) rfl trivial fun a hk => ?_
  refine wpListIn_nil ?_
  refine then_n ?_
  refine wpIn_block ?_
  refine x_loop (fun j_ a_ w_ => ∃ o197 : Nat → Nat, ∃ x198 : T88, ∃ A199 : Option Addr, ∃ c200 : Nat, ∃ l201 : List T49, ∃ x204 : Int, Kn 22 a_ [(0, .pointer (some ⟨bp0, 0, none⟩)), (3, .slice A199 (l201).length c200), (5, .int .i64 t155.1), (6, .int .i64 x204)] ∧ St [1] w oi w_ o197 ∧ Ft (Bx bp0 89 [.string x198.s, .int .i64 x198.e]) w_ o197 1 ∧ Ft (Own ET49 50 (.slice A199 (l201).length c200) l201) w_ o197 11 ∧ (l201).length ≤ c200 ∧ book_Read_l2 K t155 j_ x198 l201 x204 = some r) (k := K) ⟨o158, t155.2, none, 0, ([] : List T49), 0, (by exact Kn.pick (ks := [0, 3, 5, 6]) hk rfl), hs, f160, (Ft.of_all (fun _ => Own.nil _ _ _) _ _ _), (by simp), H⟩ (by rintro _ _ ⟨_, _, _, _, _, _, _, _, _, _, _, H_⟩; exact absurd (show (none : Option ((List T49) × T88)) = some r from H_) (by simp)) ?_
  rintro k239 a w238 ⟨o197, x198, A199, c200, l201, x204, hk, hs, f160, f202, hc203, H⟩
  rw [book_Read_l2] at H
  obtain ⟨lp240, hlp241⟩ : ∃ lp_, lp_ = book_Read_l2 K t155 k239 := ⟨_, rfl⟩
  rw [← hlp241] at H
  refine x_seq ?_
  refine wpIn_region_lit ?_
  refine x_run tab hk (k := 1) (lv := []) (ks := [0, 3, 5, 6, 7]) (e' := [(0, .pointer (some ⟨bp0, 0, none⟩)), (3, .slice A199 (l201).length c200), (5, .int .i64 t155.1), (6, .int .i64 x204), (7, .bool (decide (x204 < t155.1)))]) rfl trivial fun a hk => ?_
  refine wpListIn_nil ?_
  refine then_n ?_
  refine x_seq ?_
  cases b242 : (decide (x204 < t155.1))
  · rw [b242] at hk H
    replace H := bifF H
    refine x_if hk (b := false) rfl ?_
    refine (show Code.wpIn _ _ _ _ _ _ _ from ?_)
    refine wpIn_exit ?_
    refine then_x ?_
    refine then_x ?_
    refine blk_x ?_
    refine then_n ?_
    exact ⟨(fun b_ => (fun l_ => if l_ = 11 then 8 else l_) (o197 b_)), x198, A199, c200, l201, (by exact Kn.pick (ks := [0, 3]) hk rfl), (hs.relabM hob (fun l_ => if l_ = 11 then 8 else l_) (by decide)), (f202.relab (fun l_ => if l_ = 11 then 8 else l_) rfl), (f160.relab (fun l_ => if l_ = 11 then 8 else l_) rfl), hc203, H⟩
  · rw [b242] at hk H
    replace H := bifT H
    refine x_if hk (b := true) rfl ?_
    refine (show Code.wpIn _ _ _ _ _ _ _ from ?_)
    refine wpIn_skip ?_
    refine then_n ?_
    refine x_seq ?_
    refine wpIn_block ?_
    refine wpIn_region_lit ?_
    refine x_run tab hk (k := 2) (lv := []) (ks := [0, 5, 6, 8, 9]) (e' := [(0, .pointer (some ⟨bp0, 0, none⟩)), (5, .int .i64 t155.1), (6, .int .i64 x204), (8, .slice A199 (l201).length c200), (9, .pointer (some ⟨bp0, 0, none⟩))]) rfl trivial fun a hk => ?_
    refine x_op hk rfl ?_
    obtain ⟨t246, hc247, H⟩ := bindS H
    refine op_call hk ent_40 (vs := [.pointer (some ⟨bp0, 0, none⟩), .int .i64 1114111]) rfl (book_limited_calls K bp0 x198 1114111 _ o197 1 f160 (by decide)   _ hc247) ?_
    rintro _ w248 ⟨o249, rfl, st250, f251⟩
    replace f202 := f202.st st250 (by decide)
    replace hs := hs.locM st250 (by decide) hom
    have hk := hk.put 10 (.int .i64 t246.1) rfl
    refine x_run tab hk (k := 2) (lv := []) (ks := [0, 5, 6, 8, 11, 12]) (e' := [(0, .pointer (some ⟨bp0, 0, none⟩)), (5, .int .i64 t155.1), (6, .int .i64 x204), (8, .slice A199 (l201).length c200), (11, .int .i32 (IntKind.wrap .i32 t246.1)), (12, .pointer (some ⟨bp0, 0, none⟩))]) rfl trivial fun a hk => ?_
    refine x_op hk rfl ?_
    obtain ⟨t255, hc256, H⟩ := bindS H
    refine op_call hk ent_40 (vs := [.pointer (some ⟨bp0, 0, none⟩), .int .i64 647]) rfl (book_limited_calls K bp0 t246.2 647 _ o249 1 f251 (by decide)   _ hc256) ?_
    rintro _ w257 ⟨o258, rfl, st259, f260⟩
    replace f202 := f202.st st259 (by decide)
    replace hs := hs.locM st259 (by decide) hom
    have hk := hk.put 13 (.int .i64 t255.1) rfl
    refine x_run tab hk (k := 1) (lv := []) (ks := [0, 5, 6, 8, 14]) (e' := [(0, .pointer (some ⟨bp0, 0, none⟩)), (5, .int .i64 t155.1), (6, .int .i64 x204), (8, .slice A199 (l201).length c200), (14, .agg #[.int .i32 (IntKind.wrap .i32 t246.1), .int .i64 t255.1])]) rfl trivial fun a hk => ?_
    refine x_op hk rfl ?_
    refine op_slice (o := o258) tab hk (vs := [.agg #[.int .i32 (IntKind.wrap .i32 t246.1), .int .i64 t255.1]]) (cs := [.int .i32 (IntKind.wrap .i32 t246.1), .int .i64 t255.1]) rfl rfl rfl rfl rfl rfl rfl rfl rfl 13 fun bx264 w261 o262 st263 f265 => ?_
    replace f202 := f202.st st263 (by decide)
    replace f260 := f260.st st263 (by decide)
    replace hs := hs.locM st263 (by decide) hom
    have f266 : Ft (Own ET49 50 (.slice (some ⟨bx264, 0, none⟩) (([(⟨(IntKind.wrap .i32 t246.1), t255.1⟩ : T49)] : List T49)).length 1) ([(⟨(IntKind.wrap .i32 t246.1), t255.1⟩ : T49)] : List T49)) w261 o262 13 := f265.imp fun _ h_ => Own.of_box h_ rfl (by simp)
    have hk := hk.put 15 (.slice (some ⟨bx264, 0, none⟩) (([(⟨(IntKind.wrap .i32 t246.1), t255.1⟩ : T49)] : List T49)).length 1) rfl
    refine x_op hk rfl ?_
    obtain ⟨q270, H⟩ := ifS H
    refine op_append (o := o262) (E := ET49) (xs := l201) (ys := ([(⟨(IntKind.wrap .i32 t246.1), t255.1⟩ : T49)] : List T49)) tab hk rfl rfl rfl rfl rfl rfl rfl f202 (Own.rd f266.now) q270 fun A271 c272 w267 o268 st269 f273 hc274 => ?_
    replace f260 := f260.st st269 (by decide)
    replace f266 := f266.st st269 (by decide)
    replace hs := hs.locM st269 (by decide) hom
    have hk := hk.put 16 (.slice A271 ((l201 ++ ([(⟨(IntKind.wrap .i32 t246.1), t255.1⟩ : T49)] : List T49))).length c272) rfl
    refine x_run tab hk (k := 1) (lv := []) (ks := [0, 3, 5, 6]) (e' := [(0, .pointer (some ⟨bp0, 0, none⟩)), (3, .slice A271 ((l201 ++ ([(⟨(IntKind.wrap .i32 t246.1), t255.1⟩ : T49)] : List T49))).length c272), (5, .int .i64 t155.1), (6, .int .i64 x204)]) rfl trivial fun a hk => ?_
    refine wpListIn_nil ?_
    refine blk_n ?_
    refine then_n ?_
    refine wpIn_region_lit ?_
    refine x_run tab hk (k := 2) (lv := []) (ks := [0, 3, 5, 6]) (e' := [(0, .pointer (some ⟨bp0, 0, none⟩)), (3, .slice A271 ((l201 ++ ([(⟨(IntKind.wrap .i32 t246.1), t255.1⟩ : T49)] : List T49))).length c272), (5, .int .i64 t155.1), (6, .int .i64 (IntKind.wrap .i64 (x204 + 1)))]) rfl trivial fun a hk => ?_
    refine wpListIn_nil ?_
    refine then_n ?_
    exact ⟨k239, Nat.le_refl _, o268, t255.2, A271, c272, (l201 ++ ([(⟨(IntKind.wrap .i32 t246.1), t255.1⟩ : T49)] : List T49)), (IntKind.wrap .i64 (x204 + 1)), (by exact Kn.pick (ks := [0, 3, 5, 6]) hk rfl), hs, f260, f273, hc274, (hlp241 ▸ H)⟩

/-! tidewrack/tidewrackref01.Read -/
theorem tidewrackref01_Read_calls (K : Nat) (p0 : T60) (w : World) (o : Nat → Nat)   (r : T60 × Int) (H : tidewrackref01_Read K p0 = some r) :
    Calls Tryd.prog 41 #[.agg #[.string p0.S, .int .i64 p0.E]] w (Ret fun v_ w' => ∃ o' : Nat → Nat, v_ = .tuple #[.agg #[.string r.1.S, .int .i64 r.1.E], .int .i64 r.2] ∧ St [] w o w' o') := by
  refine x_enter (vs := [.agg #[.string p0.S, .int .i64 p0.E]]) Tryd.func41 rfl rfl rfl fun a hk => ?_
  obtain ⟨o0, hs, h0⟩ := St.start w o
  clear h0
  rw [tidewrackref01_Read] at H
  refine x_seq ?_
  refine wpIn_region_lit ?_
  refine x_op hk rfl ?_
  refine op_box (o := o0) (t := 61) (v := .agg #[.string p0.S, .int .i64 p0.E]) (cs := [.string p0.S, .int .i64 p0.E]) hk rfl rfl 1 fun bx4 w1 o2 st3 f5 => ?_
  replace hs := hs.loc0 st3 (by decide)
  have hk := hk.put 1 (.pointer (some ⟨bx4, 0, none⟩)) rfl
  refine x_op hk rfl ?_
  refine op_alloc (o := o2) tab (t := 61) (cs := [.string (⟨#[]⟩ : ByteArray), .int .i64 0]) rfl rfl 2 fun bx9 w6 o7 st8 f10 => ?_
  replace f5 := f5.st st8 (by decide)
  replace hs := hs.loc0 st8 (by decide)
  have hk := hk.put 2 (.pointer (some ⟨bx9, 0, none⟩)) rfl
  refine x_run tab hk (k := 1) (lv := []) (ks := [1, 2]) (e' := [(1, .pointer (some ⟨bx4, 0, none⟩)), (2, .pointer (some ⟨bx9, 0, none⟩))]) rfl trivial fun a hk => ?_
  refine wpListIn_nil ?_
  refine then_n ?_
  refine x_seq ?_
  refine x_seq ?_
  refine wpIn_region_lit ?_
  refine x_run tab hk (k := 3) (lv := [.int .i64 p0.E]) (ks := [1, 2, 10]) (e' := [(1, .pointer (some ⟨bx4, 0, none⟩)), (2, .pointer (some ⟨bx9, 0, none⟩)), (10, .bool (p0.E != (0 : Int)))]) rfl ⟨(load1 tab rfl ((Bx.cell f5.now 1).trans rfl)), trivial⟩ fun a hk => ?_
  refine wpListIn_nil ?_
  refine then_n ?_
  cases b11 : (p0.E != (0 : Int))
  · rw [b11] at hk H
    replace H := bifF H
    refine x_if hk (b := false) rfl ?_
    refine (show Code.wpIn _ _ _ _ _ _ _ from ?_)
    refine wpIn_skip ?_
    refine then_n ?_
    refine x_seq ?_
    refine wpIn_region_lit ?_
    refine x_run tab hk (k := 1) (lv := []) (ks := [1, 2, 4]) (e' := [(1, .pointer (some ⟨bx4, 0, none⟩)), (2, .pointer (some ⟨bx9, 0, none⟩)), (4, .int .i64 0)]) rfl trivial fun a hk => ?_
    refine wpListIn_nil ?_
    refine then_n ?_
    refine x_seq ?_
    refine wpIn_region_lit ?_
    refine x_run tab hk (k := 1) (lv := []) (ks := [1, 2, 4, 5]) (e' := [(1, .pointer (some ⟨bx4, 0, none⟩)), (2, .pointer (some ⟨bx9, 0, none⟩)), (4, .int .i64 0), (5, .int .i64 1)]) rfl trivial fun a hk => ?_
    refine wpListIn_nil ?_
    refine then_n ?_
    refine x_mid (fun a_ w_ => ∃ o182 : Nat → Nat, Kn 58 a_ [(2, .pointer (some ⟨bx9, 0, none⟩))] ∧ St [] w (fun _ => 0) w_ o182 ∧ Ft (Bx bx9 61 [.string (⟨#[]⟩ : ByteArray), .int .i64 0]) w_ o182 25 ∧ tidewrackref01_Read_j1 = some r) ?_ ?_
    rotate_left
    · rintro a w183 ⟨o182, hk, hs, f10, H⟩
      rw [tidewrackref01_Read_j1] at H
      refine x_seq ?_
      refine wpIn_region_lit ?_
      refine x_run tab hk (k := 1) (lv := []) (ks := [2, 57]) (e' := [(2, .pointer (some ⟨bx9, 0, none⟩)), (57, .agg #[.string (⟨#[]⟩ : ByteArray), .int .i64 1])]) rfl trivial fun a hk => ?_
      refine x_op hk rfl ?_
      refine op_store tab hk (t := 61) (v := .agg #[.string (⟨#[]⟩ : ByteArray), .int .i64 1]) (b := bx9) (k := 0) (cs' := [.string (⟨#[]⟩ : ByteArray), .int .i64 1]) rfl rfl rfl rfl rfl rfl f10 rfl rfl fun w184 o185 st186 f10_ => ?_
      replace hs := hs.loc0 st186 (by decide)
      replace f10 := f10_
      refine x_run tab hk (k := 1) (lv := []) (ks := [2, 3]) (e' := [(2, .pointer (some ⟨bx9, 0, none⟩)), (3, .int .i64 0)]) rfl trivial fun a hk => ?_
      refine wpListIn_nil ?_
      refine then_n ?_
      refine wpIn_ret ?_
      obtain rfl := Option.some.inj H
      exact x_retG hk (rs := [.cell 2 61, .tmp 3]) (vs := [.agg #[.string (⟨#[]⟩ : ByteArray), .int .i64 1], .int .i64 0]) rfl ⟨⟨_, rfl, load_box tab rfl rfl f10.now (k := 0) rfl rfl⟩, rfl, trivial⟩ ⟨fun b_ => if b_ < w.heap.size then o b_ else (fun _ => 0) (o185 b_), rfl, hs.close0 o (fun _ => 0)⟩
    refine x_seq ?_
    refine wpIn_region_lit ?_
    refine x_run tab hk (k := 1) (lv := []) (ks := [1, 2, 4, 5, 6]) (e' := [(1, .pointer (some ⟨bx4, 0, none⟩)), (2, .pointer (some ⟨bx9, 0, none⟩)), (4, .int .i64 0), (5, .int .i64 1), (6, .int .i64 0)]) rfl trivial fun a hk => ?_
    refine wpListIn_nil ?_
    refine then_n ?_
    refine wpIn_block ?_
    refine x_loop (fun j_ a_ w_ => ∃ o242 : Nat → Nat, ∃ x243 : Int, ∃ x244 : Int, ∃ x245 : Int, Kn 58 a_ [(1, .pointer (some ⟨bx4, 0, none⟩)), (2, .pointer (some ⟨bx9, 0, none⟩)), (4, .int .i64 x243), (5, .int .i64 x244), (6, .int .i64 x245)] ∧ St [] w (fun _ => 0) w_ o242 ∧ Ft (Bx bx9 61 [.string (⟨#[]⟩ : ByteArray), .int .i64 0]) w_ o242 35 ∧ Ft (Bx bx4 61 [.string p0.S, .int .i64 p0.E]) w_ o242 34 ∧ tidewrackref01_Read_l2 p0 j_ x243 x244 x245 = some r) (k := K) ⟨(fun b_ => (fun l_ => if l_ = 1 then 34 else if l_ = 2 then 35 else l_) (o7 b_)), 0, 1, 0, (by exact Kn.pick (ks := [1, 2, 4, 5, 6]) hk rfl), (hs.relab0 (fun l_ => if l_ = 1 then 34 else if l_ = 2 then 35 else l_) rfl), (f10.relab (fun l_ => if l_ = 1 then 34 else if l_ = 2 then 35 else l_) rfl), (f5.relab (fun l_ => if l_ = 1 then 34 else if l_ = 2 then 35 else l_) rfl), H⟩ (by rintro _ _ ⟨_, _, _, _, _, _, _, _, H_⟩; exact absurd (show (none : Option (T60 × Int)) = some r from H_) (by simp)) ?_
    rintro k299 a w298 ⟨o242, x243, x244, x245, hk, hs, f10, f5, H⟩
    rw [tidewrackref01_Read_l2] at H
    obtain ⟨lp300, hlp301⟩ : ∃ lp_, lp_ = tidewrackref01_Read_l2 p0 k299 := ⟨_, rfl⟩
    rw [← hlp301] at H
    refine x_seq ?_
    refine x_seq ?_
    refine wpIn_region_lit ?_
    refine x_run tab hk (k := 2) (lv := []) (ks := [1, 2, 4, 5, 6, 13]) (e' := [(1, .pointer (some ⟨bx4, 0, none⟩)), (2, .pointer (some ⟨bx9, 0, none⟩)), (4, .int .i64 x243), (5, .int .i64 x244), (6, .int .i64 x245), (13, .bool (decide (x245 < (9 : Int))))]) rfl trivial fun a hk => ?_
    refine wpListIn_nil ?_
    refine then_n ?_
    cases b302 : (decide (x245 < (9 : Int)))
    · rw [b302] at hk H
      replace H := bifF H
      refine x_if hk (b := false) rfl ?_
      refine (show Code.wpIn _ _ _ _ _ _ _ from ?_)
      refine wpIn_exit ?_
      refine then_x ?_
      refine then_x ?_
      refine blk_x ?_
      refine then_n ?_
      exact ⟨(fun b_ => (fun l_ => if l_ = 35 then 25 else l_) (o242 b_)), (by exact Kn.pick (ks := [2]) hk rfl), (hs.relab0 (fun l_ => if l_ = 35 then 25 else l_) rfl), (f10.relab (fun l_ => if l_ = 35 then 25 else l_) rfl), H⟩
    · rw [b302] at hk H
      replace H := bifT H
      refine x_if hk (b := true) rfl ?_
      refine (show Code.wpIn _ _ _ _ _ _ _ from ?_)
      refine wpIn_skip ?_
      refine then_n ?_
      refine x_seq ?_
      refine wpIn_block ?_
      refine x_seq ?_
      refine x_seq ?_
      refine wpIn_region_lit ?_
      refine x_run tab hk (k := 5) (lv := [.string p0.S]) (ks := [1, 2, 4, 5, 6, 20]) (e' := [(1, .pointer (some ⟨bx4, 0, none⟩)), (2, .pointer (some ⟨bx9, 0, none⟩)), (4, .int .i64 x243), (5, .int .i64 x244), (6, .int .i64 x245), (20, .bool (x245 == ((p0.S).size : Int)))]) rfl ⟨(load1 tab rfl ((Bx.cell f5.now 0).trans rfl)), trivial⟩ fun a hk => ?_
      refine wpListIn_nil ?_
      refine then_n ?_
      cases b303 : (x245 == ((p0.S).size : Int))
      · rw [b303] at hk H
        replace H := bifF H
        refine x_if hk (b := false) rfl ?_
        refine (show Code.wpIn _ _ _ _ _ _ _ from ?_)
        refine wpIn_skip ?_
        refine then_n ?_
        refine x_seq ?_
        refine wpIn_region_lit ?_
        obtain ⟨q304, H⟩ := ifS H
        refine x_run tab hk (k := 6) (lv := [.string p0.S]) (ks := [1, 2, 4, 5, 6, 7]) (e' := [(1, .pointer (some ⟨bx4, 0, none⟩)), (2, .pointer (some ⟨bx9, 0, none⟩)), (4, .int .i64 x243), (5, .int .i64 x244), (6, .int .i64 x245), (7, .int .i64 (IntKind.wrap .i64 (bt p0.S x245)))]) rfl ⟨(load1 tab rfl ((Bx.cell f5.now 0).trans rfl)), q304, trivial⟩ fun a hk => ?_
        refine wpListIn_nil ?_
        refine then_n ?_
        refine x_seq ?_
        refine wpIn_region_lit ?_
        refine x_run tab hk (k := 7) (lv := []) (ks := [1, 2, 4, 5, 6, 7]) (e' := [(1, .pointer (some ⟨bx4, 0, none⟩)), (2, .pointer (some ⟨bx9, 0, none⟩)), (4, .int .i64 (IntKind.wrap .i64 (x243 + (IntKind.wrap .i64 ((Int.tmod (IntKind.wrap .i64 (bt p0.S x245)) 128) * x244))))), (5, .int .i64 x244), (6, .int .i64 x245), (7, .int .i64 (IntKind.wrap .i64 (bt p0.S x245)))]) rfl ⟨(show (128 : Int) ≠ 0 from by decide), trivial⟩ fun a hk => ?_
        refine wpListIn_nil ?_
        refine then_n ?_
        refine x_seq ?_
        refine x_seq ?_
        refine wpIn_region_lit ?_
        refine x_run tab hk (k := 2) (lv := []) (ks := [1, 2, 4, 5, 6, 7, 34]) (e' := [(1, .pointer (some ⟨bx4, 0, none⟩)), (2, .pointer (some ⟨bx9, 0, none⟩)), (4, .int .i64 (IntKind.wrap .i64 (x243 + (IntKind.wrap .i64 ((Int.tmod (IntKind.wrap .i64 (bt p0.S x245)) 128) * x244))))), (5, .int .i64 x244), (6, .int .i64 x245), (7, .int .i64 (IntKind.wrap .i64 (bt p0.S x245))), (34, .bool (decide ((IntKind.wrap .i64 (bt p0.S x245)) < (128 : Int))))]) rfl trivial fun a hk => ?_
        refine wpListIn_nil ?_
        refine then_n ?_
        cases b305 : (decide ((IntKind.wrap .i64 (bt p0.S x245)) < (128 : Int)))
        · rw [b305] at hk H
          replace H := bifF H
          refine x_if hk (b := false) rfl ?_
          refine (show Code.wpIn _ _ _ _ _ _ _ from ?_)
          refine wpIn_skip ?_
          refine then_n ?_
          refine x_seq ?_
          refine wpIn_region_lit ?_
          refine x_run tab hk (k := 2) (lv := []) (ks := [1, 2, 4, 5, 6, 54]) (e' := [(1, .pointer (some ⟨bx4, 0, none⟩)), (2, .pointer (some ⟨bx9, 0, none⟩)), (4, .int .i64 (IntKind.wrap .i64 (x243 + (IntKind.wrap .i64 ((Int.tmod (IntKind.wrap .i64 (bt p0.S x245)) 128) * x244))))), (5, .int .i64 x244), (6, .int .i64 x245), (54, .bool (decide (x245 < (8 : Int))))]) rfl trivial fun a hk => ?_
          refine wpListIn_nil ?_
          refine then_n ?_
          cases b306 : (decide (x245 < (8 : Int)))
          · rw [b306] at hk H
            replace H := bifF H
            refine x_if hk (b := false) rfl ?_
            refine (show Code.wpIn _ _ _ _ _ _ _ from ?_)
            refine wpIn_skip ?_
            refine blk_n ?_
            refine then_n ?_
            refine wpIn_region_lit ?_
            refine x_run tab hk (k := 3) (lv := []) (ks := [1, 2, 4, 5, 6]) (e' := [(1, .pointer (some ⟨bx4, 0, none⟩)), (2, .pointer (some ⟨bx9, 0, none⟩)), (4, .int .i64 (IntKind.wrap .i64 (x243 + (IntKind.wrap .i64 ((Int.tmod (IntKind.wrap .i64 (bt p0.S x245)) 128) * x244))))), (5, .int .i64 x244), (6, .int .i64 (IntKind.wrap .i64 (x245 + 1)))]) rfl trivial fun a hk => ?_
            refine wpListIn_nil ?_
            refine then_n ?_
            exact ⟨k299, Nat.le_refl _, o242, (IntKind.wrap .i64 (x243 + (IntKind.wrap .i64 ((Int.tmod (IntKind.wrap .i64 (bt p0.S x245)) 128) * x244)))), x244, (IntKind.wrap .i64 (x245 + 1)), (by exact Kn.pick (ks := [1, 2, 4, 5, 6]) hk rfl), hs, f10, f5, (hlp301 ▸ H)⟩
          · rw [b306] at hk H
            replace H := bifT H
            refine x_if hk (b := true) rfl ?_
            refine (show Code.wpIn _ _ _ _ _ _ _ from ?_)
            refine wpIn_region_lit ?_
            refine x_run tab hk (k := 3) (lv := []) (ks := [1, 2, 4, 5, 6]) (e' := [(1, .pointer (some ⟨bx4, 0, none⟩)), (2, .pointer (some ⟨bx9, 0, none⟩)), (4, .int .i64 (IntKind.wrap .i64 (x243 + (IntKind.wrap .i64 ((Int.tmod (IntKind.wrap .i64 (bt p0.S x245)) 128) * x244))))), (5, .int .i64 (IntKind.wrap .i64 (x244 * 128))), (6, .int .i64 x245)]) rfl trivial fun a hk => ?_
            refine wpListIn_nil ?_
            refine blk_n ?_
            refine then_n ?_
            refine wpIn_region_lit ?_
            refine x_run tab hk (k := 3) (lv := []) (ks := [1, 2, 4, 5, 6]) (e' := [(1, .pointer (some ⟨bx4, 0, none⟩)), (2, .pointer (some ⟨bx9, 0, none⟩)), (4, .int .i64 (IntKind.wrap .i64 (x243 + (IntKind.wrap .i64 ((Int.tmod (IntKind.wrap .i64 (bt p0.S x245)) 128) * x244))))), (5, .int .i64 (IntKind.wrap .i64 (x244 * 128))), (6, .int .i64 (IntKind.wrap .i64 (x245 + 1)))]) rfl trivial fun a hk => ?_
            refine wpListIn_nil ?_
            refine then_n ?_
            exact ⟨k299, Nat.le_refl _, o242, (IntKind.wrap .i64 (x243 + (IntKind.wrap .i64 ((Int.tmod (IntKind.wrap .i64 (bt p0.S x245)) 128) * x244)))), (IntKind.wrap .i64 (x244 * 128)), (IntKind.wrap .i64 (x245 + 1)), (by exact Kn.pick (ks := [1, 2, 4, 5, 6]) hk rfl), hs, f10, f5, (hlp301 ▸ H)⟩
        · rw [b305] at hk H
          replace H := bifT H
          refine x_if hk (b := true) rfl ?_
          refine (show Code.wpIn _ _ _ _ _ _ _ from ?_)
          refine x_mid (fun a_ w_ => ∃ o327 : Nat → Nat, Kn 58 a_ [(1, .pointer (some ⟨bx4, 0, none⟩)), (2, .pointer (some ⟨bx9, 0, none⟩)), (4, .int .i64 (IntKind.wrap .i64 (x243 + (IntKind.wrap .i64 ((Int.tmod (IntKind.wrap .i64 (bt p0.S x245)) 128) * x244))))), (6, .int .i64 x245)] ∧ St [] w (fun _ => 0) w_ o327 ∧ Ft (Bx bx9 61 [.string (⟨#[]⟩ : ByteArray), .int .i64 0]) w_ o327 45 ∧ Ft (Bx bx4 61 [.string p0.S, .int .i64 p0.E]) w_ o327 44 ∧ tidewrackref01_Read_j3 p0 x243 x244 x245 = some r) ?_ ?_
          rotate_left
          · rintro a w328 ⟨o327, hk, hs, f10, f5, H⟩
            rw [tidewrackref01_Read_j3] at H
            refine x_seq ?_
            refine wpIn_region_lit ?_
            obtain ⟨q329, H⟩ := ifS H
            obtain ⟨q330, H⟩ := ifS H
            refine x_run tab hk (k := 7) (lv := [.string p0.S]) (ks := [2, 51, 52]) (e' := [(2, .pointer (some ⟨bx9, 0, none⟩)), (51, .agg #[.string (ByteArray.extract p0.S (Int.toNat (IntKind.wrap .i64 (x245 + 1))) (p0.S).size), .int .i64 0]), (52, .int .i64 (IntKind.wrap .i64 (x243 + (IntKind.wrap .i64 ((Int.tmod (IntKind.wrap .i64 (bt p0.S x245)) 128) * x244)))))]) rfl ⟨(load1 tab rfl ((Bx.cell f5.now 0).trans rfl)), q329, q330, trivial⟩ fun a hk => ?_
            refine x_op hk rfl ?_
            refine op_store tab hk (t := 61) (v := .agg #[.string (ByteArray.extract p0.S (Int.toNat (IntKind.wrap .i64 (x245 + 1))) (p0.S).size), .int .i64 0]) (b := bx9) (k := 0) (cs' := [.string (ByteArray.extract p0.S (Int.toNat (IntKind.wrap .i64 (x245 + 1))) (p0.S).size), .int .i64 0]) rfl rfl rfl rfl rfl rfl f10 rfl rfl fun w331 o332 st333 f10_ => ?_
            replace hs := hs.loc0 st333 (by decide)
            replace f10 := f10_
            refine x_run tab hk (k := 1) (lv := []) (ks := [2, 3]) (e' := [(2, .pointer (some ⟨bx9, 0, none⟩)), (3, .int .i64 (IntKind.wrap .i64 (x243 + (IntKind.wrap .i64 ((Int.tmod (IntKind.wrap .i64 (bt p0.S x245)) 128) * x244)))))]) rfl trivial fun a hk => ?_
            refine wpListIn_nil ?_
            refine then_n ?_
            refine wpIn_ret ?_
            refine then_r ?_
            refine blk_r ?_
            refine then_r ?_
            refine then_r ?_
            refine blk_r ?_
            refine then_r ?_
            obtain rfl := Option.some.inj H
            exact x_retG hk (rs := [.cell 2 61, .tmp 3]) (vs := [.agg #[.string (ByteArray.extract p0.S (Int.toNat (IntKind.wrap .i64 (x245 + 1))) (p0.S).size), .int .i64 0], .int .i64 (IntKind.wrap .i64 (x243 + (IntKind.wrap .i64 ((Int.tmod (IntKind.wrap .i64 (bt p0.S x245)) 128) * x244))))]) rfl ⟨⟨_, rfl, load_box tab rfl rfl f10.now (k := 0) rfl rfl⟩, rfl, trivial⟩ ⟨fun b_ => if b_ < w.heap.size then o b_ else (fun _ => 0) (o332 b_), rfl, hs.close0 o (fun _ => 0)⟩
          refine x_mid (fun a_ w_ => ∃ o342 : Nat → Nat, ∃ x343 : Bool, Kn 58 a_ [(1, .pointer (some ⟨bx4, 0, none⟩)), (2, .pointer (some ⟨bx9, 0, none⟩)), (4, .int .i64 (IntKind.wrap .i64 (x243 + (IntKind.wrap .i64 ((Int.tmod (IntKind.wrap .i64 (bt p0.S x245)) 128) * x244))))), (6, .int .i64 x245), (44, .bool x343)] ∧ St [] w (fun _ => 0) w_ o342 ∧ Ft (Bx bx9 61 [.string (⟨#[]⟩ : ByteArray), .int .i64 0]) w_ o342 47 ∧ Ft (Bx bx4 61 [.string p0.S, .int .i64 p0.E]) w_ o342 46 ∧ tidewrackref01_Read_j4 p0 x243 x244 x245 x343 = some r) ?_ ?_
          rotate_left
          · rintro a w344 ⟨o342, x343, hk, hs, f10, f5, H⟩
            rw [tidewrackref01_Read_j4] at H
            cases b345 : x343
            · rw [b345] at hk H
              replace H := bifF H
              refine x_if hk (b := false) rfl ?_
              refine (show Code.wpIn _ _ _ _ _ _ _ from ?_)
              refine wpIn_skip ?_
              refine then_n ?_
              exact ⟨(fun b_ => (fun l_ => if l_ = 46 then 44 else if l_ = 47 then 45 else l_) (o342 b_)), (by exact Kn.pick (ks := [1, 2, 4, 6]) hk rfl), (hs.relab0 (fun l_ => if l_ = 46 then 44 else if l_ = 47 then 45 else l_) rfl), (f10.relab (fun l_ => if l_ = 46 then 44 else if l_ = 47 then 45 else l_) rfl), (f5.relab (fun l_ => if l_ = 46 then 44 else if l_ = 47 then 45 else l_) rfl), H⟩
            · rw [b345] at hk H
              replace H := bifT H
              refine x_if hk (b := true) rfl ?_
              refine (show Code.wpIn _ _ _ _ _ _ _ from ?_)
              refine x_seq ?_
              refine wpIn_region_lit ?_
              refine x_run tab hk (k := 1) (lv := []) (ks := [2, 45]) (e' := [(2, .pointer (some ⟨bx9, 0, none⟩)), (45, .agg #[.string (⟨#[]⟩ : ByteArray), .int .i64 1])]) rfl trivial fun a hk => ?_
              refine x_op hk rfl ?_
              refine op_store tab hk (t := 61) (v := .agg #[.string (⟨#[]⟩ : ByteArray), .int .i64 1]) (b := bx9) (k := 0) (cs' := [.string (⟨#[]⟩ : ByteArray), .int .i64 1]) rfl rfl rfl rfl rfl rfl f10 rfl rfl fun w346 o347 st348 f10_ => ?_
              replace hs := hs.loc0 st348 (by decide)
              replace f10 := f10_
              refine x_run tab hk (k := 1) (lv := []) (ks := [2, 3]) (e' := [(2, .pointer (some ⟨bx9, 0, none⟩)), (3, .int .i64 0)]) rfl trivial fun a hk => ?_
              refine wpListIn_nil ?_
              refine then_n ?_
              refine wpIn_ret ?_
              refine then_r ?_
              refine then_r ?_
              refine blk_r ?_
              refine then_r ?_
              refine then_r ?_
              refine blk_r ?_
              refine then_r ?_
              obtain rfl := Option.some.inj H
              exact x_retG hk (rs := [.cell 2 61, .tmp 3]) (vs := [.agg #[.string (⟨#[]⟩ : ByteArray), .int .i64 1], .int .i64 0]) rfl ⟨⟨_, rfl, load_box tab rfl rfl f10.now (k := 0) rfl rfl⟩, rfl, trivial⟩ ⟨fun b_ => if b_ < w.heap.size then o b_ else (fun _ => 0) (o347 b_), rfl, hs.close0 o (fun _ => 0)⟩
          refine wpIn_region_lit ?_
          refine x_run tab hk (k := 3) (lv := []) (ks := [1, 2, 4, 6, 7, 37]) (e' := [(1, .pointer (some ⟨bx4, 0, none⟩)), (2, .pointer (some ⟨bx9, 0, none⟩)), (4, .int .i64 (IntKind.wrap .i64 (x243 + (IntKind.wrap .i64 ((Int.tmod (IntKind.wrap .i64 (bt p0.S x245)) 128) * x244))))), (6, .int .i64 x245), (7, .int .i64 (IntKind.wrap .i64 (bt p0.S x245))), (37, .bool (decide (x245 > (0 : Int))))]) rfl trivial fun a hk => ?_
          cases b349 : (decide (x245 > (0 : Int)))
          · rw [b349] at hk H
            replace H := bifF H
            refine x_run tab hk (k := 7) (lv := []) (ks := [1, 2, 4, 6, 44]) (e' := [(1, .pointer (some ⟨bx4, 0, none⟩)), (2, .pointer (some ⟨bx9, 0, none⟩)), (4, .int .i64 (IntKind.wrap .i64 (x243 + (IntKind.wrap .i64 ((Int.tmod (IntKind.wrap .i64 (bt p0.S x245)) 128) * x244))))), (6, .int .i64 x245), (44, .bool (decide ((IntKind.wrap .i64 (x243 + (IntKind.wrap .i64 ((Int.tmod (IntKind.wrap .i64 (bt p0.S x245)) 128) * x244)))) > (4611686018427387904 : Int))))]) rfl trivial fun a hk => ?_
            refine wpListIn_nil ?_
            refine then_n ?_
            exact ⟨(fun b_ => (fun l_ => if l_ = 34 then 46 else if l_ = 35 then 47 else l_) (o242 b_)), (decide ((IntKind.wrap .i64 (x243 + (IntKind.wrap .i64 ((Int.tmod (IntKind.wrap .i64 (bt p0.S x245)) 128) * x244)))) > (4611686018427387904 : Int))), (by exact Kn.pick (ks := [1, 2, 4, 6, 44]) hk rfl), (hs.relab0 (fun l_ => if l_ = 34 then 46 else if l_ = 35 then 47 else l_) rfl), (f10.relab (fun l_ => if l_ = 34 then 46 else if l_ = 35 then 47 else l_) rfl), (f5.relab (fun l_ => if l_ = 34 then 46 else if l_ = 35 then 47 else l_) rfl), H⟩
          · rw [b349] at hk H
            replace H := bifT H
            refine x_run tab hk (k := 4) (lv := []) (ks := [1, 2, 4, 6, 41]) (e' := [(1, .pointer (some ⟨bx4, 0, none⟩)), (2, .pointer (some ⟨bx9, 0, none⟩)), (4, .int .i64 (IntKind.wrap .i64 (x243 + (IntKind.wrap .i64 ((Int.tmod (IntKind.wrap .i64 (bt p0.S x245)) 128) * x244))))), (6, .int .i64 x245), (41, .bool ((IntKind.wrap .i64 (bt p0.S x245)) == (0 : Int)))]) rfl trivial fun a hk => ?_
            cases b350 : ((IntKind.wrap .i64 (bt p0.S x245)) == (0 : Int))
            · rw [b350] at hk H
              replace H := bifF H
              refine x_run tab hk (k := 3) (lv := []) (ks := [1, 2, 4, 6, 44]) (e' := [(1, .pointer (some ⟨bx4, 0, none⟩)), (2, .pointer (some ⟨bx9, 0, none⟩)), (4, .int .i64 (IntKind.wrap .i64 (x243 + (IntKind.wrap .i64 ((Int.tmod (IntKind.wrap .i64 (bt p0.S x245)) 128) * x244))))), (6, .int .i64 x245), (44, .bool (decide ((IntKind.wrap .i64 (x243 + (IntKind.wrap .i64 ((Int.tmod (IntKind.wrap .i64 (bt p0.S x245)) 128) * x244)))) > (4611686018427387904 : Int))))]) rfl trivial fun a hk => ?_
              refine wpListIn_nil ?_
              refine then_n ?_
              exact ⟨(fun b_ => (fun l_ => if l_ = 34 then 46 else if l_ = 35 then 47 else l_) (o242 b_)), (decide ((IntKind.wrap .i64 (x243 + (IntKind.wrap .i64 ((Int.tmod (IntKind.wrap .i64 (bt p0.S x245)) 128) * x244)))) > (4611686018427387904 : Int))), (by exact Kn.pick (ks := [1, 2, 4, 6, 44]) hk rfl), (hs.relab0 (fun l_ => if l_ = 34 then 46 else if l_ = 35 then 47 else l_) rfl), (f10.relab (fun l_ => if l_ = 34 then 46 else if l_ = 35 then 47 else l_) rfl), (f5.relab (fun l_ => if l_ = 34 then 46 else if l_ = 35 then 47 else l_) rfl), H⟩
            · rw [b350] at hk H
              replace H := bifT H
              refine x_run tab hk (k := 3) (lv := []) (ks := [1, 2, 4, 6, 44]) (e' := [(1, .pointer (some ⟨bx4, 0, none⟩)), (2, .pointer (some ⟨bx9, 0, none⟩)), (4, .int .i64 (IntKind.wrap .i64 (x243 + (IntKind.wrap .i64 ((Int.tmod (IntKind.wrap .i64 (bt p0.S x245)) 128) * x244))))), (6, .int .i64 x245), (44, .bool true)]) rfl trivial fun a hk => ?_
              refine wpListIn_nil ?_
              refine then_n ?_
              exact ⟨(fun b_ => (fun l_ => if l_ = 34 then 46 else if l_ = 35 then 47 else l_) (o242 b_)), true, (by exact Kn.pick (ks := [1, 2, 4, 6, 44]) hk rfl), (hs.relab0 (fun l_ => if l_ = 34 then 46 else if l_ = 35 then 47 else l_) rfl), (f10.relab (fun l_ => if l_ = 34 then 46 else if l_ = 35 then 47 else l_) rfl), (f5.relab (fun l_ => if l_ = 34 then 46 else if l_ = 35 then 47 else l_) rfl), H⟩
      · rw [b303] at hk H
        replace H := bifT H
        refine x_if hk (b := true) rfl ?_
        refine (show Code.wpIn _ _ _ _ _ _ _ from ?_)
        refine x_seq ?_
        refine wpIn_region_lit ?_
        refine x_run tab hk (k := 1) (lv := []) (ks := [2, 21]) (e' := [(2, .pointer (some ⟨bx9, 0, none⟩)), (21, .agg #[.string (⟨#[]⟩ : ByteArray), .int .i64 2])]) rfl trivial fun a hk => ?_
        refine x_op hk rfl ?_
        refine op_store tab hk (t := 61) (v := .agg #[.string (⟨#[]⟩ : ByteArray), .int .i64 2]) (b := bx9) (k := 0) (cs' := [.string (⟨#[]⟩ : ByteArray), .int .i64 2]) rfl rfl rfl rfl rfl rfl f10 rfl rfl fun w351 o352 st353 f10_ => ?_
        replace hs := hs.loc0 st353 (by decide)
        replace f10 := f10_
        refine x_run tab hk (k := 1) (lv := []) (ks := [2, 3]) (e' := [(2, .pointer (some ⟨bx9, 0, none⟩)), (3, .int .i64 0)]) rfl trivial fun a hk => ?_
        refine wpListIn_nil ?_
        refine then_n ?_
        refine wpIn_ret ?_
        refine then_r ?_
        refine blk_r ?_
        refine then_r ?_
        refine then_r ?_
        refine blk_r ?_
        refine then_r ?_
        obtain rfl := Option.some.inj H
        exact x_retG hk (rs := [.cell 2 61, .tmp 3]) (vs := [.agg #[.string (⟨#[]⟩ : ByteArray), .int .i64 2], .int .i64 0]) rfl ⟨⟨_, rfl, load_box tab rfl rfl f10.now (k := 0) rfl rfl⟩, rfl, trivial⟩ ⟨fun b_ => if b_ < w.heap.size then o b_ else (fun _ => 0) (o352 b_), rfl, hs.close0 o (fun _ => 0)⟩
  · rw [b11] at hk H
    replace H := bifT H
    refine x_if hk (b := true) rfl ?_
    refine (show Code.wpIn _ _ _ _ _ _ _ from ?_)
    refine x_seq ?_
    refine wpIn_region_lit ?_
    refine x_run tab hk (k := 1) (lv := [.agg #[.string p0.S, .int .i64 p0.E]]) (ks := [2, 11]) (e' := [(2, .pointer (some ⟨bx9, 0, none⟩)), (11, .agg #[.string p0.S, .int .i64 p0.E])]) rfl ⟨(load_box tab rfl rfl f5.now (k := 0) rfl rfl), trivial⟩ fun a hk => ?_
    refine x_op hk rfl ?_
    refine op_store tab hk (t := 61) (v := .agg #[.string p0.S, .int .i64 p0.E]) (b := bx9) (k := 0) (cs' := [.string p0.S, .int .i64 p0.E]) rfl rfl rfl rfl rfl rfl f10 rfl rfl fun w354 o355 st356 f10_ => ?_
    replace hs := hs.loc0 st356 (by decide)
    replace f10 := f10_
    refine x_run tab hk (k := 1) (lv := []) (ks := [2, 3]) (e' := [(2, .pointer (some ⟨bx9, 0, none⟩)), (3, .int .i64 0)]) rfl trivial fun a hk => ?_
    refine wpListIn_nil ?_
    refine then_n ?_
    refine wpIn_ret ?_
    refine then_r ?_
    obtain rfl := Option.some.inj H
    exact x_retG hk (rs := [.cell 2 61, .tmp 3]) (vs := [.agg #[.string p0.S, .int .i64 p0.E], .int .i64 0]) rfl ⟨⟨_, rfl, load_box tab rfl rfl f10.now (k := 0) rfl rfl⟩, rfl, trivial⟩ ⟨fun b_ => if b_ < w.heap.size then o b_ else (fun _ => 0) (o355 b_), rfl, hs.close0 o (fun _ => 0)⟩

/-! tidewrack/tidewrackref12.Read -/
set_option maxHeartbeats 4000000 in
theorem tidewrackref12_Read_calls (K : Nat) (p0 : T60) (w : World) (o : Nat → Nat)   (R0 : Nat) (r : T60 × (List T69)) (H : tidewrackref12_Read K p0 = some r) :
    Calls Tryd.prog 25 #[.agg #[.string p0.S, .int .i64 p0.E]] w (Ret fun v_ w' => ∃ o' : Nat → Nat, ∃ A0 : Option Addr, ∃ c0 : Nat, v_ = .tuple #[.agg #[.string r.1.S, .int .i64 r.1.E], .slice A0 (r.2).length c0] ∧ St [] w o w' o' ∧ Ft (Own ET69 70 (.slice A0 (r.2).length c0) (r.2)) w' o' R0 ∧ (r.2).length ≤ c0) := by
  refine x_enter (vs := [.agg #[.string p0.S, .int .i64 p0.E]]) Tryd.func25 rfl rfl rfl fun a hk => ?_
  obtain ⟨o0, hs, h0⟩ := St.start w o
  clear h0
  rw [tidewrackref12_Read] at H
  refine x_seq ?_
  refine wpIn_region_lit ?_
  refine x_op hk rfl ?_
  refine op_box (o := o0) (t := 61) (v := .agg #[.string p0.S, .int .i64 p0.E]) (cs := [.string p0.S, .int .i64 p0.E]) hk rfl rfl 1 fun bx4 w1 o2 st3 f5 => ?_
  replace hs := hs.loc0 st3 (by decide)
  have hk := hk.put 1 (.pointer (some ⟨bx4, 0, none⟩)) rfl
  refine x_op hk rfl ?_
  refine op_alloc (o := o2) tab (t := 61) (cs := [.string (⟨#[]⟩ : ByteArray), .int .i64 0]) rfl rfl 2 fun bx9 w6 o7 st8 f10 => ?_
  replace f5 := f5.st st8 (by decide)
  replace hs := hs.loc0 st8 (by decide)
  have hk := hk.put 2 (.pointer (some ⟨bx9, 0, none⟩)) rfl
  refine x_run tab hk (k := 1) (lv := []) (ks := [1, 2]) (e' := [(1, .pointer (some ⟨bx4, 0, none⟩)), (2, .pointer (some ⟨bx9, 0, none⟩))]) rfl trivial fun a hk => ?_
  refine wpListIn_nil ?_
  refine then_n ?_
  refine x_seq ?_
  refine wpIn_region_lit ?_
  refine x_run tab hk (k := 1) (lv := []) (ks := [1, 2]) (e' := [(1, .pointer (some ⟨bx4, 0, none⟩)), (2, .pointer (some ⟨bx9, 0, none⟩))]) rfl trivial fun a hk => ?_
  refine wpListIn_nil ?_
  refine then_n ?_
  refine x_seq ?_
  refine wpIn_region_lit ?_
  refine x_run tab hk (k := 1) (lv := [.agg #[.string p0.S, .int .i64 p0.E]]) (ks := [1, 2, 10]) (e' := [(1, .pointer (some ⟨bx4, 0, none⟩)), (2, .pointer (some ⟨bx9, 0, none⟩)), (10, .agg #[.string p0.S, .int .i64 p0.E])]) rfl ⟨(load_box tab rfl rfl f5.now (k := 0) rfl rfl), trivial⟩ fun a hk => ?_
  refine x_op hk rfl ?_
  obtain ⟨t14, hc15, H⟩ := bindS H
  refine op_call hk ent_41 (vs := [.agg #[.string p0.S, .int .i64 p0.E]]) rfl (tidewrackref01_Read_calls K p0 _ o7    _ hc15) ?_
  rintro _ w16 ⟨o17, rfl, st18⟩
  replace f10 := f10.st st18 (by decide)
  replace f5 := f5.st st18 (by decide)
  replace hs := hs.loc0 st18 (by decide)
  have hk := hk.put 11 (.tuple #[.agg #[.string t14.1.S, .int .i64 t14.1.E], .int .i64 t14.2]) rfl
  refine x_run tab hk (k := 3) (lv := []) (ks := [1, 2, 12, 13]) (e' := [(1, .pointer (some ⟨bx4, 0, none⟩)), (2, .pointer (some ⟨bx9, 0, none⟩)), (12, .agg #[.string t14.1.S, .int .i64 t14.1.E]), (13, .int .i64 t14.2)]) rfl trivial fun a hk => ?_
  refine x_op hk rfl ?_
  refine op_store tab hk (t := 61) (v := .agg #[.string t14.1.S, .int .i64 t14.1.E]) (b := bx4) (k := 0) (cs' := [.string t14.1.S, .int .i64 t14.1.E]) rfl rfl rfl rfl rfl rfl f5 rfl rfl fun w19 o20 st21 f5_ => ?_
  replace f10 := f10.st st21 (by decide)
  replace hs := hs.loc0 st21 (by decide)
  replace f5 := f5_
  refine x_run tab hk (k := 1) (lv := []) (ks := [1, 2, 4]) (e' := [(1, .pointer (some ⟨bx4, 0, none⟩)), (2, .pointer (some ⟨bx9, 0, none⟩)), (4, .int .i64 t14.2)]) rfl trivial fun a hk => ?_
  refine wpListIn_nil ?_
  refine then_n ?_
  refine x_mid (fun a_ w_ => ∃ o40 : Nat → Nat, Kn 71 a_ [(1, .pointer (some ⟨bx4, 0, none⟩)), (2, .pointer (some ⟨bx9, 0, none⟩)), (4, .int .i64 t14.2)] ∧ St [] w (fun _ => 0) w_ o40 ∧ Ft (Bx bx9 61 [.string (⟨#[]⟩ : ByteArray), .int .i64 0]) w_ o40 6 ∧ Ft (Bx bx4 61 [.string t14.1.S, .int .i64 t14.1.E]) w_ o40 5 ∧ tidewrackref12_Read_j1 K t14 = some r) ?_ ?_
  rotate_left
  · rintro a w41 ⟨o40, hk, hs, f10, f5, H⟩
    rw [tidewrackref12_Read_j1] at H
    refine x_seq ?_
    refine wpIn_region_lit ?_
    refine x_op hk rfl ?_
    refine op_slice (o := o40) tab hk (vs := []) (cs := []) rfl rfl rfl rfl rfl rfl rfl rfl rfl 7 fun bx45 w42 o43 st44 f46 => ?_
    replace f10 := f10.st st44 (by decide)
    replace f5 := f5.st st44 (by decide)
    replace hs := hs.loc0 st44 (by decide)
    have f47 : Ft (Own ET69 70 (.slice (some ⟨bx45, 0, none⟩) (([] : List T69)).length 0) ([] : List T69)) w42 o43 7 := f46.imp fun _ h_ => Own.of_box h_ rfl (by simp)
    have hk := hk.put 22 (.slice (some ⟨bx45, 0, none⟩) (([] : List T69)).length 0) rfl
    refine x_run tab hk (k := 1) (lv := []) (ks := [1, 2, 4, 5]) (e' := [(1, .pointer (some ⟨bx4, 0, none⟩)), (2, .pointer (some ⟨bx9, 0, none⟩)), (4, .int .i64 t14.2), (5, .slice (some ⟨bx45, 0, none⟩) (([] : List T69)).length 0)]) rfl trivial fun a hk => ?_
    refine wpListIn_nil ?_
    refine then_n ?_
    refine x_mid (fun a_ w_ => ∃ o359 : Nat → Nat, ∃ x360 : T60, ∃ A361 : Option Addr, ∃ c362 : Nat, ∃ l363 : List T69, Kn 71 a_ [(1, .pointer (some ⟨bx4, 0, none⟩)), (2, .pointer (some ⟨bx9, 0, none⟩)), (5, .slice A361 (l363).length c362)] ∧ St [] w (fun _ => 0) w_ o359 ∧ Ft (Bx bx9 61 [.string (⟨#[]⟩ : ByteArray), .int .i64 0]) w_ o359 63 ∧ Ft (Own ET69 70 (.slice A361 (l363).length c362) l363) w_ o359 64 ∧ Ft (Bx bx4 61 [.string x360.S, .int .i64 x360.E]) w_ o359 62 ∧ (l363).length ≤ c362 ∧ tidewrackref12_Read_j2 x360 l363 = some r) ?_ ?_
    rotate_left
    · rintro a w366 ⟨o359, x360, A361, c362, l363, hk, hs, f10, f364, f5, hc365, H⟩
      rw [tidewrackref12_Read_j2] at H
      refine x_seq ?_
      refine x_seq ?_
      refine wpIn_region_lit ?_
      refine x_run tab hk (k := 3) (lv := [.int .i64 x360.E]) (ks := [1, 2, 5, 67]) (e' := [(1, .pointer (some ⟨bx4, 0, none⟩)), (2, .pointer (some ⟨bx9, 0, none⟩)), (5, .slice A361 (l363).length c362), (67, .bool (x360.E != (0 : Int)))]) rfl ⟨(load1 tab rfl ((Bx.cell f5.now 1).trans rfl)), trivial⟩ fun a hk => ?_
      refine wpListIn_nil ?_
      refine then_n ?_
      cases b367 : (x360.E != (0 : Int))
      · rw [b367] at hk H
        replace H := bifF H
        refine x_if hk (b := false) rfl ?_
        refine (show Code.wpIn _ _ _ _ _ _ _ from ?_)
        refine wpIn_skip ?_
        refine then_n ?_
        refine x_seq ?_
        refine wpIn_region_lit ?_
        refine x_run tab hk (k := 2) (lv := [.agg #[.string x360.S, .int .i64 x360.E]]) (ks := [2, 69, 70]) (e' := [(2, .pointer (some ⟨bx9, 0, none⟩)), (69, .agg #[.string x360.S, .int .i64 x360.E]), (70, .slice A361 (l363).length c362)]) rfl ⟨(load_box tab rfl rfl f5.now (k := 0) rfl rfl), trivial⟩ fun a hk => ?_
        refine x_op hk rfl ?_
        refine op_store tab hk (t := 61) (v := .agg #[.string x360.S, .int .i64 x360.E]) (b := bx9) (k := 0) (cs' := [.string x360.S, .int .i64 x360.E]) rfl rfl rfl rfl rfl rfl f10 rfl rfl fun w368 o369 st370 f10_ => ?_
        replace f364 := f364.st st370 (by decide)
        replace hs := hs.loc0 st370 (by decide)
        replace f10 := f10_
        refine x_run tab hk (k := 1) (lv := []) (ks := [2, 3]) (e' := [(2, .pointer (some ⟨bx9, 0, none⟩)), (3, .slice A361 (l363).length c362)]) rfl trivial fun a hk => ?_
        refine wpListIn_nil ?_
        refine then_n ?_
        refine wpIn_ret ?_
        obtain rfl := Option.some.inj H
        exact x_retG hk (rs := [.cell 2 61, .tmp 3]) (vs := [.agg #[.string x360.S, .int .i64 x360.E], .slice A361 (l363).length c362]) rfl ⟨⟨_, rfl, load_box tab rfl rfl f10.now (k := 0) rfl rfl⟩, rfl, trivial⟩ ⟨fun b_ => if b_ < w.heap.size then o b_ else (fun _ => R0) (o369 b_), A361, c362, rfl, hs.close0 o (fun _ => R0), hs.close_ft (o := o) (ρ := fun _ => R0) f364 (by decide) rfl, hc365⟩
      · rw [b367] at hk H
        replace H := bifT H
        refine x_if hk (b := true) rfl ?_
        refine (show Code.wpIn _ _ _ _ _ _ _ from ?_)
        refine x_seq ?_
        refine wpIn_region_lit ?_
        refine x_run tab hk (k := 1) (lv := [.agg #[.string x360.S, .int .i64 x360.E]]) (ks := [2, 68]) (e' := [(2, .pointer (some ⟨bx9, 0, none⟩)), (68, .agg #[.string x360.S, .int .i64 x360.E])]) rfl ⟨(load_box tab rfl rfl f5.now (k := 0) rfl rfl), trivial⟩ fun a hk => ?_
        refine x_op hk rfl ?_
        refine op_store tab hk (t := 61) (v := .agg #[.string x360.S, .int .i64 x360.E]) (b := bx9) (k := 0) (cs' := [.string x360.S, .int .i64 x360.E]) rfl rfl rfl rfl rfl rfl f10 rfl rfl fun w371 o372 st373 f10_ => ?_
        replace hs := hs.loc0 st373 (by decide)
        replace f10 := f10_
        refine x_run tab hk (k := 1) (lv := []) (ks := [2, 3]) (e' := [(2, .pointer (some ⟨bx9, 0, none⟩)), (3, .slice none 0 0)]) rfl trivial fun a hk => ?_
        refine wpListIn_nil ?_
        refine then_n ?_
        refine wpIn_ret ?_
        refine then_r ?_
        obtain rfl := Option.some.inj H
        exact x_retG hk (rs := [.cell 2 61, .tmp 3]) (vs := [.agg #[.string x360.S, .int .i64 x360.E], .slice none 0 0]) rfl ⟨⟨_, rfl, load_box tab rfl rfl f10.now (k := 0) rfl rfl⟩, rfl, trivial⟩ ⟨fun b_ => if b_ < w.heap.size then o b_ else (fun _ => 0) (o372 b_), none, 0, rfl, hs.close0 o (fun _ => 0), (Ft.of_all (fun _ => Own.nil _ _ _) _ _ _), (by simp)⟩
    refine x_seq ?_
    refine wpIn_region_lit ?_
    refine x_run tab hk (k := 1) (lv := []) (ks := [1, 2, 4, 5, 6]) (e' := [(1, .pointer (some ⟨bx4, 0, none⟩)), (2, .pointer (some ⟨bx9, 0, none⟩)), (4, .int .i64 t14.2), (5, .slice (some ⟨bx45, 0, none⟩) (([] : List T69)).length 0), (6, .int .i64 0)]) rfl trivial fun a hk => ?_
    refine wpListIn_nil ?_
    refine then_n ?_
    refine wpIn_block ?_
    refine x_loop (fun j_ a_ w_ => ∃ o472 : Nat → Nat, ∃ x473 : T60, ∃ A474 : Option Addr, ∃ c475 : Nat, ∃ l476 : List T69, ∃ x479 : Int, Kn 71 a_ [(1, .pointer (some ⟨bx4, 0, none⟩)), (2, .pointer (some ⟨bx9, 0, none⟩)), (4, .int .i64 t14.2), (5, .slice A474 (l476).length c475), (6, .int .i64 x479)] ∧ St [] w (fun _ => 0) w_ o472 ∧ Ft (Bx bx9 61 [.string (⟨#[]⟩ : ByteArray), .int .i64 0]) w_ o472 85 ∧ Ft (Own ET69 70 (.slice A474 (l476).length c475) l476) w_ o472 86 ∧ Ft (Bx bx4 61 [.string x473.S, .int .i64 x473.E]) w_ o472 84 ∧ (l476).length ≤ c475 ∧ tidewrackref12_Read_l3 K t14 j_ x473 l476 x479 = some r) (k := K) ⟨(fun b_ => (fun l_ => if l_ = 5 then 84 else if l_ = 6 then 85 else if l_ = 7 then 86 else l_) (o43 b_)), t14.1, (some ⟨bx45, 0, none⟩), 0, ([] : List T69), 0, (by exact Kn.pick (ks := [1, 2, 4, 5, 6]) hk rfl), (hs.relab0 (fun l_ => if l_ = 5 then 84 else if l_ = 6 then 85 else if l_ = 7 then 86 else l_) rfl), (f10.relab (fun l_ => if l_ = 5 then 84 else if l_ = 6 then 85 else if l_ = 7 then 86 else l_) rfl), (f47.relab (fun l_ => if l_ = 5 then 84 else if l_ = 6 then 85 else if l_ = 7 then 86 else l_) rfl), (f5.relab (fun l_ => if l_ = 5 then 84 else if l_ = 6 then 85 else if l_ = 7 then 86 else l_) rfl), (Nat.le_refl _), H⟩ (by rintro _ _ ⟨_, _, _, _, _, _, _, _, _, _, _, _, H_⟩; exact absurd (show (none : Option (T60 × (List T69))) = some r from H_) (by simp)) ?_
    rintro k576 a w575 ⟨o472, x473, A474, c475, l476, x479, hk, hs, f10, f477, f5, hc478, H⟩
    rw [tidewrackref12_Read_l3] at H
    obtain ⟨lp577, hlp578⟩ : ∃ lp_, lp_ = tidewrackref12_Read_l3 K t14 k576 := ⟨_, rfl⟩
    rw [← hlp578] at H
    refine x_mid (fun a_ w_ => ∃ o584 : Nat → Nat, Kn 71 a_ [(1, .pointer (some ⟨bx4, 0, none⟩)), (2, .pointer (some ⟨bx9, 0, none⟩)), (4, .int .i64 t14.2), (5, .slice A474 (l476).length c475), (6, .int .i64 x479)] ∧ St [] w (fun _ => 0) w_ o584 ∧ Ft (Bx bx9 61 [.string (⟨#[]⟩ : ByteArray), .int .i64 0]) w_ o584 104 ∧ Ft (Own ET69 70 (.slice A474 (l476).length c475) l476) w_ o584 105 ∧ Ft (Bx bx4 61 [.string x473.S, .int .i64 x473.E]) w_ o584 103 ∧ tidewrackref12_Read_j4 K x473 l476 x479 lp577 = some r) ?_ ?_
    rotate_left
    · rintro a w585 ⟨o584, hk, hs, f10, f477, f5, H⟩
      rw [tidewrackref12_Read_j4] at H
      refine x_seq ?_
      refine wpIn_block ?_
      refine x_seq ?_
      refine wpIn_region_lit ?_
      refine x_run tab hk (k := 1) (lv := []) (ks := [1, 2, 4, 5, 6]) (e' := [(1, .pointer (some ⟨bx4, 0, none⟩)), (2, .pointer (some ⟨bx9, 0, none⟩)), (4, .int .i64 t14.2), (5, .slice A474 (l476).length c475), (6, .int .i64 x479)]) rfl trivial fun a hk => ?_
      refine wpListIn_nil ?_
      refine then_n ?_
      refine x_seq ?_
      refine wpIn_region_lit ?_
      refine x_run tab hk (k := 1) (lv := []) (ks := [1, 2, 4, 5, 6]) (e' := [(1, .pointer (some ⟨bx4, 0, none⟩)), (2, .pointer (some ⟨bx9, 0, none⟩)), (4, .int .i64 t14.2), (5, .slice A474 (l476).length c475), (6, .int .i64 x479)]) rfl trivial fun a hk => ?_
      refine wpListIn_nil ?_
      refine then_n ?_
      refine x_seq ?_
      refine wpIn_region_lit ?_
      refine x_run tab hk (k := 1) (lv := [.agg #[.string x473.S, .int .i64 x473.E]]) (ks := [1, 2, 4, 5, 6, 34]) (e' := [(1, .pointer (some ⟨bx4, 0, none⟩)), (2, .pointer (some ⟨bx9, 0, none⟩)), (4, .int .i64 t14.2), (5, .slice A474 (l476).length c475), (6, .int .i64 x479), (34, .agg #[.string x473.S, .int .i64 x473.E])]) rfl ⟨(load_box tab rfl rfl f5.now (k := 0) rfl rfl), trivial⟩ fun a hk => ?_
      refine x_op hk rfl ?_
      obtain ⟨t589, hc590, H⟩ := bindS H
      refine op_call hk ent_41 (vs := [.agg #[.string x473.S, .int .i64 x473.E]]) rfl (tidewrackref01_Read_calls K x473 _ o584    _ hc590) ?_
      rintro _ w591 ⟨o592, rfl, st593⟩
      replace f10 := f10.st st593 (by decide)
      replace f477 := f477.st st593 (by decide)
      replace f5 := f5.st st593 (by decide)
      replace hs := hs.loc0 st593 (by decide)
      have hk := hk.put 35 (.tuple #[.agg #[.string t589.1.S, .int .i64 t589.1.E], .int .i64 t589.2]) rfl
      refine x_run tab hk (k := 3) (lv := []) (ks := [1, 2, 4, 5, 6, 36, 37]) (e' := [(1, .pointer (some ⟨bx4, 0, none⟩)), (2, .pointer (some ⟨bx9, 0, none⟩)), (4, .int .i64 t14.2), (5, .slice A474 (l476).length c475), (6, .int .i64 x479), (36, .agg #[.string t589.1.S, .int .i64 t589.1.E]), (37, .int .i64 t589.2)]) rfl trivial fun a hk => ?_
      refine x_op hk rfl ?_
      refine op_store tab hk (t := 61) (v := .agg #[.string t589.1.S, .int .i64 t589.1.E]) (b := bx4) (k := 0) (cs' := [.string t589.1.S, .int .i64 t589.1.E]) rfl rfl rfl rfl rfl rfl f5 rfl rfl fun w594 o595 st596 f5_ => ?_
      replace f10 := f10.st st596 (by decide)
      replace f477 := f477.st st596 (by decide)
      replace hs := hs.loc0 st596 (by decide)
      replace f5 := f5_
      refine x_run tab hk (k := 1) (lv := []) (ks := [1, 2, 4, 5, 6, 7]) (e' := [(1, .pointer (some ⟨bx4, 0, none⟩)), (2, .pointer (some ⟨bx9, 0, none⟩)), (4, .int .i64 t14.2), (5, .slice A474 (l476).length c475), (6, .int .i64 x479), (7, .int .i64 t589.2)]) rfl trivial fun a hk => ?_
      refine wpListIn_nil ?_
      refine then_n ?_
      refine x_mid (fun a_ w_ => ∃ o615 : Nat → Nat, Kn 71 a_ [(1, .pointer (some ⟨bx4, 0, none⟩)), (2, .pointer (some ⟨bx9, 0, none⟩)), (4, .int .i64 t14.2), (5, .slice A474 (l476).length c475), (6, .int .i64 x479), (7, .int .i64 t589.2)] ∧ St [] w (fun _ => 0) w_ o615 ∧ Ft (Bx bx9 61 [.string (⟨#[]⟩ : ByteArray), .int .i64 0]) w_ o615 110 ∧ Ft (Own ET69 70 (.slice A474 (l476).length c475) l476) w_ o615 111 ∧ Ft (Bx bx4 61 [.string t589.1.S, .int .i64 t589.1.E]) w_ o615 109 ∧ tidewrackref12_Read_j5 K l476 x479 lp577 t589 = some r) ?_ ?_
      rotate_left
      · rintro a w616 ⟨o615, hk, hs, f10, f477, f5, H⟩
        rw [tidewrackref12_Read_j5] at H
        refine x_seq ?_
        refine wpIn_region_lit ?_
        refine x_run tab hk (k := 1) (lv := [.agg #[.string t589.1.S, .int .i64 t589.1.E]]) (ks := [1, 2, 4, 5, 6, 7, 47]) (e' := [(1, .pointer (some ⟨bx4, 0, none⟩)), (2, .pointer (some ⟨bx9, 0, none⟩)), (4, .int .i64 t14.2), (5, .slice A474 (l476).length c475), (6, .int .i64 x479), (7, .int .i64 t589.2), (47, .agg #[.string t589.1.S, .int .i64 t589.1.E])]) rfl ⟨(load_box tab rfl rfl f5.now (k := 0) rfl rfl), trivial⟩ fun a hk => ?_
        refine x_op hk rfl ?_
        obtain ⟨t620, hc621, H⟩ := bindS H
        refine op_call hk ent_41 (vs := [.agg #[.string t589.1.S, .int .i64 t589.1.E]]) rfl (tidewrackref01_Read_calls K t589.1 _ o615    _ hc621) ?_
        rintro _ w622 ⟨o623, rfl, st624⟩
        replace f10 := f10.st st624 (by decide)
        replace f477 := f477.st st624 (by decide)
        replace f5 := f5.st st624 (by decide)
        replace hs := hs.loc0 st624 (by decide)
        have hk := hk.put 48 (.tuple #[.agg #[.string t620.1.S, .int .i64 t620.1.E], .int .i64 t620.2]) rfl
        refine x_run tab hk (k := 3) (lv := []) (ks := [1, 2, 4, 5, 6, 7, 49, 50]) (e' := [(1, .pointer (some ⟨bx4, 0, none⟩)), (2, .pointer (some ⟨bx9, 0, none⟩)), (4, .int .i64 t14.2), (5, .slice A474 (l476).length c475), (6, .int .i64 x479), (7, .int .i64 t589.2), (49, .agg #[.string t620.1.S, .int .i64 t620.1.E]), (50, .int .i64 t620.2)]) rfl trivial fun a hk => ?_
        refine x_op hk rfl ?_
        refine op_store tab hk (t := 61) (v := .agg #[.string t620.1.S, .int .i64 t620.1.E]) (b := bx4) (k := 0) (cs' := [.string t620.1.S, .int .i64 t620.1.E]) rfl rfl rfl rfl rfl rfl f5 rfl rfl fun w625 o626 st627 f5_ => ?_
        replace f10 := f10.st st627 (by decide)
        replace f477 := f477.st st627 (by decide)
        replace hs := hs.loc0 st627 (by decide)
        replace f5 := f5_
        refine x_run tab hk (k := 1) (lv := []) (ks := [1, 2, 4, 5, 6, 7, 8]) (e' := [(1, .pointer (some ⟨bx4, 0, none⟩)), (2, .pointer (some ⟨bx9, 0, none⟩)), (4, .int .i64 t14.2), (5, .slice A474 (l476).length c475), (6, .int .i64 x479), (7, .int .i64 t589.2), (8, .int .i64 t620.2)]) rfl trivial fun a hk => ?_
        refine wpListIn_nil ?_
        refine then_n ?_
        refine x_seq ?_
        refine x_mid (fun a_ w_ => ∃ o635 : Nat → Nat, ∃ x636 : Bool, Kn 71 a_ [(1, .pointer (some ⟨bx4, 0, none⟩)), (2, .pointer (some ⟨bx9, 0, none⟩)), (4, .int .i64 t14.2), (5, .slice A474 (l476).length c475), (6, .int .i64 x479), (7, .int .i64 t589.2), (8, .int .i64 t620.2), (57, .bool x636)] ∧ St [] w (fun _ => 0) w_ o635 ∧ Ft (Bx bx9 61 [.string (⟨#[]⟩ : ByteArray), .int .i64 0]) w_ o635 113 ∧ Ft (Own ET69 70 (.slice A474 (l476).length c475) l476) w_ o635 114 ∧ Ft (Bx bx4 61 [.string t620.1.S, .int .i64 t620.1.E]) w_ o635 112 ∧ tidewrackref12_Read_j6 l476 x479 lp577 t589 t620 x636 = some r) ?_ ?_
        rotate_left
        · rintro a w637 ⟨o635, x636, hk, hs, f10, f477, f5, H⟩
          rw [tidewrackref12_Read_j6] at H
          cases b638 : x636
          · rw [b638] at hk H
            replace H := bifF H
            refine x_if hk (b := false) rfl ?_
            refine (show Code.wpIn _ _ _ _ _ _ _ from ?_)
            refine wpIn_skip ?_
            refine then_n ?_
            refine wpIn_region_lit ?_
            refine x_run tab hk (k := 4) (lv := []) (ks := [1, 2, 4, 6, 59, 62]) (e' := [(1, .pointer (some ⟨bx4, 0, none⟩)), (2, .pointer (some ⟨bx9, 0, none⟩)), (4, .int .i64 t14.2), (6, .int .i64 x479), (59, .slice A474 (l476).length c475), (62, .agg #[.int .i64 t589.2, .int .i64 t620.2])]) rfl trivial fun a hk => ?_
            refine x_op hk rfl ?_
            refine op_slice (o := o635) tab hk (vs := [.agg #[.int .i64 t589.2, .int .i64 t620.2]]) (cs := [.int .i64 t589.2, .int .i64 t620.2]) rfl rfl rfl rfl rfl rfl rfl rfl rfl 115 fun bx642 w639 o640 st641 f643 => ?_
            replace f10 := f10.st st641 (by decide)
            replace f477 := f477.st st641 (by decide)
            replace f5 := f5.st st641 (by decide)
            replace hs := hs.loc0 st641 (by decide)
            have f644 : Ft (Own ET69 70 (.slice (some ⟨bx642, 0, none⟩) (([(⟨t589.2, t620.2⟩ : T69)] : List T69)).length 1) ([(⟨t589.2, t620.2⟩ : T69)] : List T69)) w639 o640 115 := f643.imp fun _ h_ => Own.of_box h_ rfl (by simp)
            have hk := hk.put 63 (.slice (some ⟨bx642, 0, none⟩) (([(⟨t589.2, t620.2⟩ : T69)] : List T69)).length 1) rfl
            refine x_op hk rfl ?_
            obtain ⟨q648, H⟩ := ifS H
            refine op_append (o := o640) (E := ET69) (xs := l476) (ys := ([(⟨t589.2, t620.2⟩ : T69)] : List T69)) tab hk rfl rfl rfl rfl rfl rfl rfl f477 (Own.rd f644.now) q648 fun A649 c650 w645 o646 st647 f651 hc652 => ?_
            replace f10 := f10.st st647 (by decide)
            replace f5 := f5.st st647 (by decide)
            replace f644 := f644.st st647 (by decide)
            replace hs := hs.loc0 st647 (by decide)
            have hk := hk.put 64 (.slice A649 ((l476 ++ ([(⟨t589.2, t620.2⟩ : T69)] : List T69))).length c650) rfl
            refine x_run tab hk (k := 1) (lv := []) (ks := [1, 2, 4, 5, 6]) (e' := [(1, .pointer (some ⟨bx4, 0, none⟩)), (2, .pointer (some ⟨bx9, 0, none⟩)), (4, .int .i64 t14.2), (5, .slice A649 ((l476 ++ ([(⟨t589.2, t620.2⟩ : T69)] : List T69))).length c650), (6, .int .i64 x479)]) rfl trivial fun a hk => ?_
            refine wpListIn_nil ?_
            refine blk_n ?_
            refine then_n ?_
            refine wpIn_region_lit ?_
            refine x_run tab hk (k := 3) (lv := []) (ks := [1, 2, 4, 5, 6]) (e' := [(1, .pointer (some ⟨bx4, 0, none⟩)), (2, .pointer (some ⟨bx9, 0, none⟩)), (4, .int .i64 t14.2), (5, .slice A649 ((l476 ++ ([(⟨t589.2, t620.2⟩ : T69)] : List T69))).length c650), (6, .int .i64 (IntKind.wrap .i64 (x479 + 1)))]) rfl trivial fun a hk => ?_
            refine wpListIn_nil ?_
            refine then_n ?_
            exact ⟨k576, Nat.le_refl _, (fun b_ => (fun l_ => if l_ = 112 then 84 else if l_ = 113 then 85 else if l_ = 114 then 86 else l_) (o646 b_)), t620.1, A649, c650, (l476 ++ ([(⟨t589.2, t620.2⟩ : T69)] : List T69)), (IntKind.wrap .i64 (x479 + 1)), (by exact Kn.pick (ks := [1, 2, 4, 5, 6]) hk rfl), (hs.relab0 (fun l_ => if l_ = 112 then 84 else if l_ = 113 then 85 else if l_ = 114 then 86 else l_) rfl), (f10.relab (fun l_ => if l_ = 112 then 84 else if l_ = 113 then 85 else if l_ = 114 then 86 else l_) rfl), (f651.relab (fun l_ => if l_ = 112 then 84 else if l_ = 113 then 85 else if l_ = 114 then 86 else l_) rfl), (f5.relab (fun l_ => if l_ = 112 then 84 else if l_ = 113 then 85 else if l_ = 114 then 86 else l_) rfl), hc652, (hlp578 ▸ H)⟩
          · rw [b638] at hk H
            replace H := bifT H
            refine x_if hk (b := true) rfl ?_
            refine (show Code.wpIn _ _ _ _ _ _ _ from ?_)
            refine x_seq ?_
            refine wpIn_region_lit ?_
            refine x_run tab hk (k := 1) (lv := []) (ks := [2, 58]) (e' := [(2, .pointer (some ⟨bx9, 0, none⟩)), (58, .agg #[.string (⟨#[]⟩ : ByteArray), .int .i64 1])]) rfl trivial fun a hk => ?_
            refine x_op hk rfl ?_
            refine op_store tab hk (t := 61) (v := .agg #[.string (⟨#[]⟩ : ByteArray), .int .i64 1]) (b := bx9) (k := 0) (cs' := [.string (⟨#[]⟩ : ByteArray), .int .i64 1]) rfl rfl rfl rfl rfl rfl f10 rfl rfl fun w653 o654 st655 f10_ => ?_
            replace hs := hs.loc0 st655 (by decide)
            replace f10 := f10_
            refine x_run tab hk (k := 1) (lv := []) (ks := [2, 3]) (e' := [(2, .pointer (some ⟨bx9, 0, none⟩)), (3, .slice none 0 0)]) rfl trivial fun a hk => ?_
            refine wpListIn_nil ?_
            refine then_n ?_
            refine wpIn_ret ?_
            refine then_r ?_
            refine blk_r ?_
            refine then_r ?_
            refine then_r ?_
            refine blk_r ?_
            refine then_r ?_
            obtain rfl := Option.some.inj H
            exact x_retG hk (rs := [.cell 2 61, .tmp 3]) (vs := [.agg #[.string (⟨#[]⟩ : ByteArray), .int .i64 1], .slice none 0 0]) rfl ⟨⟨_, rfl, load_box tab rfl rfl f10.now (k := 0) rfl rfl⟩, rfl, trivial⟩ ⟨fun b_ => if b_ < w.heap.size then o b_ else (fun _ => 0) (o654 b_), none, 0, rfl, hs.close0 o (fun _ => 0), (Ft.of_all (fun _ => Own.nil _ _ _) _ _ _), (by simp)⟩
        refine wpIn_region_lit ?_
        refine x_run tab hk (k := 4) (lv := [.int .i64 t620.1.E]) (ks := [1, 2, 4, 5, 6, 7, 8, 54]) (e' := [(1, .pointer (some ⟨bx4, 0, none⟩)), (2, .pointer (some ⟨bx9, 0, none⟩)), (4, .int .i64 t14.2), (5, .slice A474 (l476).length c475), (6, .int .i64 x479), (7, .int .i64 t589.2), (8, .int .i64 t620.2), (54, .bool (t620.1.E == (0 : Int)))]) rfl ⟨(load1 tab rfl ((Bx.cell f5.now 1).trans rfl)), trivial⟩ fun a hk => ?_
        cases b656 : (t620.1.E == (0 : Int))
        · rw [b656] at hk H
          replace H := bifF H
          refine x_run tab hk (k := 3) (lv := []) (ks := [1, 2, 4, 5, 6, 7, 8, 57]) (e' := [(1, .pointer (some ⟨bx4, 0, none⟩)), (2, .pointer (some ⟨bx9, 0, none⟩)), (4, .int .i64 t14.2), (5, .slice A474 (l476).length c475), (6, .int .i64 x479), (7, .int .i64 t589.2), (8, .int .i64 t620.2), (57, .bool false)]) rfl trivial fun a hk => ?_
          refine wpListIn_nil ?_
          refine then_n ?_
          exact ⟨(fun b_ => (fun l_ => if l_ = 109 then 112 else if l_ = 110 then 113 else if l_ = 111 then 114 else l_) (o626 b_)), false, (by exact Kn.pick (ks := [1, 2, 4, 5, 6, 7, 8, 57]) hk rfl), (hs.relab0 (fun l_ => if l_ = 109 then 112 else if l_ = 110 then 113 else if l_ = 111 then 114 else l_) rfl), (f10.relab (fun l_ => if l_ = 109 then 112 else if l_ = 110 then 113 else if l_ = 111 then 114 else l_) rfl), (f477.relab (fun l_ => if l_ = 109 then 112 else if l_ = 110 then 113 else if l_ = 111 then 114 else l_) rfl), (f5.relab (fun l_ => if l_ = 109 then 112 else if l_ = 110 then 113 else if l_ = 111 then 114 else l_) rfl), H⟩
        · rw [b656] at hk H
          replace H := bifT H
          refine x_run tab hk (k := 3) (lv := []) (ks := [1, 2, 4, 5, 6, 7, 8, 57]) (e' := [(1, .pointer (some ⟨bx4, 0, none⟩)), (2, .pointer (some ⟨bx9, 0, none⟩)), (4, .int .i64 t14.2), (5, .slice A474 (l476).length c475), (6, .int .i64 x479), (7, .int .i64 t589.2), (8, .int .i64 t620.2), (57, .bool (decide (t620.2 > (647 : Int))))]) rfl trivial fun a hk => ?_
          refine wpListIn_nil ?_
          refine then_n ?_
          exact ⟨(fun b_ => (fun l_ => if l_ = 109 then 112 else if l_ = 110 then 113 else if l_ = 111 then 114 else l_) (o626 b_)), (decide (t620.2 > (647 : Int))), (by exact Kn.pick (ks := [1, 2, 4, 5, 6, 7, 8, 57]) hk rfl), (hs.relab0 (fun l_ => if l_ = 109 then 112 else if l_ = 110 then 113 else if l_ = 111 then 114 else l_) rfl), (f10.relab (fun l_ => if l_ = 109 then 112 else if l_ = 110 then 113 else if l_ = 111 then 114 else l_) rfl), (f477.relab (fun l_ => if l_ = 109 then 112 else if l_ = 110 then 113 else if l_ = 111 then 114 else l_) rfl), (f5.relab (fun l_ => if l_ = 109 then 112 else if l_ = 110 then 113 else if l_ = 111 then 114 else l_) rfl), H⟩
      refine x_mid (fun a_ w_ => ∃ o664 : Nat → Nat, ∃ x665 : Bool, Kn 71 a_ [(1, .pointer (some ⟨bx4, 0, none⟩)), (2, .pointer (some ⟨bx9, 0, none⟩)), (4, .int .i64 t14.2), (5, .slice A474 (l476).length c475), (6, .int .i64 x479), (7, .int .i64 t589.2), (44, .bool x665)] ∧ St [] w (fun _ => 0) w_ o664 ∧ Ft (Bx bx9 61 [.string (⟨#[]⟩ : ByteArray), .int .i64 0]) w_ o664 117 ∧ Ft (Own ET69 70 (.slice A474 (l476).length c475) l476) w_ o664 118 ∧ Ft (Bx bx4 61 [.string t589.1.S, .int .i64 t589.1.E]) w_ o664 116 ∧ tidewrackref12_Read_j7 K l476 x479 lp577 t589 x665 = some r) ?_ ?_
      rotate_left
      · rintro a w666 ⟨o664, x665, hk, hs, f10, f477, f5, H⟩
        rw [tidewrackref12_Read_j7] at H
        cases b667 : x665
        · rw [b667] at hk H
          replace H := bifF H
          refine x_if hk (b := false) rfl ?_
          refine (show Code.wpIn _ _ _ _ _ _ _ from ?_)
          refine wpIn_skip ?_
          refine then_n ?_
          exact ⟨(fun b_ => (fun l_ => if l_ = 116 then 109 else if l_ = 117 then 110 else if l_ = 118 then 111 else l_) (o664 b_)), (by exact Kn.pick (ks := [1, 2, 4, 5, 6, 7]) hk rfl), (hs.relab0 (fun l_ => if l_ = 116 then 109 else if l_ = 117 then 110 else if l_ = 118 then 111 else l_) rfl), (f10.relab (fun l_ => if l_ = 116 then 109 else if l_ = 117 then 110 else if l_ = 118 then 111 else l_) rfl), (f477.relab (fun l_ => if l_ = 116 then 109 else if l_ = 117 then 110 else if l_ = 118 then 111 else l_) rfl), (f5.relab (fun l_ => if l_ = 116 then 109 else if l_ = 117 then 110 else if l_ = 118 then 111 else l_) rfl), H⟩
        · rw [b667] at hk H
          replace H := bifT H
          refine x_if hk (b := true) rfl ?_
          refine (show Code.wpIn _ _ _ _ _ _ _ from ?_)
          refine x_seq ?_
          refine wpIn_region_lit ?_
          refine x_run tab hk (k := 1) (lv := []) (ks := [2, 45]) (e' := [(2, .pointer (some ⟨bx9, 0, none⟩)), (45, .agg #[.string (⟨#[]⟩ : ByteArray), .int .i64 1])]) rfl trivial fun a hk => ?_
          refine x_op hk rfl ?_
          refine op_store tab hk (t := 61) (v := .agg #[.string (⟨#[]⟩ : ByteArray), .int .i64 1]) (b := bx9) (k := 0) (cs' := [.string (⟨#[]⟩ : ByteArray), .int .i64 1]) rfl rfl rfl rfl rfl rfl f10 rfl rfl fun w668 o669 st670 f10_ => ?_
          replace hs := hs.loc0 st670 (by decide)
          replace f10 := f10_
          refine x_run tab hk (k := 1) (lv := []) (ks := [2, 3]) (e' := [(2, .pointer (some ⟨bx9, 0, none⟩)), (3, .slice none 0 0)]) rfl trivial fun a hk => ?_
          refine wpListIn_nil ?_
          refine then_n ?_
          refine wpIn_ret ?_
          refine then_r ?_
          refine blk_r ?_
          refine then_r ?_
          refine then_r ?_
          refine blk_r ?_
          refine then_r ?_
          obtain rfl := Option.some.inj H
          exact x_retG hk (rs := [.cell 2 61, .tmp 3]) (vs := [.agg #[.string (⟨#[]⟩ : ByteArray), .int .i64 1], .slice none 0 0]) rfl ⟨⟨_, rfl, load_box tab rfl rfl f10.now (k := 0) rfl rfl⟩, rfl, trivial⟩ ⟨fun b_ => if b_ < w.heap.size then o b_ else (fun _ => 0) (o669 b_), none, 0, rfl, hs.close0 o (fun _ => 0), (Ft.of_all (fun _ => Own.nil _ _ _) _ _ _), (by simp)⟩
      refine wpIn_region_lit ?_
      refine x_run tab hk (k := 4) (lv := [.int .i64 t589.1.E]) (ks := [1, 2, 4, 5, 6, 7, 41]) (e' := [(1, .pointer (some ⟨bx4, 0, none⟩)), (2, .pointer (some ⟨bx9, 0, none⟩)), (4, .int .i64 t14.2), (5, .slice A474 (l476).length c475), (6, .int .i64 x479), (7, .int .i64 t589.2), (41, .bool (t589.1.E == (0 : Int)))]) rfl ⟨(load1 tab rfl ((Bx.cell f5.now 1).trans rfl)), trivial⟩ fun a hk => ?_
      cases b671 : (t589.1.E == (0 : Int))
      · rw [b671] at hk H
        replace H := bifF H
        refine x_run tab hk (k := 3) (lv := []) (ks := [1, 2, 4, 5, 6, 7, 44]) (e' := [(1, .pointer (some ⟨bx4, 0, none⟩)), (2, .pointer (some ⟨bx9, 0, none⟩)), (4, .int .i64 t14.2), (5, .slice A474 (l476).length c475), (6, .int .i64 x479), (7, .int .i64 t589.2), (44, .bool false)]) rfl trivial fun a hk => ?_
        refine wpListIn_nil ?_
        refine then_n ?_
        exact ⟨(fun b_ => (fun l_ => if l_ = 103 then 116 else if l_ = 104 then 117 else if l_ = 105 then 118 else l_) (o595 b_)), false, (by exact Kn.pick (ks := [1, 2, 4, 5, 6, 7, 44]) hk rfl), (hs.relab0 (fun l_ => if l_ = 103 then 116 else if l_ = 104 then 117 else if l_ = 105 then 118 else l_) rfl), (f10.relab (fun l_ => if l_ = 103 then 116 else if l_ = 104 then 117 else if l_ = 105 then 118 else l_) rfl), (f477.relab (fun l_ => if l_ = 103 then 116 else if l_ = 104 then 117 else if l_ = 105 then 118 else l_) rfl), (f5.relab (fun l_ => if l_ = 103 then 116 else if l_ = 104 then 117 else if l_ = 105 then 118 else l_) rfl), H⟩
      · rw [b671] at hk H
        replace H := bifT H
        refine x_run tab hk (k := 3) (lv := []) (ks := [1, 2, 4, 5, 6, 7, 44]) (e' := [(1, .pointer (some ⟨bx4, 0, none⟩)), (2, .pointer (some ⟨bx9, 0, none⟩)), (4, .int .i64 t14.2), (5, .slice A474 (l476).length c475), (6, .int .i64 x479), (7, .int .i64 t589.2), (44, .bool (decide (t589.2 > (1114111 : Int))))]) rfl trivial fun a hk => ?_
        refine wpListIn_nil ?_
        refine then_n ?_
        exact ⟨(fun b_ => (fun l_ => if l_ = 103 then 116 else if l_ = 104 then 117 else if l_ = 105 then 118 else l_) (o595 b_)), (decide (t589.2 > (1114111 : Int))), (by exact Kn.pick (ks := [1, 2, 4, 5, 6, 7, 44]) hk rfl), (hs.relab0 (fun l_ => if l_ = 103 then 116 else if l_ = 104 then 117 else if l_ = 105 then 118 else l_) rfl), (f10.relab (fun l_ => if l_ = 103 then 116 else if l_ = 104 then 117 else if l_ = 105 then 118 else l_) rfl), (f477.relab (fun l_ => if l_ = 103 then 116 else if l_ = 104 then 117 else if l_ = 105 then 118 else l_) rfl), (f5.relab (fun l_ => if l_ = 103 then 116 else if l_ = 104 then 117 else if l_ = 105 then 118 else l_) rfl), H⟩
    refine x_seq ?_
    refine wpIn_region_lit ?_
    refine x_run tab hk (k := 4) (lv := []) (ks := [1, 2, 4, 5, 6, 26]) (e' := [(1, .pointer (some ⟨bx4, 0, none⟩)), (2, .pointer (some ⟨bx9, 0, none⟩)), (4, .int .i64 t14.2), (5, .slice A474 (l476).length c475), (6, .int .i64 x479), (26, .bool (decide (x479 < t14.2)))]) rfl trivial fun a hk => ?_
    cases b672 : (decide (x479 < t14.2))
    · rw [b672] at hk H
      replace H := bifF H
      refine x_run tab hk (k := 4) (lv := []) (ks := [1, 2, 4, 5, 6, 30]) (e' := [(1, .pointer (some ⟨bx4, 0, none⟩)), (2, .pointer (some ⟨bx9, 0, none⟩)), (4, .int .i64 t14.2), (5, .slice A474 (l476).length c475), (6, .int .i64 x479), (30, .bool false)]) rfl trivial fun a hk => ?_
      refine wpListIn_nil ?_
      refine then_n ?_
      refine x_if hk (b := false) rfl ?_
      refine (show Code.wpIn _ _ _ _ _ _ _ from ?_)
      refine wpIn_exit ?_
      refine then_x ?_
      refine then_x ?_
      refine blk_x ?_
      refine then_n ?_
      exact ⟨(fun b_ => (fun l_ => if l_ = 84 then 62 else if l_ = 85 then 63 else if l_ = 86 then 64 else l_) (o472 b_)), x473, A474, c475, l476, (by exact Kn.pick (ks := [1, 2, 5]) hk rfl), (hs.relab0 (fun l_ => if l_ = 84 then 62 else if l_ = 85 then 63 else if l_ = 86 then 64 else l_) rfl), (f10.relab (fun l_ => if l_ = 84 then 62 else if l_ = 85 then 63 else if l_ = 86 then 64 else l_) rfl), (f477.relab (fun l_ => if l_ = 84 then 62 else if l_ = 85 then 63 else if l_ = 86 then 64 else l_) rfl), (f5.relab (fun l_ => if l_ = 84 then 62 else if l_ = 85 then 63 else if l_ = 86 then 64 else l_) rfl), hc478, H⟩
    · rw [b672] at hk H
      replace H := bifT H
      refine x_run tab hk (k := 4) (lv := [.int .i64 x473.E]) (ks := [1, 2, 4, 5, 6, 30]) (e' := [(1, .pointer (some ⟨bx4, 0, none⟩)), (2, .pointer (some ⟨bx9, 0, none⟩)), (4, .int .i64 t14.2), (5, .slice A474 (l476).length c475), (6, .int .i64 x479), (30, .bool (x473.E == (0 : Int)))]) rfl ⟨(load1 tab rfl ((Bx.cell f5.now 1).trans rfl)), trivial⟩ fun a hk => ?_
      refine wpListIn_nil ?_
      refine then_n ?_
      cases b673 : (x473.E == (0 : Int))
      · rw [b673] at hk H
        replace H := bifF H
        refine x_if hk (b := false) rfl ?_
        refine (show Code.wpIn _ _ _ _ _ _ _ from ?_)
        refine wpIn_exit ?_
        refine then_x ?_
        refine then_x ?_
        refine blk_x ?_
        refine then_n ?_
        exact ⟨(fun b_ => (fun l_ => if l_ = 84 then 62 else if l_ = 85 then 63 else if l_ = 86 then 64 else l_) (o472 b_)), x473, A474, c475, l476, (by exact Kn.pick (ks := [1, 2, 5]) hk rfl), (hs.relab0 (fun l_ => if l_ = 84 then 62 else if l_ = 85 then 63 else if l_ = 86 then 64 else l_) rfl), (f10.relab (fun l_ => if l_ = 84 then 62 else if l_ = 85 then 63 else if l_ = 86 then 64 else l_) rfl), (f477.relab (fun l_ => if l_ = 84 then 62 else if l_ = 85 then 63 else if l_ = 86 then 64 else l_) rfl), (f5.relab (fun l_ => if l_ = 84 then 62 else if l_ = 85 then 63 else if l_ = 86 then 64 else l_) rfl), hc478, H⟩
      · rw [b673] at hk H
        replace H := bifT H
        refine x_if hk (b := true) rfl ?_
        refine (show Code.wpIn _ _ _ _ _ _ _ from ?_)
        refine wpIn_skip ?_
        refine then_n ?_
        exact ⟨(fun b_ => (fun l_ => if l_ = 84 then 103 else if l_ = 85 then 104 else if l_ = 86 then 105 else l_) (o472 b_)), (by exact Kn.pick (ks := [1, 2, 4, 5, 6]) hk rfl), (hs.relab0 (fun l_ => if l_ = 84 then 103 else if l_ = 85 then 104 else if l_ = 86 then 105 else l_) rfl), (f10.relab (fun l_ => if l_ = 84 then 103 else if l_ = 85 then 104 else if l_ = 86 then 105 else l_) rfl), (f477.relab (fun l_ => if l_ = 84 then 103 else if l_ = 85 then 104 else if l_ = 86 then 105 else l_) rfl), (f5.relab (fun l_ => if l_ = 84 then 103 else if l_ = 85 then 104 else if l_ = 86 then 105 else l_) rfl), H⟩
  refine x_mid (fun a_ w_ => ∃ o681 : Nat → Nat, ∃ x682 : Bool, Kn 71 a_ [(1, .pointer (some ⟨bx4, 0, none⟩)), (2, .pointer (some ⟨bx9, 0, none⟩)), (4, .int .i64 t14.2), (20, .bool x682)] ∧ St [] w (fun _ => 0) w_ o681 ∧ Ft (Bx bx9 61 [.string (⟨#[]⟩ : ByteArray), .int .i64 0]) w_ o681 120 ∧ Ft (Bx bx4 61 [.string t14.1.S, .int .i64 t14.1.E]) w_ o681 119 ∧ tidewrackref12_Read_j8 K t14 x682 = some r) ?_ ?_
  rotate_left
  · rintro a w683 ⟨o681, x682, hk, hs, f10, f5, H⟩
    rw [tidewrackref12_Read_j8] at H
    cases b684 : x682
    · rw [b684] at hk H
      replace H := bifF H
      refine x_if hk (b := false) rfl ?_
      refine (show Code.wpIn _ _ _ _ _ _ _ from ?_)
      refine wpIn_skip ?_
      refine then_n ?_
      exact ⟨(fun b_ => (fun l_ => if l_ = 119 then 5 else if l_ = 120 then 6 else l_) (o681 b_)), (by exact Kn.pick (ks := [1, 2, 4]) hk rfl), (hs.relab0 (fun l_ => if l_ = 119 then 5 else if l_ = 120 then 6 else l_) rfl), (f10.relab (fun l_ => if l_ = 119 then 5 else if l_ = 120 then 6 else l_) rfl), (f5.relab (fun l_ => if l_ = 119 then 5 else if l_ = 120 then 6 else l_) rfl), H⟩
    · rw [b684] at hk H
      replace H := bifT H
      refine x_if hk (b := true) rfl ?_
      refine (show Code.wpIn _ _ _ _ _ _ _ from ?_)
      refine x_seq ?_
      refine wpIn_region_lit ?_
      refine x_run tab hk (k := 1) (lv := []) (ks := [2, 21]) (e' := [(2, .pointer (some ⟨bx9, 0, none⟩)), (21, .agg #[.string (⟨#[]⟩ : ByteArray), .int .i64 1])]) rfl trivial fun a hk => ?_
      refine x_op hk rfl ?_
      refine op_store tab hk (t := 61) (v := .agg #[.string (⟨#[]⟩ : ByteArray), .int .i64 1]) (b := bx9) (k := 0) (cs' := [.string (⟨#[]⟩ : ByteArray), .int .i64 1]) rfl rfl rfl rfl rfl rfl f10 rfl rfl fun w685 o686 st687 f10_ => ?_
      replace hs := hs.loc0 st687 (by decide)
      replace f10 := f10_
      refine x_run tab hk (k := 1) (lv := []) (ks := [2, 3]) (e' := [(2, .pointer (some ⟨bx9, 0, none⟩)), (3, .slice none 0 0)]) rfl trivial fun a hk => ?_
      refine wpListIn_nil ?_
      refine then_n ?_
      refine wpIn_ret ?_
      refine then_r ?_
      obtain rfl := Option.some.inj H
      exact x_retG hk (rs := [.cell 2 61, .tmp 3]) (vs := [.agg #[.string (⟨#[]⟩ : ByteArray), .int .i64 1], .slice none 0 0]) rfl ⟨⟨_, rfl, load_box tab rfl rfl f10.now (k := 0) rfl rfl⟩, rfl, trivial⟩ ⟨fun b_ => if b_ < w.heap.size then o b_ else (fun _ => 0) (o686 b_), none, 0, rfl, hs.close0 o (fun _ => 0), (Ft.of_all (fun _ => Own.nil _ _ _) _ _ _), (by simp)⟩
  refine wpIn_region_lit ?_
  refine x_run tab hk (k := 4) (lv := [.int .i64 t14.1.E]) (ks := [1, 2, 4, 17]) (e' := [(1, .pointer (some ⟨bx4, 0, none⟩)), (2, .pointer (some ⟨bx9, 0, none⟩)), (4, .int .i64 t14.2), (17, .bool (t14.1.E == (0 : Int)))]) rfl ⟨(load1 tab rfl ((Bx.cell f5.now 1).trans rfl)), trivial⟩ fun a hk => ?_
  cases b688 : (t14.1.E == (0 : Int))
  · rw [b688] at hk H
    replace H := bifF H
    refine x_run tab hk (k := 3) (lv := []) (ks := [1, 2, 4, 20]) (e' := [(1, .pointer (some ⟨bx4, 0, none⟩)), (2, .pointer (some ⟨bx9, 0, none⟩)), (4, .int .i64 t14.2), (20, .bool false)]) rfl trivial fun a hk => ?_
    refine wpListIn_nil ?_
    refine then_n ?_
    exact ⟨(fun b_ => (fun l_ => if l_ = 1 then 119 else if l_ = 2 then 120 else l_) (o20 b_)), false, (by exact Kn.pick (ks := [1, 2, 4, 20]) hk rfl), (hs.relab0 (fun l_ => if l_ = 1 then 119 else if l_ = 2 then 120 else l_) rfl), (f10.relab (fun l_ => if l_ = 1 then 119 else if l_ = 2 then 120 else l_) rfl), (f5.relab (fun l_ => if l_ = 1 then 119 else if l_ = 2 then 120 else l_) rfl), H⟩
  · rw [b688] at hk H
    replace H := bifT H
    refine x_run tab hk (k := 3) (lv := []) (ks := [1, 2, 4, 20]) (e' := [(1, .pointer (some ⟨bx4, 0, none⟩)), (2, .pointer (some ⟨bx9, 0, none⟩)), (4, .int .i64 t14.2), (20, .bool (decide (t14.2 > (1024 : Int))))]) rfl trivial fun a hk => ?_
    refine wpListIn_nil ?_
    refine then_n ?_
    exact ⟨(fun b_ => (fun l_ => if l_ = 1 then 119 else if l_ = 2 then 120 else l_) (o20 b_)), (decide (t14.2 > (1024 : Int))), (by exact Kn.pick (ks := [1, 2, 4, 20]) hk rfl), (hs.relab0 (fun l_ => if l_ = 1 then 119 else if l_ = 2 then 120 else l_) rfl), (f10.relab (fun l_ => if l_ = 1 then 119 else if l_ = 2 then 120 else l_) rfl), (f5.relab (fun l_ => if l_ = 1 then 119 else if l_ = 2 then 120 else l_) rfl), H⟩

/-! (*tidewrack/num.In).Left -/
theorem num_In_Left_calls (bp0 : Nat) (p0 : T88) (w : World) (o : Nat → Nat) (Lp0 : Nat) (hp0 : Ft (Bx bp0 89 [.string p0.s, .int .i64 p0.e]) w o Lp0)  (r : Int) (H : num_In_Left p0 = some r) :
    Calls Tryd.prog 27 #[.pointer (some ⟨bp0, 0, none⟩)] w (Ret fun v_ w' => ∃ o' : Nat → Nat, v_ = .int .i64 r ∧ St [] w o w' o') := by
  refine x_enter (vs := [.pointer (some ⟨bp0, 0, none⟩)]) Tryd.func27 rfl rfl rfl fun a hk => ?_
  obtain ⟨o0, hs, h0⟩ := St.start w o
  have f900019 := h0 _ _ hp0
  clear h0
  rw [num_In_Left] at H
  refine x_seq ?_
  refine wpIn_region_lit ?_
  refine x_run tab hk (k := 1) (lv := []) (ks := [0]) (e' := [(0, .pointer (some ⟨bp0, 0, none⟩))]) rfl trivial fun a hk => ?_
  refine wpListIn_nil ?_
  refine then_n ?_
  refine x_seq ?_
  refine wpIn_region_lit ?_
  refine x_run tab hk (k := 6) (lv := [.string p0.s]) (ks := [2]) (e' := [(2, .int .i64 ((p0.s).size : Int))]) rfl ⟨(load1 tab rfl ((Bx.cell f900019.now 0).trans rfl)), trivial⟩ fun a hk => ?_
  refine wpListIn_nil ?_
  refine then_n ?_
  refine wpIn_ret ?_
  obtain rfl := Option.some.inj H
  exact x_retG hk (rs := [.tmp 2]) (vs := [.int .i64 ((p0.s).size : Int)]) rfl ⟨rfl, trivial⟩ ⟨fun b_ => if b_ < w.heap.size then o b_ else (fun _ => 0) (o0 b_), rfl, hs.close0 o (fun _ => 0)⟩

/-! tidewrack/tidewracklaw12.BookReads -/
theorem tidewracklaw12_BookReads_calls (K : Nat) (p0 : ByteArray) (w : World) (o : Nat → Nat) (Lg0 : Nat) (hg0 : Ft (RdC ET111 (some ⟨0, 0, none⟩) glob0) w o Lg0) (Lg1 : Nat) (hg1 : Ft (RdC ET111 (some ⟨1, 0, none⟩) glob1) w o Lg1) (Lg2 : Nat) (hg2 : Ft (RdC (encInt .u32) (some ⟨2, 0, none⟩) glob2) w o Lg2)   (r : Bool) (H : tidewracklaw12_BookReads K p0 = some r) :
    Calls Tryd.prog 7 #[.string p0] w (Ret fun v_ w' => ∃ o' : Nat → Nat, v_ = .bool r ∧ St [] w o w' o') := by
  refine x_enter (vs := [.string p0]) Tryd.func7 rfl rfl rfl fun a hk => ?_
  obtain ⟨o0, hs, h0⟩ := St.start w o
  have fg0 := h0 _ _ hg0
  have fg1 := h0 _ _ hg1
  have fg2 := h0 _ _ hg2
  clear h0
  rw [tidewracklaw12_BookReads] at H
  refine x_seq ?_
  refine wpIn_region_lit ?_
  refine x_run tab hk (k := 1) (lv := []) (ks := [0]) (e' := [(0, .string p0)]) rfl trivial fun a hk => ?_
  refine wpListIn_nil ?_
  refine then_n ?_
  refine x_seq ?_
  refine x_seq ?_
  refine wpIn_region_lit ?_
  refine x_op hk rfl ?_
  obtain ⟨t4, hc5, H⟩ := bindS H
  refine op_call hk ent_9 (vs := []) rfl (tidewracklaw12_awake_calls K  _ o0 0 fg0 0 fg1 0 fg2   _ hc5) ?_
  rintro _ w6 ⟨o7, rfl, st8⟩
  replace fg0 := fg0.st st8 (by decide)
  replace fg1 := fg1.st st8 (by decide)
  replace fg2 := fg2.st st8 (by decide)
  replace hs := hs.loc0 st8 (by decide)
  have hk := hk.put 7 (.bool t4) rfl
  refine x_run tab hk (k := 1) (lv := []) (ks := [0, 8]) (e' := [(0, .string p0), (8, .bool (!t4))]) rfl trivial fun a hk => ?_
  refine wpListIn_nil ?_
  refine then_n ?_
  cases b9 : (!t4)
  · rw [b9] at hk H
    replace H := bifF H
    refine x_if hk (b := false) rfl ?_
    refine (show Code.wpIn _ _ _ _ _ _ _ from ?_)
    refine wpIn_skip ?_
    refine then_n ?_
    refine x_seq ?_
    refine wpIn_region_lit ?_
    refine x_run tab hk (k := 1) (lv := []) (ks := [9]) (e' := [(9, .string p0)]) rfl trivial fun a hk => ?_
    refine x_op hk rfl ?_
    obtain ⟨t13, hc14, H⟩ := bindS H
    refine op_call hk ent_22 (vs := [.string p0, .int .i64 120]) rfl (tidewracklaw01_Cut_calls p0 120 _ o7    _ hc14) ?_
    rintro _ w15 ⟨o16, rfl, st17⟩
    replace fg0 := fg0.st st17 (by decide)
    replace fg1 := fg1.st st17 (by decide)
    replace fg2 := fg2.st st17 (by decide)
    replace hs := hs.loc0 st17 (by decide)
    have hk := hk.put 10 (.string t13) rfl
    refine x_run tab hk (k := 1) (lv := []) (ks := [0]) (e' := [(0, .string t13)]) rfl trivial fun a hk => ?_
    refine wpListIn_nil ?_
    refine then_n ?_
    refine x_seq ?_
    refine wpIn_region_lit ?_
    refine x_run tab hk (k := 1) (lv := []) (ks := [0, 11]) (e' := [(0, .string t13), (11, .string t13)]) rfl trivial fun a hk => ?_
    refine x_op hk rfl ?_
    obtain ⟨t21, hc22, H⟩ := bindS H
    refine op_call hk ent_23 (vs := [.string t13]) rfl (num_Of_calls t13 _ o16  1  _ hc22) ?_
    rintro _ w23 ⟨o24, bx26, rfl, st25, f27⟩
    replace fg0 := fg0.st st25 (by decide)
    replace fg1 := fg1.st st25 (by decide)
    replace fg2 := fg2.st st25 (by decide)
    replace hs := hs.loc0 st25 (by decide)
    have hk := hk.put 12 (.pointer (some ⟨bx26, 0, none⟩)) rfl
    refine x_run tab hk (k := 1) (lv := []) (ks := [0, 3]) (e' := [(0, .string t13), (3, .pointer (some ⟨bx26, 0, none⟩))]) rfl trivial fun a hk => ?_
    refine wpListIn_nil ?_
    refine then_n ?_
    refine x_seq ?_
    refine x_seq ?_
    refine wpIn_region_lit ?_
    refine x_run tab hk (k := 2) (lv := []) (ks := [0, 3, 14]) (e' := [(0, .string t13), (3, .pointer (some ⟨bx26, 0, none⟩)), (14, .bool false)]) rfl trivial fun a hk => ?_
    refine wpListIn_nil ?_
    refine then_n ?_
    refine x_if hk (b := false) rfl ?_
    refine (show Code.wpIn _ _ _ _ _ _ _ from ?_)
    refine wpIn_skip ?_
    refine then_n ?_
    refine x_seq ?_
    refine wpIn_region_lit ?_
    refine x_run tab hk (k := 1) (lv := []) (ks := [0, 3, 15]) (e' := [(0, .string t13), (3, .pointer (some ⟨bx26, 0, none⟩)), (15, .pointer (some ⟨bx26, 0, none⟩))]) rfl trivial fun a hk => ?_
    refine x_op hk rfl ?_
    obtain ⟨t31, hc32, H⟩ := bindS H
    refine op_call hk ent_24 (vs := [.pointer (some ⟨bx26, 0, none⟩)]) rfl (book_Read_calls K bx26 t21 _ o24 1 f27 (by decide) 2  _ hc32) ?_
    rintro _ w33 ⟨o34, A36, c37, rfl, st35, f38, hc39, f40⟩
    replace fg0 := fg0.st st35 (by decide)
    replace fg1 := fg1.st st35 (by decide)
    replace fg2 := fg2.st st35 (by decide)
    replace hs := hs.loc0 st35 (by decide)
    have hk := hk.put 16 (.slice A36 (t31.1).length c37) rfl
    refine x_run tab hk (k := 1) (lv := []) (ks := [0, 3, 4]) (e' := [(0, .string t13), (3, .pointer (some ⟨bx26, 0, none⟩)), (4, .slice A36 (t31.1).length c37)]) rfl trivial fun a hk => ?_
    refine wpListIn_nil ?_
    refine then_n ?_
    refine x_seq ?_
    refine wpIn_region_lit ?_
    refine x_run tab hk (k := 2) (lv := []) (ks := [0, 3, 4, 19]) (e' := [(0, .string t13), (3, .pointer (some ⟨bx26, 0, none⟩)), (4, .slice A36 (t31.1).length c37), (19, .agg #[.string t13, .int .i64 0])]) rfl trivial fun a hk => ?_
    refine x_op hk rfl ?_
    obtain ⟨t44, hc45, H⟩ := bindS H
    refine op_call hk ent_25 (vs := [.agg #[.string t13, .int .i64 0]]) rfl (tidewrackref12_Read_calls K (⟨t13, 0⟩ : T60) _ o34  3  _ hc45) ?_
    rintro _ w46 ⟨o47, A49, c50, rfl, st48, f51, hc52⟩
    replace f38 := f38.st st48 (by decide)
    replace f40 := f40.st st48 (by decide)
    replace fg0 := fg0.st st48 (by decide)
    replace fg1 := fg1.st st48 (by decide)
    replace fg2 := fg2.st st48 (by decide)
    replace hs := hs.loc0 st48 (by decide)
    have hk := hk.put 20 (.tuple #[.agg #[.string t44.1.S, .int .i64 t44.1.E], .slice A49 (t44.2).length c50]) rfl
    refine x_run tab hk (k := 3) (lv := []) (ks := [0, 3, 4, 21, 22]) (e' := [(0, .string t13), (3, .pointer (some ⟨bx26, 0, none⟩)), (4, .slice A36 (t31.1).length c37), (21, .agg #[.string t44.1.S, .int .i64 t44.1.E]), (22, .slice A49 (t44.2).length c50)]) rfl trivial fun a hk => ?_
    refine x_op hk rfl ?_
    refine op_alloc (o := o47) tab (t := 61) (cs := [.string (⟨#[]⟩ : ByteArray), .int .i64 0]) rfl rfl 4 fun bx56 w53 o54 st55 f57 => ?_
    replace f38 := f38.st st55 (by decide)
    replace f40 := f40.st st55 (by decide)
    replace f51 := f51.st st55 (by decide)
    replace fg0 := fg0.st st55 (by decide)
    replace fg1 := fg1.st st55 (by decide)
    replace fg2 := fg2.st st55 (by decide)
    replace hs := hs.loc0 st55 (by decide)
    have hk := hk.put 5 (.pointer (some ⟨bx56, 0, none⟩)) rfl
    refine x_op hk rfl ?_
    refine op_store tab hk (t := 61) (v := .agg #[.string t44.1.S, .int .i64 t44.1.E]) (b := bx56) (k := 0) (cs' := [.string t44.1.S, .int .i64 t44.1.E]) rfl rfl rfl rfl rfl rfl f57 rfl rfl fun w58 o59 st60 f57_ => ?_
    replace f38 := f38.st st60 (by decide)
    replace f40 := f40.st st60 (by decide)
    replace f51 := f51.st st60 (by decide)
    replace fg0 := fg0.st st60 (by decide)
    replace fg1 := fg1.st st60 (by decide)
    replace fg2 := fg2.st st60 (by decide)
    replace hs := hs.loc0 st60 (by decide)
    replace f57 := f57_
    refine x_run tab hk (k := 1) (lv := []) (ks := [0, 3, 4, 5, 6]) (e' := [(0, .string t13), (3, .pointer (some ⟨bx26, 0, none⟩)), (4, .slice A36 (t31.1).length c37), (5, .pointer (some ⟨bx56, 0, none⟩)), (6, .slice A49 (t44.2).length c50)]) rfl trivial fun a hk => ?_
    refine wpListIn_nil ?_
    refine then_n ?_
    refine x_mid (fun a_ w_ => ∃ o145 : Nat → Nat, Kn 58 a_ [(0, .string t13), (4, .slice A36 (t31.1).length c37), (5, .pointer (some ⟨bx56, 0, none⟩))] ∧ St [] w (fun _ => 0) w_ o145 ∧ Ft (Own ET49 50 (.slice A36 (t31.1).length c37) t31.1) w_ o145 5 ∧ Ft (Bx bx56 61 [.string t44.1.S, .int .i64 t44.1.E]) w_ o145 6 ∧ Ft (RdC ET111 (some ⟨0, 0, none⟩) glob0) w_ o145 0 ∧ Ft (RdC ET111 (some ⟨1, 0, none⟩) glob1) w_ o145 0 ∧ Ft (RdC (encInt .u32) (some ⟨2, 0, none⟩) glob2) w_ o145 0 ∧ tidewracklaw12_BookReads_j1 K t13 t31 t44 = some r) ?_ ?_
    rotate_left
    · rintro a w146 ⟨o145, hk, hs, f38, f57, fg0, fg1, fg2, H⟩
      rw [tidewracklaw12_BookReads_j1] at H
      refine x_seq ?_
      refine xd_begin (o := o145) (fun W_ => (Bx bx56 61 [.string t44.1.S, .int .i64 t44.1.E]) W_ ∧ True) mixed rfl rfl fun w169 st170 => ?_
      replace f38 := f38.st st170 (by decide)
      replace f57 := f57.st st170 (by decide)
      replace fg0 := fg0.st st170 (by decide)
      replace fg1 := fg1.st st170 (by decide)
      replace fg2 := fg2.st st170 (by decide)
      replace hs := hs.loc0 st170 (by decide)
      refine xd_take tab hk (k := 13) (is := [0, 1, 2, 3]) (ls' := #[true, true, true, true, false, false, false, false, false, false, false, false, false, false, false, false, false]) (lv := [.int .i64 t44.1.E]) (ks := [0, 4, 5, 45]) (e' := [(0, .string t13), (4, .slice A36 (t31.1).length c37), (5, .pointer (some ⟨bx56, 0, none⟩)), (45, .bool (t44.1.E != (0 : Int)))]) (by kernel_rfl) rfl rfl (by kernel_rfl) (np_then np_body) ⟨f57.now, trivial⟩ (fun W_ hS => ⟨(load1 tab rfl ((Bx.cell hS.1 1).trans rfl)), trivial⟩) fun a hk => ?_
      cases b171 : (t44.1.E != (0 : Int))
      · rw [b171] at hk H
        replace H := bifF H
        obtain ⟨q172, H⟩ := ifS H
        obtain ⟨q173, H⟩ := ifS H
        refine xd_take tab hk (k := 4) (is := [4, 6, 7, 8, 9, 10, 11, 12, 13]) (ls' := #[true, true, true, true, true, false, true, true, true, true, true, true, true, true, false, false, false]) (lv := [.string t44.1.S]) (ks := [45, 46, 55]) (e' := [(45, .bool false), (46, .slice A36 (t31.1).length c37), (55, .string (ByteArray.extract t13 0 (Int.toNat (IntKind.wrap .i64 (((t13).size : Int) - ((t44.1.S).size : Int))))))]) (by kernel_rfl) rfl rfl (by kernel_rfl) (np_then np_body) ⟨f57.now, trivial⟩ (fun W_ hS => ⟨(load1 tab rfl ((Bx.cell hS.1 0).trans rfl)), q172, q173, trivial⟩) fun a hk => ?_
        refine xd_op hk (i := 5) (by kernel_rfl) rfl rfl ?_
        obtain ⟨t177, hc178, H⟩ := bindS H
        refine op_call hk ent_29 (vs := [.slice A36 (t31.1).length c37]) rfl (book_Pack_calls K A36 c37 t31.1 _ o145 _ (f38.imp fun _ h_ => Own.rd h_) hc39   _ hc178) ?_
        rintro _ w179 ⟨o180, rfl, st181⟩
        replace f38 := f38.st st181 (by decide)
        replace f57 := f57.st st181 (by decide)
        replace fg0 := fg0.st st181 (by decide)
        replace fg1 := fg1.st st181 (by decide)
        replace fg2 := fg2.st st181 (by decide)
        replace hs := hs.loc0 st181 (by decide)
        have hk := hk.put 47 (.string t177) rfl
        refine ⟨.inr ⟨f57.now, trivial⟩, ?_⟩
        refine xd_take tab hk (k := 0) (is := [14, 15, 16]) (ls' := #[true, true, true, true, true, true, true, true, true, true, true, true, true, true, true, true, true]) (lv := []) (ks := [2]) (e' := [(2, .bool (ByteArray.toList t177 == ByteArray.toList (ByteArray.extract t13 0 (Int.toNat (IntKind.wrap .i64 (((t13).size : Int) - ((t44.1.S).size : Int)))))))]) (by kernel_rfl) rfl rfl (by kernel_rfl) (np_then np_body) ⟨f57.now, trivial⟩ (fun W_ hS => trivial) fun a hk => ?_
        refine xd_done (by kernel_rfl) ?_
        refine then_n ?_
        refine wpIn_ret ?_
        obtain rfl := Option.some.inj H
        exact x_retG hk (rs := [.tmp 2]) (vs := [.bool (ByteArray.toList t177 == ByteArray.toList (ByteArray.extract t13 0 (Int.toNat (IntKind.wrap .i64 (((t13).size : Int) - ((t44.1.S).size : Int))))))]) rfl ⟨rfl, trivial⟩ ⟨fun b_ => if b_ < w.heap.size then o b_ else (fun _ => 0) (o180 b_), rfl, hs.close0 o (fun _ => 0)⟩
      · rw [b171] at hk H
        replace H := bifT H
        refine xd_take tab hk (k := 0) (is := [4, 5, 6, 7, 8, 9, 10, 11, 12, 13, 14, 15, 16]) (ls' := #[true, true, true, true, true, true, true, true, true, true, true, true, true, true, true, true, true]) (lv := []) (ks := [2]) (e' := [(2, .bool true)]) (by kernel_rfl) rfl rfl (by kernel_rfl) (np_then np_body) ⟨f57.now, trivial⟩ (fun W_ hS => trivial) fun a hk => ?_
        refine xd_done (by kernel_rfl) ?_
        refine then_n ?_
        refine wpIn_ret ?_
        obtain rfl := Option.some.inj H
        exact x_retG hk (rs := [.tmp 2]) (vs := [.bool true]) rfl ⟨rfl, trivial⟩ ⟨fun b_ => if b_ < w.heap.size then o b_ else (fun _ => 0) (o145 b_), rfl, hs.close0 o (fun _ => 0)⟩
    refine x_seq ?_
    refine xd_begin (o := o59) (fun W_ => (Bx bx56 61 [.string t44.1.S, .int .i64 t44.1.E]) W_ ∧ True) mixed rfl rfl fun w234 st235 => ?_
    replace f38 := f38.st st235 (by decide)
    replace f40 := f40.st st235 (by decide)
    replace f51 := f51.st st235 (by decide)
    replace f57 := f57.st st235 (by decide)
    replace fg0 := fg0.st st235 (by decide)
    replace fg1 := fg1.st st235 (by decide)
    replace fg2 := fg2.st st235 (by decide)
    replace hs := hs.loc0 st235 (by decide)
    refine xd_take tab hk (k := 17) (is := [0, 1]) (ls' := #[true, true, false, false, false, false, false, false, false, false, false, false, false, false, false, false, false, false, false]) (lv := []) (ks := [0, 3, 4, 5, 23, 24]) (e' := [(0, .string t13), (3, .pointer (some ⟨bx26, 0, none⟩)), (4, .slice A36 (t31.1).length c37), (5, .pointer (some ⟨bx56, 0, none⟩)), (23, .slice A36 (t31.1).length c37), (24, .slice A49 (t44.2).length c50)]) (by kernel_rfl) rfl rfl (by kernel_rfl) (np_then (np_then np_body)) ⟨f57.now, trivial⟩ (fun W_ hS => trivial) fun a hk => ?_
    refine xd_op hk (i := 2) (by kernel_rfl) rfl rfl ?_
    obtain ⟨t239, hc240, H⟩ := bindS H
    refine op_call hk ent_26 (vs := [.slice A36 (t31.1).length c37, .slice A49 (t44.2).length c50]) rfl (tidewracklaw09_Glyphs_calls K A36 c37 t31.1 A49 c50 t44.2 _ o59 _ (f38.imp fun _ h_ => Own.rd h_) hc39 _ (f51.imp fun _ h_ => Own.rd h_) hc52   _ hc240) ?_
    rintro _ w241 ⟨o242, rfl, st243⟩
    replace f38 := f38.st st243 (by decide)
    replace f40 := f40.st st243 (by decide)
    replace f51 := f51.st st243 (by decide)
    replace f57 := f57.st st243 (by decide)
    replace fg0 := fg0.st st243 (by decide)
    replace fg1 := fg1.st st243 (by decide)
    replace fg2 := fg2.st st243 (by decide)
    replace hs := hs.loc0 st243 (by decide)
    have hk := hk.put 25 (.bool t239) rfl
    refine ⟨.inr ⟨f57.now, trivial⟩, ?_⟩
    refine xd_take tab hk (k := 14) (is := [3, 4]) (ls' := #[true, true, true, true, true, false, false, false, false, false, false, false, false, false, false, false, false, false, false]) (lv := []) (ks := [0, 3, 4, 5, 27]) (e' := [(0, .string t13), (3, .pointer (some ⟨bx26, 0, none⟩)), (4, .slice A36 (t31.1).length c37), (5, .pointer (some ⟨bx56, 0, none⟩)), (27, .bool (!t239))]) (by kernel_rfl) rfl rfl (by kernel_rfl) (np_then (np_then np_body)) ⟨f57.now, trivial⟩ (fun W_ hS => trivial) fun a hk => ?_
    cases b244 : (!t239)
    · rw [b244] at hk H
      replace H := bifF H
      refine xd_take tab hk (k := 10) (is := [5, 7, 8, 9]) (ls' := #[true, true, true, true, true, true, false, true, true, true, false, false, false, false, false, false, false, false, false]) (lv := [.string t44.1.S]) (ks := [0, 3, 4, 5, 27, 28, 32]) (e' := [(0, .string t13), (3, .pointer (some ⟨bx26, 0, none⟩)), (4, .slice A36 (t31.1).length c37), (5, .pointer (some ⟨bx56, 0, none⟩)), (27, .bool false), (28, .pointer (some ⟨bx26, 0, none⟩)), (32, .int .i64 ((t44.1.S).size : Int))]) (by kernel_rfl) rfl rfl (by kernel_rfl) (np_then (np_then np_body)) ⟨f57.now, trivial⟩ (fun W_ hS => ⟨(load1 tab rfl ((Bx.cell hS.1 0).trans rfl)), trivial⟩) fun a hk => ?_
      refine xd_op hk (i := 6) (by kernel_rfl) rfl rfl ?_
      obtain ⟨t248, hc249, H⟩ := bindS H
      refine op_call hk ent_27 (vs := [.pointer (some ⟨bx26, 0, none⟩)]) rfl (num_In_Left_calls bx26 t31.2 _ o242 1 f40   _ hc249) ?_
      rintro _ w250 ⟨o251, rfl, st252⟩
      replace f38 := f38.st st252 (by decide)
      replace f40 := f40.st st252 (by decide)
      replace f51 := f51.st st252 (by decide)
      replace f57 := f57.st st252 (by decide)
      replace fg0 := fg0.st st252 (by decide)
      replace fg1 := fg1.st st252 (by decide)
      replace fg2 := fg2.st st252 (by decide)
      replace hs := hs.loc0 st252 (by decide)
      have hk := hk.put 29 (.int .i64 t248) rfl
      refine ⟨.inr ⟨f57.now, trivial⟩, ?_⟩
      refine xd_take tab hk (k := 6) (is := [10, 11, 12]) (ls' := #[true, true, true, true, true, true, true, true, true, true, true, true, true, false, false, false, false, false, false]) (lv := []) (ks := [0, 3, 4, 5, 35]) (e' := [(0, .string t13), (3, .pointer (some ⟨bx26, 0, none⟩)), (4, .slice A36 (t31.1).length c37), (5, .pointer (some ⟨bx56, 0, none⟩)), (35, .bool (t248 != ((t44.1.S).size : Int)))]) (by kernel_rfl) rfl rfl (by kernel_rfl) (np_then (np_then np_body)) ⟨f57.now, trivial⟩ (fun W_ hS => trivial) fun a hk => ?_
      cases b253 : (t248 != ((t44.1.S).size : Int))
      · rw [b253] at hk H
        replace H := bifF H
        refine xd_take tab hk (k := 3) (is := [13, 15, 16]) (ls' := #[true, true, true, true, true, true, true, true, true, true, true, true, true, true, false, true, true, false, false]) (lv := [.int .i64 t44.1.E]) (ks := [0, 4, 5, 35, 36, 39]) (e' := [(0, .string t13), (4, .slice A36 (t31.1).length c37), (5, .pointer (some ⟨bx56, 0, none⟩)), (35, .bool false), (36, .pointer (some ⟨bx26, 0, none⟩)), (39, .int .i64 t44.1.E)]) (by kernel_rfl) rfl rfl (by kernel_rfl) (np_then (np_then np_body)) ⟨f57.now, trivial⟩ (fun W_ hS => ⟨(load1 tab rfl ((Bx.cell hS.1 1).trans rfl)), trivial⟩) fun a hk => ?_
        refine xd_op hk (i := 14) (by kernel_rfl) rfl rfl ?_
        obtain ⟨t257, hc258, H⟩ := bindS H
        refine op_call hk ent_28 (vs := [.pointer (some ⟨bx26, 0, none⟩)]) rfl (num_In_Err_calls bx26 t31.2 _ o251 1 f40   _ hc258) ?_
        rintro _ w259 ⟨o260, rfl, st261⟩
        replace f38 := f38.st st261 (by decide)
        replace f40 := f40.st st261 (by decide)
        replace f51 := f51.st st261 (by decide)
        replace f57 := f57.st st261 (by decide)
        replace fg0 := fg0.st st261 (by decide)
        replace fg1 := fg1.st st261 (by decide)
        replace fg2 := fg2.st st261 (by decide)
        replace hs := hs.loc0 st261 (by decide)
        have hk := hk.put 37 (.int .i64 t257) rfl
        refine ⟨.inr ⟨f57.now, trivial⟩, ?_⟩
        refine xd_take tab hk (k := 0) (is := [17, 18]) (ls' := #[true, true, true, true, true, true, true, true, true, true, true, true, true, true, true, true, true, true, true]) (lv := []) (ks := [0, 4, 5, 41]) (e' := [(0, .string t13), (4, .slice A36 (t31.1).length c37), (5, .pointer (some ⟨bx56, 0, none⟩)), (41, .bool (t257 != t44.1.E))]) (by kernel_rfl) rfl rfl (by kernel_rfl) (np_then (np_then np_body)) ⟨f57.now, trivial⟩ (fun W_ hS => trivial) fun a hk => ?_
        refine xd_done (by kernel_rfl) ?_
        refine then_n ?_
        cases b262 : (t257 != t44.1.E)
        · rw [b262] at hk H
          replace H := bifF H
          refine x_if hk (b := false) rfl ?_
          refine (show Code.wpIn _ _ _ _ _ _ _ from ?_)
          refine wpIn_skip ?_
          refine then_n ?_
          exact ⟨(fun b_ => (fun l_ => if l_ = 2 then 5 else if l_ = 4 then 6 else l_) (o260 b_)), (by exact Kn.pick (ks := [0, 4, 5]) hk rfl), (hs.relab0 (fun l_ => if l_ = 2 then 5 else if l_ = 4 then 6 else l_) rfl), (f38.relab (fun l_ => if l_ = 2 then 5 else if l_ = 4 then 6 else l_) rfl), (f57.relab (fun l_ => if l_ = 2 then 5 else if l_ = 4 then 6 else l_) rfl), (fg0.relab (fun l_ => if l_ = 2 then 5 else if l_ = 4 then 6 else l_) rfl), (fg1.relab (fun l_ => if l_ = 2 then 5 else if l_ = 4 then 6 else l_) rfl), (fg2.relab (fun l_ => if l_ = 2 then 5 else if l_ = 4 then 6 else l_) rfl), H⟩
        · rw [b262] at hk H
          replace H := bifT H
          refine x_if hk (b := true) rfl ?_
          refine (show Code.wpIn _ _ _ _ _ _ _ from ?_)
          refine x_seq ?_
          refine wpIn_region_lit ?_
          refine x_run tab hk (k := 1) (lv := []) (ks := [2]) (e' := [(2, .bool false)]) rfl trivial fun a hk => ?_
          refine wpListIn_nil ?_
          refine then_n ?_
          refine wpIn_ret ?_
          refine then_r ?_
          obtain rfl := Option.some.inj H
          exact x_retG hk (rs := [.tmp 2]) (vs := [.bool false]) rfl ⟨rfl, trivial⟩ ⟨fun b_ => if b_ < w.heap.size then o b_ else (fun _ => 0) (o260 b_), rfl, hs.close0 o (fun _ => 0)⟩
      · rw [b253] at hk H
        replace H := bifT H
        refine xd_take tab hk (k := 0) (is := [13, 14, 15, 16, 17, 18]) (ls' := #[true, true, true, true, true, true, true, true, true, true, true, true, true, true, true, true, true, true, true]) (lv := []) (ks := [0, 4, 5, 41]) (e' := [(0, .string t13), (4, .slice A36 (t31.1).length c37), (5, .pointer (some ⟨bx56, 0, none⟩)), (41, .bool true)]) (by kernel_rfl) rfl rfl (by kernel_rfl) (np_then (np_then np_body)) ⟨f57.now, trivial⟩ (fun W_ hS => trivial) fun a hk => ?_
        refine xd_done (by kernel_rfl) ?_
        refine then_n ?_
        refine x_if hk (b := true) rfl ?_
        refine (show Code.wpIn _ _ _ _ _ _ _ from ?_)
        refine x_seq ?_
        refine wpIn_region_lit ?_
        refine x_run tab hk (k := 1) (lv := []) (ks := [2]) (e' := [(2, .bool false)]) rfl trivial fun a hk => ?_
        refine wpListIn_nil ?_
        refine then_n ?_
        refine wpIn_ret ?_
        refine then_r ?_
        obtain rfl := Option.some.inj H
        exact x_retG hk (rs := [.tmp 2]) (vs := [.bool false]) rfl ⟨rfl, trivial⟩ ⟨fun b_ => if b_ < w.heap.size then o b_ else (fun _ => 0) (o251 b_), rfl, hs.close0 o (fun _ => 0)⟩
    · rw [b244] at hk H
      replace H := bifT H
      refine xd_take tab hk (k := 0) (is := [5, 6, 7, 8, 9, 10, 11, 12, 13, 14, 15, 16, 17, 18]) (ls' := #[true, true, true, true, true, true, true, true, true, true, true, true, true, true, true, true, true, true, true]) (lv := []) (ks := [0, 4, 5, 41]) (e' := [(0, .string t13), (4, .slice A36 (t31.1).length c37), (5, .pointer (some ⟨bx56, 0, none⟩)), (41, .bool true)]) (by kernel_rfl) rfl rfl (by kernel_rfl) (np_then (np_then np_body)) ⟨f57.now, trivial⟩ (fun W_ hS => trivial) fun a hk => ?_
      refine xd_done (by kernel_rfl) ?_
      refine then_n ?_
      refine x_if hk (b := true) rfl ?_
      refine (show Code.wpIn _ _ _ _ _ _ _ from ?_)
      refine x_seq ?_
      refine wpIn_region_lit ?_
      refine x_run tab hk (k := 1) (lv := []) (ks := [2]) (e' := [(2, .bool false)]) rfl trivial fun a hk => ?_
      refine wpListIn_nil ?_
      refine then_n ?_
      refine wpIn_ret ?_
      refine then_r ?_
      obtain rfl := Option.some.inj H
      exact x_retG hk (rs := [.tmp 2]) (vs := [.bool false]) rfl ⟨rfl, trivial⟩ ⟨fun b_ => if b_ < w.heap.size then o b_ else (fun _ => 0) (o242 b_), rfl, hs.close0 o (fun _ => 0)⟩
  · rw [b9] at hk H
    replace H := bifT H
    refine x_if hk (b := true) rfl ?_
    refine (show Code.wpIn _ _ _ _ _ _ _ from ?_)
    refine x_seq ?_
    refine wpIn_region_lit ?_
    refine x_run tab hk (k := 1) (lv := []) (ks := [2]) (e' := [(2, .bool false)]) rfl trivial fun a hk => ?_
    refine wpListIn_nil ?_
    refine then_n ?_
    refine wpIn_ret ?_
    refine then_r ?_
    obtain rfl := Option.some.inj H
    exact x_retG hk (rs := [.tmp 2]) (vs := [.bool false]) rfl ⟨rfl, trivial⟩ ⟨fun b_ => if b_ < w.heap.size then o b_ else (fun _ => 0) (o7 b_), rfl, hs.close0 o (fun _ => 0)⟩

/-! tidewrack/tidewrackref01.Num -/
theorem tidewrackref01_Num_calls (K : Nat) (p0 : Int) (w : World) (o : Nat → Nat)   (r : ByteArray) (H : tidewrackref01_Num K p0 = some r) :
    Calls Tryd.prog 44 #[.int .i64 p0] w (Ret fun v_ w' => ∃ o' : Nat → Nat, v_ = .string r ∧ St [] w o w' o') := by
  refine x_enter (vs := [.int .i64 p0]) Tryd.func44 rfl rfl rfl fun a hk => ?_
  obtain ⟨o0, hs, h0⟩ := St.start w o
  clear h0
  rw [tidewrackref01_Num] at H
  refine x_seq ?_
  refine wpIn_region_lit ?_
  refine x_run tab hk (k := 1) (lv := []) (ks := [0]) (e' := [(0, .int .i64 p0)]) rfl trivial fun a hk => ?_
  refine wpListIn_nil ?_
  refine then_n ?_
  refine x_seq ?_
  refine wpIn_region_lit ?_
  refine x_run tab hk (k := 4) (lv := []) (ks := [0]) (e' := [(0, .int .i64 (mxI 0 (mnI p0 4611686018427387904)))]) rfl trivial fun a hk => ?_
  refine wpListIn_nil ?_
  refine then_n ?_
  refine x_seq ?_
  refine wpIn_region_lit ?_
  refine x_op hk rfl ?_
  refine op_slice (o := o0) tab hk (vs := []) (cs := []) rfl rfl rfl rfl rfl rfl rfl rfl rfl 1 fun bx4 w1 o2 st3 f5 => ?_
  replace hs := hs.loc0 st3 (by decide)
  have f6 : Ft (Own (encInt .u8) 5 (.slice (some ⟨bx4, 0, none⟩) (([] : List Int)).length 0) ([] : List Int)) w1 o2 1 := f5.imp fun _ h_ => Own.of_box h_ rfl (by simp)
  have hk := hk.put 7 (.slice (some ⟨bx4, 0, none⟩) (([] : List Int)).length 0) rfl
  refine x_run tab hk (k := 1) (lv := []) (ks := [0, 3]) (e' := [(0, .int .i64 (mxI 0 (mnI p0 4611686018427387904))), (3, .slice (some ⟨bx4, 0, none⟩) (([] : List Int)).length 0)]) rfl trivial fun a hk => ?_
  refine wpListIn_nil ?_
  refine then_n ?_
  refine x_mid (fun a_ w_ => ∃ o77 : Nat → Nat, ∃ x78 : Int, ∃ A79 : Option Addr, ∃ c80 : Nat, ∃ l81 : List Int, Kn 25 a_ [(0, .int .i64 x78), (3, .slice A79 (l81).length c80)] ∧ St [] w (fun _ => 0) w_ o77 ∧ Ft (Own (encInt .u8) 5 (.slice A79 (l81).length c80) l81) w_ o77 7 ∧ (l81).length ≤ c80 ∧ tidewrackref01_Num_j1 x78 l81 = some r) ?_ ?_
  rotate_left
  · rintro a w84 ⟨o77, x78, A79, c80, l81, hk, hs, f82, hc83, H⟩
    rw [tidewrackref01_Num_j1] at H
    refine x_seq ?_
    refine wpIn_region_lit ?_
    refine x_run tab hk (k := 3) (lv := []) (ks := [19, 21]) (e' := [(19, .slice A79 (l81).length c80), (21, .int .u8 (IntKind.wrap .u8 x78))]) rfl trivial fun a hk => ?_
    refine x_op hk rfl ?_
    refine op_slice (o := o77) tab hk (vs := [.int .u8 (IntKind.wrap .u8 x78)]) (cs := [.int .u8 (IntKind.wrap .u8 x78)]) rfl rfl rfl rfl rfl rfl rfl rfl rfl 8 fun bx88 w85 o86 st87 f89 => ?_
    replace f82 := f82.st st87 (by decide)
    replace hs := hs.loc0 st87 (by decide)
    have f90 : Ft (Own (encInt .u8) 5 (.slice (some ⟨bx88, 0, none⟩) (([(IntKind.wrap .u8 x78)] : List Int)).length 1) ([(IntKind.wrap .u8 x78)] : List Int)) w85 o86 8 := f89.imp fun _ h_ => Own.of_box h_ rfl (by simp)
    have hk := hk.put 22 (.slice (some ⟨bx88, 0, none⟩) (([(IntKind.wrap .u8 x78)] : List Int)).length 1) rfl
    refine x_op hk rfl ?_
    obtain ⟨q94, H⟩ := ifS H
    refine op_append (o := o86) (E := (encInt .u8)) (xs := l81) (ys := ([(IntKind.wrap .u8 x78)] : List Int)) tab hk rfl rfl rfl rfl rfl rfl rfl f82 (Own.rd f90.now) q94 fun A95 c96 w91 o92 st93 f97 hc98 => ?_
    replace f90 := f90.st st93 (by decide)
    replace hs := hs.loc0 st93 (by decide)
    have hk := hk.put 23 (.slice A95 ((l81 ++ ([(IntKind.wrap .u8 x78)] : List Int))).length c96) rfl
    refine x_run tab hk (k := 2) (lv := [.string (strOfNums (l81 ++ ([(IntKind.wrap .u8 x78)] : List Int)))]) (ks := [2]) (e' := [(2, .string (strOfNums (l81 ++ ([(IntKind.wrap .u8 x78)] : List Int))))]) rfl ⟨(ask_str tab rfl rfl rfl rfl (Own.rd f97.now) (Own.plain f97.now _ _ _ rfl)), trivial⟩ fun a hk => ?_
    refine wpListIn_nil ?_
    refine then_n ?_
    refine wpIn_ret ?_
    obtain rfl := Option.some.inj H
    exact x_retG hk (rs := [.tmp 2]) (vs := [.string (strOfNums (l81 ++ ([(IntKind.wrap .u8 x78)] : List Int)))]) rfl ⟨rfl, trivial⟩ ⟨fun b_ => if b_ < w.heap.size then o b_ else (fun _ => 0) (o92 b_), rfl, hs.close0 o (fun _ => 0)⟩
  refine wpIn_block ?_
  refine x_loop (fun j_ a_ w_ => ∃ o117 : Nat → Nat, ∃ x118 : Int, ∃ A119 : Option Addr, ∃ c120 : Nat, ∃ l121 : List Int, Kn 25 a_ [(0, .int .i64 x118), (3, .slice A119 (l121).length c120)] ∧ St [] w (fun _ => 0) w_ o117 ∧ Ft (Own (encInt .u8) 5 (.slice A119 (l121).length c120) l121) w_ o117 11 ∧ (l121).length ≤ c120 ∧ tidewrackref01_Num_l2 j_ x118 l121 = some r) (k := K) ⟨(fun b_ => (fun l_ => if l_ = 1 then 11 else l_) (o2 b_)), (mxI 0 (mnI p0 4611686018427387904)), (some ⟨bx4, 0, none⟩), 0, ([] : List Int), (by exact Kn.pick (ks := [0, 3]) hk rfl), (hs.relab0 (fun l_ => if l_ = 1 then 11 else l_) rfl), (f6.relab (fun l_ => if l_ = 1 then 11 else l_) rfl), (Nat.le_refl _), H⟩ (by rintro _ _ ⟨_, _, _, _, _, _, _, _, _, H_⟩; exact absurd (show (none : Option ByteArray) = some r from H_) (by simp)) ?_
  rintro k140 a w139 ⟨o117, x118, A119, c120, l121, hk, hs, f122, hc123, H⟩
  rw [tidewrackref01_Num_l2] at H
  obtain ⟨lp141, hlp142⟩ : ∃ lp_, lp_ = tidewrackref01_Num_l2 k140 := ⟨_, rfl⟩
  rw [← hlp142] at H
  refine x_seq ?_
  refine x_seq ?_
  refine wpIn_region_lit ?_
  refine x_run tab hk (k := 2) (lv := []) (ks := [0, 3, 9]) (e' := [(0, .int .i64 x118), (3, .slice A119 (l121).length c120), (9, .bool (decide (x118 ≥ (128 : Int))))]) rfl trivial fun a hk => ?_
  refine wpListIn_nil ?_
  refine then_n ?_
  cases b143 : (decide (x118 ≥ (128 : Int)))
  · rw [b143] at hk H
    replace H := bifF H
    refine x_if hk (b := false) rfl ?_
    refine (show Code.wpIn _ _ _ _ _ _ _ from ?_)
    refine wpIn_exit ?_
    refine then_x ?_
    refine then_x ?_
    refine blk_x ?_
    refine then_n ?_
    exact ⟨(fun b_ => (fun l_ => if l_ = 11 then 7 else l_) (o117 b_)), x118, A119, c120, l121, (by exact Kn.pick (ks := [0, 3]) hk rfl), (hs.relab0 (fun l_ => if l_ = 11 then 7 else l_) rfl), (f122.relab (fun l_ => if l_ = 11 then 7 else l_) rfl), hc123, H⟩
  · rw [b143] at hk H
    replace H := bifT H
    refine x_if hk (b := true) rfl ?_
    refine (show Code.wpIn _ _ _ _ _ _ _ from ?_)
    refine wpIn_skip ?_
    refine then_n ?_
    refine wpIn_block ?_
    refine x_seq ?_
    refine wpIn_region_lit ?_
    refine x_run tab hk (k := 5) (lv := []) (ks := [0, 10, 14]) (e' := [(0, .int .i64 x118), (10, .slice A119 (l121).length c120), (14, .int .u8 (IntKind.wrap .u8 (IntKind.wrap .i64 (128 + (Int.tmod x118 128)))))]) rfl ⟨(show (128 : Int) ≠ 0 from by decide), trivial⟩ fun a hk => ?_
    refine x_op hk rfl ?_
    refine op_slice (o := o117) tab hk (vs := [.int .u8 (IntKind.wrap .u8 (IntKind.wrap .i64 (128 + (Int.tmod x118 128))))]) (cs := [.int .u8 (IntKind.wrap .u8 (IntKind.wrap .i64 (128 + (Int.tmod x118 128))))]) rfl rfl rfl rfl rfl rfl rfl rfl rfl 13 fun bx147 w144 o145 st146 f148 => ?_
    replace f122 := f122.st st146 (by decide)
    replace hs := hs.loc0 st146 (by decide)
    have f149 : Ft (Own (encInt .u8) 5 (.slice (some ⟨bx147, 0, none⟩) (([(IntKind.wrap .u8 (IntKind.wrap .i64 (128 + (Int.tmod x118 128))))] : List Int)).length 1) ([(IntKind.wrap .u8 (IntKind.wrap .i64 (128 + (Int.tmod x118 128))))] : List Int)) w144 o145 13 := f148.imp fun _ h_ => Own.of_box h_ rfl (by simp)
    have hk := hk.put 15 (.slice (some ⟨bx147, 0, none⟩) (([(IntKind.wrap .u8 (IntKind.wrap .i64 (128 + (Int.tmod x118 128))))] : List Int)).length 1) rfl
    refine x_op hk rfl ?_
    obtain ⟨q153, H⟩ := ifS H
    refine op_append (o := o145) (E := (encInt .u8)) (xs := l121) (ys := ([(IntKind.wrap .u8 (IntKind.wrap .i64 (128 + (Int.tmod x118 128))))] : List Int)) tab hk rfl rfl rfl rfl rfl rfl rfl f122 (Own.rd f149.now) q153 fun A154 c155 w150 o151 st152 f156 hc157 => ?_
    replace f149 := f149.st st152 (by decide)
    replace hs := hs.loc0 st152 (by decide)
    have hk := hk.put 16 (.slice A154 ((l121 ++ ([(IntKind.wrap .u8 (IntKind.wrap .i64 (128 + (Int.tmod x118 128))))] : List Int))).length c155) rfl
    refine x_run tab hk (k := 1) (lv := []) (ks := [0, 3]) (e' := [(0, .int .i64 x118), (3, .slice A154 ((l121 ++ ([(IntKind.wrap .u8 (IntKind.wrap .i64 (128 + (Int.tmod x118 128))))] : List Int))).length c155)]) rfl trivial fun a hk => ?_
    refine wpListIn_nil ?_
    refine then_n ?_
    refine wpIn_region_lit ?_
    refine x_run tab hk (k := 3) (lv := []) (ks := [0, 3]) (e' := [(0, .int .i64 (IntKind.wrap .i64 (Int.tdiv x118 128))), (3, .slice A154 ((l121 ++ ([(IntKind.wrap .u8 (IntKind.wrap .i64 (128 + (Int.tmod x118 128))))] : List Int))).length c155)]) rfl ⟨(show (128 : Int) ≠ 0 from by decide), trivial⟩ fun a hk => ?_
    refine wpListIn_nil ?_
    refine blk_n ?_
    refine then_n ?_
    exact ⟨k140, Nat.le_refl _, o151, (IntKind.wrap .i64 (Int.tdiv x118 128)), A154, c155, (l121 ++ ([(IntKind.wrap .u8 (IntKind.wrap .i64 (128 + (Int.tmod x118 128))))] : List Int)), (by exact Kn.pick (ks := [0, 3]) hk rfl), hs, f156, hc157, (hlp142 ▸ H)⟩

/-! tidewrack/tidewrackref12.Pack -/
theorem tidewrackref12_Pack_calls (K : Nat) (Ap0 : Option Addr) (cp0 : Nat) (p0 : List T69) (w : World) (o : Nat → Nat) (Lp0 : Nat) (hp0 : Ft (RdC ET69 Ap0 p0) w o Lp0) (hcp0 : (p0).length ≤ cp0)  (r : ByteArray) (H : tidewrackref12_Pack K p0 = some r) :
    Calls Tryd.prog 30 #[.slice Ap0 (p0).length cp0] w (Ret fun v_ w' => ∃ o' : Nat → Nat, v_ = .string r ∧ St [] w o w' o') := by
  refine x_enter (vs := [.slice Ap0 (p0).length cp0]) Tryd.func30 rfl rfl rfl fun a hk => ?_
  obtain ⟨o0, hs, h0⟩ := St.start w o
  have f900000 := h0 _ _ hp0
  clear h0
  rw [tidewrackref12_Pack] at H
  refine x_seq ?_
  refine wpIn_region_lit ?_
  refine x_run tab hk (k := 1) (lv := []) (ks := [0]) (e' := [(0, .slice Ap0 (p0).length cp0)]) rfl trivial fun a hk => ?_
  refine wpListIn_nil ?_
  refine then_n ?_
  refine x_seq ?_
  refine wpIn_region_lit ?_
  refine x_run tab hk (k := 2) (lv := []) (ks := [0, 7]) (e' := [(0, .slice Ap0 (p0).length cp0), (7, .int .i64 ((p0).length : Int))]) rfl trivial fun a hk => ?_
  refine x_op hk rfl ?_
  obtain ⟨t4, hc5, H⟩ := bindS H
  refine op_call hk ent_44 (vs := [.int .i64 ((p0).length : Int)]) rfl (tidewrackref01_Num_calls K ((p0).length : Int) _ o0    _ hc5) ?_
  rintro _ w6 ⟨o7, rfl, st8⟩
  replace f900000 := f900000.st st8 (by decide)
  replace hs := hs.loc0 st8 (by decide)
  have hk := hk.put 8 (.string t4) rfl
  refine x_run tab hk (k := 1) (lv := []) (ks := [0, 3]) (e' := [(0, .slice Ap0 (p0).length cp0), (3, .string t4)]) rfl trivial fun a hk => ?_
  refine wpListIn_nil ?_
  refine then_n ?_
  refine x_mid (fun a_ w_ => ∃ o226 : Nat → Nat, ∃ x227 : ByteArray, Kn 26 a_ [(3, .string x227)] ∧ St [] w (fun _ => 0) w_ o226 ∧ tidewrackref12_Pack_j1 x227 = some r) ?_ ?_
  rotate_left
  · rintro a w228 ⟨o226, x227, hk, hs, H⟩
    rw [tidewrackref12_Pack_j1] at H
    refine x_seq ?_
    refine wpIn_region_lit ?_
    refine x_run tab hk (k := 2) (lv := []) (ks := [2]) (e' := [(2, .string x227)]) rfl trivial fun a hk => ?_
    refine wpListIn_nil ?_
    refine then_n ?_
    refine wpIn_ret ?_
    obtain rfl := Option.some.inj H
    exact x_retG hk (rs := [.tmp 2]) (vs := [.string x227]) rfl ⟨rfl, trivial⟩ ⟨fun b_ => if b_ < w.heap.size then o b_ else (fun _ => 0) (o226 b_), rfl, hs.close0 o (fun _ => 0)⟩
  refine x_seq ?_
  refine wpIn_region_lit ?_
  refine x_run tab hk (k := 3) (lv := []) (ks := [3, 9, 10, 11]) (e' := [(3, .string t4), (9, .slice Ap0 (p0).length cp0), (10, .int .i64 ((p0).length : Int)), (11, .int .i64 0)]) rfl trivial fun a hk => ?_
  refine wpListIn_nil ?_
  refine then_n ?_
  refine wpIn_block ?_
  refine x_loop (fun j_ a_ w_ => ∃ o299 : Nat → Nat, ∃ x300 : ByteArray, ∃ x301 : Int, Kn 26 a_ [(3, .string x300), (9, .slice Ap0 (p0).length cp0), (10, .int .i64 ((p0).length : Int)), (11, .int .i64 x301)] ∧ St [] w (fun _ => 0) w_ o299 ∧ Ft (RdC ET69 Ap0 p0) w_ o299 0 ∧ tidewrackref12_Pack_l2 K p0 j_ x300 x301 = some r) (k := K) ⟨o7, t4, 0, (by exact Kn.pick (ks := [3, 9, 10, 11]) hk rfl), hs, f900000, H⟩ (by rintro _ _ ⟨_, _, _, _, _, _, H_⟩; exact absurd (show (none : Option ByteArray) = some r from H_) (by simp)) ?_
  rintro k370 a w369 ⟨o299, x300, x301, hk, hs, f900000, H⟩
  rw [tidewrackref12_Pack_l2] at H
  obtain ⟨lp371, hlp372⟩ : ∃ lp_, lp_ = tidewrackref12_Pack_l2 K p0 k370 := ⟨_, rfl⟩
  rw [← hlp372] at H
  refine x_seq ?_
  refine wpIn_region_lit ?_
  refine x_run tab hk (k := 1) (lv := []) (ks := [3, 9, 10, 11, 12]) (e' := [(3, .string x300), (9, .slice Ap0 (p0).length cp0), (10, .int .i64 ((p0).length : Int)), (11, .int .i64 x301), (12, .bool (decide (x301 < ((p0).length : Int))))]) rfl trivial fun a hk => ?_
  refine wpListIn_nil ?_
  refine then_n ?_
  refine x_seq ?_
  cases b373 : (decide (x301 < ((p0).length : Int)))
  · rw [b373] at hk H
    replace H := bifF H
    refine x_if hk (b := false) rfl ?_
    refine (show Code.wpIn _ _ _ _ _ _ _ from ?_)
    refine wpIn_exit ?_
    refine then_x ?_
    refine then_x ?_
    refine blk_x ?_
    refine then_n ?_
    exact ⟨o299, x300, (by exact Kn.pick (ks := [3]) hk rfl), hs, H⟩
  · rw [b373] at hk H
    replace H := bifT H
    refine x_if hk (b := true) rfl ?_
    refine (show Code.wpIn _ _ _ _ _ _ _ from ?_)
    refine wpIn_skip ?_
    refine then_n ?_
    refine x_seq ?_
    refine wpIn_block ?_
    refine x_seq ?_
    refine wpIn_region_lit ?_
    obtain ⟨q374, H⟩ := ifS H
    obtain ⟨ad375, hAad375⟩ := RdC.addr f900000.now q374
    have hk_C := hk
    have f900000_C := f900000
    subst hAad375
    have hk := hk_C
    clear hk_C
    have f900000 := f900000_C
    clear f900000_C
    refine x_run tab hk (k := 2) (lv := [.agg #[.int .i64 ((rdD zT69 p0 x301).Rune), .int .i64 ((rdD zT69 p0 x301).Style)]]) (ks := [3, 9, 10, 11, 14]) (e' := [(3, .string x300), (9, .slice (some ad375) (p0).length cp0), (10, .int .i64 ((p0).length : Int)), (11, .int .i64 x301), (14, .agg #[.int .i64 ((rdD zT69 p0 x301).Rune), .int .i64 ((rdD zT69 p0 x301).Style)])]) rfl ⟨q374, (load_elem (E := ET69) (i := x301) (dx := zT69) tab rfl rfl f900000.now q374), trivial⟩ fun a hk => ?_
    refine x_op hk rfl ?_
    refine op_alloc (o := o299) tab (t := 70) (cs := [.int .i64 0, .int .i64 0]) rfl rfl 6 fun bx379 w376 o377 st378 f380 => ?_
    replace f900000 := f900000.st st378 (by decide)
    replace hs := hs.loc0 st378 (by decide)
    have hk := hk.put 5 (.pointer (some ⟨bx379, 0, none⟩)) rfl
    refine x_op hk rfl ?_
    refine op_store tab hk (t := 70) (v := .agg #[.int .i64 ((rdD zT69 p0 x301).Rune), .int .i64 ((rdD zT69 p0 x301).Style)]) (b := bx379) (k := 0) (cs' := [.int .i64 ((rdD zT69 p0 x301).Rune), .int .i64 ((rdD zT69 p0 x301).Style)]) rfl rfl rfl rfl rfl rfl f380 rfl rfl fun w381 o382 st383 f380_ => ?_
    replace f900000 := f900000.st st383 (by decide)
    replace hs := hs.loc0 st383 (by decide)
    replace f380 := f380_
    refine wpListIn_nil ?_
    refine then_n ?_
    refine xd_begin (o := o382) (fun W_ => (Bx bx379 70 [.int .i64 ((rdD zT69 p0 x301).Rune), .int .i64 ((rdD zT69 p0 x301).Style)]) W_ ∧ True) mixed rfl rfl fun w420 st421 => ?_
    replace f380 := f380.st st421 (by decide)
    replace f900000 := f900000.st st421 (by decide)
    replace hs := hs.loc0 st421 (by decide)
    refine xd_take tab hk (k := 5) (is := [0, 1, 2, 4, 5]) (ls' := #[true, true, true, false, true, true, false, false, false, false]) (lv := [.int .i64 ((rdD zT69 p0 x301).Rune), .int .i64 ((rdD zT69 p0 x301).Style)]) (ks := [3, 9, 10, 11, 15, 17, 20]) (e' := [(3, .string x300), (9, .slice (some ad375) (p0).length cp0), (10, .int .i64 ((p0).length : Int)), (11, .int .i64 x301), (15, .string x300), (17, .int .i64 ((rdD zT69 p0 x301).Rune)), (20, .int .i64 ((rdD zT69 p0 x301).Style))]) (by kernel_rfl) rfl rfl (by kernel_rfl) (np_blk (np_then (np_then (np_blk (np_then np_body))))) ⟨f380.now, trivial⟩ (fun W_ hS => ⟨(load1 tab rfl ((Bx.cell hS.1 0).trans rfl)), (load1 tab rfl ((Bx.cell hS.1 1).trans rfl)), trivial⟩) fun a hk => ?_
    refine xd_op hk (i := 3) (by kernel_rfl) rfl rfl ?_
    obtain ⟨t425, hc426, H⟩ := bindS H
    refine op_call hk ent_44 (vs := [.int .i64 ((rdD zT69 p0 x301).Rune)]) rfl (tidewrackref01_Num_calls K ((rdD zT69 p0 x301).Rune) _ o382    _ hc426) ?_
    rintro _ w427 ⟨o428, rfl, st429⟩
    replace f380 := f380.st st429 (by decide)
    replace f900000 := f900000.st st429 (by decide)
    replace hs := hs.loc0 st429 (by decide)
    have hk := hk.put 18 (.string t425) rfl
    refine ⟨.inr ⟨f380.now, trivial⟩, ?_⟩
    refine xd_op hk (i := 6) (by kernel_rfl) rfl rfl ?_
    obtain ⟨t433, hc434, H⟩ := bindS H
    refine op_call hk ent_44 (vs := [.int .i64 ((rdD zT69 p0 x301).Style)]) rfl (tidewrackref01_Num_calls K ((rdD zT69 p0 x301).Style) _ o428    _ hc434) ?_
    rintro _ w435 ⟨o436, rfl, st437⟩
    replace f380 := f380.st st437 (by decide)
    replace f900000 := f900000.st st437 (by decide)
    replace hs := hs.loc0 st437 (by decide)
    have hk := hk.put 21 (.string t433) rfl
    refine ⟨.inr ⟨f380.now, trivial⟩, ?_⟩
    obtain ⟨q438, H⟩ := ifS H
    obtain ⟨q439, H⟩ := ifS H
    refine xd_take tab hk (k := 0) (is := [7, 8, 9]) (ls' := #[true, true, true, true, true, true, true, true, true, true]) (lv := []) (ks := [3, 9, 10, 11]) (e' := [(3, .string (x300 ++ (t425 ++ t433))), (9, .slice (some ad375) (p0).length cp0), (10, .int .i64 ((p0).length : Int)), (11, .int .i64 x301)]) (by kernel_rfl) rfl rfl (by kernel_rfl) (np_blk (np_then (np_then (np_blk (np_then np_body))))) ⟨f380.now, trivial⟩ (fun W_ hS => ⟨q438, q439, trivial⟩) fun a hk => ?_
    refine xd_done (by kernel_rfl) ?_
    refine blk_n ?_
    refine then_n ?_
    refine wpIn_region_lit ?_
    refine x_run tab hk (k := 2) (lv := []) (ks := [3, 9, 10, 11]) (e' := [(3, .string (x300 ++ (t425 ++ t433))), (9, .slice (some ad375) (p0).length cp0), (10, .int .i64 ((p0).length : Int)), (11, .int .i64 (IntKind.wrap .i64 (x301 + 1)))]) rfl trivial fun a hk => ?_
    refine wpListIn_nil ?_
    refine then_n ?_
    exact ⟨k370, Nat.le_refl _, o436, (x300 ++ (t425 ++ t433)), (IntKind.wrap .i64 (x301 + 1)), (by exact Kn.pick (ks := [3, 9, 10, 11]) hk rfl), hs, f900000, (hlp372 ▸ H)⟩

/-! (*tidewrack/num.In).End -/
theorem num_In_End_calls (bp0 : Nat) (p0 : T88) (w : World) (o : Nat → Nat) (Lp0 : Nat) (hp0 : Ft (Bx bp0 89 [.string p0.s, .int .i64 p0.e]) w o Lp0)  (r : Int) (H : num_In_End p0 = some r) :
    Calls Tryd.prog 31 #[.pointer (some ⟨bp0, 0, none⟩)] w (Ret fun v_ w' => ∃ o' : Nat → Nat, v_ = .int .i64 r ∧ St [] w o w' o') := by
  refine x_enter (vs := [.pointer (some ⟨bp0, 0, none⟩)]) Tryd.func31 rfl rfl rfl fun a hk => ?_
  obtain ⟨o0, hs, h0⟩ := St.start w o
  have f900019 := h0 _ _ hp0
  clear h0
  rw [num_In_End] at H
  refine x_seq ?_
  refine wpIn_region_lit ?_
  refine x_run tab hk (k := 1) (lv := []) (ks := [0]) (e' := [(0, .pointer (some ⟨bp0, 0, none⟩))]) rfl trivial fun a hk => ?_
  refine wpListIn_nil ?_
  refine then_n ?_
  refine x_seq ?_
  refine x_seq ?_
  refine wpIn_region_lit ?_
  refine x_run tab hk (k := 5) (lv := [.string p0.s]) (ks := [0, 7]) (e' := [(0, .pointer (some ⟨bp0, 0, none⟩)), (7, .bool (!(ByteArray.toList p0.s == ByteArray.toList (⟨#[]⟩ : ByteArray))))]) rfl ⟨(load1 tab rfl ((Bx.cell f900019.now 0).trans rfl)), trivial⟩ fun a hk => ?_
  refine wpListIn_nil ?_
  refine then_n ?_
  cases b1 : (!(ByteArray.toList p0.s == ByteArray.toList (⟨#[]⟩ : ByteArray)))
  · rw [b1] at hk H
    replace H := bifF H
    refine x_if hk (b := false) rfl ?_
    refine (show Code.wpIn _ _ _ _ _ _ _ from ?_)
    refine wpIn_skip ?_
    refine then_n ?_
    refine x_seq ?_
    refine wpIn_region_lit ?_
    refine x_run tab hk (k := 5) (lv := [.int .i64 p0.e]) (ks := [2]) (e' := [(2, .int .i64 p0.e)]) rfl ⟨(load1 tab rfl ((Bx.cell f900019.now 1).trans rfl)), trivial⟩ fun a hk => ?_
    refine wpListIn_nil ?_
    refine then_n ?_
    refine wpIn_ret ?_
    obtain rfl := Option.some.inj H
    exact x_retG hk (rs := [.tmp 2]) (vs := [.int .i64 p0.e]) rfl ⟨rfl, trivial⟩ ⟨fun b_ => if b_ < w.heap.size then o b_ else (fun _ => 0) (o0 b_), rfl, hs.close0 o (fun _ => 0)⟩
  · rw [b1] at hk H
    replace H := bifT H
    refine x_if hk (b := true) rfl ?_
    refine (show Code.wpIn _ _ _ _ _ _ _ from ?_)
    refine x_seq ?_
    refine wpIn_region_lit ?_
    refine x_run tab hk (k := 1) (lv := []) (ks := [2]) (e' := [(2, .int .i64 1)]) rfl trivial fun a hk => ?_
    refine wpListIn_nil ?_
    refine then_n ?_
    refine wpIn_ret ?_
    refine then_r ?_
    obtain rfl := Option.some.inj H
    exact x_retG hk (rs := [.tmp 2]) (vs := [.int .i64 1]) rfl ⟨rfl, trivial⟩ ⟨fun b_ => if b_ < w.heap.size then o b_ else (fun _ => 0) (o0 b_), rfl, hs.close0 o (fun _ => 0)⟩

/-! tidewrack/tidewracklaw12.BookBack -/
set_option maxHeartbeats 4000000 in
theorem tidewracklaw12_BookBack_calls (K : Nat) (Ap0 : Option Addr) (cp0 : Nat) (p0 : List T49) (w : World) (o : Nat → Nat) (Lg0 : Nat) (hg0 : Ft (RdC ET111 (some ⟨0, 0, none⟩) glob0) w o Lg0) (Lg1 : Nat) (hg1 : Ft (RdC ET111 (some ⟨1, 0, none⟩) glob1) w o Lg1) (Lg2 : Nat) (hg2 : Ft (RdC (encInt .u32) (some ⟨2, 0, none⟩) glob2) w o Lg2) (Lp0 : Nat) (hp0 : Ft (RdC ET49 Ap0 p0) w o Lp0) (hcp0 : (p0).length ≤ cp0)  (r : Bool) (H : tidewracklaw12_BookBack K p0 = some r) :
    Calls Tryd.prog 8 #[.slice Ap0 (p0).length cp0] w (Ret fun v_ w' => ∃ o' : Nat → Nat, v_ = .bool r ∧ St [] w o w' o') := by
  refine x_enter (vs := [.slice Ap0 (p0).length cp0]) Tryd.func8 rfl rfl rfl fun a hk => ?_
  obtain ⟨o0, hs, h0⟩ := St.start w o
  have fg0 := h0 _ _ hg0
  have fg1 := h0 _ _ hg1
  have fg2 := h0 _ _ hg2
  have f900000 := h0 _ _ hp0
  clear h0
  rw [tidewracklaw12_BookBack] at H
  refine x_seq ?_
  refine wpIn_region_lit ?_
  refine x_run tab hk (k := 1) (lv := []) (ks := [0]) (e' := [(0, .slice Ap0 (p0).length cp0)]) rfl trivial fun a hk => ?_
  refine wpListIn_nil ?_
  refine then_n ?_
  refine x_seq ?_
  refine x_seq ?_
  refine wpIn_region_lit ?_
  refine x_op hk rfl ?_
  obtain ⟨t4, hc5, H⟩ := bindS H
  refine op_call hk ent_9 (vs := []) rfl (tidewracklaw12_awake_calls K  _ o0 0 fg0 0 fg1 0 fg2   _ hc5) ?_
  rintro _ w6 ⟨o7, rfl, st8⟩
  replace f900000 := f900000.st st8 (by decide)
  replace fg0 := fg0.st st8 (by decide)
  replace fg1 := fg1.st st8 (by decide)
  replace fg2 := fg2.st st8 (by decide)
  replace hs := hs.loc0 st8 (by decide)
  have hk := hk.put 10 (.bool t4) rfl
  refine x_run tab hk (k := 1) (lv := []) (ks := [0, 11]) (e' := [(0, .slice Ap0 (p0).length cp0), (11, .bool (!t4))]) rfl trivial fun a hk => ?_
  refine wpListIn_nil ?_
  refine then_n ?_
  cases b9 : (!t4)
  · rw [b9] at hk H
    replace H := bifF H
    refine x_if hk (b := false) rfl ?_
    refine (show Code.wpIn _ _ _ _ _ _ _ from ?_)
    refine wpIn_skip ?_
    refine then_n ?_
    refine x_seq ?_
    refine wpIn_region_lit ?_
    obtain ⟨q10, H⟩ := ifS H
    obtain ⟨q11, H⟩ := ifS H
    obtain ⟨A12, c13, ak15, f14, hc16⟩ := ask_cut (P := Tryd.prog) tab (t := 40) rfl rfl f900000 hcp0 none (some (.int .i64 (mnI ((p0).length : Int) 60))) rfl ⟨q10, (by have := q11; have := hcp0; omega), trivial⟩ (by have := q10; have := q11; omega) (by have := q10; have := q11; omega)
    refine x_run tab hk (k := 6) (lv := [.slice A12 ((List.drop 0 (List.take (Int.toNat (mnI ((p0).length : Int) 60)) p0))).length c13]) (ks := [0]) (e' := [(0, .slice A12 ((List.drop 0 (List.take (Int.toNat (mnI ((p0).length : Int) 60)) p0))).length c13)]) rfl ⟨(ak15 rfl rfl rfl _), trivial⟩ fun a hk => ?_
    refine wpListIn_nil ?_
    refine then_n ?_
    refine x_seq ?_
    refine wpIn_region_lit ?_
    refine x_run tab hk (k := 1) (lv := []) (ks := [0, 3]) (e' := [(0, .slice A12 ((List.drop 0 (List.take (Int.toNat (mnI ((p0).length : Int) 60)) p0))).length c13), (3, .slice none 0 0)]) rfl trivial fun a hk => ?_
    refine wpListIn_nil ?_
    refine then_n ?_
    refine x_seq ?_
    refine wpIn_region_lit ?_
    refine x_run tab hk (k := 1) (lv := []) (ks := [0, 3, 4]) (e' := [(0, .slice A12 ((List.drop 0 (List.take (Int.toNat (mnI ((p0).length : Int) 60)) p0))).length c13), (3, .slice none 0 0), (4, .bool true)]) rfl trivial fun a hk => ?_
    refine wpListIn_nil ?_
    refine then_n ?_
    refine x_mid (fun a_ w_ => ∃ o129 : Nat → Nat, ∃ A130 : Option Addr, ∃ c131 : Nat, ∃ l132 : List T69, ∃ x135 : Bool, Kn 78 a_ [(0, .slice A12 ((List.drop 0 (List.take (Int.toNat (mnI ((p0).length : Int) 60)) p0))).length c13), (3, .slice A130 (l132).length c131), (4, .bool x135)] ∧ St [] w (fun _ => 0) w_ o129 ∧ Ft (Own ET69 70 (.slice A130 (l132).length c131) l132) w_ o129 10 ∧ Ft (RdC ET49 A12 (List.drop 0 (List.take (Int.toNat (mnI ((p0).length : Int) 60)) p0))) w_ o129 0 ∧ Ft (RdC ET111 (some ⟨0, 0, none⟩) glob0) w_ o129 0 ∧ Ft (RdC ET111 (some ⟨1, 0, none⟩) glob1) w_ o129 0 ∧ Ft (RdC (encInt .u32) (some ⟨2, 0, none⟩) glob2) w_ o129 0 ∧ (l132).length ≤ c131 ∧ tidewracklaw12_BookBack_j1 K p0 l132 x135 = some r) ?_ ?_
    rotate_left
    · rintro a w136 ⟨o129, A130, c131, l132, x135, hk, hs, f133, f14, fg0, fg1, fg2, hc134, H⟩
      rw [tidewracklaw12_BookBack_j1] at H
      refine x_seq ?_
      refine wpIn_region_lit ?_
      refine x_run tab hk (k := 1) (lv := []) (ks := [3, 4, 54]) (e' := [(3, .slice A130 (l132).length c131), (4, .bool x135), (54, .slice A12 ((List.drop 0 (List.take (Int.toNat (mnI ((p0).length : Int) 60)) p0))).length c13)]) rfl trivial fun a hk => ?_
      refine x_op hk rfl ?_
      obtain ⟨t140, hc141, H⟩ := bindS H
      refine op_call hk ent_29 (vs := [.slice A12 ((List.drop 0 (List.take (Int.toNat (mnI ((p0).length : Int) 60)) p0))).length c13]) rfl (book_Pack_calls K A12 c13 (List.drop 0 (List.take (Int.toNat (mnI ((p0).length : Int) 60)) p0)) _ o129 _ f14 hc16   _ hc141) ?_
      rintro _ w142 ⟨o143, rfl, st144⟩
      replace f133 := f133.st st144 (by decide)
      replace f14 := f14.st st144 (by decide)
      replace fg0 := fg0.st st144 (by decide)
      replace fg1 := fg1.st st144 (by decide)
      replace fg2 := fg2.st st144 (by decide)
      replace hs := hs.loc0 st144 (by decide)
      have hk := hk.put 55 (.string t140) rfl
      refine x_run tab hk (k := 1) (lv := []) (ks := [3, 4, 7]) (e' := [(3, .slice A130 (l132).length c131), (4, .bool x135), (7, .string t140)]) rfl trivial fun a hk => ?_
      refine wpListIn_nil ?_
      refine then_n ?_
      refine x_seq ?_
      refine x_seq ?_
      refine wpIn_region_lit ?_
      refine x_run tab hk (k := 2) (lv := []) (ks := [3, 4, 7, 56, 57]) (e' := [(3, .slice A130 (l132).length c131), (4, .bool x135), (7, .string t140), (56, .string t140), (57, .slice A130 (l132).length c131)]) rfl trivial fun a hk => ?_
      refine x_op hk rfl ?_
      obtain ⟨t148, hc149, H⟩ := bindS H
      refine op_call hk ent_30 (vs := [.slice A130 (l132).length c131]) rfl (tidewrackref12_Pack_calls K A130 c131 l132 _ o143 _ (f133.imp fun _ h_ => Own.rd h_) hc134   _ hc149) ?_
      rintro _ w150 ⟨o151, rfl, st152⟩
      replace f133 := f133.st st152 (by decide)
      replace fg0 := fg0.st st152 (by decide)
      replace fg1 := fg1.st st152 (by decide)
      replace fg2 := fg2.st st152 (by decide)
      replace hs := hs.loc0 st152 (by decide)
      have hk := hk.put 58 (.string t148) rfl
      refine x_run tab hk (k := 1) (lv := []) (ks := [3, 4, 7, 59]) (e' := [(3, .slice A130 (l132).length c131), (4, .bool x135), (7, .string t140), (59, .bool (!(ByteArray.toList t140 == ByteArray.toList t148)))]) rfl trivial fun a hk => ?_
      refine wpListIn_nil ?_
      refine then_n ?_
      cases b153 : (!(ByteArray.toList t140 == ByteArray.toList t148))
      · rw [b153] at hk H
        replace H := bifF H
        refine x_if hk (b := false) rfl ?_
        refine (show Code.wpIn _ _ _ _ _ _ _ from ?_)
        refine wpIn_skip ?_
        refine then_n ?_
        refine x_seq ?_
        refine wpIn_region_lit ?_
        refine x_run tab hk (k := 1) (lv := []) (ks := [3, 4, 60]) (e' := [(3, .slice A130 (l132).length c131), (4, .bool x135), (60, .string t140)]) rfl trivial fun a hk => ?_
        refine x_op hk rfl ?_
        obtain ⟨t157, hc158, H⟩ := bindS H
        refine op_call hk ent_23 (vs := [.string t140]) rfl (num_Of_calls t140 _ o151  11  _ hc158) ?_
        rintro _ w159 ⟨o160, bx162, rfl, st161, f163⟩
        replace f133 := f133.st st161 (by decide)
        replace fg0 := fg0.st st161 (by decide)
        replace fg1 := fg1.st st161 (by decide)
        replace fg2 := fg2.st st161 (by decide)
        replace hs := hs.loc0 st161 (by decide)
        have hk := hk.put 61 (.pointer (some ⟨bx162, 0, none⟩)) rfl
        refine x_run tab hk (k := 1) (lv := []) (ks := [3, 4, 8]) (e' := [(3, .slice A130 (l132).length c131), (4, .bool x135), (8, .pointer (some ⟨bx162, 0, none⟩))]) rfl trivial fun a hk => ?_
        refine wpListIn_nil ?_
        refine then_n ?_
        refine x_seq ?_
        refine x_seq ?_
        refine wpIn_region_lit ?_
        refine x_run tab hk (k := 2) (lv := []) (ks := [3, 4, 8, 63]) (e' := [(3, .slice A130 (l132).length c131), (4, .bool x135), (8, .pointer (some ⟨bx162, 0, none⟩)), (63, .bool false)]) rfl trivial fun a hk => ?_
        refine wpListIn_nil ?_
        refine then_n ?_
        refine x_if hk (b := false) rfl ?_
        refine (show Code.wpIn _ _ _ _ _ _ _ from ?_)
        refine wpIn_skip ?_
        refine then_n ?_
        refine x_seq ?_
        refine wpIn_region_lit ?_
        refine x_run tab hk (k := 1) (lv := []) (ks := [3, 4, 8, 64]) (e' := [(3, .slice A130 (l132).length c131), (4, .bool x135), (8, .pointer (some ⟨bx162, 0, none⟩)), (64, .pointer (some ⟨bx162, 0, none⟩))]) rfl trivial fun a hk => ?_
        refine x_op hk rfl ?_
        obtain ⟨t167, hc168, H⟩ := bindS H
        refine op_call hk ent_24 (vs := [.pointer (some ⟨bx162, 0, none⟩)]) rfl (book_Read_calls K bx162 t157 _ o160 11 f163 (by decide) 12  _ hc168) ?_
        rintro _ w169 ⟨o170, A172, c173, rfl, st171, f174, hc175, f176⟩
        replace f133 := f133.st st171 (by decide)
        replace fg0 := fg0.st st171 (by decide)
        replace fg1 := fg1.st st171 (by decide)
        replace fg2 := fg2.st st171 (by decide)
        replace hs := hs.loc0 st171 (by decide)
        have hk := hk.put 65 (.slice A172 (t167.1).length c173) rfl
        refine x_run tab hk (k := 1) (lv := []) (ks := [3, 4, 8, 9]) (e' := [(3, .slice A130 (l132).length c131), (4, .bool x135), (8, .pointer (some ⟨bx162, 0, none⟩)), (9, .slice A172 (t167.1).length c173)]) rfl trivial fun a hk => ?_
        refine wpListIn_nil ?_
        refine then_n ?_
        refine x_seq ?_
        refine wpIn_region_lit ?_
        refine x_run tab hk (k := 3) (lv := []) (ks := [3, 8, 9, 68]) (e' := [(3, .slice A130 (l132).length c131), (8, .pointer (some ⟨bx162, 0, none⟩)), (9, .slice A172 (t167.1).length c173), (68, .bool (!x135))]) rfl trivial fun a hk => ?_
        cases b177 : (!x135)
        · rw [b177] at hk H
          replace H := bifF H
          refine x_run tab hk (k := 1) (lv := []) (ks := [3, 9, 68, 69]) (e' := [(3, .slice A130 (l132).length c131), (9, .slice A172 (t167.1).length c173), (68, .bool false), (69, .pointer (some ⟨bx162, 0, none⟩))]) rfl trivial fun a hk => ?_
          refine x_op hk rfl ?_
          obtain ⟨t181, hc182, H⟩ := bindS H
          refine op_call hk ent_31 (vs := [.pointer (some ⟨bx162, 0, none⟩)]) rfl (num_In_End_calls bx162 t167.2 _ o170 11 f176   _ hc182) ?_
          rintro _ w183 ⟨o184, rfl, st185⟩
          replace f133 := f133.st st185 (by decide)
          replace f174 := f174.st st185 (by decide)
          replace f176 := f176.st st185 (by decide)
          replace fg0 := fg0.st st185 (by decide)
          replace fg1 := fg1.st st185 (by decide)
          replace fg2 := fg2.st st185 (by decide)
          replace hs := hs.loc0 st185 (by decide)
          have hk := hk.put 70 (.int .i64 t181) rfl
          refine x_run tab hk (k := 2) (lv := []) (ks := [3, 9, 68, 72]) (e' := [(3, .slice A130 (l132).length c131), (9, .slice A172 (t167.1).length c173), (68, .bool false), (72, .bool (t181 == (0 : Int)))]) rfl trivial fun a hk => ?_
          cases b186 : (t181 == (0 : Int))
          · rw [b186] at hk H
            replace H := bifF H
            refine x_run tab hk (k := 6) (lv := []) (ks := [2]) (e' := [(2, .bool false)]) rfl trivial fun a hk => ?_
            refine wpListIn_nil ?_
            refine then_n ?_
            refine wpIn_ret ?_
            obtain rfl := Option.some.inj H
            exact x_retG hk (rs := [.tmp 2]) (vs := [.bool false]) rfl ⟨rfl, trivial⟩ ⟨fun b_ => if b_ < w.heap.size then o b_ else (fun _ => 0) (o184 b_), rfl, hs.close0 o (fun _ => 0)⟩
          · rw [b186] at hk H
            replace H := bifT H
            refine x_run tab hk (k := 2) (lv := []) (ks := [68, 72, 73, 74]) (e' := [(68, .bool false), (72, .bool true), (73, .slice A172 (t167.1).length c173), (74, .slice A130 (l132).length c131)]) rfl trivial fun a hk => ?_
            refine x_op hk rfl ?_
            obtain ⟨t190, hc191, H⟩ := bindS H
            refine op_call hk ent_26 (vs := [.slice A172 (t167.1).length c173, .slice A130 (l132).length c131]) rfl (tidewracklaw09_Glyphs_calls K A172 c173 t167.1 A130 c131 l132 _ o184 _ (f174.imp fun _ h_ => Own.rd h_) hc175 _ (f133.imp fun _ h_ => Own.rd h_) hc134   _ hc191) ?_
            rintro _ w192 ⟨o193, rfl, st194⟩
            replace f133 := f133.st st194 (by decide)
            replace f174 := f174.st st194 (by decide)
            replace fg0 := fg0.st st194 (by decide)
            replace fg1 := fg1.st st194 (by decide)
            replace fg2 := fg2.st st194 (by decide)
            replace hs := hs.loc0 st194 (by decide)
            have hk := hk.put 75 (.bool t190) rfl
            refine x_run tab hk (k := 3) (lv := []) (ks := [2]) (e' := [(2, .bool t190)]) rfl trivial fun a hk => ?_
            refine wpListIn_nil ?_
            refine then_n ?_
            refine wpIn_ret ?_
            obtain rfl := Option.some.inj H
            exact x_retG hk (rs := [.tmp 2]) (vs := [.bool t190]) rfl ⟨rfl, trivial⟩ ⟨fun b_ => if b_ < w.heap.size then o b_ else (fun _ => 0) (o193 b_), rfl, hs.close0 o (fun _ => 0)⟩
        · rw [b177] at hk H
          replace H := bifT H
          refine x_run tab hk (k := 10) (lv := []) (ks := [2]) (e' := [(2, .bool true)]) rfl trivial fun a hk => ?_
          refine wpListIn_nil ?_
          refine then_n ?_
          refine wpIn_ret ?_
          obtain rfl := Option.some.inj H
          exact x_retG hk (rs := [.tmp 2]) (vs := [.bool true]) rfl ⟨rfl, trivial⟩ ⟨fun b_ => if b_ < w.heap.size then o b_ else (fun _ => 0) (o170 b_), rfl, hs.close0 o (fun _ => 0)⟩
      · rw [b153] at hk H
        replace H := bifT H
        refine x_if hk (b := true) rfl ?_
        refine (show Code.wpIn _ _ _ _ _ _ _ from ?_)
        refine x_seq ?_
        refine wpIn_region_lit ?_
        refine x_run tab hk (k := 1) (lv := []) (ks := [2]) (e' := [(2, .bool false)]) rfl trivial fun a hk => ?_
        refine wpListIn_nil ?_
        refine then_n ?_
        refine wpIn_ret ?_
        refine then_r ?_
        obtain rfl := Option.some.inj H
        exact x_retG hk (rs := [.tmp 2]) (vs := [.bool false]) rfl ⟨rfl, trivial⟩ ⟨fun b_ => if b_ < w.heap.size then o b_ else (fun _ => 0) (o151 b_), rfl, hs.close0 o (fun _ => 0)⟩
    refine x_seq ?_
    refine wpIn_region_lit ?_
    refine x_run tab hk (k := 3) (lv := []) (ks := [0, 3, 4, 17, 18, 19]) (e' := [(0, .slice A12 ((List.drop 0 (List.take (Int.toNat (mnI ((p0).length : Int) 60)) p0))).length c13), (3, .slice none 0 0), (4, .bool true), (17, .slice A12 ((List.drop 0 (List.take (Int.toNat (mnI ((p0).length : Int) 60)) p0))).length c13), (18, .int .i64 (((List.drop 0 (List.take (Int.toNat (mnI ((p0).length : Int) 60)) p0))).length : Int)), (19, .int .i64 0)]) rfl trivial fun a hk => ?_
    refine wpListIn_nil ?_
    refine then_n ?_
    refine wpIn_block ?_
    refine x_loop (fun j_ a_ w_ => ∃ o226 : Nat → Nat, ∃ A227 : Option Addr, ∃ c228 : Nat, ∃ l229 : List T69, ∃ x232 : Bool, ∃ x233 : Int, Kn 78 a_ [(0, .slice A12 ((List.drop 0 (List.take (Int.toNat (mnI ((p0).length : Int) 60)) p0))).length c13), (3, .slice A227 (l229).length c228), (4, .bool x232), (17, .slice A12 ((List.drop 0 (List.take (Int.toNat (mnI ((p0).length : Int) 60)) p0))).length c13), (18, .int .i64 (((List.drop 0 (List.take (Int.toNat (mnI ((p0).length : Int) 60)) p0))).length : Int)), (19, .int .i64 x233)] ∧ St [] w (fun _ => 0) w_ o226 ∧ Ft (RdC ET49 A12 (List.drop 0 (List.take (Int.toNat (mnI ((p0).length : Int) 60)) p0))) w_ o226 0 ∧ Ft (Own ET69 70 (.slice A227 (l229).length c228) l229) w_ o226 16 ∧ Ft (RdC ET111 (some ⟨0, 0, none⟩) glob0) w_ o226 0 ∧ Ft (RdC ET111 (some ⟨1, 0, none⟩) glob1) w_ o226 0 ∧ Ft (RdC (encInt .u32) (some ⟨2, 0, none⟩) glob2) w_ o226 0 ∧ (l229).length ≤ c228 ∧ tidewracklaw12_BookBack_l2 K p0 j_ l229 x232 x233 = some r) (k := K) ⟨o7, none, 0, ([] : List T69), true, 0, (by exact Kn.pick (ks := [0, 3, 4, 17, 18, 19]) hk rfl), hs, f14, (Ft.of_all (fun _ => Own.nil _ _ _) _ _ _), fg0, fg1, fg2, (by simp), H⟩ (by rintro _ _ ⟨_, _, _, _, _, _, _, _, _, _, _, _, _, _, H_⟩; exact absurd (show (none : Option Bool) = some r from H_) (by simp)) ?_
    rintro k264 a w263 ⟨o226, A227, c228, l229, x232, x233, hk, hs, f14, f230, fg0, fg1, fg2, hc231, H⟩
    rw [tidewracklaw12_BookBack_l2] at H
    obtain ⟨lp265, hlp266⟩ : ∃ lp_, lp_ = tidewracklaw12_BookBack_l2 K p0 k264 := ⟨_, rfl⟩
    rw [← hlp266] at H
    refine x_seq ?_
    refine wpIn_region_lit ?_
    refine x_run tab hk (k := 1) (lv := []) (ks := [0, 3, 4, 17, 18, 19, 20]) (e' := [(0, .slice A12 ((List.drop 0 (List.take (Int.toNat (mnI ((p0).length : Int) 60)) p0))).length c13), (3, .slice A227 (l229).length c228), (4, .bool x232), (17, .slice A12 ((List.drop 0 (List.take (Int.toNat (mnI ((p0).length : Int) 60)) p0))).length c13), (18, .int .i64 (((List.drop 0 (List.take (Int.toNat (mnI ((p0).length : Int) 60)) p0))).length : Int)), (19, .int .i64 x233), (20, .bool (decide (x233 < (((List.drop 0 (List.take (Int.toNat (mnI ((p0).length : Int) 60)) p0))).length : Int))))]) rfl trivial fun a hk => ?_
    refine wpListIn_nil ?_
    refine then_n ?_
    refine x_seq ?_
    cases b267 : (decide (x233 < (((List.drop 0 (List.take (Int.toNat (mnI ((p0).length : Int) 60)) p0))).length : Int)))
    · rw [b267] at hk H
      replace H := bifF H
      refine x_if hk (b := false) rfl ?_
      refine (show Code.wpIn _ _ _ _ _ _ _ from ?_)
      refine wpIn_exit ?_
      refine then_x ?_
      refine then_x ?_
      refine blk_x ?_
      refine then_n ?_
      exact ⟨(fun b_ => (fun l_ => if l_ = 16 then 10 else l_) (o226 b_)), A227, c228, l229, x232, (by exact Kn.pick (ks := [0, 3, 4]) hk rfl), (hs.relab0 (fun l_ => if l_ = 16 then 10 else l_) rfl), (f230.relab (fun l_ => if l_ = 16 then 10 else l_) rfl), (f14.relab (fun l_ => if l_ = 16 then 10 else l_) rfl), (fg0.relab (fun l_ => if l_ = 16 then 10 else l_) rfl), (fg1.relab (fun l_ => if l_ = 16 then 10 else l_) rfl), (fg2.relab (fun l_ => if l_ = 16 then 10 else l_) rfl), hc231, H⟩
    · rw [b267] at hk H
      replace H := bifT H
      refine x_if hk (b := true) rfl ?_
      refine (show Code.wpIn _ _ _ _ _ _ _ from ?_)
      refine wpIn_skip ?_
      refine then_n ?_
      refine x_seq ?_
      refine wpIn_block ?_
      refine x_seq ?_
      refine wpIn_region_lit ?_
      obtain ⟨q268, H⟩ := ifS H
      obtain ⟨ad269, hAad269⟩ := RdC.addr f14.now q268
      have hk_C := hk
      have f14_C := f14
      have f230_C := f230
      have fg0_C := fg0
      have fg1_C := fg1
      have fg2_C := fg2
      subst hAad269
      have hk := hk_C
      clear hk_C
      have f14 := f14_C
      clear f14_C
      have f230 := f230_C
      clear f230_C
      have fg0 := fg0_C
      clear fg0_C
      have fg1 := fg1_C
      clear fg1_C
      have fg2 := fg2_C
      clear fg2_C
      refine x_run tab hk (k := 2) (lv := [.agg #[.int .i32 ((rdD zT49 (List.drop 0 (List.take (Int.toNat (mnI ((p0).length : Int) 60)) p0)) x233).Rune), .int .i64 ((rdD zT49 (List.drop 0 (List.take (Int.toNat (mnI ((p0).length : Int) 60)) p0)) x233).Style)]]) (ks := [0, 3, 4, 17, 18, 19, 22]) (e' := [(0, .slice (some ad269) ((List.drop 0 (List.take (Int.toNat (mnI ((p0).length : Int) 60)) p0))).length c13), (3, .slice A227 (l229).length c228), (4, .bool x232), (17, .slice (some ad269) ((List.drop 0 (List.take (Int.toNat (mnI ((p0).length : Int) 60)) p0))).length c13), (18, .int .i64 (((List.drop 0 (List.take (Int.toNat (mnI ((p0).length : Int) 60)) p0))).length : Int)), (19, .int .i64 x233), (22, .agg #[.int .i32 ((rdD zT49 (List.drop 0 (List.take (Int.toNat (mnI ((p0).length : Int) 60)) p0)) x233).Rune), .int .i64 ((rdD zT49 (List.drop 0 (List.take (Int.toNat (mnI ((p0).length : Int) 60)) p0)) x233).Style)])]) rfl ⟨q268, (load_elem (E := ET49) (i := x233) (dx := zT49) tab rfl rfl f14.now q268), trivial⟩ fun a hk => ?_
      refine x_op hk rfl ?_
      refine op_alloc (o := o226) tab (t := 50) (cs := [.int .i32 0, .int .i64 0]) rfl rfl 19 fun bx273 w270 o271 st272 f274 => ?_
      replace f14 := f14.st st272 (by decide)
      replace f230 := f230.st st272 (by decide)
      replace fg0 := fg0.st st272 (by decide)
      replace fg1 := fg1.st st272 (by decide)
      replace fg2 := fg2.st st272 (by decide)
      replace hs := hs.loc0 st272 (by decide)
      have hk := hk.put 6 (.pointer (some ⟨bx273, 0, none⟩)) rfl
      refine x_op hk rfl ?_
      refine op_store tab hk (t := 50) (v := .agg #[.int .i32 ((rdD zT49 (List.drop 0 (List.take (Int.toNat (mnI ((p0).length : Int) 60)) p0)) x233).Rune), .int .i64 ((rdD zT49 (List.drop 0 (List.take (Int.toNat (mnI ((p0).length : Int) 60)) p0)) x233).Style)]) (b := bx273) (k := 0) (cs' := [.int .i32 ((rdD zT49 (List.drop 0 (List.take (Int.toNat (mnI ((p0).length : Int) 60)) p0)) x233).Rune), .int .i64 ((rdD zT49 (List.drop 0 (List.take (Int.toNat (mnI ((p0).length : Int) 60)) p0)) x233).Style)]) rfl rfl rfl rfl rfl rfl f274 rfl rfl fun w275 o276 st277 f274_ => ?_
      replace f14 := f14.st st277 (by decide)
      replace f230 := f230.st st277 (by decide)
      replace fg0 := fg0.st st277 (by decide)
      replace fg1 := fg1.st st277 (by decide)
      replace fg2 := fg2.st st277 (by decide)
      replace hs := hs.loc0 st277 (by decide)
      replace f274 := f274_
      refine wpListIn_nil ?_
      refine then_n ?_
      refine x_seq ?_
      refine wpIn_region_lit ?_
      refine x_run tab hk (k := 7) (lv := [.int .i32 ((rdD zT49 (List.drop 0 (List.take (Int.toNat (mnI ((p0).length : Int) 60)) p0)) x233).Rune), .int .i64 ((rdD zT49 (List.drop 0 (List.take (Int.toNat (mnI ((p0).length : Int) 60)) p0)) x233).Style)]) (ks := [0, 4, 6, 17, 18, 19, 23, 29]) (e' := [(0, .slice (some ad269) ((List.drop 0 (List.take (Int.toNat (mnI ((p0).length : Int) 60)) p0))).length c13), (4, .bool x232), (6, .pointer (some ⟨bx273, 0, none⟩)), (17, .slice (some ad269) ((List.drop 0 (List.take (Int.toNat (mnI ((p0).length : Int) 60)) p0))).length c13), (18, .int .i64 (((List.drop 0 (List.take (Int.toNat (mnI ((p0).length : Int) 60)) p0))).length : Int)), (19, .int .i64 x233), (23, .slice A227 (l229).length c228), (29, .agg #[.int .i64 (IntKind.wrap .i64 ((rdD zT49 (List.drop 0 (List.take (Int.toNat (mnI ((p0).length : Int) 60)) p0)) x233).Rune)), .int .i64 ((rdD zT49 (List.drop 0 (List.take (Int.toNat (mnI ((p0).length : Int) 60)) p0)) x233).Style)])]) rfl ⟨(load1 tab rfl ((Bx.cell f274.now 0).trans rfl)), (load1 tab rfl ((Bx.cell f274.now 1).trans rfl)), trivial⟩ fun a hk => ?_
      refine x_op hk rfl ?_
      refine op_slice (o := o276) tab hk (vs := [.agg #[.int .i64 (IntKind.wrap .i64 ((rdD zT49 (List.drop 0 (List.take (Int.toNat (mnI ((p0).length : Int) 60)) p0)) x233).Rune)), .int .i64 ((rdD zT49 (List.drop 0 (List.take (Int.toNat (mnI ((p0).length : Int) 60)) p0)) x233).Style)]]) (cs := [.int .i64 (IntKind.wrap .i64 ((rdD zT49 (List.drop 0 (List.take (Int.toNat (mnI ((p0).length : Int) 60)) p0)) x233).Rune)), .int .i64 ((rdD zT49 (List.drop 0 (List.take (Int.toNat (mnI ((p0).length : Int) 60)) p0)) x233).Style)]) rfl rfl rfl rfl rfl rfl rfl rfl rfl 20 fun bx281 w278 o279 st280 f282 => ?_
      replace f14 := f14.st st280 (by decide)
      replace f230 := f230.st st280 (by decide)
      replace f274 := f274.st st280 (by decide)
      replace fg0 := fg0.st st280 (by decide)
      replace fg1 := fg1.st st280 (by decide)
      replace fg2 := fg2.st st280 (by decide)
      replace hs := hs.loc0 st280 (by decide)
      have f283 : Ft (Own ET69 70 (.slice (some ⟨bx281, 0, none⟩) (([(⟨(IntKind.wrap .i64 ((rdD zT49 (List.drop 0 (List.take (Int.toNat (mnI ((p0).length : Int) 60)) p0)) x233).Rune)), (rdD zT49 (List.drop 0 (List.take (Int.toNat (mnI ((p0).length : Int) 60)) p0)) x233).Style⟩ : T69)] : List T69)).length 1) ([(⟨(IntKind.wrap .i64 ((rdD zT49 (List.drop 0 (List.take (Int.toNat (mnI ((p0).length : Int) 60)) p0)) x233).Rune)), (rdD zT49 (List.drop 0 (List.take (Int.toNat (mnI ((p0).length : Int) 60)) p0)) x233).Style⟩ : T69)] : List T69)) w278 o279 20 := f282.imp fun _ h_ => Own.of_box h_ rfl (by simp)
      have hk := hk.put 30 (.slice (some ⟨bx281, 0, none⟩) (([(⟨(IntKind.wrap .i64 ((rdD zT49 (List.drop 0 (List.take (Int.toNat (mnI ((p0).length : Int) 60)) p0)) x233).Rune)), (rdD zT49 (List.drop 0 (List.take (Int.toNat (mnI ((p0).length : Int) 60)) p0)) x233).Style⟩ : T69)] : List T69)).length 1) rfl
      refine x_op hk rfl ?_
      obtain ⟨q287, H⟩ := ifS H
      refine op_append (o := o279) (E := ET69) (xs := l229) (ys := ([(⟨(IntKind.wrap .i64 ((rdD zT49 (List.drop 0 (List.take (Int.toNat (mnI ((p0).length : Int) 60)) p0)) x233).Rune)), (rdD zT49 (List.drop 0 (List.take (Int.toNat (mnI ((p0).length : Int) 60)) p0)) x233).Style⟩ : T69)] : List T69)) tab hk rfl rfl rfl rfl rfl rfl rfl f230 (Own.rd f283.now) q287 fun A288 c289 w284 o285 st286 f290 hc291 => ?_
      replace f14 := f14.st st286 (by decide)
      replace f274 := f274.st st286 (by decide)
      replace f283 := f283.st st286 (by decide)
      replace fg0 := fg0.st st286 (by decide)
      replace fg1 := fg1.st st286 (by decide)
      replace fg2 := fg2.st st286 (by decide)
      replace hs := hs.loc0 st286 (by decide)
      have hk := hk.put 31 (.slice A288 ((l229 ++ ([(⟨(IntKind.wrap .i64 ((rdD zT49 (List.drop 0 (List.take (Int.toNat (mnI ((p0).length : Int) 60)) p0)) x233).Rune)), (rdD zT49 (List.drop 0 (List.take (Int.toNat (mnI ((p0).length : Int) 60)) p0)) x233).Style⟩ : T69)] : List T69))).length c289) rfl
      refine x_run tab hk (k := 1) (lv := []) (ks := [0, 3, 4, 6, 17, 18, 19]) (e' := [(0, .slice (some ad269) ((List.drop 0 (List.take (Int.toNat (mnI ((p0).length : Int) 60)) p0))).length c13), (3, .slice A288 ((l229 ++ ([(⟨(IntKind.wrap .i64 ((rdD zT49 (List.drop 0 (List.take (Int.toNat (mnI ((p0).length : Int) 60)) p0)) x233).Rune)), (rdD zT49 (List.drop 0 (List.take (Int.toNat (mnI ((p0).length : Int) 60)) p0)) x233).Style⟩ : T69)] : List T69))).length c289), (4, .bool x232), (6, .pointer (some ⟨bx273, 0, none⟩)), (17, .slice (some ad269) ((List.drop 0 (List.take (Int.toNat (mnI ((p0).length : Int) 60)) p0))).length c13), (18, .int .i64 (((List.drop 0 (List.take (Int.toNat (mnI ((p0).length : Int) 60)) p0))).length : Int)), (19, .int .i64 x233)]) rfl trivial fun a hk => ?_
      refine wpListIn_nil ?_
      refine then_n ?_
      refine wpIn_region_lit ?_
      refine x_run tab hk (k := 2) (lv := []) (ks := [0, 3, 6, 17, 18, 19, 33]) (e' := [(0, .slice (some ad269) ((List.drop 0 (List.take (Int.toNat (mnI ((p0).length : Int) 60)) p0))).length c13), (3, .slice A288 ((l229 ++ ([(⟨(IntKind.wrap .i64 ((rdD zT49 (List.drop 0 (List.take (Int.toNat (mnI ((p0).length : Int) 60)) p0)) x233).Rune)), (rdD zT49 (List.drop 0 (List.take (Int.toNat (mnI ((p0).length : Int) 60)) p0)) x233).Style⟩ : T69)] : List T69))).length c289), (6, .pointer (some ⟨bx273, 0, none⟩)), (17, .slice (some ad269) ((List.drop 0 (List.take (Int.toNat (mnI ((p0).length : Int) 60)) p0))).length c13), (18, .int .i64 (((List.drop 0 (List.take (Int.toNat (mnI ((p0).length : Int) 60)) p0))).length : Int)), (19, .int .i64 x233), (33, .bool x232)]) rfl trivial fun a hk => ?_
      cases b292 : x232
      · rw [b292] at hk H
        replace H := bifF H
        refine x_run tab hk (k := 13) (lv := []) (ks := [0, 3, 6, 17, 18, 19, 43, 46]) (e' := [(0, .slice (some ad269) ((List.drop 0 (List.take (Int.toNat (mnI ((p0).length : Int) 60)) p0))).length c13), (3, .slice A288 ((l229 ++ ([(⟨(IntKind.wrap .i64 ((rdD zT49 (List.drop 0 (List.take (Int.toNat (mnI ((p0).length : Int) 60)) p0)) x233).Rune)), (rdD zT49 (List.drop 0 (List.take (Int.toNat (mnI ((p0).length : Int) 60)) p0)) x233).Style⟩ : T69)] : List T69))).length c289), (6, .pointer (some ⟨bx273, 0, none⟩)), (17, .slice (some ad269) ((List.drop 0 (List.take (Int.toNat (mnI ((p0).length : Int) 60)) p0))).length c13), (18, .int .i64 (((List.drop 0 (List.take (Int.toNat (mnI ((p0).length : Int) 60)) p0))).length : Int)), (19, .int .i64 x233), (43, .bool false), (46, undef)]) rfl trivial fun a hk => ?_
        refine x_run tab hk (k := 7) (lv := []) (ks := [0, 3, 4, 17, 18, 19]) (e' := [(0, .slice (some ad269) ((List.drop 0 (List.take (Int.toNat (mnI ((p0).length : Int) 60)) p0))).length c13), (3, .slice A288 ((l229 ++ ([(⟨(IntKind.wrap .i64 ((rdD zT49 (List.drop 0 (List.take (Int.toNat (mnI ((p0).length : Int) 60)) p0)) x233).Rune)), (rdD zT49 (List.drop 0 (List.take (Int.toNat (mnI ((p0).length : Int) 60)) p0)) x233).Style⟩ : T69)] : List T69))).length c289), (4, .bool false), (17, .slice (some ad269) ((List.drop 0 (List.take (Int.toNat (mnI ((p0).length : Int) 60)) p0))).length c13), (18, .int .i64 (((List.drop 0 (List.take (Int.toNat (mnI ((p0).length : Int) 60)) p0))).length : Int)), (19, .int .i64 x233)]) rfl trivial fun a hk => ?_
        refine wpListIn_nil ?_
        refine blk_n ?_
        refine then_n ?_
        refine wpIn_region_lit ?_
        refine x_run tab hk (k := 2) (lv := []) (ks := [0, 3, 4, 17, 18, 19]) (e' := [(0, .slice (some ad269) ((List.drop 0 (List.take (Int.toNat (mnI ((p0).length : Int) 60)) p0))).length c13), (3, .slice A288 ((l229 ++ ([(⟨(IntKind.wrap .i64 ((rdD zT49 (List.drop 0 (List.take (Int.toNat (mnI ((p0).length : Int) 60)) p0)) x233).Rune)), (rdD zT49 (List.drop 0 (List.take (Int.toNat (mnI ((p0).length : Int) 60)) p0)) x233).Style⟩ : T69)] : List T69))).length c289), (4, .bool false), (17, .slice (some ad269) ((List.drop 0 (List.take (Int.toNat (mnI ((p0).length : Int) 60)) p0))).length c13), (18, .int .i64 (((List.drop 0 (List.take (Int.toNat (mnI ((p0).length : Int) 60)) p0))).length : Int)), (19, .int .i64 (IntKind.wrap .i64 (x233 + 1)))]) rfl trivial fun a hk => ?_
        refine wpListIn_nil ?_
        refine then_n ?_
        exact ⟨k264, Nat.le_refl _, o285, A288, c289, (l229 ++ ([(⟨(IntKind.wrap .i64 ((rdD zT49 (List.drop 0 (List.take (Int.toNat (mnI ((p0).length : Int) 60)) p0)) x233).Rune)), (rdD zT49 (List.drop 0 (List.take (Int.toNat (mnI ((p0).length : Int) 60)) p0)) x233).Style⟩ : T69)] : List T69)), false, (IntKind.wrap .i64 (x233 + 1)), (by exact Kn.pick (ks := [0, 3, 4, 17, 18, 19]) hk rfl), hs, f14, f290, fg0, fg1, fg2, hc291, (hlp266 ▸ H)⟩
      · rw [b292] at hk H
        replace H := bifT H
        refine x_run tab hk (k := 5) (lv := [.int .i32 ((rdD zT49 (List.drop 0 (List.take (Int.toNat (mnI ((p0).length : Int) 60)) p0)) x233).Rune)]) (ks := [0, 3, 6, 17, 18, 19, 38]) (e' := [(0, .slice (some ad269) ((List.drop 0 (List.take (Int.toNat (mnI ((p0).length : Int) 60)) p0))).length c13), (3, .slice A288 ((l229 ++ ([(⟨(IntKind.wrap .i64 ((rdD zT49 (List.drop 0 (List.take (Int.toNat (mnI ((p0).length : Int) 60)) p0)) x233).Rune)), (rdD zT49 (List.drop 0 (List.take (Int.toNat (mnI ((p0).length : Int) 60)) p0)) x233).Style⟩ : T69)] : List T69))).length c289), (6, .pointer (some ⟨bx273, 0, none⟩)), (17, .slice (some ad269) ((List.drop 0 (List.take (Int.toNat (mnI ((p0).length : Int) 60)) p0))).length c13), (18, .int .i64 (((List.drop 0 (List.take (Int.toNat (mnI ((p0).length : Int) 60)) p0))).length : Int)), (19, .int .i64 x233), (38, .bool (decide (((rdD zT49 (List.drop 0 (List.take (Int.toNat (mnI ((p0).length : Int) 60)) p0)) x233).Rune) ≥ (0 : Int))))]) rfl ⟨(load1 tab rfl ((Bx.cell f274.now 0).trans rfl)), trivial⟩ fun a hk => ?_
        cases b293 : (decide (((rdD zT49 (List.drop 0 (List.take (Int.toNat (mnI ((p0).length : Int) 60)) p0)) x233).Rune) ≥ (0 : Int)))
        · rw [b293] at hk H
          replace H := bifF H
          refine x_run tab hk (k := 13) (lv := []) (ks := [0, 3, 17, 18, 19, 48, 51]) (e' := [(0, .slice (some ad269) ((List.drop 0 (List.take (Int.toNat (mnI ((p0).length : Int) 60)) p0))).length c13), (3, .slice A288 ((l229 ++ ([(⟨(IntKind.wrap .i64 ((rdD zT49 (List.drop 0 (List.take (Int.toNat (mnI ((p0).length : Int) 60)) p0)) x233).Rune)), (rdD zT49 (List.drop 0 (List.take (Int.toNat (mnI ((p0).length : Int) 60)) p0)) x233).Style⟩ : T69)] : List T69))).length c289), (17, .slice (some ad269) ((List.drop 0 (List.take (Int.toNat (mnI ((p0).length : Int) 60)) p0))).length c13), (18, .int .i64 (((List.drop 0 (List.take (Int.toNat (mnI ((p0).length : Int) 60)) p0))).length : Int)), (19, .int .i64 x233), (48, .bool false), (51, undef)]) rfl trivial fun a hk => ?_
          refine x_run tab hk (k := 2) (lv := []) (ks := [0, 3, 4, 17, 18, 19]) (e' := [(0, .slice (some ad269) ((List.drop 0 (List.take (Int.toNat (mnI ((p0).length : Int) 60)) p0))).length c13), (3, .slice A288 ((l229 ++ ([(⟨(IntKind.wrap .i64 ((rdD zT49 (List.drop 0 (List.take (Int.toNat (mnI ((p0).length : Int) 60)) p0)) x233).Rune)), (rdD zT49 (List.drop 0 (List.take (Int.toNat (mnI ((p0).length : Int) 60)) p0)) x233).Style⟩ : T69)] : List T69))).length c289), (4, .bool false), (17, .slice (some ad269) ((List.drop 0 (List.take (Int.toNat (mnI ((p0).length : Int) 60)) p0))).length c13), (18, .int .i64 (((List.drop 0 (List.take (Int.toNat (mnI ((p0).length : Int) 60)) p0))).length : Int)), (19, .int .i64 x233)]) rfl trivial fun a hk => ?_
          refine wpListIn_nil ?_
          refine blk_n ?_
          refine then_n ?_
          refine wpIn_region_lit ?_
          refine x_run tab hk (k := 2) (lv := []) (ks := [0, 3, 4, 17, 18, 19]) (e' := [(0, .slice (some ad269) ((List.drop 0 (List.take (Int.toNat (mnI ((p0).length : Int) 60)) p0))).length c13), (3, .slice A288 ((l229 ++ ([(⟨(IntKind.wrap .i64 ((rdD zT49 (List.drop 0 (List.take (Int.toNat (mnI ((p0).length : Int) 60)) p0)) x233).Rune)), (rdD zT49 (List.drop 0 (List.take (Int.toNat (mnI ((p0).length : Int) 60)) p0)) x233).Style⟩ : T69)] : List T69))).length c289), (4, .bool false), (17, .slice (some ad269) ((List.drop 0 (List.take (Int.toNat (mnI ((p0).length : Int) 60)) p0))).length c13), (18, .int .i64 (((List.drop 0 (List.take (Int.toNat (mnI ((p0).length : Int) 60)) p0))).length : Int)), (19, .int .i64 (IntKind.wrap .i64 (x233 + 1)))]) rfl trivial fun a hk => ?_
          refine wpListIn_nil ?_
          refine then_n ?_
          exact ⟨k264, Nat.le_refl _, o285, A288, c289, (l229 ++ ([(⟨(IntKind.wrap .i64 ((rdD zT49 (List.drop 0 (List.take (Int.toNat (mnI ((p0).length : Int) 60)) p0)) x233).Rune)), (rdD zT49 (List.drop 0 (List.take (Int.toNat (mnI ((p0).length : Int) 60)) p0)) x233).Style⟩ : T69)] : List T69)), false, (IntKind.wrap .i64 (x233 + 1)), (by exact Kn.pick (ks := [0, 3, 4, 17, 18, 19]) hk rfl), hs, f14, f290, fg0, fg1, fg2, hc291, (hlp266 ▸ H)⟩
        · rw [b293] at hk H
          replace H := bifT H
          refine x_run tab hk (k := 5) (lv := [.int .i32 ((rdD zT49 (List.drop 0 (List.take (Int.toNat (mnI ((p0).length : Int) 60)) p0)) x233).Rune)]) (ks := [0, 3, 6, 17, 18, 19, 43]) (e' := [(0, .slice (some ad269) ((List.drop 0 (List.take (Int.toNat (mnI ((p0).length : Int) 60)) p0))).length c13), (3, .slice A288 ((l229 ++ ([(⟨(IntKind.wrap .i64 ((rdD zT49 (List.drop 0 (List.take (Int.toNat (mnI ((p0).length : Int) 60)) p0)) x233).Rune)), (rdD zT49 (List.drop 0 (List.take (Int.toNat (mnI ((p0).length : Int) 60)) p0)) x233).Style⟩ : T69)] : List T69))).length c289), (6, .pointer (some ⟨bx273, 0, none⟩)), (17, .slice (some ad269) ((List.drop 0 (List.take (Int.toNat (mnI ((p0).length : Int) 60)) p0))).length c13), (18, .int .i64 (((List.drop 0 (List.take (Int.toNat (mnI ((p0).length : Int) 60)) p0))).length : Int)), (19, .int .i64 x233), (43, .bool (decide (((rdD zT49 (List.drop 0 (List.take (Int.toNat (mnI ((p0).length : Int) 60)) p0)) x233).Rune) ≤ (1114111 : Int))))]) rfl ⟨(load1 tab rfl ((Bx.cell f274.now 0).trans rfl)), trivial⟩ fun a hk => ?_
          cases b294 : (decide (((rdD zT49 (List.drop 0 (List.take (Int.toNat (mnI ((p0).length : Int) 60)) p0)) x233).Rune) ≤ (1114111 : Int)))
          · rw [b294] at hk H
            replace H := bifF H
            refine x_run tab hk (k := 10) (lv := []) (ks := [0, 3, 4, 17, 18, 19]) (e' := [(0, .slice (some ad269) ((List.drop 0 (List.take (Int.toNat (mnI ((p0).length : Int) 60)) p0))).length c13), (3, .slice A288 ((l229 ++ ([(⟨(IntKind.wrap .i64 ((rdD zT49 (List.drop 0 (List.take (Int.toNat (mnI ((p0).length : Int) 60)) p0)) x233).Rune)), (rdD zT49 (List.drop 0 (List.take (Int.toNat (mnI ((p0).length : Int) 60)) p0)) x233).Style⟩ : T69)] : List T69))).length c289), (4, .bool false), (17, .slice (some ad269) ((List.drop 0 (List.take (Int.toNat (mnI ((p0).length : Int) 60)) p0))).length c13), (18, .int .i64 (((List.drop 0 (List.take (Int.toNat (mnI ((p0).length : Int) 60)) p0))).length : Int)), (19, .int .i64 x233)]) rfl trivial fun a hk => ?_
            refine wpListIn_nil ?_
            refine blk_n ?_
            refine then_n ?_
            refine wpIn_region_lit ?_
            refine x_run tab hk (k := 2) (lv := []) (ks := [0, 3, 4, 17, 18, 19]) (e' := [(0, .slice (some ad269) ((List.drop 0 (List.take (Int.toNat (mnI ((p0).length : Int) 60)) p0))).length c13), (3, .slice A288 ((l229 ++ ([(⟨(IntKind.wrap .i64 ((rdD zT49 (List.drop 0 (List.take (Int.toNat (mnI ((p0).length : Int) 60)) p0)) x233).Rune)), (rdD zT49 (List.drop 0 (List.take (Int.toNat (mnI ((p0).length : Int) 60)) p0)) x233).Style⟩ : T69)] : List T69))).length c289), (4, .bool false), (17, .slice (some ad269) ((List.drop 0 (List.take (Int.toNat (mnI ((p0).length : Int) 60)) p0))).length c13), (18, .int .i64 (((List.drop 0 (List.take (Int.toNat (mnI ((p0).length : Int) 60)) p0))).length : Int)), (19, .int .i64 (IntKind.wrap .i64 (x233 + 1)))]) rfl trivial fun a hk => ?_
            refine wpListIn_nil ?_
            refine then_n ?_
            exact ⟨k264, Nat.le_refl _, o285, A288, c289, (l229 ++ ([(⟨(IntKind.wrap .i64 ((rdD zT49 (List.drop 0 (List.take (Int.toNat (mnI ((p0).length : Int) 60)) p0)) x233).Rune)), (rdD zT49 (List.drop 0 (List.take (Int.toNat (mnI ((p0).length : Int) 60)) p0)) x233).Style⟩ : T69)] : List T69)), false, (IntKind.wrap .i64 (x233 + 1)), (by exact Kn.pick (ks := [0, 3, 4, 17, 18, 19]) hk rfl), hs, f14, f290, fg0, fg1, fg2, hc291, (hlp266 ▸ H)⟩
          · rw [b294] at hk H
            replace H := bifT H
            refine x_run tab hk (k := 5) (lv := [.int .i64 ((rdD zT49 (List.drop 0 (List.take (Int.toNat (mnI ((p0).length : Int) 60)) p0)) x233).Style)]) (ks := [0, 3, 6, 17, 18, 19, 48]) (e' := [(0, .slice (some ad269) ((List.drop 0 (List.take (Int.toNat (mnI ((p0).length : Int) 60)) p0))).length c13), (3, .slice A288 ((l229 ++ ([(⟨(IntKind.wrap .i64 ((rdD zT49 (List.drop 0 (List.take (Int.toNat (mnI ((p0).length : Int) 60)) p0)) x233).Rune)), (rdD zT49 (List.drop 0 (List.take (Int.toNat (mnI ((p0).length : Int) 60)) p0)) x233).Style⟩ : T69)] : List T69))).length c289), (6, .pointer (some ⟨bx273, 0, none⟩)), (17, .slice (some ad269) ((List.drop 0 (List.take (Int.toNat (mnI ((p0).length : Int) 60)) p0))).length c13), (18, .int .i64 (((List.drop 0 (List.take (Int.toNat (mnI ((p0).length : Int) 60)) p0))).length : Int)), (19, .int .i64 x233), (48, .bool (decide (((rdD zT49 (List.drop 0 (List.take (Int.toNat (mnI ((p0).length : Int) 60)) p0)) x233).Style) ≥ (0 : Int))))]) rfl ⟨(load1 tab rfl ((Bx.cell f274.now 1).trans rfl)), trivial⟩ fun a hk => ?_
            cases b295 : (decide (((rdD zT49 (List.drop 0 (List.take (Int.toNat (mnI ((p0).length : Int) 60)) p0)) x233).Style) ≥ (0 : Int)))
            · rw [b295] at hk H
              replace H := bifF H
              refine x_run tab hk (k := 5) (lv := []) (ks := [0, 3, 4, 17, 18, 19]) (e' := [(0, .slice (some ad269) ((List.drop 0 (List.take (Int.toNat (mnI ((p0).length : Int) 60)) p0))).length c13), (3, .slice A288 ((l229 ++ ([(⟨(IntKind.wrap .i64 ((rdD zT49 (List.drop 0 (List.take (Int.toNat (mnI ((p0).length : Int) 60)) p0)) x233).Rune)), (rdD zT49 (List.drop 0 (List.take (Int.toNat (mnI ((p0).length : Int) 60)) p0)) x233).Style⟩ : T69)] : List T69))).length c289), (4, .bool false), (17, .slice (some ad269) ((List.drop 0 (List.take (Int.toNat (mnI ((p0).length : Int) 60)) p0))).length c13), (18, .int .i64 (((List.drop 0 (List.take (Int.toNat (mnI ((p0).length : Int) 60)) p0))).length : Int)), (19, .int .i64 x233)]) rfl trivial fun a hk => ?_
              refine wpListIn_nil ?_
              refine blk_n ?_
              refine then_n ?_
              refine wpIn_region_lit ?_
              refine x_run tab hk (k := 2) (lv := []) (ks := [0, 3, 4, 17, 18, 19]) (e' := [(0, .slice (some ad269) ((List.drop 0 (List.take (Int.toNat (mnI ((p0).length : Int) 60)) p0))).length c13), (3, .slice A288 ((l229 ++ ([(⟨(IntKind.wrap .i64 ((rdD zT49 (List.drop 0 (List.take (Int.toNat (mnI ((p0).length : Int) 60)) p0)) x233).Rune)), (rdD zT49 (List.drop 0 (List.take (Int.toNat (mnI ((p0).length : Int) 60)) p0)) x233).Style⟩ : T69)] : List T69))).length c289), (4, .bool false), (17, .slice (some ad269) ((List.drop 0 (List.take (Int.toNat (mnI ((p0).length : Int) 60)) p0))).length c13), (18, .int .i64 (((List.drop 0 (List.take (Int.toNat (mnI ((p0).length : Int) 60)) p0))).length : Int)), (19, .int .i64 (IntKind.wrap .i64 (x233 + 1)))]) rfl trivial fun a hk => ?_
              refine wpListIn_nil ?_
              refine then_n ?_
              exact ⟨k264, Nat.le_refl _, o285, A288, c289, (l229 ++ ([(⟨(IntKind.wrap .i64 ((rdD zT49 (List.drop 0 (List.take (Int.toNat (mnI ((p0).length : Int) 60)) p0)) x233).Rune)), (rdD zT49 (List.drop 0 (List.take (Int.toNat (mnI ((p0).length : Int) 60)) p0)) x233).Style⟩ : T69)] : List T69)), false, (IntKind.wrap .i64 (x233 + 1)), (by exact Kn.pick (ks := [0, 3, 4, 17, 18, 19]) hk rfl), hs, f14, f290, fg0, fg1, fg2, hc291, (hlp266 ▸ H)⟩
            · rw [b295] at hk H
              replace H := bifT H
              refine x_run tab hk (k := 5) (lv := [.int .i64 ((rdD zT49 (List.drop 0 (List.take (Int.toNat (mnI ((p0).length : Int) 60)) p0)) x233).Style)]) (ks := [0, 3, 4, 17, 18, 19]) (e' := [(0, .slice (some ad269) ((List.drop 0 (List.take (Int.toNat (mnI ((p0).length : Int) 60)) p0))).length c13), (3, .slice A288 ((l229 ++ ([(⟨(IntKind.wrap .i64 ((rdD zT49 (List.drop 0 (List.take (Int.toNat (mnI ((p0).length : Int) 60)) p0)) x233).Rune)), (rdD zT49 (List.drop 0 (List.take (Int.toNat (mnI ((p0).length : Int) 60)) p0)) x233).Style⟩ : T69)] : List T69))).length c289), (4, .bool (decide (((rdD zT49 (List.drop 0 (List.take (Int.toNat (mnI ((p0).length : Int) 60)) p0)) x233).Style) ≤ (647 : Int)))), (17, .slice (some ad269) ((List.drop 0 (List.take (Int.toNat (mnI ((p0).length : Int) 60)) p0))).length c13), (18, .int .i64 (((List.drop 0 (List.take (Int.toNat (mnI ((p0).length : Int) 60)) p0))).length : Int)), (19, .int .i64 x233)]) rfl ⟨(load1 tab rfl ((Bx.cell f274.now 1).trans rfl)), trivial⟩ fun a hk => ?_
              refine wpListIn_nil ?_
              refine blk_n ?_
              refine then_n ?_
              refine wpIn_region_lit ?_
              refine x_run tab hk (k := 2) (lv := []) (ks := [0, 3, 4, 17, 18, 19]) (e' := [(0, .slice (some ad269) ((List.drop 0 (List.take (Int.toNat (mnI ((p0).length : Int) 60)) p0))).length c13), (3, .slice A288 ((l229 ++ ([(⟨(IntKind.wrap .i64 ((rdD zT49 (List.drop 0 (List.take (Int.toNat (mnI ((p0).length : Int) 60)) p0)) x233).Rune)), (rdD zT49 (List.drop 0 (List.take (Int.toNat (mnI ((p0).length : Int) 60)) p0)) x233).Style⟩ : T69)] : List T69))).length c289), (4, .bool (decide (((rdD zT49 (List.drop 0 (List.take (Int.toNat (mnI ((p0).length : Int) 60)) p0)) x233).Style) ≤ (647 : Int)))), (17, .slice (some ad269) ((List.drop 0 (List.take (Int.toNat (mnI ((p0).length : Int) 60)) p0))).length c13), (18, .int .i64 (((List.drop 0 (List.take (Int.toNat (mnI ((p0).length : Int) 60)) p0))).length : Int)), (19, .int .i64 (IntKind.wrap .i64 (x233 + 1)))]) rfl trivial fun a hk => ?_
              refine wpListIn_nil ?_
              refine then_n ?_
              exact ⟨k264, Nat.le_refl _, o285, A288, c289, (l229 ++ ([(⟨(IntKind.wrap .i64 ((rdD zT49 (List.drop 0 (List.take (Int.toNat (mnI ((p0).length : Int) 60)) p0)) x233).Rune)), (rdD zT49 (List.drop 0 (List.take (Int.toNat (mnI ((p0).length : Int) 60)) p0)) x233).Style⟩ : T69)] : List T69)), (decide (((rdD zT49 (List.drop 0 (List.take (Int.toNat (mnI ((p0).length : Int) 60)) p0)) x233).Style) ≤ (647 : Int))), (IntKind.wrap .i64 (x233 + 1)), (by exact Kn.pick (ks := [0, 3, 4, 17, 18, 19]) hk rfl), hs, f14, f290, fg0, fg1, fg2, hc291, (hlp266 ▸ H)⟩
  · rw [b9] at hk H
    replace H := bifT H
    refine x_if hk (b := true) rfl ?_
    refine (show Code.wpIn _ _ _ _ _ _ _ from ?_)
    refine x_seq ?_
    refine wpIn_region_lit ?_
    refine x_run tab hk (k := 1) (lv := []) (ks := [2]) (e' := [(2, .bool false)]) rfl trivial fun a hk => ?_
    refine wpListIn_nil ?_
    refine then_n ?_
    refine wpIn_ret ?_
    refine then_r ?_
    obtain rfl := Option.some.inj H
    exact x_retG hk (rs := [.tmp 2]) (vs := [.bool false]) rfl ⟨rfl, trivial⟩ ⟨fun b_ => if b_ < w.heap.size then o b_ else (fun _ => 0) (o7 b_), rfl, hs.close0 o (fun _ => 0)⟩

end Go.Proofs.YthmdgjdgnfoloaaDoor
