/- Walks, printed by an own program: the machine's calls compute the plain functions. -/
import Derived.Test.YthmdgjdgnfoloaaDoorW3
set_option linter.unusedVariables false
set_option linter.unusedSimpArgs false
namespace Go.Proofs.YthmdgjdgnfoloaaDoor
open Go Go.Proofs.XC
/-! (*tidewrack/book.Book).Chain -/
theorem book_Book_Chain_calls (bp0 : Nat) (Ap0_0 : Option Addr) (cp0_0 : Nat) (Ap0_1 : Option Addr) (cp0_1 : Nat) (Ap0_2 : Option Addr) (cp0_2 : Nat) (p0 : T75) (p1 : Int) (w : World) (o : Nat → Nat) (LF : Nat) (Lp0 : Nat) (hp0 : Ft (Bx bp0 76 [.slice Ap0_0 (p0.l).length cp0_0, .slice Ap0_1 (p0.chains).length cp0_1, .slice Ap0_2 (p0.begun).length cp0_2]) w o Lp0) (Lp0_0 : Nat) (hp0_0 : NRd (dRows ET49) Ap0_0 p0.l w o Lp0_0 LF) (hcp0_0 : (p0.l).length ≤ cp0_0) (Lp0_1 : Nat) (hp0_1 : Ft (RdC (encInt .i64) Ap0_1 p0.chains) w o Lp0_1) (hcp0_1 : (p0.chains).length ≤ cp0_1) (Lp0_2 : Nat) (hp0_2 : Ft (RdC ET49 Ap0_2 p0.begun) w o Lp0_2) (hcp0_2 : (p0.begun).length ≤ cp0_2) (hd0 : ([LF] : List Nat).Nodup) (hd1 : Lp0_0 ∉ [LF]) (hd2 : Lp0_1 ∉ [LF]) (hd3 : Lp0_2 ∉ [LF]) (hd4 : Lp0 ∉ [LF]) (r : Int) (H : book_Book_Chain p0 p1 = some r) :
    Calls Tryd.prog 21 #[.pointer (some ⟨bp0, 0, none⟩), .int .i64 p1] w (Ret fun v_ w' => ∃ o' : Nat → Nat, v_ = .int .i64 r ∧ St [] w o w' o') := by
  refine x_enter (vs := [.pointer (some ⟨bp0, 0, none⟩), .int .i64 p1]) Tryd.func21 rfl rfl rfl fun a hk => ?_
  obtain ⟨oi, hs0, h0, h1, hob, hoz, hoa⟩ := St.startM2 w o (m := 1) hd0 rfl
  have hs := hs0 []
  have f900000 := hp0_0.conv (fun P_ => h0 P_ _ hd1) (fun _ h_ => h1 0 1 h_ rfl rfl)
  have f900001 := h0 _ _ hd2 hp0_1
  have f900002 := h0 _ _ hd3 hp0_2
  have f900019 := h0 _ _ hd4 hp0
  clear h0 h1 hs0
  rw [book_Book_Chain] at H
  refine x_seq ?_
  refine wpIn_region_lit ?_
  refine x_run tab hk (k := 1) (lv := []) (ks := [0, 1]) (e' := [(0, .pointer (some ⟨bp0, 0, none⟩)), (1, .int .i64 p1)]) rfl trivial fun a hk => ?_
  refine wpListIn_nil ?_
  refine then_n ?_
  refine x_seq ?_
  obtain ⟨q3, H⟩ := ifS H
  obtain ⟨ad4, hAad4⟩ := RdC.addr f900001.now q3
  have hk_C := hk
  have f900000_C := f900000
  have f900001_C := f900001
  have f900002_C := f900002
  have f900019_C := f900019
  subst hAad4
  have hk := hk_C
  clear hk_C
  have f900000 := f900000_C
  clear f900000_C
  have f900001 := f900001_C
  clear f900001_C
  have f900002 := f900002_C
  clear f900002_C
  have f900019 := f900019_C
  clear f900019_C
  refine xd_begin (o := oi) (fun W_ => (RdC (encInt .i64) (some ad4) p0.chains) W_ ∧ (Bx bp0 76 [.slice Ap0_0 (p0.l).length cp0_0, .slice (some ad4) (p0.chains).length cp0_1, .slice Ap0_2 (p0.begun).length cp0_2]) W_ ∧ True) mixed rfl rfl fun w5 st6 => ?_
  replace f900000 := f900000.st st6 (by decide)
  replace f900001 := f900001.st st6 (by decide)
  replace f900002 := f900002.st st6 (by decide)
  replace f900019 := f900019.st st6 (by decide)
  replace hs := hs.locQ st6 hob rfl
  refine xd_take tab hk (k := 0) (is := [0, 1, 2, 3, 4, 5, 6, 7, 8, 9, 10, 11, 12, 13, 14]) (ls' := #[true, true, true, true, true, true, true, true, true, true, true, true, true, true, true]) (lv := [.slice (some ad4) (p0.chains).length cp0_1, .slice Ap0_0 (p0.l).length cp0_0, .int .i64 (rdD 0 p0.chains (mxI 0 (mnI p1 ((p0.l).length : Int))))]) (ks := [4]) (e' := [(4, .int .i64 (rdD 0 p0.chains (mxI 0 (mnI p1 ((p0.l).length : Int)))))]) (by kernel_rfl) rfl rfl (by kernel_rfl) (np_then np_body) ⟨f900001.now, f900019.now, trivial⟩ (fun W_ hS => ⟨(load1 tab rfl ((Bx.cell hS.2.1 1).trans rfl)), (load1 tab rfl ((Bx.cell hS.2.1 0).trans rfl)), q3, (load1 tab rfl (RdC.at0 (E := (encInt .i64)) (d := 0) (i := (mxI 0 (mnI p1 ((p0.l).length : Int)))) hS.1 q3 rfl)), trivial⟩) fun a hk => ?_
  refine xd_done (by kernel_rfl) ?_
  refine then_n ?_
  refine wpIn_ret ?_
  obtain rfl := Option.some.inj H
  exact x_retG hk (rs := [.tmp 4]) (vs := [.int .i64 (rdD 0 p0.chains (mxI 0 (mnI p1 ((p0.l).length : Int))))]) rfl ⟨rfl, trivial⟩ ⟨fun b_ => if b_ < w.heap.size then o b_ else (fun l_ => if l_ = 1 then LF else 0) (oi b_), rfl, hs.closeF (Lm := []) (Sh := []) hoa rfl (fun l_ => if l_ = 1 then LF else 0)⟩

/-! tidewrack/tidewracklaw12.BookStays -/
set_option maxHeartbeats 4000000 in
theorem tidewracklaw12_BookStays_calls (K : Nat) (Ap0 : Option Addr) (cp0 : Nat) (p0 : List T26) (Ap1 : Option Addr) (cp1 : Nat) (p1 : List T26) (w : World) (o : Nat → Nat) (LF : Nat) (Lg0 : Nat) (hg0 : Ft (RdC ET111 (some ⟨0, 0, none⟩) glob0) w o Lg0) (Lg1 : Nat) (hg1 : Ft (RdC ET111 (some ⟨1, 0, none⟩) glob1) w o Lg1) (Lg2 : Nat) (hg2 : Ft (RdC (encInt .u32) (some ⟨2, 0, none⟩) glob2) w o Lg2) (Lp0 : Nat) (hp0 : NRd dT26 Ap0 p0 w o Lp0 LF) (hcp0 : (p0).length ≤ cp0) (Lp1 : Nat) (hp1 : NRd dT26 Ap1 p1 w o Lp1 LF) (hcp1 : (p1).length ≤ cp1) (hd0 : ([LF] : List Nat).Nodup) (hd1 : Lg0 ∉ [LF]) (hd2 : Lg1 ∉ [LF]) (hd3 : Lg2 ∉ [LF]) (hd4 : Lp0 ∉ [LF]) (hd5 : Lp1 ∉ [LF]) (r : Bool) (H : tidewracklaw12_BookStays K p0 p1 = some r) :
    Calls Tryd.prog 6 #[.slice Ap0 (p0).length cp0, .slice Ap1 (p1).length cp1] w (Ret fun v_ w' => ∃ o' : Nat → Nat, v_ = .bool r ∧ St [] w o w' o') := by
  refine x_enter (vs := [.slice Ap0 (p0).length cp0, .slice Ap1 (p1).length cp1]) Tryd.func6 rfl rfl rfl fun a hk => ?_
  obtain ⟨oi, hs0, h0, h1, hob, hoz, hoa⟩ := St.startM2 w o (m := 1) hd0 rfl
  have hs := hs0 []
  have fg0 := h0 _ _ hd1 hg0
  have fg1 := h0 _ _ hd2 hg1
  have fg2 := h0 _ _ hd3 hg2
  have f900000 := hp0.conv (fun P_ => h0 P_ _ hd4) (fun _ h_ => h1 0 1 h_ rfl rfl)
  have f900020 := hp1.conv (fun P_ => h0 P_ _ hd5) (fun _ h_ => h1 0 1 h_ rfl rfl)
  clear h0 h1 hs0
  rw [tidewracklaw12_BookStays] at H
  refine x_seq ?_
  refine wpIn_region_lit ?_
  refine x_run tab hk (k := 1) (lv := []) (ks := [0, 1]) (e' := [(0, .slice Ap0 (p0).length cp0), (1, .slice Ap1 (p1).length cp1)]) rfl trivial fun a hk => ?_
  refine wpListIn_nil ?_
  refine then_n ?_
  refine x_seq ?_
  refine x_seq ?_
  refine wpIn_region_lit ?_
  refine x_op hk rfl ?_
  obtain ⟨t4, hc5, H⟩ := bindS H
  refine op_call hk ent_9 (vs := []) rfl (tidewracklaw12_awake_calls K  _ oi 0 fg0 0 fg1 0 fg2   _ hc5) ?_
  rintro _ w6 ⟨o7, rfl, st8⟩
  replace f900000 := f900000.st st8 (by decide)
  replace f900020 := f900020.st st8 (by decide)
  replace fg0 := fg0.st st8 (by decide)
  replace fg1 := fg1.st st8 (by decide)
  replace fg2 := fg2.st st8 (by decide)
  replace hs := hs.locQ st8 hob rfl
  have hk := hk.put 17 (.bool t4) rfl
  refine x_run tab hk (k := 1) (lv := []) (ks := [0, 1, 18]) (e' := [(0, .slice Ap0 (p0).length cp0), (1, .slice Ap1 (p1).length cp1), (18, .bool (!t4))]) rfl trivial fun a hk => ?_
  refine wpListIn_nil ?_
  refine then_n ?_
  cases b9 : (!t4)
  · rw [b9] at hk H
    replace H := bifF H
    refine x_if hk (b := false) rfl ?_
    refine (show Code.wpIn _ _ _ _ _ _ _ from ?_)
    refine wpIn_skip ?_
    refine then_n ?_
    refine x_seq ?_
    refine wpIn_region_lit ?_
    refine x_op hk rfl ?_
    obtain ⟨t13, hc14, H⟩ := bindS H
    refine op_call hk ent_10 (vs := []) rfl (book_New_calls  _ o7 1 (by decide) 2 3 4 5  _ hc14) ?_
    rintro _ w15 ⟨o16, bx18, A20, c21, A24, c25, A28, c29, rfl, st17, f19, f22, hc23, f26, hc27, f30, hc31⟩
    replace f900000 := f900000.st st17 (by decide)
    replace f900020 := f900020.st st17 (by decide)
    replace fg0 := fg0.st st17 (by decide)
    replace fg1 := fg1.st st17 (by decide)
    replace fg2 := fg2.st st17 (by decide)
    replace hs := hs.locQ st17 hob rfl
    have hk := hk.put 19 (.pointer (some ⟨bx18, 0, none⟩)) rfl
    refine x_run tab hk (k := 1) (lv := []) (ks := [0, 1, 5]) (e' := [(0, .slice Ap0 (p0).length cp0), (1, .slice Ap1 (p1).length cp1), (5, .pointer (some ⟨bx18, 0, none⟩))]) rfl trivial fun a hk => ?_
    refine wpListIn_nil ?_
    refine then_n ?_
    refine x_seq ?_
    refine x_seq ?_
    refine wpIn_region_lit ?_
    refine x_run tab hk (k := 2) (lv := []) (ks := [0, 1, 5, 21]) (e' := [(0, .slice Ap0 (p0).length cp0), (1, .slice Ap1 (p1).length cp1), (5, .pointer (some ⟨bx18, 0, none⟩)), (21, .bool false)]) rfl trivial fun a hk => ?_
    refine wpListIn_nil ?_
    refine then_n ?_
    refine x_if hk (b := false) rfl ?_
    refine (show Code.wpIn _ _ _ _ _ _ _ from ?_)
    refine wpIn_skip ?_
    refine then_n ?_
    refine x_seq ?_
    refine wpIn_region_lit ?_
    refine x_run tab hk (k := 2) (lv := []) (ks := [1, 5, 22, 23]) (e' := [(1, .slice Ap1 (p1).length cp1), (5, .pointer (some ⟨bx18, 0, none⟩)), (22, .pointer (some ⟨bx18, 0, none⟩)), (23, .slice Ap0 (p0).length cp0)]) rfl trivial fun a hk => ?_
    refine x_op hk rfl ?_
    obtain ⟨t35, hc36, H⟩ := bindS H
    refine op_call hk ent_19 (vs := [.slice Ap0 (p0).length cp0, .int .i64 12]) rfl (tidewracklaw12_Rows_calls K Ap0 cp0 p0 12 _ o16 1 _ f900000 hcp0 (by decide) (by decide) 6  _ hc36) ?_
    rintro _ w37 ⟨o38, A40, c41, rfl, st39, f42, hc43⟩
    replace f19 := f19.st st39 (by decide)
    replace f22 := f22.st st39 (by decide)
    replace f26 := f26.st st39 (by decide)
    replace f30 := f30.st st39 (by decide)
    replace f900000 := f900000.st st39 (by decide)
    replace f900020 := f900020.st st39 (by decide)
    replace fg0 := fg0.st st39 (by decide)
    replace fg1 := fg1.st st39 (by decide)
    replace fg2 := fg2.st st39 (by decide)
    replace hs := hs.locQ st39 hob rfl
    have hk := hk.put 24 (.slice A40 (t35).length c41) rfl
    refine x_op hk rfl ?_
    obtain ⟨t47, hc48, H⟩ := bindS H
    refine op_call hk ent_12 (vs := [.pointer (some ⟨bx18, 0, none⟩), .slice A40 (t35).length c41]) rfl (book_Book_Add_calls K bx18 A20 c21 A24 c25 A28 c29 t13 A40 c41 t35 _ o38 1 0 fg2 2 f19 3 f22 hc23 4 f26 hc27 5 f30 hc31 _ f42.rd hc43 (by decide) (by decide) (by decide)   _ hc48) ?_
    rintro _ w49 ⟨o50, A53, c54, A57, c58, A61, c62, rfl, st51, f52, f55, hc56, f59, hc60, f63, hc64⟩
    replace f42 := f42.st st51 (by decide)
    replace f900000 := f900000.st st51 (by decide)
    replace f900020 := f900020.st st51 (by decide)
    replace fg0 := fg0.st st51 (by decide)
    replace fg1 := fg1.st st51 (by decide)
    replace fg2 := fg2.st st51 (by decide)
    replace hs := hs.locQ st51 hob rfl
    have hk := hk.put 25 (.int .i64 t47.1) rfl
    refine wpListIn_nil ?_
    refine then_n ?_
    refine x_seq ?_
    refine wpIn_region_lit ?_
    refine x_run tab hk (k := 1) (lv := []) (ks := [1, 5, 26]) (e' := [(1, .slice Ap1 (p1).length cp1), (5, .pointer (some ⟨bx18, 0, none⟩)), (26, .pointer (some ⟨bx18, 0, none⟩))]) rfl trivial fun a hk => ?_
    refine x_op hk rfl ?_
    obtain ⟨t68, hc69, H⟩ := bindS H
    refine op_call hk ent_16 (vs := [.pointer (some ⟨bx18, 0, none⟩)]) rfl (book_Book_Len_calls bx18 A53 c54 A57 c58 A61 c62 t47.2 _ o50 1 2 f52 _ f55.rd hc56 _ (f59.imp fun _ h_ => Own.rd h_) hc60 _ (f63.imp fun _ h_ => Own.rd h_) hc64 (by decide) (by decide) (by decide) (by decide) (by decide)   _ hc69) ?_
    rintro _ w70 ⟨o71, rfl, st72⟩
    replace f52 := f52.st st72 (by decide)
    replace f55 := f55.st st72 (by decide)
    replace f59 := f59.st st72 (by decide)
    replace f63 := f63.st st72 (by decide)
    replace f900020 := f900020.st st72 (by decide)
    replace fg0 := fg0.st st72 (by decide)
    replace fg1 := fg1.st st72 (by decide)
    replace fg2 := fg2.st st72 (by decide)
    replace hs := hs.locQ st72 hob rfl
    have hk := hk.put 27 (.int .i64 t68) rfl
    refine x_run tab hk (k := 1) (lv := []) (ks := [1, 5, 6]) (e' := [(1, .slice Ap1 (p1).length cp1), (5, .pointer (some ⟨bx18, 0, none⟩)), (6, .int .i64 t68)]) rfl trivial fun a hk => ?_
    refine wpListIn_nil ?_
    refine then_n ?_
    refine x_seq ?_
    refine wpIn_region_lit ?_
    refine x_run tab hk (k := 2) (lv := []) (ks := [1, 5, 6, 29]) (e' := [(1, .slice Ap1 (p1).length cp1), (5, .pointer (some ⟨bx18, 0, none⟩)), (6, .int .i64 t68), (29, .int .i64 (IntKind.wrap .i64 (t68 + 1)))]) rfl trivial fun a hk => ?_
    refine x_op hk rfl ?_
    obtain ⟨q76, H⟩ := ifS H
    obtain ⟨q77, H⟩ := ifS H
    refine op_make (o := o71) (E := (encInt .i64)) (zx := 0) tab hk rfl rfl rfl rfl rfl q76 q77 7 fun A78 c79 w73 o74 st75 f80 hc81 => ?_
    replace f52 := f52.st st75 (by decide)
    replace f55 := f55.st st75 (by decide)
    replace f59 := f59.st st75 (by decide)
    replace f63 := f63.st st75 (by decide)
    replace f900020 := f900020.st st75 (by decide)
    replace fg0 := fg0.st st75 (by decide)
    replace fg1 := fg1.st st75 (by decide)
    replace fg2 := fg2.st st75 (by decide)
    replace hs := hs.locQ st75 hob rfl
    have hk := hk.put 30 (.slice A78 ((List.replicate (Int.toNat (IntKind.wrap .i64 (t68 + 1))) (0 : Int))).length c79) rfl
    refine x_run tab hk (k := 1) (lv := []) (ks := [1, 5, 6, 7]) (e' := [(1, .slice Ap1 (p1).length cp1), (5, .pointer (some ⟨bx18, 0, none⟩)), (6, .int .i64 t68), (7, .slice A78 ((List.replicate (Int.toNat (IntKind.wrap .i64 (t68 + 1))) (0 : Int))).length c79)]) rfl trivial fun a hk => ?_
    refine wpListIn_nil ?_
    refine then_n ?_
    refine x_seq ?_
    refine wpIn_region_lit ?_
    refine x_run tab hk (k := 1) (lv := []) (ks := [1, 5, 6, 7, 31]) (e' := [(1, .slice Ap1 (p1).length cp1), (5, .pointer (some ⟨bx18, 0, none⟩)), (6, .int .i64 t68), (7, .slice A78 ((List.replicate (Int.toNat (IntKind.wrap .i64 (t68 + 1))) (0 : Int))).length c79), (31, .int .i64 t68)]) rfl trivial fun a hk => ?_
    refine x_op hk rfl ?_
    obtain ⟨q85, H⟩ := ifS H
    obtain ⟨q86, H⟩ := ifS H
    refine op_make (o := o74) (E := (encInt .i64)) (zx := 0) tab hk rfl rfl rfl rfl rfl q85 q86 8 fun A87 c88 w82 o83 st84 f89 hc90 => ?_
    replace f52 := f52.st st84 (by decide)
    replace f55 := f55.st st84 (by decide)
    replace f59 := f59.st st84 (by decide)
    replace f63 := f63.st st84 (by decide)
    replace f80 := f80.st st84 (by decide)
    replace f900020 := f900020.st st84 (by decide)
    replace fg0 := fg0.st st84 (by decide)
    replace fg1 := fg1.st st84 (by decide)
    replace fg2 := fg2.st st84 (by decide)
    replace hs := hs.locQ st84 hob rfl
    have hk := hk.put 32 (.slice A87 ((List.replicate (Int.toNat t68) (0 : Int))).length c88) rfl
    refine x_run tab hk (k := 1) (lv := []) (ks := [1, 5, 6, 7, 8]) (e' := [(1, .slice Ap1 (p1).length cp1), (5, .pointer (some ⟨bx18, 0, none⟩)), (6, .int .i64 t68), (7, .slice A78 ((List.replicate (Int.toNat (IntKind.wrap .i64 (t68 + 1))) (0 : Int))).length c79), (8, .slice A87 ((List.replicate (Int.toNat t68) (0 : Int))).length c88)]) rfl trivial fun a hk => ?_
    refine wpListIn_nil ?_
    refine then_n ?_
    refine x_mid (fun a_ w_ => ∃ o160 : Nat → Nat, ∃ A161 : Option Addr, ∃ c162 : Nat, ∃ l163 : List Int, Kn 105 a_ [(1, .slice Ap1 (p1).length cp1), (5, .pointer (some ⟨bx18, 0, none⟩)), (6, .int .i64 t68), (7, .slice A161 (l163).length c162), (8, .slice A87 ((List.replicate (Int.toNat t68) (0 : Int))).length c88)] ∧ St [] w oi w_ o160 ∧ Ft (Own (encInt .i64) 3 (.slice A161 (l163).length c162) l163) w_ o160 25 ∧ Ft (Bx bx18 76 [.slice A53 (t47.2.l).length c54, .slice A57 (t47.2.chains).length c58, .slice A61 (t47.2.begun).length c62]) w_ o160 24 ∧ NOwn (dRows ET49) 40 A53 c54 t47.2.l w_ o160 21 1 ∧ Ft (Own (encInt .i64) 3 (.slice A57 (t47.2.chains).length c58) t47.2.chains) w_ o160 22 ∧ Ft (Own ET49 50 (.slice A61 (t47.2.begun).length c62) t47.2.begun) w_ o160 23 ∧ Ft (Own (encInt .i64) 3 (.slice A87 ((List.replicate (Int.toNat t68) (0 : Int))).length c88) (List.replicate (Int.toNat t68) (0 : Int))) w_ o160 26 ∧ NRd dT26 Ap1 p1 w_ o160 0 1 ∧ Ft (RdC ET111 (some ⟨0, 0, none⟩) glob0) w_ o160 0 ∧ Ft (RdC ET111 (some ⟨1, 0, none⟩) glob1) w_ o160 0 ∧ Ft (RdC (encInt .u32) (some ⟨2, 0, none⟩) glob2) w_ o160 0 ∧ (l163).length ≤ c162 ∧ tidewracklaw12_BookStays_j1 K p1 t47 t68 l163 = some r) ?_ ?_
    rotate_left
    · rintro a w166 ⟨o160, A161, c162, l163, hk, hs, f164, f52, f55, f59, f63, f89, f900020, fg0, fg1, fg2, hc165, H⟩
      rw [tidewracklaw12_BookStays_j1] at H
      refine x_mid (fun a_ w_ => ∃ o248 : Nat → Nat, ∃ A249 : Option Addr, ∃ c250 : Nat, ∃ l251 : List Int, Kn 105 a_ [(1, .slice Ap1 (p1).length cp1), (5, .pointer (some ⟨bx18, 0, none⟩)), (6, .int .i64 t68), (7, .slice A161 (l163).length c162), (8, .slice A249 (l251).length c250)] ∧ St [] w oi w_ o248 ∧ Ft (Own (encInt .i64) 3 (.slice A161 (l163).length c162) l163) w_ o248 46 ∧ Ft (Own (encInt .i64) 3 (.slice A249 (l251).length c250) l251) w_ o248 47 ∧ Ft (Bx bx18 76 [.slice A53 (t47.2.l).length c54, .slice A57 (t47.2.chains).length c58, .slice A61 (t47.2.begun).length c62]) w_ o248 45 ∧ NOwn (dRows ET49) 40 A53 c54 t47.2.l w_ o248 42 1 ∧ Ft (Own (encInt .i64) 3 (.slice A57 (t47.2.chains).length c58) t47.2.chains) w_ o248 43 ∧ Ft (Own ET49 50 (.slice A61 (t47.2.begun).length c62) t47.2.begun) w_ o248 44 ∧ NRd dT26 Ap1 p1 w_ o248 0 1 ∧ Ft (RdC ET111 (some ⟨0, 0, none⟩) glob0) w_ o248 0 ∧ Ft (RdC ET111 (some ⟨1, 0, none⟩) glob1) w_ o248 0 ∧ Ft (RdC (encInt .u32) (some ⟨2, 0, none⟩) glob2) w_ o248 0 ∧ (l251).length ≤ c250 ∧ tidewracklaw12_BookStays_j2 K p1 t47 t68 l163 l251 = some r) ?_ ?_
      rotate_left
      · rintro a w254 ⟨o248, A249, c250, l251, hk, hs, f164, f252, f52, f55, f59, f63, f900020, fg0, fg1, fg2, hc253, H⟩
        rw [tidewracklaw12_BookStays_j2] at H
        refine x_seq ?_
        refine wpIn_region_lit ?_
        refine x_run tab hk (k := 2) (lv := []) (ks := [5, 6, 7, 8, 61, 62]) (e' := [(5, .pointer (some ⟨bx18, 0, none⟩)), (6, .int .i64 t68), (7, .slice A161 (l163).length c162), (8, .slice A249 (l251).length c250), (61, .pointer (some ⟨bx18, 0, none⟩)), (62, .slice Ap1 (p1).length cp1)]) rfl trivial fun a hk => ?_
        refine x_op hk rfl ?_
        obtain ⟨t258, hc259, H⟩ := bindS H
        refine op_call hk ent_19 (vs := [.slice Ap1 (p1).length cp1, .int .i64 12]) rfl (tidewracklaw12_Rows_calls K Ap1 cp1 p1 12 _ o248 1 _ f900020 hcp1 (by decide) (by decide) 48  _ hc259) ?_
        rintro _ w260 ⟨o261, A263, c264, rfl, st262, f265, hc266⟩
        replace f164 := f164.st st262 (by decide)
        replace f252 := f252.st st262 (by decide)
        replace f52 := f52.st st262 (by decide)
        replace f55 := f55.st st262 (by decide)
        replace f59 := f59.st st262 (by decide)
        replace f63 := f63.st st262 (by decide)
        replace f900020 := f900020.st st262 (by decide)
        replace fg0 := fg0.st st262 (by decide)
        replace fg1 := fg1.st st262 (by decide)
        replace fg2 := fg2.st st262 (by decide)
        replace hs := hs.locQ st262 hob rfl
        have hk := hk.put 63 (.slice A263 (t258).length c264) rfl
        refine x_op hk rfl ?_
        obtain ⟨t270, hc271, H⟩ := bindS H
        refine op_call hk ent_12 (vs := [.pointer (some ⟨bx18, 0, none⟩), .slice A263 (t258).length c264]) rfl (book_Book_Add_calls K bx18 A53 c54 A57 c58 A61 c62 t47.2 A263 c264 t258 _ o261 1 0 fg2 45 f52 42 f55 hc56 43 f59 hc60 44 f63 hc64 _ f265.rd hc266 (by decide) (by decide) (by decide)   _ hc271) ?_
        rintro _ w272 ⟨o273, A276, c277, A280, c281, A284, c285, rfl, st274, f275, f278, hc279, f282, hc283, f286, hc287⟩
        replace f164 := f164.st st274 (by decide)
        replace f252 := f252.st st274 (by decide)
        replace f265 := f265.st st274 (by decide)
        replace f900020 := f900020.st st274 (by decide)
        replace fg0 := fg0.st st274 (by decide)
        replace fg1 := fg1.st st274 (by decide)
        replace fg2 := fg2.st st274 (by decide)
        replace hs := hs.locQ st274 hob rfl
        have hk := hk.put 64 (.int .i64 t270.1) rfl
        refine wpListIn_nil ?_
        refine then_n ?_
        refine x_seq ?_
        refine x_seq ?_
        refine wpIn_region_lit ?_
        refine x_run tab hk (k := 1) (lv := []) (ks := [5, 6, 7, 8, 65]) (e' := [(5, .pointer (some ⟨bx18, 0, none⟩)), (6, .int .i64 t68), (7, .slice A161 (l163).length c162), (8, .slice A249 (l251).length c250), (65, .pointer (some ⟨bx18, 0, none⟩))]) rfl trivial fun a hk => ?_
        refine x_op hk rfl ?_
        obtain ⟨t291, hc292, H⟩ := bindS H
        refine op_call hk ent_16 (vs := [.pointer (some ⟨bx18, 0, none⟩)]) rfl (book_Book_Len_calls bx18 A276 c277 A280 c281 A284 c285 t270.2 _ o273 1 45 f275 _ f278.rd hc279 _ (f282.imp fun _ h_ => Own.rd h_) hc283 _ (f286.imp fun _ h_ => Own.rd h_) hc287 (by decide) (by decide) (by decide) (by decide) (by decide)   _ hc292) ?_
        rintro _ w293 ⟨o294, rfl, st295⟩
        replace f164 := f164.st st295 (by decide)
        replace f252 := f252.st st295 (by decide)
        replace f275 := f275.st st295 (by decide)
        replace f278 := f278.st st295 (by decide)
        replace f282 := f282.st st295 (by decide)
        replace f286 := f286.st st295 (by decide)
        replace fg0 := fg0.st st295 (by decide)
        replace fg1 := fg1.st st295 (by decide)
        replace fg2 := fg2.st st295 (by decide)
        replace hs := hs.locQ st295 hob rfl
        have hk := hk.put 66 (.int .i64 t291) rfl
        refine x_run tab hk (k := 2) (lv := []) (ks := [5, 6, 7, 8, 68]) (e' := [(5, .pointer (some ⟨bx18, 0, none⟩)), (6, .int .i64 t68), (7, .slice A161 (l163).length c162), (8, .slice A249 (l251).length c250), (68, .bool (decide (t291 < t68)))]) rfl trivial fun a hk => ?_
        refine wpListIn_nil ?_
        refine then_n ?_
        cases b296 : (decide (t291 < t68))
        · rw [b296] at hk H
          replace H := bifF H
          refine x_if hk (b := false) rfl ?_
          refine (show Code.wpIn _ _ _ _ _ _ _ from ?_)
          refine wpIn_skip ?_
          refine then_n ?_
          refine x_mid (fun a_ w_ => ∃ o411 : Nat → Nat, Kn 105 a_ [(5, .pointer (some ⟨bx18, 0, none⟩)), (6, .int .i64 t68), (8, .slice A249 (l251).length c250)] ∧ St [] w oi w_ o411 ∧ Ft (Own (encInt .i64) 3 (.slice A249 (l251).length c250) l251) w_ o411 65 ∧ Ft (Bx bx18 76 [.slice A276 (t270.2.l).length c277, .slice A280 (t270.2.chains).length c281, .slice A284 (t270.2.begun).length c285]) w_ o411 64 ∧ NOwn (dRows ET49) 40 A276 c277 t270.2.l w_ o411 61 1 ∧ Ft (Own (encInt .i64) 3 (.slice A280 (t270.2.chains).length c281) t270.2.chains) w_ o411 62 ∧ Ft (Own ET49 50 (.slice A284 (t270.2.begun).length c285) t270.2.begun) w_ o411 63 ∧ Ft (RdC ET111 (some ⟨0, 0, none⟩) glob0) w_ o411 0 ∧ Ft (RdC ET111 (some ⟨1, 0, none⟩) glob1) w_ o411 0 ∧ Ft (RdC (encInt .u32) (some ⟨2, 0, none⟩) glob2) w_ o411 0 ∧ tidewracklaw12_BookStays_j3 K t68 l251 t270 = some r) ?_ ?_
          rotate_left
          · rintro a w412 ⟨o411, hk, hs, f252, f275, f278, f282, f286, fg0, fg1, fg2, H⟩
            rw [tidewracklaw12_BookStays_j3] at H
            refine x_mid (fun a_ w_ => ∃ o476 : Nat → Nat, Kn 105 a_ [] ∧ St [] w oi w_ o476 ∧ Ft (RdC ET111 (some ⟨0, 0, none⟩) glob0) w_ o476 0 ∧ Ft (RdC ET111 (some ⟨1, 0, none⟩) glob1) w_ o476 0 ∧ Ft (RdC (encInt .u32) (some ⟨2, 0, none⟩) glob2) w_ o476 0 ∧ tidewracklaw12_BookStays_j4 = some r) ?_ ?_
            rotate_left
            · rintro a w477 ⟨o476, hk, hs, fg0, fg1, fg2, H⟩
              rw [tidewracklaw12_BookStays_j4] at H
              refine x_seq ?_
              refine wpIn_region_lit ?_
              refine x_run tab hk (k := 1) (lv := []) (ks := [4]) (e' := [(4, .bool true)]) rfl trivial fun a hk => ?_
              refine wpListIn_nil ?_
              refine then_n ?_
              refine wpIn_ret ?_
              obtain rfl := Option.some.inj H
              exact x_retG hk (rs := [.tmp 4]) (vs := [.bool true]) rfl ⟨rfl, trivial⟩ ⟨fun b_ => if b_ < w.heap.size then o b_ else (fun l_ => if l_ = 1 then LF else 0) (o476 b_), rfl, hs.closeF (Lm := []) (Sh := []) hoa rfl (fun l_ => if l_ = 1 then LF else 0)⟩
            refine x_seq ?_
            refine wpIn_region_lit ?_
            refine x_run tab hk (k := 2) (lv := []) (ks := [5, 8, 83, 84]) (e' := [(5, .pointer (some ⟨bx18, 0, none⟩)), (8, .slice A249 (l251).length c250), (83, .int .i64 t68), (84, .int .i64 0)]) rfl trivial fun a hk => ?_
            refine wpListIn_nil ?_
            refine then_n ?_
            refine wpIn_block ?_
            refine x_loop (fun j_ a_ w_ => ∃ o498 : Nat → Nat, ∃ x499 : Int, Kn 105 a_ [(5, .pointer (some ⟨bx18, 0, none⟩)), (8, .slice A249 (l251).length c250), (83, .int .i64 t68), (84, .int .i64 x499)] ∧ St [] w oi w_ o498 ∧ Ft (Own (encInt .i64) 3 (.slice A249 (l251).length c250) l251) w_ o498 89 ∧ Ft (Bx bx18 76 [.slice A276 (t270.2.l).length c277, .slice A280 (t270.2.chains).length c281, .slice A284 (t270.2.begun).length c285]) w_ o498 88 ∧ NOwn (dRows ET49) 40 A276 c277 t270.2.l w_ o498 85 1 ∧ Ft (Own (encInt .i64) 3 (.slice A280 (t270.2.chains).length c281) t270.2.chains) w_ o498 86 ∧ Ft (Own ET49 50 (.slice A284 (t270.2.begun).length c285) t270.2.begun) w_ o498 87 ∧ Ft (RdC ET111 (some ⟨0, 0, none⟩) glob0) w_ o498 0 ∧ Ft (RdC ET111 (some ⟨1, 0, none⟩) glob1) w_ o498 0 ∧ Ft (RdC (encInt .u32) (some ⟨2, 0, none⟩) glob2) w_ o498 0 ∧ tidewracklaw12_BookStays_l5 t68 l251 t270 j_ x499 = some r) (k := K) ⟨(fun b_ => (fun l_ => if l_ = 61 then 85 else if l_ = 62 then 86 else if l_ = 63 then 87 else if l_ = 64 then 88 else if l_ = 65 then 89 else l_) (o411 b_)), 0, (by exact Kn.pick (ks := [5, 8, 83, 84]) hk rfl), (hs.relabM hob (fun l_ => if l_ = 61 then 85 else if l_ = 62 then 86 else if l_ = 63 then 87 else if l_ = 64 then 88 else if l_ = 65 then 89 else l_) (by decide)), (f252.relab (fun l_ => if l_ = 61 then 85 else if l_ = 62 then 86 else if l_ = 63 then 87 else if l_ = 64 then 88 else if l_ = 65 then 89 else l_) rfl), (f275.relab (fun l_ => if l_ = 61 then 85 else if l_ = 62 then 86 else if l_ = 63 then 87 else if l_ = 64 then 88 else if l_ = 65 then 89 else l_) rfl), (f278.relab (fun l_ => if l_ = 61 then 85 else if l_ = 62 then 86 else if l_ = 63 then 87 else if l_ = 64 then 88 else if l_ = 65 then 89 else l_) rfl), (f282.relab (fun l_ => if l_ = 61 then 85 else if l_ = 62 then 86 else if l_ = 63 then 87 else if l_ = 64 then 88 else if l_ = 65 then 89 else l_) rfl), (f286.relab (fun l_ => if l_ = 61 then 85 else if l_ = 62 then 86 else if l_ = 63 then 87 else if l_ = 64 then 88 else if l_ = 65 then 89 else l_) rfl), (fg0.relab (fun l_ => if l_ = 61 then 85 else if l_ = 62 then 86 else if l_ = 63 then 87 else if l_ = 64 then 88 else if l_ = 65 then 89 else l_) rfl), (fg1.relab (fun l_ => if l_ = 61 then 85 else if l_ = 62 then 86 else if l_ = 63 then 87 else if l_ = 64 then 88 else if l_ = 65 then 89 else l_) rfl), (fg2.relab (fun l_ => if l_ = 61 then 85 else if l_ = 62 then 86 else if l_ = 63 then 87 else if l_ = 64 then 88 else if l_ = 65 then 89 else l_) rfl), H⟩ (by rintro _ _ ⟨_, _, _, _, _, _, _, _, _, _, _, _, H_⟩; exact absurd (show (none : Option Bool) = some r from H_) (by simp)) ?_
            rintro k518 a w517 ⟨o498, x499, hk, hs, f252, f275, f278, f282, f286, fg0, fg1, fg2, H⟩
            rw [tidewracklaw12_BookStays_l5] at H
            obtain ⟨lp519, hlp520⟩ : ∃ lp_, lp_ = tidewracklaw12_BookStays_l5 t68 l251 t270 k518 := ⟨_, rfl⟩
            rw [← hlp520] at H
            refine x_seq ?_
            refine wpIn_region_lit ?_
            refine x_run tab hk (k := 1) (lv := []) (ks := [5, 8, 83, 84, 85]) (e' := [(5, .pointer (some ⟨bx18, 0, none⟩)), (8, .slice A249 (l251).length c250), (83, .int .i64 t68), (84, .int .i64 x499), (85, .bool (decide (x499 < t68)))]) rfl trivial fun a hk => ?_
            refine wpListIn_nil ?_
            refine then_n ?_
            refine x_seq ?_
            cases b521 : (decide (x499 < t68))
            · rw [b521] at hk H
              replace H := bifF H
              refine x_if hk (b := false) rfl ?_
              refine (show Code.wpIn _ _ _ _ _ _ _ from ?_)
              refine wpIn_exit ?_
              refine then_x ?_
              refine then_x ?_
              refine blk_x ?_
              refine then_n ?_
              exact ⟨o498, (by exact Kn.pick (ks := []) hk rfl), hs, fg0, fg1, fg2, H⟩
            · rw [b521] at hk H
              replace H := bifT H
              refine x_if hk (b := true) rfl ?_
              refine (show Code.wpIn _ _ _ _ _ _ _ from ?_)
              refine wpIn_skip ?_
              refine then_n ?_
              refine x_seq ?_
              refine wpIn_block ?_
              refine x_seq ?_
              refine wpIn_region_lit ?_
              refine x_run tab hk (k := 2) (lv := []) (ks := [5, 8, 14, 83, 84]) (e' := [(5, .pointer (some ⟨bx18, 0, none⟩)), (8, .slice A249 (l251).length c250), (14, .int .i64 x499), (83, .int .i64 t68), (84, .int .i64 x499)]) rfl trivial fun a hk => ?_
              refine wpListIn_nil ?_
              refine then_n ?_
              refine x_seq ?_
              refine wpIn_region_lit ?_
              refine x_run tab hk (k := 2) (lv := []) (ks := [5, 8, 14, 83, 84, 88, 89]) (e' := [(5, .pointer (some ⟨bx18, 0, none⟩)), (8, .slice A249 (l251).length c250), (14, .int .i64 x499), (83, .int .i64 t68), (84, .int .i64 x499), (88, .pointer (some ⟨bx18, 0, none⟩)), (89, .int .i64 x499)]) rfl trivial fun a hk => ?_
              refine x_op hk rfl ?_
              obtain ⟨t525, hc526, H⟩ := bindS H
              refine op_call hk ent_17 (vs := [.pointer (some ⟨bx18, 0, none⟩), .int .i64 x499]) rfl (book_Book_Line_calls bx18 A276 c277 A280 c281 A284 c285 t270.2 x499 _ o498 1 88 f275 _ f278.rd hc279 _ (f282.imp fun _ h_ => Own.rd h_) hc283 _ (f286.imp fun _ h_ => Own.rd h_) hc287 (by decide) (by decide) (by decide) (by decide) (by decide) 91  _ hc526) ?_
              rintro _ w527 ⟨o528, A530, c531, rfl, st529, f532, hc533⟩
              replace f252 := f252.st st529 (by decide)
              replace f275 := f275.st st529 (by decide)
              replace f278 := f278.st st529 (by decide)
              replace f282 := f282.st st529 (by decide)
              replace f286 := f286.st st529 (by decide)
              replace fg0 := fg0.st st529 (by decide)
              replace fg1 := fg1.st st529 (by decide)
              replace fg2 := fg2.st st529 (by decide)
              replace hs := hs.locQ st529 hob rfl
              have hk := hk.put 90 (.tuple #[.slice A530 (t525.1).length c531, .bool t525.2]) rfl
              refine x_run tab hk (k := 5) (lv := []) (ks := [5, 8, 14, 15, 16, 83, 84]) (e' := [(5, .pointer (some ⟨bx18, 0, none⟩)), (8, .slice A249 (l251).length c250), (14, .int .i64 x499), (15, .slice A530 (t525.1).length c531), (16, .bool t525.2), (83, .int .i64 t68), (84, .int .i64 x499)]) rfl trivial fun a hk => ?_
              refine wpListIn_nil ?_
              refine then_n ?_
              refine x_seq ?_
              refine wpIn_region_lit ?_
              refine x_run tab hk (k := 3) (lv := []) (ks := [5, 8, 14, 15, 83, 84, 95]) (e' := [(5, .pointer (some ⟨bx18, 0, none⟩)), (8, .slice A249 (l251).length c250), (14, .int .i64 x499), (15, .slice A530 (t525.1).length c531), (83, .int .i64 t68), (84, .int .i64 x499), (95, .bool (!t525.2))]) rfl trivial fun a hk => ?_
              cases b534 : (!t525.2)
              · rw [b534] at hk H
                replace H := bifF H
                obtain ⟨q535, H⟩ := ifS H
                obtain ⟨ad536, hAad536⟩ := RdC.addr (Own.rd f252.now) q535
                have hk_C := hk
                have f252_C := f252
                have f275_C := f275
                have f278_C := f278
                have f282_C := f282
                have f286_C := f286
                have f532_C := f532
                have fg0_C := fg0
                have fg1_C := fg1
                have fg2_C := fg2
                subst hAad536
                have hk := hk_C
                clear hk_C
                have f252 := f252_C
                clear f252_C
                have f275 := f275_C
                clear f275_C
                have f278 := f278_C
                clear f278_C
                have f282 := f282_C
                clear f282_C
                have f286 := f286_C
                clear f286_C
                have f532 := f532_C
                clear f532_C
                have fg0 := fg0_C
                clear fg0_C
                have fg1 := fg1_C
                clear fg1_C
                have fg2 := fg2_C
                clear fg2_C
                refine x_run tab hk (k := 8) (lv := [.int .i64 (rdD 0 l251 x499)]) (ks := [5, 8, 83, 84, 103]) (e' := [(5, .pointer (some ⟨bx18, 0, none⟩)), (8, .slice (some ad536) (l251).length c250), (83, .int .i64 t68), (84, .int .i64 x499), (103, .bool (((t525.1).length : Int) != (rdD 0 l251 x499)))]) rfl ⟨q535, (load1 tab rfl (RdC.at0 (E := (encInt .i64)) (d := 0) (i := x499) (Own.rd f252.now) q535 rfl)), trivial⟩ fun a hk => ?_
                refine wpListIn_nil ?_
                refine then_n ?_
                cases b537 : (((t525.1).length : Int) != (rdD 0 l251 x499))
                · rw [b537] at hk H
                  replace H := bifF H
                  refine x_if hk (b := false) rfl ?_
                  refine (show Code.wpIn _ _ _ _ _ _ _ from ?_)
                  refine wpIn_skip ?_
                  refine blk_n ?_
                  refine then_n ?_
                  refine wpIn_region_lit ?_
                  refine x_run tab hk (k := 2) (lv := []) (ks := [5, 8, 83, 84]) (e' := [(5, .pointer (some ⟨bx18, 0, none⟩)), (8, .slice (some ad536) (l251).length c250), (83, .int .i64 t68), (84, .int .i64 (IntKind.wrap .i64 (x499 + 1)))]) rfl trivial fun a hk => ?_
                  refine wpListIn_nil ?_
                  refine then_n ?_
                  exact ⟨k518, Nat.le_refl _, o528, (IntKind.wrap .i64 (x499 + 1)), (by exact Kn.pick (ks := [5, 8, 83, 84]) hk rfl), hs, f252, f275, f278, f282, f286, fg0, fg1, fg2, (hlp520 ▸ H)⟩
                · rw [b537] at hk H
                  replace H := bifT H
                  refine x_if hk (b := true) rfl ?_
                  refine (show Code.wpIn _ _ _ _ _ _ _ from ?_)
                  refine x_seq ?_
                  refine wpIn_region_lit ?_
                  refine x_run tab hk (k := 1) (lv := []) (ks := [4]) (e' := [(4, .bool false)]) rfl trivial fun a hk => ?_
                  refine wpListIn_nil ?_
                  refine then_n ?_
                  refine wpIn_ret ?_
                  refine blk_r ?_
                  refine then_r ?_
                  refine then_r ?_
                  refine blk_r ?_
                  refine then_r ?_
                  obtain rfl := Option.some.inj H
                  exact x_retG hk (rs := [.tmp 4]) (vs := [.bool false]) rfl ⟨rfl, trivial⟩ ⟨fun b_ => if b_ < w.heap.size then o b_ else (fun l_ => if l_ = 1 then LF else 0) (o528 b_), rfl, hs.closeF (Lm := []) (Sh := []) hoa rfl (fun l_ => if l_ = 1 then LF else 0)⟩
              · rw [b534] at hk H
                replace H := bifT H
                refine x_run tab hk (k := 8) (lv := []) (ks := [5, 8, 83, 84, 103]) (e' := [(5, .pointer (some ⟨bx18, 0, none⟩)), (8, .slice A249 (l251).length c250), (83, .int .i64 t68), (84, .int .i64 x499), (103, .bool true)]) rfl trivial fun a hk => ?_
                refine wpListIn_nil ?_
                refine then_n ?_
                refine x_if hk (b := true) rfl ?_
                refine (show Code.wpIn _ _ _ _ _ _ _ from ?_)
                refine x_seq ?_
                refine wpIn_region_lit ?_
                refine x_run tab hk (k := 1) (lv := []) (ks := [4]) (e' := [(4, .bool false)]) rfl trivial fun a hk => ?_
                refine wpListIn_nil ?_
                refine then_n ?_
                refine wpIn_ret ?_
                refine blk_r ?_
                refine then_r ?_
                refine then_r ?_
                refine blk_r ?_
                refine then_r ?_
                obtain rfl := Option.some.inj H
                exact x_retG hk (rs := [.tmp 4]) (vs := [.bool false]) rfl ⟨rfl, trivial⟩ ⟨fun b_ => if b_ < w.heap.size then o b_ else (fun l_ => if l_ = 1 then LF else 0) (o528 b_), rfl, hs.closeF (Lm := []) (Sh := []) hoa rfl (fun l_ => if l_ = 1 then LF else 0)⟩
          refine x_seq ?_
          refine wpIn_region_lit ?_
          refine x_run tab hk (k := 3) (lv := []) (ks := [5, 6, 7, 8, 70, 71]) (e' := [(5, .pointer (some ⟨bx18, 0, none⟩)), (6, .int .i64 t68), (7, .slice A161 (l163).length c162), (8, .slice A249 (l251).length c250), (70, .int .i64 (IntKind.wrap .i64 (t68 + 1))), (71, .int .i64 0)]) rfl trivial fun a hk => ?_
          refine wpListIn_nil ?_
          refine then_n ?_
          refine wpIn_block ?_
          refine x_loop (fun j_ a_ w_ => ∃ o575 : Nat → Nat, ∃ x576 : Int, Kn 105 a_ [(5, .pointer (some ⟨bx18, 0, none⟩)), (6, .int .i64 t68), (7, .slice A161 (l163).length c162), (8, .slice A249 (l251).length c250), (70, .int .i64 (IntKind.wrap .i64 (t68 + 1))), (71, .int .i64 x576)] ∧ St [] w oi w_ o575 ∧ Ft (Own (encInt .i64) 3 (.slice A161 (l163).length c162) l163) w_ o575 102 ∧ Ft (Own (encInt .i64) 3 (.slice A249 (l251).length c250) l251) w_ o575 103 ∧ Ft (Bx bx18 76 [.slice A276 (t270.2.l).length c277, .slice A280 (t270.2.chains).length c281, .slice A284 (t270.2.begun).length c285]) w_ o575 101 ∧ NOwn (dRows ET49) 40 A276 c277 t270.2.l w_ o575 98 1 ∧ Ft (Own (encInt .i64) 3 (.slice A280 (t270.2.chains).length c281) t270.2.chains) w_ o575 99 ∧ Ft (Own ET49 50 (.slice A284 (t270.2.begun).length c285) t270.2.begun) w_ o575 100 ∧ Ft (RdC ET111 (some ⟨0, 0, none⟩) glob0) w_ o575 0 ∧ Ft (RdC ET111 (some ⟨1, 0, none⟩) glob1) w_ o575 0 ∧ Ft (RdC (encInt .u32) (some ⟨2, 0, none⟩) glob2) w_ o575 0 ∧ tidewracklaw12_BookStays_l6 K t68 l163 l251 t270 j_ x576 = some r) (k := K) ⟨(fun b_ => (fun l_ => if l_ = 42 then 98 else if l_ = 43 then 99 else if l_ = 44 then 100 else if l_ = 45 then 101 else if l_ = 46 then 102 else if l_ = 47 then 103 else l_) (o294 b_)), 0, (by exact Kn.pick (ks := [5, 6, 7, 8, 70, 71]) hk rfl), (hs.relabM hob (fun l_ => if l_ = 42 then 98 else if l_ = 43 then 99 else if l_ = 44 then 100 else if l_ = 45 then 101 else if l_ = 46 then 102 else if l_ = 47 then 103 else l_) (by decide)), (f164.relab (fun l_ => if l_ = 42 then 98 else if l_ = 43 then 99 else if l_ = 44 then 100 else if l_ = 45 then 101 else if l_ = 46 then 102 else if l_ = 47 then 103 else l_) rfl), (f252.relab (fun l_ => if l_ = 42 then 98 else if l_ = 43 then 99 else if l_ = 44 then 100 else if l_ = 45 then 101 else if l_ = 46 then 102 else if l_ = 47 then 103 else l_) rfl), (f275.relab (fun l_ => if l_ = 42 then 98 else if l_ = 43 then 99 else if l_ = 44 then 100 else if l_ = 45 then 101 else if l_ = 46 then 102 else if l_ = 47 then 103 else l_) rfl), (f278.relab (fun l_ => if l_ = 42 then 98 else if l_ = 43 then 99 else if l_ = 44 then 100 else if l_ = 45 then 101 else if l_ = 46 then 102 else if l_ = 47 then 103 else l_) rfl), (f282.relab (fun l_ => if l_ = 42 then 98 else if l_ = 43 then 99 else if l_ = 44 then 100 else if l_ = 45 then 101 else if l_ = 46 then 102 else if l_ = 47 then 103 else l_) rfl), (f286.relab (fun l_ => if l_ = 42 then 98 else if l_ = 43 then 99 else if l_ = 44 then 100 else if l_ = 45 then 101 else if l_ = 46 then 102 else if l_ = 47 then 103 else l_) rfl), (fg0.relab (fun l_ => if l_ = 42 then 98 else if l_ = 43 then 99 else if l_ = 44 then 100 else if l_ = 45 then 101 else if l_ = 46 then 102 else if l_ = 47 then 103 else l_) rfl), (fg1.relab (fun l_ => if l_ = 42 then 98 else if l_ = 43 then 99 else if l_ = 44 then 100 else if l_ = 45 then 101 else if l_ = 46 then 102 else if l_ = 47 then 103 else l_) rfl), (fg2.relab (fun l_ => if l_ = 42 then 98 else if l_ = 43 then 99 else if l_ = 44 then 100 else if l_ = 45 then 101 else if l_ = 46 then 102 else if l_ = 47 then 103 else l_) rfl), H⟩ (by rintro _ _ ⟨_, _, _, _, _, _, _, _, _, _, _, _, _, H_⟩; exact absurd (show (none : Option Bool) = some r from H_) (by simp)) ?_
          rintro k612 a w611 ⟨o575, x576, hk, hs, f164, f252, f275, f278, f282, f286, fg0, fg1, fg2, H⟩
          rw [tidewracklaw12_BookStays_l6] at H
          obtain ⟨lp613, hlp614⟩ : ∃ lp_, lp_ = tidewracklaw12_BookStays_l6 K t68 l163 l251 t270 k612 := ⟨_, rfl⟩
          rw [← hlp614] at H
          refine x_seq ?_
          refine wpIn_region_lit ?_
          refine x_run tab hk (k := 1) (lv := []) (ks := [5, 6, 7, 8, 70, 71, 72]) (e' := [(5, .pointer (some ⟨bx18, 0, none⟩)), (6, .int .i64 t68), (7, .slice A161 (l163).length c162), (8, .slice A249 (l251).length c250), (70, .int .i64 (IntKind.wrap .i64 (t68 + 1))), (71, .int .i64 x576), (72, .bool (decide (x576 < (IntKind.wrap .i64 (t68 + 1)))))]) rfl trivial fun a hk => ?_
          refine wpListIn_nil ?_
          refine then_n ?_
          refine x_seq ?_
          cases b615 : (decide (x576 < (IntKind.wrap .i64 (t68 + 1))))
          · rw [b615] at hk H
            replace H := bifF H
            refine x_if hk (b := false) rfl ?_
            refine (show Code.wpIn _ _ _ _ _ _ _ from ?_)
            refine wpIn_exit ?_
            refine then_x ?_
            refine then_x ?_
            refine blk_x ?_
            refine then_n ?_
            exact ⟨(fun b_ => (fun l_ => if l_ = 98 then 61 else if l_ = 99 then 62 else if l_ = 100 then 63 else if l_ = 101 then 64 else if l_ = 103 then 65 else l_) (o575 b_)), (by exact Kn.pick (ks := [5, 6, 8]) hk rfl), (hs.relabM hob (fun l_ => if l_ = 98 then 61 else if l_ = 99 then 62 else if l_ = 100 then 63 else if l_ = 101 then 64 else if l_ = 103 then 65 else l_) (by decide)), (f252.relab (fun l_ => if l_ = 98 then 61 else if l_ = 99 then 62 else if l_ = 100 then 63 else if l_ = 101 then 64 else if l_ = 103 then 65 else l_) rfl), (f275.relab (fun l_ => if l_ = 98 then 61 else if l_ = 99 then 62 else if l_ = 100 then 63 else if l_ = 101 then 64 else if l_ = 103 then 65 else l_) rfl), (f278.relab (fun l_ => if l_ = 98 then 61 else if l_ = 99 then 62 else if l_ = 100 then 63 else if l_ = 101 then 64 else if l_ = 103 then 65 else l_) rfl), (f282.relab (fun l_ => if l_ = 98 then 61 else if l_ = 99 then 62 else if l_ = 100 then 63 else if l_ = 101 then 64 else if l_ = 103 then 65 else l_) rfl), (f286.relab (fun l_ => if l_ = 98 then 61 else if l_ = 99 then 62 else if l_ = 100 then 63 else if l_ = 101 then 64 else if l_ = 103 then 65 else l_) rfl), (fg0.relab (fun l_ => if l_ = 98 then 61 else if l_ = 99 then 62 else if l_ = 100 then 63 else if l_ = 101 then 64 else if l_ = 103 then 65 else l_) rfl), (fg1.relab (fun l_ => if l_ = 98 then 61 else if l_ = 99 then 62 else if l_ = 100 then 63 else if l_ = 101 then 64 else if l_ = 103 then 65 else l_) rfl), (fg2.relab (fun l_ => if l_ = 98 then 61 else if l_ = 99 then 62 else if l_ = 100 then 63 else if l_ = 101 then 64 else if l_ = 103 then 65 else l_) rfl), H⟩
          · rw [b615] at hk H
            replace H := bifT H
            refine x_if hk (b := true) rfl ?_
            refine (show Code.wpIn _ _ _ _ _ _ _ from ?_)
            refine wpIn_skip ?_
            refine then_n ?_
            refine x_seq ?_
            refine wpIn_block ?_
            refine x_seq ?_
            refine wpIn_region_lit ?_
            refine x_run tab hk (k := 2) (lv := []) (ks := [5, 6, 7, 8, 13, 70, 71]) (e' := [(5, .pointer (some ⟨bx18, 0, none⟩)), (6, .int .i64 t68), (7, .slice A161 (l163).length c162), (8, .slice A249 (l251).length c250), (13, .int .i64 x576), (70, .int .i64 (IntKind.wrap .i64 (t68 + 1))), (71, .int .i64 x576)]) rfl trivial fun a hk => ?_
            refine wpListIn_nil ?_
            refine then_n ?_
            refine x_seq ?_
            refine xd_begin (o := o575) (fun W_ => (Own (encInt .i64) 3 (.slice A161 (l163).length c162) l163) W_ ∧ True) mixed rfl rfl fun w636 st637 => ?_
            replace f164 := f164.st st637 (by decide)
            replace f252 := f252.st st637 (by decide)
            replace f275 := f275.st st637 (by decide)
            replace f278 := f278.st st637 (by decide)
            replace f282 := f282.st st637 (by decide)
            replace f286 := f286.st st637 (by decide)
            replace fg0 := fg0.st st637 (by decide)
            replace fg1 := fg1.st st637 (by decide)
            replace fg2 := fg2.st st637 (by decide)
            replace hs := hs.locQ st637 hob rfl
            obtain ⟨q638, H⟩ := ifS H
            obtain ⟨ad639, hAad639⟩ := RdC.addr (Own.rd f164.now) q638
            have hk_C := hk
            have f164_C := f164
            have f252_C := f252
            have f275_C := f275
            have f278_C := f278
            have f282_C := f282
            have f286_C := f286
            have fg0_C := fg0
            have fg1_C := fg1
            have fg2_C := fg2
            subst hAad639
            have hk := hk_C
            clear hk_C
            have f164 := f164_C
            clear f164_C
            have f252 := f252_C
            clear f252_C
            have f275 := f275_C
            clear f275_C
            have f278 := f278_C
            clear f278_C
            have f282 := f282_C
            clear f282_C
            have f286 := f286_C
            clear f286_C
            have fg0 := fg0_C
            clear fg0_C
            have fg1 := fg1_C
            clear fg1_C
            have fg2 := fg2_C
            clear fg2_C
            refine xd_take tab hk (k := 2) (is := [0, 1, 3, 4, 5, 6]) (ls' := #[true, true, false, true, true, true, true, false]) (lv := [.int .i64 (rdD 0 l163 x576)]) (ks := [5, 6, 7, 8, 70, 71, 74, 75, 80]) (e' := [(5, .pointer (some ⟨bx18, 0, none⟩)), (6, .int .i64 t68), (7, .slice (some ad639) (l163).length c162), (8, .slice A249 (l251).length c250), (70, .int .i64 (IntKind.wrap .i64 (t68 + 1))), (71, .int .i64 x576), (74, .pointer (some ⟨bx18, 0, none⟩)), (75, .int .i64 x576), (80, .int .i64 (rdD 0 l163 x576))]) (by kernel_rfl) rfl rfl (by kernel_rfl) (np_then (np_blk (np_then (np_then (np_blk (np_then np_body)))))) ⟨f164.now, trivial⟩ (fun W_ hS => ⟨q638, (load1 tab rfl (RdC.at0 (E := (encInt .i64)) (d := 0) (i := x576) (Own.rd hS.1) q638 rfl)), trivial⟩) fun a hk => ?_
            refine xd_op hk (i := 2) (by kernel_rfl) rfl rfl ?_
            obtain ⟨t643, hc644, H⟩ := bindS H
            refine op_call hk ent_21 (vs := [.pointer (some ⟨bx18, 0, none⟩), .int .i64 x576]) rfl (book_Book_Chain_calls bx18 A276 c277 A280 c281 A284 c285 t270.2 x576 _ o575 1 101 f275 _ f278.rd hc279 _ (f282.imp fun _ h_ => Own.rd h_) hc283 _ (f286.imp fun _ h_ => Own.rd h_) hc287 (by decide) (by decide) (by decide) (by decide) (by decide)   _ hc644) ?_
            rintro _ w645 ⟨o646, rfl, st647⟩
            replace f164 := f164.st st647 (by decide)
            replace f252 := f252.st st647 (by decide)
            replace f275 := f275.st st647 (by decide)
            replace f278 := f278.st st647 (by decide)
            replace f282 := f282.st st647 (by decide)
            replace f286 := f286.st st647 (by decide)
            replace fg0 := fg0.st st647 (by decide)
            replace fg1 := fg1.st st647 (by decide)
            replace fg2 := fg2.st st647 (by decide)
            replace hs := hs.locQ st647 hob rfl
            have hk := hk.put 76 (.int .i64 t643) rfl
            refine ⟨.inr ⟨f164.now, trivial⟩, ?_⟩
            refine xd_take tab hk (k := 0) (is := [7]) (ls' := #[true, true, true, true, true, true, true, true]) (lv := []) (ks := [5, 6, 7, 8, 70, 71, 81]) (e' := [(5, .pointer (some ⟨bx18, 0, none⟩)), (6, .int .i64 t68), (7, .slice (some ad639) (l163).length c162), (8, .slice A249 (l251).length c250), (70, .int .i64 (IntKind.wrap .i64 (t68 + 1))), (71, .int .i64 x576), (81, .bool (t643 != (rdD 0 l163 x576)))]) (by kernel_rfl) rfl rfl (by kernel_rfl) (np_then (np_blk (np_then (np_then (np_blk (np_then np_body)))))) ⟨f164.now, trivial⟩ (fun W_ hS => trivial) fun a hk => ?_
            refine xd_done (by kernel_rfl) ?_
            refine then_n ?_
            cases b648 : (t643 != (rdD 0 l163 x576))
            · rw [b648] at hk H
              replace H := bifF H
              refine x_if hk (b := false) rfl ?_
              refine (show Code.wpIn _ _ _ _ _ _ _ from ?_)
              refine wpIn_skip ?_
              refine blk_n ?_
              refine then_n ?_
              refine wpIn_region_lit ?_
              refine x_run tab hk (k := 2) (lv := []) (ks := [5, 6, 7, 8, 70, 71]) (e' := [(5, .pointer (some ⟨bx18, 0, none⟩)), (6, .int .i64 t68), (7, .slice (some ad639) (l163).length c162), (8, .slice A249 (l251).length c250), (70, .int .i64 (IntKind.wrap .i64 (t68 + 1))), (71, .int .i64 (IntKind.wrap .i64 (x576 + 1)))]) rfl trivial fun a hk => ?_
              refine wpListIn_nil ?_
              refine then_n ?_
              exact ⟨k612, Nat.le_refl _, o646, (IntKind.wrap .i64 (x576 + 1)), (by exact Kn.pick (ks := [5, 6, 7, 8, 70, 71]) hk rfl), hs, f164, f252, f275, f278, f282, f286, fg0, fg1, fg2, (hlp614 ▸ H)⟩
            · rw [b648] at hk H
              replace H := bifT H
              refine x_if hk (b := true) rfl ?_
              refine (show Code.wpIn _ _ _ _ _ _ _ from ?_)
              refine x_seq ?_
              refine wpIn_region_lit ?_
              refine x_run tab hk (k := 1) (lv := []) (ks := [4]) (e' := [(4, .bool false)]) rfl trivial fun a hk => ?_
              refine wpListIn_nil ?_
              refine then_n ?_
              refine wpIn_ret ?_
              refine blk_r ?_
              refine then_r ?_
              refine then_r ?_
              refine blk_r ?_
              refine then_r ?_
              obtain rfl := Option.some.inj H
              exact x_retG hk (rs := [.tmp 4]) (vs := [.bool false]) rfl ⟨rfl, trivial⟩ ⟨fun b_ => if b_ < w.heap.size then o b_ else (fun l_ => if l_ = 1 then LF else 0) (o646 b_), rfl, hs.closeF (Lm := []) (Sh := []) hoa rfl (fun l_ => if l_ = 1 then LF else 0)⟩
        · rw [b296] at hk H
          replace H := bifT H
          refine x_if hk (b := true) rfl ?_
          refine (show Code.wpIn _ _ _ _ _ _ _ from ?_)
          refine x_seq ?_
          refine wpIn_region_lit ?_
          refine x_run tab hk (k := 1) (lv := []) (ks := [4]) (e' := [(4, .bool false)]) rfl trivial fun a hk => ?_
          refine wpListIn_nil ?_
          refine then_n ?_
          refine wpIn_ret ?_
          refine then_r ?_
          obtain rfl := Option.some.inj H
          exact x_retG hk (rs := [.tmp 4]) (vs := [.bool false]) rfl ⟨rfl, trivial⟩ ⟨fun b_ => if b_ < w.heap.size then o b_ else (fun l_ => if l_ = 1 then LF else 0) (o294 b_), rfl, hs.closeF (Lm := []) (Sh := []) hoa rfl (fun l_ => if l_ = 1 then LF else 0)⟩
      refine x_seq ?_
      refine wpIn_region_lit ?_
      refine x_run tab hk (k := 2) (lv := []) (ks := [1, 5, 6, 7, 8, 45, 46]) (e' := [(1, .slice Ap1 (p1).length cp1), (5, .pointer (some ⟨bx18, 0, none⟩)), (6, .int .i64 t68), (7, .slice A161 (l163).length c162), (8, .slice A87 ((List.replicate (Int.toNat t68) (0 : Int))).length c88), (45, .int .i64 t68), (46, .int .i64 0)]) rfl trivial fun a hk => ?_
      refine wpListIn_nil ?_
      refine then_n ?_
      refine wpIn_block ?_
      refine x_loop (fun j_ a_ w_ => ∃ o671 : Nat → Nat, ∃ A672 : Option Addr, ∃ c673 : Nat, ∃ l674 : List Int, ∃ x677 : Int, Kn 105 a_ [(1, .slice Ap1 (p1).length cp1), (5, .pointer (some ⟨bx18, 0, none⟩)), (6, .int .i64 t68), (7, .slice A161 (l163).length c162), (8, .slice A672 (l674).length c673), (45, .int .i64 t68), (46, .int .i64 x677)] ∧ St [] w oi w_ o671 ∧ Ft (Own (encInt .i64) 3 (.slice A161 (l163).length c162) l163) w_ o671 115 ∧ Ft (Bx bx18 76 [.slice A53 (t47.2.l).length c54, .slice A57 (t47.2.chains).length c58, .slice A61 (t47.2.begun).length c62]) w_ o671 114 ∧ NOwn (dRows ET49) 40 A53 c54 t47.2.l w_ o671 111 1 ∧ Ft (Own (encInt .i64) 3 (.slice A57 (t47.2.chains).length c58) t47.2.chains) w_ o671 112 ∧ Ft (Own ET49 50 (.slice A61 (t47.2.begun).length c62) t47.2.begun) w_ o671 113 ∧ Ft (Own (encInt .i64) 3 (.slice A672 (l674).length c673) l674) w_ o671 116 ∧ NRd dT26 Ap1 p1 w_ o671 0 1 ∧ Ft (RdC ET111 (some ⟨0, 0, none⟩) glob0) w_ o671 0 ∧ Ft (RdC ET111 (some ⟨1, 0, none⟩) glob1) w_ o671 0 ∧ Ft (RdC (encInt .u32) (some ⟨2, 0, none⟩) glob2) w_ o671 0 ∧ (l674).length ≤ c673 ∧ tidewracklaw12_BookStays_l7 K p1 t47 t68 l163 j_ l674 x677 = some r) (k := K) ⟨(fun b_ => (fun l_ => if l_ = 21 then 111 else if l_ = 22 then 112 else if l_ = 23 then 113 else if l_ = 24 then 114 else if l_ = 25 then 115 else if l_ = 26 then 116 else l_) (o160 b_)), A87, c88, (List.replicate (Int.toNat t68) (0 : Int)), 0, (by exact Kn.pick (ks := [1, 5, 6, 7, 8, 45, 46]) hk rfl), (hs.relabM hob (fun l_ => if l_ = 21 then 111 else if l_ = 22 then 112 else if l_ = 23 then 113 else if l_ = 24 then 114 else if l_ = 25 then 115 else if l_ = 26 then 116 else l_) (by decide)), (f164.relab (fun l_ => if l_ = 21 then 111 else if l_ = 22 then 112 else if l_ = 23 then 113 else if l_ = 24 then 114 else if l_ = 25 then 115 else if l_ = 26 then 116 else l_) rfl), (f52.relab (fun l_ => if l_ = 21 then 111 else if l_ = 22 then 112 else if l_ = 23 then 113 else if l_ = 24 then 114 else if l_ = 25 then 115 else if l_ = 26 then 116 else l_) rfl), (f55.relab (fun l_ => if l_ = 21 then 111 else if l_ = 22 then 112 else if l_ = 23 then 113 else if l_ = 24 then 114 else if l_ = 25 then 115 else if l_ = 26 then 116 else l_) rfl), (f59.relab (fun l_ => if l_ = 21 then 111 else if l_ = 22 then 112 else if l_ = 23 then 113 else if l_ = 24 then 114 else if l_ = 25 then 115 else if l_ = 26 then 116 else l_) rfl), (f63.relab (fun l_ => if l_ = 21 then 111 else if l_ = 22 then 112 else if l_ = 23 then 113 else if l_ = 24 then 114 else if l_ = 25 then 115 else if l_ = 26 then 116 else l_) rfl), (f89.relab (fun l_ => if l_ = 21 then 111 else if l_ = 22 then 112 else if l_ = 23 then 113 else if l_ = 24 then 114 else if l_ = 25 then 115 else if l_ = 26 then 116 else l_) rfl), (f900020.relab (fun l_ => if l_ = 21 then 111 else if l_ = 22 then 112 else if l_ = 23 then 113 else if l_ = 24 then 114 else if l_ = 25 then 115 else if l_ = 26 then 116 else l_) rfl), (fg0.relab (fun l_ => if l_ = 21 then 111 else if l_ = 22 then 112 else if l_ = 23 then 113 else if l_ = 24 then 114 else if l_ = 25 then 115 else if l_ = 26 then 116 else l_) rfl), (fg1.relab (fun l_ => if l_ = 21 then 111 else if l_ = 22 then 112 else if l_ = 23 then 113 else if l_ = 24 then 114 else if l_ = 25 then 115 else if l_ = 26 then 116 else l_) rfl), (fg2.relab (fun l_ => if l_ = 21 then 111 else if l_ = 22 then 112 else if l_ = 23 then 113 else if l_ = 24 then 114 else if l_ = 25 then 115 else if l_ = 26 then 116 else l_) rfl), hc90, H⟩ (by rintro _ _ ⟨_, _, _, _, _, _, _, _, _, _, _, _, _, _, _, _, _, _, H_⟩; exact absurd (show (none : Option Bool) = some r from H_) (by simp)) ?_
      rintro k698 a w697 ⟨o671, A672, c673, l674, x677, hk, hs, f164, f52, f55, f59, f63, f675, f900020, fg0, fg1, fg2, hc676, H⟩
      rw [tidewracklaw12_BookStays_l7] at H
      obtain ⟨lp699, hlp700⟩ : ∃ lp_, lp_ = tidewracklaw12_BookStays_l7 K p1 t47 t68 l163 k698 := ⟨_, rfl⟩
      rw [← hlp700] at H
      refine x_seq ?_
      refine wpIn_region_lit ?_
      refine x_run tab hk (k := 1) (lv := []) (ks := [1, 5, 6, 7, 8, 45, 46, 47]) (e' := [(1, .slice Ap1 (p1).length cp1), (5, .pointer (some ⟨bx18, 0, none⟩)), (6, .int .i64 t68), (7, .slice A161 (l163).length c162), (8, .slice A672 (l674).length c673), (45, .int .i64 t68), (46, .int .i64 x677), (47, .bool (decide (x677 < t68)))]) rfl trivial fun a hk => ?_
      refine wpListIn_nil ?_
      refine then_n ?_
      refine x_seq ?_
      cases b701 : (decide (x677 < t68))
      · rw [b701] at hk H
        replace H := bifF H
        refine x_if hk (b := false) rfl ?_
        refine (show Code.wpIn _ _ _ _ _ _ _ from ?_)
        refine wpIn_exit ?_
        refine then_x ?_
        refine then_x ?_
        refine blk_x ?_
        refine then_n ?_
        exact ⟨(fun b_ => (fun l_ => if l_ = 111 then 42 else if l_ = 112 then 43 else if l_ = 113 then 44 else if l_ = 114 then 45 else if l_ = 115 then 46 else if l_ = 116 then 47 else l_) (o671 b_)), A672, c673, l674, (by exact Kn.pick (ks := [1, 5, 6, 7, 8]) hk rfl), (hs.relabM hob (fun l_ => if l_ = 111 then 42 else if l_ = 112 then 43 else if l_ = 113 then 44 else if l_ = 114 then 45 else if l_ = 115 then 46 else if l_ = 116 then 47 else l_) (by decide)), (f164.relab (fun l_ => if l_ = 111 then 42 else if l_ = 112 then 43 else if l_ = 113 then 44 else if l_ = 114 then 45 else if l_ = 115 then 46 else if l_ = 116 then 47 else l_) rfl), (f675.relab (fun l_ => if l_ = 111 then 42 else if l_ = 112 then 43 else if l_ = 113 then 44 else if l_ = 114 then 45 else if l_ = 115 then 46 else if l_ = 116 then 47 else l_) rfl), (f52.relab (fun l_ => if l_ = 111 then 42 else if l_ = 112 then 43 else if l_ = 113 then 44 else if l_ = 114 then 45 else if l_ = 115 then 46 else if l_ = 116 then 47 else l_) rfl), (f55.relab (fun l_ => if l_ = 111 then 42 else if l_ = 112 then 43 else if l_ = 113 then 44 else if l_ = 114 then 45 else if l_ = 115 then 46 else if l_ = 116 then 47 else l_) rfl), (f59.relab (fun l_ => if l_ = 111 then 42 else if l_ = 112 then 43 else if l_ = 113 then 44 else if l_ = 114 then 45 else if l_ = 115 then 46 else if l_ = 116 then 47 else l_) rfl), (f63.relab (fun l_ => if l_ = 111 then 42 else if l_ = 112 then 43 else if l_ = 113 then 44 else if l_ = 114 then 45 else if l_ = 115 then 46 else if l_ = 116 then 47 else l_) rfl), (f900020.relab (fun l_ => if l_ = 111 then 42 else if l_ = 112 then 43 else if l_ = 113 then 44 else if l_ = 114 then 45 else if l_ = 115 then 46 else if l_ = 116 then 47 else l_) rfl), (fg0.relab (fun l_ => if l_ = 111 then 42 else if l_ = 112 then 43 else if l_ = 113 then 44 else if l_ = 114 then 45 else if l_ = 115 then 46 else if l_ = 116 then 47 else l_) rfl), (fg1.relab (fun l_ => if l_ = 111 then 42 else if l_ = 112 then 43 else if l_ = 113 then 44 else if l_ = 114 then 45 else if l_ = 115 then 46 else if l_ = 116 then 47 else l_) rfl), (fg2.relab (fun l_ => if l_ = 111 then 42 else if l_ = 112 then 43 else if l_ = 113 then 44 else if l_ = 114 then 45 else if l_ = 115 then 46 else if l_ = 116 then 47 else l_) rfl), hc676, H⟩
      · rw [b701] at hk H
        replace H := bifT H
        refine x_if hk (b := true) rfl ?_
        refine (show Code.wpIn _ _ _ _ _ _ _ from ?_)
        refine wpIn_skip ?_
        refine then_n ?_
        refine x_seq ?_
        refine wpIn_block ?_
        refine x_seq ?_
        refine wpIn_region_lit ?_
        refine x_run tab hk (k := 2) (lv := []) (ks := [1, 5, 6, 7, 8, 10, 45, 46]) (e' := [(1, .slice Ap1 (p1).length cp1), (5, .pointer (some ⟨bx18, 0, none⟩)), (6, .int .i64 t68), (7, .slice A161 (l163).length c162), (8, .slice A672 (l674).length c673), (10, .int .i64 x677), (45, .int .i64 t68), (46, .int .i64 x677)]) rfl trivial fun a hk => ?_
        refine wpListIn_nil ?_
        refine then_n ?_
        refine x_seq ?_
        refine wpIn_region_lit ?_
        refine x_run tab hk (k := 2) (lv := []) (ks := [1, 5, 6, 7, 8, 10, 45, 46, 50, 51]) (e' := [(1, .slice Ap1 (p1).length cp1), (5, .pointer (some ⟨bx18, 0, none⟩)), (6, .int .i64 t68), (7, .slice A161 (l163).length c162), (8, .slice A672 (l674).length c673), (10, .int .i64 x677), (45, .int .i64 t68), (46, .int .i64 x677), (50, .pointer (some ⟨bx18, 0, none⟩)), (51, .int .i64 x677)]) rfl trivial fun a hk => ?_
        refine x_op hk rfl ?_
        obtain ⟨t705, hc706, H⟩ := bindS H
        refine op_call hk ent_17 (vs := [.pointer (some ⟨bx18, 0, none⟩), .int .i64 x677]) rfl (book_Book_Line_calls bx18 A53 c54 A57 c58 A61 c62 t47.2 x677 _ o671 1 114 f52 _ f55.rd hc56 _ (f59.imp fun _ h_ => Own.rd h_) hc60 _ (f63.imp fun _ h_ => Own.rd h_) hc64 (by decide) (by decide) (by decide) (by decide) (by decide) 118  _ hc706) ?_
        rintro _ w707 ⟨o708, A710, c711, rfl, st709, f712, hc713⟩
        replace f164 := f164.st st709 (by decide)
        replace f52 := f52.st st709 (by decide)
        replace f55 := f55.st st709 (by decide)
        replace f59 := f59.st st709 (by decide)
        replace f63 := f63.st st709 (by decide)
        replace f675 := f675.st st709 (by decide)
        replace f900020 := f900020.st st709 (by decide)
        replace fg0 := fg0.st st709 (by decide)
        replace fg1 := fg1.st st709 (by decide)
        replace fg2 := fg2.st st709 (by decide)
        replace hs := hs.locQ st709 hob rfl
        have hk := hk.put 52 (.tuple #[.slice A710 (t705.1).length c711, .bool t705.2]) rfl
        refine x_run tab hk (k := 5) (lv := []) (ks := [1, 5, 6, 7, 8, 10, 11, 45, 46]) (e' := [(1, .slice Ap1 (p1).length cp1), (5, .pointer (some ⟨bx18, 0, none⟩)), (6, .int .i64 t68), (7, .slice A161 (l163).length c162), (8, .slice A672 (l674).length c673), (10, .int .i64 x677), (11, .slice A710 (t705.1).length c711), (45, .int .i64 t68), (46, .int .i64 x677)]) rfl trivial fun a hk => ?_
        refine wpListIn_nil ?_
        refine then_n ?_
        refine wpIn_region_lit ?_
        obtain ⟨q714, H⟩ := ifS H
        obtain ⟨ad715, hAad715⟩ := RdC.addr (Own.rd f675.now) q714
        have hk_C := hk
        have f164_C := f164
        have f52_C := f52
        have f55_C := f55
        have f59_C := f59
        have f63_C := f63
        have f675_C := f675
        have f712_C := f712
        have f900020_C := f900020
        have fg0_C := fg0
        have fg1_C := fg1
        have fg2_C := fg2
        subst hAad715
        have hk := hk_C
        clear hk_C
        have f164 := f164_C
        clear f164_C
        have f52 := f52_C
        clear f52_C
        have f55 := f55_C
        clear f55_C
        have f59 := f59_C
        clear f59_C
        have f63 := f63_C
        clear f63_C
        have f675 := f675_C
        clear f675_C
        have f712 := f712_C
        clear f712_C
        have f900020 := f900020_C
        clear f900020_C
        have fg0 := fg0_C
        clear fg0_C
        have fg1 := fg1_C
        clear fg1_C
        have fg2 := fg2_C
        clear fg2_C
        refine x_run tab hk (k := 5) (lv := []) (ks := [1, 5, 6, 7, 8, 45, 46, 58, 59]) (e' := [(1, .slice Ap1 (p1).length cp1), (5, .pointer (some ⟨bx18, 0, none⟩)), (6, .int .i64 t68), (7, .slice A161 (l163).length c162), (8, .slice (some ad715) (l674).length c673), (45, .int .i64 t68), (46, .int .i64 x677), (58, .int .i64 ((t705.1).length : Int)), (59, .pointer (some (ad715.add (Int.toNat x677 * 1))))]) rfl ⟨q714, trivial⟩ fun a hk => ?_
        refine x_op hk rfl ?_
        refine op_storeO tab hk (E := (encInt .i64)) (i := x677) (j := 0) (dx := 0) (y' := ((t705.1).length : Int)) rfl rfl rfl f675 rfl q714 rfl rfl rfl rfl fun w716 o717 st718 f675_ => ?_
        replace f164 := f164.st st718 (by decide)
        replace f52 := f52.st st718 (by decide)
        replace f55 := f55.st st718 (by decide)
        replace f59 := f59.st st718 (by decide)
        replace f63 := f63.st st718 (by decide)
        replace f900020 := f900020.st st718 (by decide)
        replace fg0 := fg0.st st718 (by decide)
        replace fg1 := fg1.st st718 (by decide)
        replace fg2 := fg2.st st718 (by decide)
        replace hs := hs.locQ st718 hob rfl
        replace f675 := f675_
        have hl719 : (List.set l674 (Int.toNat x677) ((t705.1).length : Int)).length = (l674).length := List.length_set
        replace hk := Kn.re hk [1, 5, 6, 7, 8, 45, 46, 58] (e2 := [(1, .slice Ap1 (p1).length cp1), (5, .pointer (some ⟨bx18, 0, none⟩)), (6, .int .i64 t68), (7, .slice A161 (l163).length c162), (8, .slice (some ad715) ((List.set l674 (Int.toNat x677) ((t705.1).length : Int))).length c673), (45, .int .i64 t68), (46, .int .i64 x677), (58, .int .i64 ((t705.1).length : Int))]) rfl (by rw [hl719])
        refine wpListIn_nil ?_
        refine blk_n ?_
        refine then_n ?_
        refine wpIn_region_lit ?_
        refine x_run tab hk (k := 2) (lv := []) (ks := [1, 5, 6, 7, 8, 45, 46]) (e' := [(1, .slice Ap1 (p1).length cp1), (5, .pointer (some ⟨bx18, 0, none⟩)), (6, .int .i64 t68), (7, .slice A161 (l163).length c162), (8, .slice (some ad715) ((List.set l674 (Int.toNat x677) ((t705.1).length : Int))).length c673), (45, .int .i64 t68), (46, .int .i64 (IntKind.wrap .i64 (x677 + 1)))]) rfl trivial fun a hk => ?_
        refine wpListIn_nil ?_
        refine then_n ?_
        exact ⟨k698, Nat.le_refl _, o717, (some ad715), c673, (List.set l674 (Int.toNat x677) ((t705.1).length : Int)), (IntKind.wrap .i64 (x677 + 1)), (by exact Kn.pick (ks := [1, 5, 6, 7, 8, 45, 46]) hk rfl), hs, f164, f52, f55, f59, f63, f675, f900020, fg0, fg1, fg2, (by rw [List.length_set]; exact hc676), (hlp700 ▸ H)⟩
    refine x_seq ?_
    refine wpIn_region_lit ?_
    refine x_run tab hk (k := 3) (lv := []) (ks := [1, 5, 6, 7, 8, 34, 35]) (e' := [(1, .slice Ap1 (p1).length cp1), (5, .pointer (some ⟨bx18, 0, none⟩)), (6, .int .i64 t68), (7, .slice A78 ((List.replicate (Int.toNat (IntKind.wrap .i64 (t68 + 1))) (0 : Int))).length c79), (8, .slice A87 ((List.replicate (Int.toNat t68) (0 : Int))).length c88), (34, .int .i64 (IntKind.wrap .i64 (t68 + 1))), (35, .int .i64 0)]) rfl trivial fun a hk => ?_
    refine wpListIn_nil ?_
    refine then_n ?_
    refine wpIn_block ?_
    refine x_loop (fun j_ a_ w_ => ∃ o738 : Nat → Nat, ∃ A739 : Option Addr, ∃ c740 : Nat, ∃ l741 : List Int, ∃ x744 : Int, Kn 105 a_ [(1, .slice Ap1 (p1).length cp1), (5, .pointer (some ⟨bx18, 0, none⟩)), (6, .int .i64 t68), (7, .slice A739 (l741).length c740), (8, .slice A87 ((List.replicate (Int.toNat t68) (0 : Int))).length c88), (34, .int .i64 (IntKind.wrap .i64 (t68 + 1))), (35, .int .i64 x744)] ∧ St [] w oi w_ o738 ∧ Ft (Bx bx18 76 [.slice A53 (t47.2.l).length c54, .slice A57 (t47.2.chains).length c58, .slice A61 (t47.2.begun).length c62]) w_ o738 128 ∧ NOwn (dRows ET49) 40 A53 c54 t47.2.l w_ o738 125 1 ∧ Ft (Own (encInt .i64) 3 (.slice A57 (t47.2.chains).length c58) t47.2.chains) w_ o738 126 ∧ Ft (Own ET49 50 (.slice A61 (t47.2.begun).length c62) t47.2.begun) w_ o738 127 ∧ Ft (Own (encInt .i64) 3 (.slice A739 (l741).length c740) l741) w_ o738 129 ∧ Ft (Own (encInt .i64) 3 (.slice A87 ((List.replicate (Int.toNat t68) (0 : Int))).length c88) (List.replicate (Int.toNat t68) (0 : Int))) w_ o738 130 ∧ NRd dT26 Ap1 p1 w_ o738 0 1 ∧ Ft (RdC ET111 (some ⟨0, 0, none⟩) glob0) w_ o738 0 ∧ Ft (RdC ET111 (some ⟨1, 0, none⟩) glob1) w_ o738 0 ∧ Ft (RdC (encInt .u32) (some ⟨2, 0, none⟩) glob2) w_ o738 0 ∧ (l741).length ≤ c740 ∧ tidewracklaw12_BookStays_l8 K p1 t47 t68 j_ l741 x744 = some r) (k := K) ⟨(fun b_ => (fun l_ => if l_ = 2 then 128 else if l_ = 3 then 125 else if l_ = 4 then 126 else if l_ = 5 then 127 else if l_ = 7 then 129 else if l_ = 8 then 130 else l_) (o83 b_)), A78, c79, (List.replicate (Int.toNat (IntKind.wrap .i64 (t68 + 1))) (0 : Int)), 0, (by exact Kn.pick (ks := [1, 5, 6, 7, 8, 34, 35]) hk rfl), (hs.relabM hob (fun l_ => if l_ = 2 then 128 else if l_ = 3 then 125 else if l_ = 4 then 126 else if l_ = 5 then 127 else if l_ = 7 then 129 else if l_ = 8 then 130 else l_) (by decide)), (f52.relab (fun l_ => if l_ = 2 then 128 else if l_ = 3 then 125 else if l_ = 4 then 126 else if l_ = 5 then 127 else if l_ = 7 then 129 else if l_ = 8 then 130 else l_) rfl), (f55.relab (fun l_ => if l_ = 2 then 128 else if l_ = 3 then 125 else if l_ = 4 then 126 else if l_ = 5 then 127 else if l_ = 7 then 129 else if l_ = 8 then 130 else l_) rfl), (f59.relab (fun l_ => if l_ = 2 then 128 else if l_ = 3 then 125 else if l_ = 4 then 126 else if l_ = 5 then 127 else if l_ = 7 then 129 else if l_ = 8 then 130 else l_) rfl), (f63.relab (fun l_ => if l_ = 2 then 128 else if l_ = 3 then 125 else if l_ = 4 then 126 else if l_ = 5 then 127 else if l_ = 7 then 129 else if l_ = 8 then 130 else l_) rfl), (f80.relab (fun l_ => if l_ = 2 then 128 else if l_ = 3 then 125 else if l_ = 4 then 126 else if l_ = 5 then 127 else if l_ = 7 then 129 else if l_ = 8 then 130 else l_) rfl), (f89.relab (fun l_ => if l_ = 2 then 128 else if l_ = 3 then 125 else if l_ = 4 then 126 else if l_ = 5 then 127 else if l_ = 7 then 129 else if l_ = 8 then 130 else l_) rfl), (f900020.relab (fun l_ => if l_ = 2 then 128 else if l_ = 3 then 125 else if l_ = 4 then 126 else if l_ = 5 then 127 else if l_ = 7 then 129 else if l_ = 8 then 130 else l_) rfl), (fg0.relab (fun l_ => if l_ = 2 then 128 else if l_ = 3 then 125 else if l_ = 4 then 126 else if l_ = 5 then 127 else if l_ = 7 then 129 else if l_ = 8 then 130 else l_) rfl), (fg1.relab (fun l_ => if l_ = 2 then 128 else if l_ = 3 then 125 else if l_ = 4 then 126 else if l_ = 5 then 127 else if l_ = 7 then 129 else if l_ = 8 then 130 else l_) rfl), (fg2.relab (fun l_ => if l_ = 2 then 128 else if l_ = 3 then 125 else if l_ = 4 then 126 else if l_ = 5 then 127 else if l_ = 7 then 129 else if l_ = 8 then 130 else l_) rfl), hc81, H⟩ (by rintro _ _ ⟨_, _, _, _, _, _, _, _, _, _, _, _, _, _, _, _, _, _, H_⟩; exact absurd (show (none : Option Bool) = some r from H_) (by simp)) ?_
    rintro k761 a w760 ⟨o738, A739, c740, l741, x744, hk, hs, f52, f55, f59, f63, f742, f89, f900020, fg0, fg1, fg2, hc743, H⟩
    rw [tidewracklaw12_BookStays_l8] at H
    obtain ⟨lp762, hlp763⟩ : ∃ lp_, lp_ = tidewracklaw12_BookStays_l8 K p1 t47 t68 k761 := ⟨_, rfl⟩
    rw [← hlp763] at H
    refine x_seq ?_
    refine wpIn_region_lit ?_
    refine x_run tab hk (k := 1) (lv := []) (ks := [1, 5, 6, 7, 8, 34, 35, 36]) (e' := [(1, .slice Ap1 (p1).length cp1), (5, .pointer (some ⟨bx18, 0, none⟩)), (6, .int .i64 t68), (7, .slice A739 (l741).length c740), (8, .slice A87 ((List.replicate (Int.toNat t68) (0 : Int))).length c88), (34, .int .i64 (IntKind.wrap .i64 (t68 + 1))), (35, .int .i64 x744), (36, .bool (decide (x744 < (IntKind.wrap .i64 (t68 + 1)))))]) rfl trivial fun a hk => ?_
    refine wpListIn_nil ?_
    refine then_n ?_
    refine x_seq ?_
    cases b764 : (decide (x744 < (IntKind.wrap .i64 (t68 + 1))))
    · rw [b764] at hk H
      replace H := bifF H
      refine x_if hk (b := false) rfl ?_
      refine (show Code.wpIn _ _ _ _ _ _ _ from ?_)
      refine wpIn_exit ?_
      refine then_x ?_
      refine then_x ?_
      refine blk_x ?_
      refine then_n ?_
      exact ⟨(fun b_ => (fun l_ => if l_ = 125 then 21 else if l_ = 126 then 22 else if l_ = 127 then 23 else if l_ = 128 then 24 else if l_ = 129 then 25 else if l_ = 130 then 26 else l_) (o738 b_)), A739, c740, l741, (by exact Kn.pick (ks := [1, 5, 6, 7, 8]) hk rfl), (hs.relabM hob (fun l_ => if l_ = 125 then 21 else if l_ = 126 then 22 else if l_ = 127 then 23 else if l_ = 128 then 24 else if l_ = 129 then 25 else if l_ = 130 then 26 else l_) (by decide)), (f742.relab (fun l_ => if l_ = 125 then 21 else if l_ = 126 then 22 else if l_ = 127 then 23 else if l_ = 128 then 24 else if l_ = 129 then 25 else if l_ = 130 then 26 else l_) rfl), (f52.relab (fun l_ => if l_ = 125 then 21 else if l_ = 126 then 22 else if l_ = 127 then 23 else if l_ = 128 then 24 else if l_ = 129 then 25 else if l_ = 130 then 26 else l_) rfl), (f55.relab (fun l_ => if l_ = 125 then 21 else if l_ = 126 then 22 else if l_ = 127 then 23 else if l_ = 128 then 24 else if l_ = 129 then 25 else if l_ = 130 then 26 else l_) rfl), (f59.relab (fun l_ => if l_ = 125 then 21 else if l_ = 126 then 22 else if l_ = 127 then 23 else if l_ = 128 then 24 else if l_ = 129 then 25 else if l_ = 130 then 26 else l_) rfl), (f63.relab (fun l_ => if l_ = 125 then 21 else if l_ = 126 then 22 else if l_ = 127 then 23 else if l_ = 128 then 24 else if l_ = 129 then 25 else if l_ = 130 then 26 else l_) rfl), (f89.relab (fun l_ => if l_ = 125 then 21 else if l_ = 126 then 22 else if l_ = 127 then 23 else if l_ = 128 then 24 else if l_ = 129 then 25 else if l_ = 130 then 26 else l_) rfl), (f900020.relab (fun l_ => if l_ = 125 then 21 else if l_ = 126 then 22 else if l_ = 127 then 23 else if l_ = 128 then 24 else if l_ = 129 then 25 else if l_ = 130 then 26 else l_) rfl), (fg0.relab (fun l_ => if l_ = 125 then 21 else if l_ = 126 then 22 else if l_ = 127 then 23 else if l_ = 128 then 24 else if l_ = 129 then 25 else if l_ = 130 then 26 else l_) rfl), (fg1.relab (fun l_ => if l_ = 125 then 21 else if l_ = 126 then 22 else if l_ = 127 then 23 else if l_ = 128 then 24 else if l_ = 129 then 25 else if l_ = 130 then 26 else l_) rfl), (fg2.relab (fun l_ => if l_ = 125 then 21 else if l_ = 126 then 22 else if l_ = 127 then 23 else if l_ = 128 then 24 else if l_ = 129 then 25 else if l_ = 130 then 26 else l_) rfl), hc743, H⟩
    · rw [b764] at hk H
      replace H := bifT H
      refine x_if hk (b := true) rfl ?_
      refine (show Code.wpIn _ _ _ _ _ _ _ from ?_)
      refine wpIn_skip ?_
      refine then_n ?_
      refine x_seq ?_
      refine wpIn_block ?_
      refine x_seq ?_
      refine wpIn_region_lit ?_
      refine x_run tab hk (k := 2) (lv := []) (ks := [1, 5, 6, 7, 8, 9, 34, 35]) (e' := [(1, .slice Ap1 (p1).length cp1), (5, .pointer (some ⟨bx18, 0, none⟩)), (6, .int .i64 t68), (7, .slice A739 (l741).length c740), (8, .slice A87 ((List.replicate (Int.toNat t68) (0 : Int))).length c88), (9, .int .i64 x744), (34, .int .i64 (IntKind.wrap .i64 (t68 + 1))), (35, .int .i64 x744)]) rfl trivial fun a hk => ?_
      refine wpListIn_nil ?_
      refine then_n ?_
      refine wpIn_region_lit ?_
      refine x_run tab hk (k := 4) (lv := []) (ks := [1, 5, 6, 7, 8, 34, 35, 38, 39, 40, 41]) (e' := [(1, .slice Ap1 (p1).length cp1), (5, .pointer (some ⟨bx18, 0, none⟩)), (6, .int .i64 t68), (7, .slice A739 (l741).length c740), (8, .slice A87 ((List.replicate (Int.toNat t68) (0 : Int))).length c88), (34, .int .i64 (IntKind.wrap .i64 (t68 + 1))), (35, .int .i64 x744), (38, .slice A739 (l741).length c740), (39, .int .i64 x744), (40, .pointer (some ⟨bx18, 0, none⟩)), (41, .int .i64 x744)]) rfl trivial fun a hk => ?_
      refine x_op hk rfl ?_
      obtain ⟨t768, hc769, H⟩ := bindS H
      refine op_call hk ent_21 (vs := [.pointer (some ⟨bx18, 0, none⟩), .int .i64 x744]) rfl (book_Book_Chain_calls bx18 A53 c54 A57 c58 A61 c62 t47.2 x744 _ o738 1 128 f52 _ f55.rd hc56 _ (f59.imp fun _ h_ => Own.rd h_) hc60 _ (f63.imp fun _ h_ => Own.rd h_) hc64 (by decide) (by decide) (by decide) (by decide) (by decide)   _ hc769) ?_
      rintro _ w770 ⟨o771, rfl, st772⟩
      replace f52 := f52.st st772 (by decide)
      replace f55 := f55.st st772 (by decide)
      replace f59 := f59.st st772 (by decide)
      replace f63 := f63.st st772 (by decide)
      replace f742 := f742.st st772 (by decide)
      replace f89 := f89.st st772 (by decide)
      replace f900020 := f900020.st st772 (by decide)
      replace fg0 := fg0.st st772 (by decide)
      replace fg1 := fg1.st st772 (by decide)
      replace fg2 := fg2.st st772 (by decide)
      replace hs := hs.locQ st772 hob rfl
      have hk := hk.put 42 (.int .i64 t768) rfl
      obtain ⟨q773, H⟩ := ifS H
      obtain ⟨ad774, hAad774⟩ := RdC.addr (Own.rd f742.now) q773
      have hk_C := hk
      have f52_C := f52
      have f55_C := f55
      have f59_C := f59
      have f63_C := f63
      have f742_C := f742
      have f89_C := f89
      have f900020_C := f900020
      have fg0_C := fg0
      have fg1_C := fg1
      have fg2_C := fg2
      subst hAad774
      have hk := hk_C
      clear hk_C
      have f52 := f52_C
      clear f52_C
      have f55 := f55_C
      clear f55_C
      have f59 := f59_C
      clear f59_C
      have f63 := f63_C
      clear f63_C
      have f742 := f742_C
      clear f742_C
      have f89 := f89_C
      clear f89_C
      have f900020 := f900020_C
      clear f900020_C
      have fg0 := fg0_C
      clear fg0_C
      have fg1 := fg1_C
      clear fg1_C
      have fg2 := fg2_C
      clear fg2_C
      refine x_run tab hk (k := 1) (lv := []) (ks := [1, 5, 6, 7, 8, 34, 35, 42, 43]) (e' := [(1, .slice Ap1 (p1).length cp1), (5, .pointer (some ⟨bx18, 0, none⟩)), (6, .int .i64 t68), (7, .slice (some ad774) (l741).length c740), (8, .slice A87 ((List.replicate (Int.toNat t68) (0 : Int))).length c88), (34, .int .i64 (IntKind.wrap .i64 (t68 + 1))), (35, .int .i64 x744), (42, .int .i64 t768), (43, .pointer (some (ad774.add (Int.toNat x744 * 1))))]) rfl ⟨q773, trivial⟩ fun a hk => ?_
      refine x_op hk rfl ?_
      refine op_storeO tab hk (E := (encInt .i64)) (i := x744) (j := 0) (dx := 0) (y' := t768) rfl rfl rfl f742 rfl q773 rfl rfl rfl rfl fun w775 o776 st777 f742_ => ?_
      replace f52 := f52.st st777 (by decide)
      replace f55 := f55.st st777 (by decide)
      replace f59 := f59.st st777 (by decide)
      replace f63 := f63.st st777 (by decide)
      replace f89 := f89.st st777 (by decide)
      replace f900020 := f900020.st st777 (by decide)
      replace fg0 := fg0.st st777 (by decide)
      replace fg1 := fg1.st st777 (by decide)
      replace fg2 := fg2.st st777 (by decide)
      replace hs := hs.locQ st777 hob rfl
      replace f742 := f742_
      have hl778 : (List.set l741 (Int.toNat x744) t768).length = (l741).length := List.length_set
      replace hk := Kn.re hk [1, 5, 6, 7, 8, 34, 35, 42] (e2 := [(1, .slice Ap1 (p1).length cp1), (5, .pointer (some ⟨bx18, 0, none⟩)), (6, .int .i64 t68), (7, .slice (some ad774) ((List.set l741 (Int.toNat x744) t768)).length c740), (8, .slice A87 ((List.replicate (Int.toNat t68) (0 : Int))).length c88), (34, .int .i64 (IntKind.wrap .i64 (t68 + 1))), (35, .int .i64 x744), (42, .int .i64 t768)]) rfl (by rw [hl778])
      refine wpListIn_nil ?_
      refine blk_n ?_
      refine then_n ?_
      refine wpIn_region_lit ?_
      refine x_run tab hk (k := 2) (lv := []) (ks := [1, 5, 6, 7, 8, 34, 35]) (e' := [(1, .slice Ap1 (p1).length cp1), (5, .pointer (some ⟨bx18, 0, none⟩)), (6, .int .i64 t68), (7, .slice (some ad774) ((List.set l741 (Int.toNat x744) t768)).length c740), (8, .slice A87 ((List.replicate (Int.toNat t68) (0 : Int))).length c88), (34, .int .i64 (IntKind.wrap .i64 (t68 + 1))), (35, .int .i64 (IntKind.wrap .i64 (x744 + 1)))]) rfl trivial fun a hk => ?_
      refine wpListIn_nil ?_
      refine then_n ?_
      exact ⟨k761, Nat.le_refl _, o776, (some ad774), c740, (List.set l741 (Int.toNat x744) t768), (IntKind.wrap .i64 (x744 + 1)), (by exact Kn.pick (ks := [1, 5, 6, 7, 8, 34, 35]) hk rfl), hs, f52, f55, f59, f63, f742, f89, f900020, fg0, fg1, fg2, (by rw [List.length_set]; exact hc743), (hlp763 ▸ H)⟩
  · rw [b9] at hk H
    replace H := bifT H
    refine x_if hk (b := true) rfl ?_
    refine (show Code.wpIn _ _ _ _ _ _ _ from ?_)
    refine x_seq ?_
    refine wpIn_region_lit ?_
    refine x_run tab hk (k := 1) (lv := []) (ks := [4]) (e' := [(4, .bool false)]) rfl trivial fun a hk => ?_
    refine wpListIn_nil ?_
    refine then_n ?_
    refine wpIn_ret ?_
    refine then_r ?_
    obtain rfl := Option.some.inj H
    exact x_retG hk (rs := [.tmp 4]) (vs := [.bool false]) rfl ⟨rfl, trivial⟩ ⟨fun b_ => if b_ < w.heap.size then o b_ else (fun l_ => if l_ = 1 then LF else 0) (o7 b_), rfl, hs.closeF (Lm := []) (Sh := []) hoa rfl (fun l_ => if l_ = 1 then LF else 0)⟩

/-! tidewrack/tidewracklaw01.Cut -/
theorem tidewracklaw01_Cut_calls (p0 : ByteArray) (p1 : Int) (w : World) (o : Nat → Nat)   (r : ByteArray) (H : tidewracklaw01_Cut p0 p1 = some r) :
    Calls Tryd.prog 22 #[.string p0, .int .i64 p1] w (Ret fun v_ w' => ∃ o' : Nat → Nat, v_ = .string r ∧ St [] w o w' o') := by
  refine x_enter (vs := [.string p0, .int .i64 p1]) Tryd.func22 rfl rfl rfl fun a hk => ?_
  obtain ⟨o0, hs, h0⟩ := St.start w o
  clear h0
  rw [tidewracklaw01_Cut] at H
  refine x_seq ?_
  refine wpIn_region_lit ?_
  refine x_run tab hk (k := 1) (lv := []) (ks := [0, 1]) (e' := [(0, .string p0), (1, .int .i64 p1)]) rfl trivial fun a hk => ?_
  refine wpListIn_nil ?_
  refine then_n ?_
  refine x_seq ?_
  refine x_seq ?_
  refine wpIn_region_lit ?_
  refine x_run tab hk (k := 4) (lv := []) (ks := [0, 1, 8]) (e' := [(0, .string p0), (1, .int .i64 p1), (8, .bool (decide (((p0).size : Int) > p1)))]) rfl trivial fun a hk => ?_
  refine wpListIn_nil ?_
  refine then_n ?_
  cases b1 : (decide (((p0).size : Int) > p1))
  · rw [b1] at hk H
    replace H := bifF H
    refine x_if hk (b := false) rfl ?_
    refine (show Code.wpIn _ _ _ _ _ _ _ from ?_)
    refine wpIn_skip ?_
    refine then_n ?_
    refine x_seq ?_
    refine wpIn_region_lit ?_
    refine x_run tab hk (k := 2) (lv := []) (ks := [4]) (e' := [(4, .string p0)]) rfl trivial fun a hk => ?_
    refine wpListIn_nil ?_
    refine then_n ?_
    refine wpIn_ret ?_
    obtain rfl := Option.some.inj H
    exact x_retG hk (rs := [.tmp 4]) (vs := [.string p0]) rfl ⟨rfl, trivial⟩ ⟨fun b_ => if b_ < w.heap.size then o b_ else (fun _ => 0) (o0 b_), rfl, hs.close0 o (fun _ => 0)⟩
  · rw [b1] at hk H
    replace H := bifT H
    refine x_if hk (b := true) rfl ?_
    refine (show Code.wpIn _ _ _ _ _ _ _ from ?_)
    refine x_seq ?_
    refine wpIn_region_lit ?_
    obtain ⟨q2, H⟩ := ifS H
    obtain ⟨q3, H⟩ := ifS H
    refine x_run tab hk (k := 4) (lv := []) (ks := [4]) (e' := [(4, .string (ByteArray.extract p0 0 (Int.toNat p1)))]) rfl ⟨q2, q3, trivial⟩ fun a hk => ?_
    refine wpListIn_nil ?_
    refine then_n ?_
    refine wpIn_ret ?_
    refine then_r ?_
    obtain rfl := Option.some.inj H
    exact x_retG hk (rs := [.tmp 4]) (vs := [.string (ByteArray.extract p0 0 (Int.toNat p1))]) rfl ⟨rfl, trivial⟩ ⟨fun b_ => if b_ < w.heap.size then o b_ else (fun _ => 0) (o0 b_), rfl, hs.close0 o (fun _ => 0)⟩

/-! tidewrack/num.Of -/
theorem num_Of_calls (p0 : ByteArray) (w : World) (o : Nat → Nat)   (R0 : Nat) (r : T88) (H : num_Of p0 = some r) :
    Calls Tryd.prog 23 #[.string p0] w (Ret fun v_ w' => ∃ o' : Nat → Nat, ∃ b0 : Nat, v_ = .pointer (some ⟨b0, 0, none⟩) ∧ St [] w o w' o' ∧ Ft (Bx b0 89 [.string r.s, .int .i64 r.e]) w' o' R0) := by
  refine x_enter (vs := [.string p0]) Tryd.func23 rfl rfl rfl fun a hk => ?_
  obtain ⟨o0, hs, h0⟩ := St.start w o
  clear h0
  rw [num_Of] at H
  refine x_seq ?_
  refine wpIn_region_lit ?_
  refine x_run tab hk (k := 1) (lv := []) (ks := [0]) (e' := [(0, .string p0)]) rfl trivial fun a hk => ?_
  refine wpListIn_nil ?_
  refine then_n ?_
  refine x_seq ?_
  refine wpIn_region_lit ?_
  refine x_run tab hk (k := 2) (lv := []) (ks := [4]) (e' := [(4, .agg #[.string p0, .int .i64 0])]) rfl trivial fun a hk => ?_
  refine x_op hk rfl ?_
  refine op_box (o := o0) (t := 89) (v := .agg #[.string p0, .int .i64 0]) (cs := [.string p0, .int .i64 0]) hk rfl rfl 1 fun bx4 w1 o2 st3 f5 => ?_
  replace hs := hs.loc0 st3 (by decide)
  have hk := hk.put 5 (.pointer (some ⟨bx4, 0, none⟩)) rfl
  refine x_run tab hk (k := 1) (lv := []) (ks := [2]) (e' := [(2, .pointer (some ⟨bx4, 0, none⟩))]) rfl trivial fun a hk => ?_
  refine wpListIn_nil ?_
  refine then_n ?_
  refine wpIn_ret ?_
  obtain rfl := Option.some.inj H
  exact x_retG hk (rs := [.tmp 2]) (vs := [.pointer (some ⟨bx4, 0, none⟩)]) rfl ⟨rfl, trivial⟩ ⟨fun b_ => if b_ < w.heap.size then o b_ else (fun _ => R0) (o2 b_), bx4, rfl, hs.close0 o (fun _ => R0), hs.close_ft (o := o) (ρ := fun _ => R0) f5 (by decide) rfl⟩

/-! (*tidewrack/num.In).Fail -/
theorem num_In_Fail_calls (bp0 : Nat) (p0 : T88) (p1 : Int) (w : World) (o : Nat → Nat) (Lp0 : Nat) (hp0 : Ft (Bx bp0 89 [.string p0.s, .int .i64 p0.e]) w o Lp0) (hd0 : ([Lp0] : List Nat).Nodup) (r : T88) (H : num_In_Fail p0 p1 = some r) :
    Calls Tryd.prog 51 #[.pointer (some ⟨bp0, 0, none⟩), .int .i64 p1] w (Ret fun v_ w' => ∃ o' : Nat → Nat, v_ = .tuple #[] ∧ St [Lp0] w o w' o' ∧ Ft (Bx bp0 89 [.string r.s, .int .i64 r.e]) w' o' Lp0) := by
  refine x_enter (vs := [.pointer (some ⟨bp0, 0, none⟩), .int .i64 p1]) Tryd.func51 rfl rfl rfl fun a hk => ?_
  obtain ⟨oi, hs0, h0, h1, hob, hoz, hoa⟩ := St.startM2 w o (m := 1) hd0 rfl
  have hs := hs0 [1]
  have hom := lab_in hob (MM := [1]) (by decide)
  have f900019 := h1 0 1 hp0 rfl rfl
  clear h0 h1 hs0
  rw [num_In_Fail] at H
  refine x_mid (fun a_ w_ => ∃ o8 : Nat → Nat, ∃ x9 : Bool, Kn 20 a_ [(0, .pointer (some ⟨bp0, 0, none⟩)), (1, .int .i64 p1), (12, .bool x9)] ∧ St [1] w oi w_ o8 ∧ Ft (Bx bp0 89 [.string p0.s, .int .i64 p0.e]) w_ o8 1 ∧ num_In_Fail_j1 p0 p1 x9 = some r) ?_ ?_
  rotate_left
  · rintro a w10 ⟨o8, x9, hk, hs, f900019, H⟩
    rw [num_In_Fail_j1] at H
    cases b11 : x9
    · rw [b11] at hk H
      replace H := bifF H
      refine x_if hk (b := false) rfl ?_
      refine (show Code.wpIn _ _ _ _ _ _ _ from ?_)
      refine wpIn_skip ?_
      obtain rfl := Option.some.inj H
      exact x_endG hk (rs := []) (vs := []) rfl trivial ⟨fun b_ => if b_ < w.heap.size then o b_ else (fun l_ => if l_ = 1 then Lp0 else 0) (o8 b_), rfl, hs.closeM hoz (by decide) (fun l_ => if l_ = 1 then Lp0 else 0), hs.closeM_ft (o := o) (ρ := fun l_ => if l_ = 1 then Lp0 else 0) f900019 (lab_at hoa (i := 0) rfl) rfl⟩
    · rw [b11] at hk H
      replace H := bifT H
      refine x_if hk (b := true) rfl ?_
      refine (show Code.wpIn _ _ _ _ _ _ _ from ?_)
      refine wpIn_region_lit ?_
      refine x_run tab hk (k := 5) (lv := []) (ks := [14, 15, 17]) (e' := [(14, .pointer (some ⟨bp0, 0, none⟩)), (15, .int .i64 p1), (17, .pointer (some ⟨bp0, 0, none⟩))]) rfl trivial fun a hk => ?_
      refine x_op hk rfl ?_
      refine op_store tab hk (t := 9) (v := .string (⟨#[]⟩ : ByteArray)) (b := bp0) (k := 0) (cs' := [.string (⟨#[]⟩ : ByteArray), .int .i64 p0.e]) rfl rfl rfl rfl rfl rfl f900019 rfl rfl fun w12 o13 st14 f900019_ => ?_
      replace hs := hs.locM st14 (by decide) hom
      replace f900019 := f900019_
      refine x_run tab hk (k := 2) (lv := []) (ks := [15, 19]) (e' := [(15, .int .i64 p1), (19, .pointer (some ((⟨bp0, 0, none⟩ : Addr).add 1)))]) rfl trivial fun a hk => ?_
      refine x_op hk rfl ?_
      refine op_store tab hk (t := 65) (v := .int .i64 p1) (b := bp0) (k := 1) (cs' := [.string (⟨#[]⟩ : ByteArray), .int .i64 p1]) rfl rfl rfl rfl rfl rfl f900019 rfl rfl fun w15 o16 st17 f900019_ => ?_
      replace hs := hs.locM st17 (by decide) hom
      replace f900019 := f900019_
      refine wpListIn_nil ?_
      obtain rfl := Option.some.inj H
      exact x_endG hk (rs := []) (vs := []) rfl trivial ⟨fun b_ => if b_ < w.heap.size then o b_ else (fun l_ => if l_ = 1 then Lp0 else 0) (o16 b_), rfl, hs.closeM hoz (by decide) (fun l_ => if l_ = 1 then Lp0 else 0), hs.closeM_ft (o := o) (ρ := fun l_ => if l_ = 1 then Lp0 else 0) f900019 (lab_at hoa (i := 0) rfl) rfl⟩
  refine wpIn_region_lit ?_
  refine x_run tab hk (k := 6) (lv := [.int .i64 p0.e]) (ks := [0, 1, 9]) (e' := [(0, .pointer (some ⟨bp0, 0, none⟩)), (1, .int .i64 p1), (9, .bool (p0.e == (0 : Int)))]) rfl ⟨(load1 tab rfl ((Bx.cell f900019.now 1).trans rfl)), trivial⟩ fun a hk => ?_
  cases b18 : (p0.e == (0 : Int))
  · rw [b18] at hk H
    replace H := bifF H
    refine x_run tab hk (k := 3) (lv := []) (ks := [0, 1, 12]) (e' := [(0, .pointer (some ⟨bp0, 0, none⟩)), (1, .int .i64 p1), (12, .bool false)]) rfl trivial fun a hk => ?_
    refine wpListIn_nil ?_
    refine then_n ?_
    exact ⟨oi, false, (by exact Kn.pick (ks := [0, 1, 12]) hk rfl), hs, f900019, H⟩
  · rw [b18] at hk H
    replace H := bifT H
    refine x_run tab hk (k := 3) (lv := []) (ks := [0, 1, 12]) (e' := [(0, .pointer (some ⟨bp0, 0, none⟩)), (1, .int .i64 p1), (12, .bool (p1 != (0 : Int)))]) rfl trivial fun a hk => ?_
    refine wpListIn_nil ?_
    refine then_n ?_
    exact ⟨oi, (p1 != (0 : Int)), (by exact Kn.pick (ks := [0, 1, 12]) hk rfl), hs, f900019, H⟩

/-! (*tidewrack/num.In).Num -/
theorem num_In_Num_calls (K : Nat) (bp0 : Nat) (p0 : T88) (w : World) (o : Nat → Nat) (Lp0 : Nat) (hp0 : Ft (Bx bp0 89 [.string p0.s, .int .i64 p0.e]) w o Lp0) (hd0 : ([Lp0] : List Nat).Nodup) (r : Int × T88) (H : num_In_Num K p0 = some r) :
    Calls Tryd.prog 50 #[.pointer (some ⟨bp0, 0, none⟩)] w (Ret fun v_ w' => ∃ o' : Nat → Nat, v_ = .int .i64 r.1 ∧ St [Lp0] w o w' o' ∧ Ft (Bx bp0 89 [.string r.2.s, .int .i64 r.2.e]) w' o' Lp0) := by
  refine x_enter (vs := [.pointer (some ⟨bp0, 0, none⟩)]) Tryd.func50 rfl rfl rfl fun a hk => ?_
  obtain ⟨oi, hs0, h0, h1, hob, hoz, hoa⟩ := St.startM2 w o (m := 1) hd0 rfl
  have hs := hs0 [1]
  have hom := lab_in hob (MM := [1]) (by decide)
  have f900019 := h1 0 1 hp0 rfl rfl
  clear h0 h1 hs0
  rw [num_In_Num] at H
  refine x_seq ?_
  refine wpIn_region_lit ?_
  refine x_run tab hk (k := 1) (lv := []) (ks := [0]) (e' := [(0, .pointer (some ⟨bp0, 0, none⟩))]) rfl trivial fun a hk => ?_
  refine wpListIn_nil ?_
  refine then_n ?_
  refine x_seq ?_
  refine wpIn_region_lit ?_
  refine x_run tab hk (k := 1) (lv := []) (ks := [0, 3]) (e' := [(0, .pointer (some ⟨bp0, 0, none⟩)), (3, .int .i64 0)]) rfl trivial fun a hk => ?_
  refine wpListIn_nil ?_
  refine then_n ?_
  refine x_mid (fun a_ w_ => ∃ o194 : Nat → Nat, Kn 65 a_ [(0, .pointer (some ⟨bp0, 0, none⟩))] ∧ St [1] w oi w_ o194 ∧ Ft (Bx bp0 89 [.string p0.s, .int .i64 p0.e]) w_ o194 1 ∧ num_In_Num_j1 p0 = some r) ?_ ?_
  rotate_left
  · rintro a w195 ⟨o194, hk, hs, f900019, H⟩
    rw [num_In_Num_j1] at H
    refine x_seq ?_
    refine x_seq ?_
    refine wpIn_region_lit ?_
    refine x_run tab hk (k := 6) (lv := [.string p0.s]) (ks := [0, 60]) (e' := [(0, .pointer (some ⟨bp0, 0, none⟩)), (60, .bool (decide (((p0.s).size : Int) ≥ (9 : Int))))]) rfl ⟨(load1 tab rfl ((Bx.cell f900019.now 0).trans rfl)), trivial⟩ fun a hk => ?_
    refine wpListIn_nil ?_
    refine then_n ?_
    cases b196 : (decide (((p0.s).size : Int) ≥ (9 : Int)))
    · rw [b196] at hk H
      replace H := bifF H
      refine x_if hk (b := false) rfl ?_
      refine (show Code.wpIn _ _ _ _ _ _ _ from ?_)
      refine wpIn_skip ?_
      refine then_n ?_
      refine x_seq ?_
      refine wpIn_region_lit ?_
      refine x_run tab hk (k := 1) (lv := []) (ks := [63]) (e' := [(63, .pointer (some ⟨bp0, 0, none⟩))]) rfl trivial fun a hk => ?_
      refine x_op hk rfl ?_
      obtain ⟨t200, hc201, H⟩ := bindS H
      refine op_call hk ent_51 (vs := [.pointer (some ⟨bp0, 0, none⟩), .int .i64 2]) rfl (num_In_Fail_calls bp0 p0 2 _ o194 1 f900019 (by decide)   _ hc201) ?_
      rintro _ w202 ⟨o203, rfl, st204, f205⟩
      replace hs := hs.locM st204 (by decide) hom
      have hk := hk.put 64 (.tuple #[]) rfl
      refine wpListIn_nil ?_
      refine then_n ?_
      refine x_seq ?_
      refine wpIn_region_lit ?_
      refine x_run tab hk (k := 1) (lv := []) (ks := [2]) (e' := [(2, .int .i64 0)]) rfl trivial fun a hk => ?_
      refine wpListIn_nil ?_
      refine then_n ?_
      refine wpIn_ret ?_
      obtain rfl := Option.some.inj H
      exact x_retG hk (rs := [.tmp 2]) (vs := [.int .i64 0]) rfl ⟨rfl, trivial⟩ ⟨fun b_ => if b_ < w.heap.size then o b_ else (fun l_ => if l_ = 1 then Lp0 else 0) (o203 b_), rfl, hs.closeM hoz (by decide) (fun l_ => if l_ = 1 then Lp0 else 0), hs.closeM_ft (o := o) (ρ := fun l_ => if l_ = 1 then Lp0 else 0) f205 (lab_at hoa (i := 0) rfl) rfl⟩
    · rw [b196] at hk H
      replace H := bifT H
      refine x_if hk (b := true) rfl ?_
      refine (show Code.wpIn _ _ _ _ _ _ _ from ?_)
      refine wpIn_region_lit ?_
      refine x_run tab hk (k := 1) (lv := []) (ks := [0, 61]) (e' := [(0, .pointer (some ⟨bp0, 0, none⟩)), (61, .pointer (some ⟨bp0, 0, none⟩))]) rfl trivial fun a hk => ?_
      refine x_op hk rfl ?_
      obtain ⟨t209, hc210, H⟩ := bindS H
      refine op_call hk ent_51 (vs := [.pointer (some ⟨bp0, 0, none⟩), .int .i64 1]) rfl (num_In_Fail_calls bp0 p0 1 _ o194 1 f900019 (by decide)   _ hc210) ?_
      rintro _ w211 ⟨o212, rfl, st213, f214⟩
      replace hs := hs.locM st213 (by decide) hom
      have hk := hk.put 62 (.tuple #[]) rfl
      refine wpListIn_nil ?_
      refine then_n ?_
      refine x_seq ?_
      refine wpIn_region_lit ?_
      refine x_run tab hk (k := 1) (lv := []) (ks := [63]) (e' := [(63, .pointer (some ⟨bp0, 0, none⟩))]) rfl trivial fun a hk => ?_
      refine x_op hk rfl ?_
      obtain ⟨t218, hc219, H⟩ := bindS H
      refine op_call hk ent_51 (vs := [.pointer (some ⟨bp0, 0, none⟩), .int .i64 2]) rfl (num_In_Fail_calls bp0 t209 2 _ o212 1 f214 (by decide)   _ hc219) ?_
      rintro _ w220 ⟨o221, rfl, st222, f223⟩
      replace hs := hs.locM st222 (by decide) hom
      have hk := hk.put 64 (.tuple #[]) rfl
      refine wpListIn_nil ?_
      refine then_n ?_
      refine x_seq ?_
      refine wpIn_region_lit ?_
      refine x_run tab hk (k := 1) (lv := []) (ks := [2]) (e' := [(2, .int .i64 0)]) rfl trivial fun a hk => ?_
      refine wpListIn_nil ?_
      refine then_n ?_
      refine wpIn_ret ?_
      obtain rfl := Option.some.inj H
      exact x_retG hk (rs := [.tmp 2]) (vs := [.int .i64 0]) rfl ⟨rfl, trivial⟩ ⟨fun b_ => if b_ < w.heap.size then o b_ else (fun l_ => if l_ = 1 then Lp0 else 0) (o221 b_), rfl, hs.closeM hoz (by decide) (fun l_ => if l_ = 1 then Lp0 else 0), hs.closeM_ft (o := o) (ρ := fun l_ => if l_ = 1 then Lp0 else 0) f223 (lab_at hoa (i := 0) rfl) rfl⟩
  refine x_seq ?_
  refine wpIn_region_lit ?_
  refine x_run tab hk (k := 7) (lv := [.string p0.s]) (ks := [0, 3, 11, 12]) (e' := [(0, .pointer (some ⟨bp0, 0, none⟩)), (3, .int .i64 0), (11, .int .i64 (mnI ((p0.s).size : Int) 9)), (12, .int .i64 0)]) rfl ⟨(load1 tab rfl ((Bx.cell f900019.now 0).trans rfl)), trivial⟩ fun a hk => ?_
  refine wpListIn_nil ?_
  refine then_n ?_
  refine wpIn_block ?_
  refine x_loop (fun j_ a_ w_ => ∃ o287 : Nat → Nat, ∃ x288 : Int, ∃ x289 : Int, Kn 65 a_ [(0, .pointer (some ⟨bp0, 0, none⟩)), (3, .int .i64 x288), (11, .int .i64 (mnI ((p0.s).size : Int) 9)), (12, .int .i64 x289)] ∧ St [1] w oi w_ o287 ∧ Ft (Bx bp0 89 [.string p0.s, .int .i64 p0.e]) w_ o287 1 ∧ num_In_Num_l2 p0 j_ x288 x289 = some r) (k := K) ⟨oi, 0, 0, (by exact Kn.pick (ks := [0, 3, 11, 12]) hk rfl), hs, f900019, H⟩ (by rintro _ _ ⟨_, _, _, _, _, _, H_⟩; exact absurd (show (none : Option (Int × T88)) = some r from H_) (by simp)) ?_
  rintro k351 a w350 ⟨o287, x288, x289, hk, hs, f900019, H⟩
  rw [num_In_Num_l2] at H
  obtain ⟨lp352, hlp353⟩ : ∃ lp_, lp_ = num_In_Num_l2 p0 k351 := ⟨_, rfl⟩
  rw [← hlp353] at H
  refine x_seq ?_
  refine wpIn_region_lit ?_
  refine x_run tab hk (k := 1) (lv := []) (ks := [0, 3, 11, 12, 13]) (e' := [(0, .pointer (some ⟨bp0, 0, none⟩)), (3, .int .i64 x288), (11, .int .i64 (mnI ((p0.s).size : Int) 9)), (12, .int .i64 x289), (13, .bool (decide (x289 < (mnI ((p0.s).size : Int) 9))))]) rfl trivial fun a hk => ?_
  refine wpListIn_nil ?_
  refine then_n ?_
  refine x_seq ?_
  cases b354 : (decide (x289 < (mnI ((p0.s).size : Int) 9)))
  · rw [b354] at hk H
    replace H := bifF H
    refine x_if hk (b := false) rfl ?_
    refine (show Code.wpIn _ _ _ _ _ _ _ from ?_)
    refine wpIn_exit ?_
    refine then_x ?_
    refine then_x ?_
    refine blk_x ?_
    refine then_n ?_
    exact ⟨o287, (by exact Kn.pick (ks := [0]) hk rfl), hs, f900019, H⟩
  · rw [b354] at hk H
    replace H := bifT H
    refine x_if hk (b := true) rfl ?_
    refine (show Code.wpIn _ _ _ _ _ _ _ from ?_)
    refine wpIn_skip ?_
    refine then_n ?_
    refine x_seq ?_
    refine wpIn_block ?_
    refine x_seq ?_
    refine wpIn_region_lit ?_
    refine x_run tab hk (k := 2) (lv := []) (ks := [0, 3, 4, 11, 12]) (e' := [(0, .pointer (some ⟨bp0, 0, none⟩)), (3, .int .i64 x288), (4, .int .i64 x289), (11, .int .i64 (mnI ((p0.s).size : Int) 9)), (12, .int .i64 x289)]) rfl trivial fun a hk => ?_
    refine wpListIn_nil ?_
    refine then_n ?_
    refine x_seq ?_
    refine wpIn_region_lit ?_
    obtain ⟨q355, H⟩ := ifS H
    refine x_run tab hk (k := 7) (lv := [.string p0.s]) (ks := [0, 3, 4, 5, 11, 12]) (e' := [(0, .pointer (some ⟨bp0, 0, none⟩)), (3, .int .i64 x288), (4, .int .i64 x289), (5, .int .u8 (bt p0.s x289)), (11, .int .i64 (mnI ((p0.s).size : Int) 9)), (12, .int .i64 x289)]) rfl ⟨(load1 tab rfl ((Bx.cell f900019.now 0).trans rfl)), q355, trivial⟩ fun a hk => ?_
    refine wpListIn_nil ?_
    refine then_n ?_
    refine x_seq ?_
    refine wpIn_region_lit ?_
    obtain ⟨q356, H⟩ := ifS H
    refine x_run tab hk (k := 9) (lv := []) (ks := [0, 3, 4, 5, 11, 12]) (e' := [(0, .pointer (some ⟨bp0, 0, none⟩)), (3, .int .i64 (bits .or .i64 x288 (IntKind.wrap .i64 ((IntKind.wrap .i64 (bits .and .u8 (bt p0.s x289) 127)) * 2 ^ min (Int.toNat (IntKind.wrap .i64 (7 * x289))) 64)))), (4, .int .i64 x289), (5, .int .u8 (bt p0.s x289)), (11, .int .i64 (mnI ((p0.s).size : Int) 9)), (12, .int .i64 x289)]) rfl ⟨q356, trivial⟩ fun a hk => ?_
    refine wpListIn_nil ?_
    refine then_n ?_
    refine x_seq ?_
    refine x_seq ?_
    refine wpIn_region_lit ?_
    refine x_run tab hk (k := 2) (lv := []) (ks := [0, 3, 4, 5, 11, 12, 30]) (e' := [(0, .pointer (some ⟨bp0, 0, none⟩)), (3, .int .i64 (bits .or .i64 x288 (IntKind.wrap .i64 ((IntKind.wrap .i64 (bits .and .u8 (bt p0.s x289) 127)) * 2 ^ min (Int.toNat (IntKind.wrap .i64 (7 * x289))) 64)))), (4, .int .i64 x289), (5, .int .u8 (bt p0.s x289)), (11, .int .i64 (mnI ((p0.s).size : Int) 9)), (12, .int .i64 x289), (30, .bool (decide ((bt p0.s x289) ≥ (128 : Int))))]) rfl trivial fun a hk => ?_
    refine wpListIn_nil ?_
    refine then_n ?_
    cases b357 : (decide ((bt p0.s x289) ≥ (128 : Int)))
    · rw [b357] at hk H
      replace H := bifF H
      refine x_if hk (b := false) rfl ?_
      refine (show Code.wpIn _ _ _ _ _ _ _ from ?_)
      refine wpIn_skip ?_
      refine then_n ?_
      refine x_mid (fun a_ w_ => ∃ o384 : Nat → Nat, Kn 65 a_ [(0, .pointer (some ⟨bp0, 0, none⟩)), (3, .int .i64 (bits .or .i64 x288 (IntKind.wrap .i64 ((IntKind.wrap .i64 (bits .and .u8 (bt p0.s x289) 127)) * 2 ^ min (Int.toNat (IntKind.wrap .i64 (7 * x289))) 64)))), (4, .int .i64 x289)] ∧ St [1] w oi w_ o384 ∧ Ft (Bx bp0 89 [.string p0.s, .int .i64 p0.e]) w_ o384 1 ∧ num_In_Num_j3 p0 x288 x289 = some r) ?_ ?_
      rotate_left
      · rintro a w385 ⟨o384, hk, hs, f900019, H⟩
        rw [num_In_Num_j3] at H
        refine x_seq ?_
        refine wpIn_region_lit ?_
        obtain ⟨q386, H⟩ := ifS H
        obtain ⟨q387, H⟩ := ifS H
        refine x_run tab hk (k := 10) (lv := [.string p0.s]) (ks := [3, 50, 52]) (e' := [(3, .int .i64 (bits .or .i64 x288 (IntKind.wrap .i64 ((IntKind.wrap .i64 (bits .and .u8 (bt p0.s x289) 127)) * 2 ^ min (Int.toNat (IntKind.wrap .i64 (7 * x289))) 64)))), (50, .string (ByteArray.extract p0.s (Int.toNat (IntKind.wrap .i64 (x289 + 1))) (p0.s).size)), (52, .pointer (some ⟨bp0, 0, none⟩))]) rfl ⟨(load1 tab rfl ((Bx.cell f900019.now 0).trans rfl)), q386, q387, trivial⟩ fun a hk => ?_
        refine x_op hk rfl ?_
        refine op_store tab hk (t := 9) (v := .string (ByteArray.extract p0.s (Int.toNat (IntKind.wrap .i64 (x289 + 1))) (p0.s).size)) (b := bp0) (k := 0) (cs' := [.string (ByteArray.extract p0.s (Int.toNat (IntKind.wrap .i64 (x289 + 1))) (p0.s).size), .int .i64 p0.e]) rfl rfl rfl rfl rfl rfl f900019 rfl rfl fun w388 o389 st390 f900019_ => ?_
        replace hs := hs.locM st390 (by decide) hom
        replace f900019 := f900019_
        refine wpListIn_nil ?_
        refine then_n ?_
        refine x_seq ?_
        refine wpIn_region_lit ?_
        refine x_run tab hk (k := 2) (lv := []) (ks := [2]) (e' := [(2, .int .i64 (bits .or .i64 x288 (IntKind.wrap .i64 ((IntKind.wrap .i64 (bits .and .u8 (bt p0.s x289) 127)) * 2 ^ min (Int.toNat (IntKind.wrap .i64 (7 * x289))) 64))))]) rfl trivial fun a hk => ?_
        refine wpListIn_nil ?_
        refine then_n ?_
        refine wpIn_ret ?_
        refine blk_r ?_
        refine then_r ?_
        refine then_r ?_
        refine blk_r ?_
        refine then_r ?_
        obtain rfl := Option.some.inj H
        exact x_retG hk (rs := [.tmp 2]) (vs := [.int .i64 (bits .or .i64 x288 (IntKind.wrap .i64 ((IntKind.wrap .i64 (bits .and .u8 (bt p0.s x289) 127)) * 2 ^ min (Int.toNat (IntKind.wrap .i64 (7 * x289))) 64)))]) rfl ⟨rfl, trivial⟩ ⟨fun b_ => if b_ < w.heap.size then o b_ else (fun l_ => if l_ = 1 then Lp0 else 0) (o389 b_), rfl, hs.closeM hoz (by decide) (fun l_ => if l_ = 1 then Lp0 else 0), hs.closeM_ft (o := o) (ρ := fun l_ => if l_ = 1 then Lp0 else 0) f900019 (lab_at hoa (i := 0) rfl) rfl⟩
      refine x_mid (fun a_ w_ => ∃ o399 : Nat → Nat, ∃ x400 : Bool, Kn 65 a_ [(0, .pointer (some ⟨bp0, 0, none⟩)), (3, .int .i64 (bits .or .i64 x288 (IntKind.wrap .i64 ((IntKind.wrap .i64 (bits .and .u8 (bt p0.s x289) 127)) * 2 ^ min (Int.toNat (IntKind.wrap .i64 (7 * x289))) 64)))), (4, .int .i64 x289), (40, .bool x400)] ∧ St [1] w oi w_ o399 ∧ Ft (Bx bp0 89 [.string p0.s, .int .i64 p0.e]) w_ o399 1 ∧ num_In_Num_j4 p0 x288 x289 x400 = some r) ?_ ?_
      rotate_left
      · rintro a w401 ⟨o399, x400, hk, hs, f900019, H⟩
        rw [num_In_Num_j4] at H
        cases b402 : x400
        · rw [b402] at hk H
          replace H := bifF H
          refine x_if hk (b := false) rfl ?_
          refine (show Code.wpIn _ _ _ _ _ _ _ from ?_)
          refine wpIn_skip ?_
          refine then_n ?_
          exact ⟨o399, (by exact Kn.pick (ks := [0, 3, 4]) hk rfl), hs, f900019, H⟩
        · rw [b402] at hk H
          replace H := bifT H
          refine x_if hk (b := true) rfl ?_
          refine (show Code.wpIn _ _ _ _ _ _ _ from ?_)
          refine x_seq ?_
          refine wpIn_region_lit ?_
          refine x_run tab hk (k := 1) (lv := []) (ks := [41]) (e' := [(41, .pointer (some ⟨bp0, 0, none⟩))]) rfl trivial fun a hk => ?_
          refine x_op hk rfl ?_
          obtain ⟨t406, hc407, H⟩ := bindS H
          refine op_call hk ent_51 (vs := [.pointer (some ⟨bp0, 0, none⟩), .int .i64 1]) rfl (num_In_Fail_calls bp0 p0 1 _ o399 1 f900019 (by decide)   _ hc407) ?_
          rintro _ w408 ⟨o409, rfl, st410, f411⟩
          replace hs := hs.locM st410 (by decide) hom
          have hk := hk.put 42 (.tuple #[]) rfl
          refine wpListIn_nil ?_
          refine then_n ?_
          refine x_seq ?_
          refine wpIn_region_lit ?_
          refine x_run tab hk (k := 1) (lv := []) (ks := [2]) (e' := [(2, .int .i64 0)]) rfl trivial fun a hk => ?_
          refine wpListIn_nil ?_
          refine then_n ?_
          refine wpIn_ret ?_
          refine then_r ?_
          refine blk_r ?_
          refine then_r ?_
          refine then_r ?_
          refine blk_r ?_
          refine then_r ?_
          obtain rfl := Option.some.inj H
          exact x_retG hk (rs := [.tmp 2]) (vs := [.int .i64 0]) rfl ⟨rfl, trivial⟩ ⟨fun b_ => if b_ < w.heap.size then o b_ else (fun l_ => if l_ = 1 then Lp0 else 0) (o409 b_), rfl, hs.closeM hoz (by decide) (fun l_ => if l_ = 1 then Lp0 else 0), hs.closeM_ft (o := o) (ρ := fun l_ => if l_ = 1 then Lp0 else 0) f411 (lab_at hoa (i := 0) rfl) rfl⟩
      refine wpIn_region_lit ?_
      refine x_run tab hk (k := 3) (lv := []) (ks := [0, 3, 4, 5, 33]) (e' := [(0, .pointer (some ⟨bp0, 0, none⟩)), (3, .int .i64 (bits .or .i64 x288 (IntKind.wrap .i64 ((IntKind.wrap .i64 (bits .and .u8 (bt p0.s x289) 127)) * 2 ^ min (Int.toNat (IntKind.wrap .i64 (7 * x289))) 64)))), (4, .int .i64 x289), (5, .int .u8 (bt p0.s x289)), (33, .bool (decide (x289 > (0 : Int))))]) rfl trivial fun a hk => ?_
      cases b412 : (decide (x289 > (0 : Int)))
      · rw [b412] at hk H
        replace H := bifF H
        refine x_run tab hk (k := 7) (lv := []) (ks := [0, 3, 4, 40]) (e' := [(0, .pointer (some ⟨bp0, 0, none⟩)), (3, .int .i64 (bits .or .i64 x288 (IntKind.wrap .i64 ((IntKind.wrap .i64 (bits .and .u8 (bt p0.s x289) 127)) * 2 ^ min (Int.toNat (IntKind.wrap .i64 (7 * x289))) 64)))), (4, .int .i64 x289), (40, .bool (decide ((bits .or .i64 x288 (IntKind.wrap .i64 ((IntKind.wrap .i64 (bits .and .u8 (bt p0.s x289) 127)) * 2 ^ min (Int.toNat (IntKind.wrap .i64 (7 * x289))) 64))) > (4611686018427387904 : Int))))]) rfl trivial fun a hk => ?_
        refine wpListIn_nil ?_
        refine then_n ?_
        exact ⟨o287, (decide ((bits .or .i64 x288 (IntKind.wrap .i64 ((IntKind.wrap .i64 (bits .and .u8 (bt p0.s x289) 127)) * 2 ^ min (Int.toNat (IntKind.wrap .i64 (7 * x289))) 64))) > (4611686018427387904 : Int))), (by exact Kn.pick (ks := [0, 3, 4, 40]) hk rfl), hs, f900019, H⟩
      · rw [b412] at hk H
        replace H := bifT H
        refine x_run tab hk (k := 4) (lv := []) (ks := [0, 3, 4, 37]) (e' := [(0, .pointer (some ⟨bp0, 0, none⟩)), (3, .int .i64 (bits .or .i64 x288 (IntKind.wrap .i64 ((IntKind.wrap .i64 (bits .and .u8 (bt p0.s x289) 127)) * 2 ^ min (Int.toNat (IntKind.wrap .i64 (7 * x289))) 64)))), (4, .int .i64 x289), (37, .bool ((bt p0.s x289) == (0 : Int)))]) rfl trivial fun a hk => ?_
        cases b413 : ((bt p0.s x289) == (0 : Int))
        · rw [b413] at hk H
          replace H := bifF H
          refine x_run tab hk (k := 3) (lv := []) (ks := [0, 3, 4, 40]) (e' := [(0, .pointer (some ⟨bp0, 0, none⟩)), (3, .int .i64 (bits .or .i64 x288 (IntKind.wrap .i64 ((IntKind.wrap .i64 (bits .and .u8 (bt p0.s x289) 127)) * 2 ^ min (Int.toNat (IntKind.wrap .i64 (7 * x289))) 64)))), (4, .int .i64 x289), (40, .bool (decide ((bits .or .i64 x288 (IntKind.wrap .i64 ((IntKind.wrap .i64 (bits .and .u8 (bt p0.s x289) 127)) * 2 ^ min (Int.toNat (IntKind.wrap .i64 (7 * x289))) 64))) > (4611686018427387904 : Int))))]) rfl trivial fun a hk => ?_
          refine wpListIn_nil ?_
          refine then_n ?_
          exact ⟨o287, (decide ((bits .or .i64 x288 (IntKind.wrap .i64 ((IntKind.wrap .i64 (bits .and .u8 (bt p0.s x289) 127)) * 2 ^ min (Int.toNat (IntKind.wrap .i64 (7 * x289))) 64))) > (4611686018427387904 : Int))), (by exact Kn.pick (ks := [0, 3, 4, 40]) hk rfl), hs, f900019, H⟩
        · rw [b413] at hk H
          replace H := bifT H
          refine x_run tab hk (k := 3) (lv := []) (ks := [0, 3, 4, 40]) (e' := [(0, .pointer (some ⟨bp0, 0, none⟩)), (3, .int .i64 (bits .or .i64 x288 (IntKind.wrap .i64 ((IntKind.wrap .i64 (bits .and .u8 (bt p0.s x289) 127)) * 2 ^ min (Int.toNat (IntKind.wrap .i64 (7 * x289))) 64)))), (4, .int .i64 x289), (40, .bool true)]) rfl trivial fun a hk => ?_
          refine wpListIn_nil ?_
          refine then_n ?_
          exact ⟨o287, true, (by exact Kn.pick (ks := [0, 3, 4, 40]) hk rfl), hs, f900019, H⟩
    · rw [b357] at hk H
      replace H := bifT H
      refine x_if hk (b := true) rfl ?_
      refine (show Code.wpIn _ _ _ _ _ _ _ from ?_)
      refine wpIn_exit ?_
      refine then_x ?_
      refine blk_x ?_
      refine then_n ?_
      refine wpIn_region_lit ?_
      refine x_run tab hk (k := 2) (lv := []) (ks := [0, 3, 11, 12]) (e' := [(0, .pointer (some ⟨bp0, 0, none⟩)), (3, .int .i64 (bits .or .i64 x288 (IntKind.wrap .i64 ((IntKind.wrap .i64 (bits .and .u8 (bt p0.s x289) 127)) * 2 ^ min (Int.toNat (IntKind.wrap .i64 (7 * x289))) 64)))), (11, .int .i64 (mnI ((p0.s).size : Int) 9)), (12, .int .i64 (IntKind.wrap .i64 (x289 + 1)))]) rfl trivial fun a hk => ?_
      refine wpListIn_nil ?_
      refine then_n ?_
      exact ⟨k351, Nat.le_refl _, o287, (bits .or .i64 x288 (IntKind.wrap .i64 ((IntKind.wrap .i64 (bits .and .u8 (bt p0.s x289) 127)) * 2 ^ min (Int.toNat (IntKind.wrap .i64 (7 * x289))) 64))), (IntKind.wrap .i64 (x289 + 1)), (by exact Kn.pick (ks := [0, 3, 11, 12]) hk rfl), hs, f900019, (hlp353 ▸ H)⟩

/-! tidewrack/book.limited -/
theorem book_limited_calls (K : Nat) (bp0 : Nat) (p0 : T88) (p1 : Int) (w : World) (o : Nat → Nat) (Lp0 : Nat) (hp0 : Ft (Bx bp0 89 [.string p0.s, .int .i64 p0.e]) w o Lp0) (hd0 : ([Lp0] : List Nat).Nodup) (r : Int × T88) (H : book_limited K p0 p1 = some r) :
    Calls Tryd.prog 40 #[.pointer (some ⟨bp0, 0, none⟩), .int .i64 p1] w (Ret fun v_ w' => ∃ o' : Nat → Nat, v_ = .int .i64 r.1 ∧ St [Lp0] w o w' o' ∧ Ft (Bx bp0 89 [.string r.2.s, .int .i64 r.2.e]) w' o' Lp0) := by
  refine x_enter (vs := [.pointer (some ⟨bp0, 0, none⟩), .int .i64 p1]) Tryd.func40 rfl rfl rfl fun a hk => ?_
  obtain ⟨oi, hs0, h0, h1, hob, hoz, hoa⟩ := St.startM2 w o (m := 1) hd0 rfl
  have hs := hs0 [1]
  have hom := lab_in hob (MM := [1]) (by decide)
  have f900019 := h1 0 1 hp0 rfl rfl
  clear h0 h1 hs0
  rw [book_limited] at H
  refine x_seq ?_
  refine wpIn_region_lit ?_
  refine x_run tab hk (k := 1) (lv := []) (ks := [0, 1]) (e' := [(0, .pointer (some ⟨bp0, 0, none⟩)), (1, .int .i64 p1)]) rfl trivial fun a hk => ?_
  refine wpListIn_nil ?_
  refine then_n ?_
  refine x_seq ?_
  refine wpIn_region_lit ?_
  refine x_run tab hk (k := 1) (lv := []) (ks := [0, 1, 6]) (e' := [(0, .pointer (some ⟨bp0, 0, none⟩)), (1, .int .i64 p1), (6, .pointer (some ⟨bp0, 0, none⟩))]) rfl trivial fun a hk => ?_
  refine x_op hk rfl ?_
  obtain ⟨t4, hc5, H⟩ := bindS H
  refine op_call hk ent_50 (vs := [.pointer (some ⟨bp0, 0, none⟩)]) rfl (num_In_Num_calls K bp0 p0 _ oi 1 f900019 (by decide)   _ hc5) ?_
  rintro _ w6 ⟨o7, rfl, st8, f9⟩
  replace hs := hs.locM st8 (by decide) hom
  have hk := hk.put 7 (.int .i64 t4.1) rfl
  refine x_run tab hk (k := 1) (lv := []) (ks := [0, 1, 5]) (e' := [(0, .pointer (some ⟨bp0, 0, none⟩)), (1, .int .i64 p1), (5, .int .i64 t4.1)]) rfl trivial fun a hk => ?_
  refine wpListIn_nil ?_
  refine then_n ?_
  refine x_seq ?_
  refine x_seq ?_
  refine wpIn_region_lit ?_
  refine x_run tab hk (k := 3) (lv := []) (ks := [0, 5, 10]) (e' := [(0, .pointer (some ⟨bp0, 0, none⟩)), (5, .int .i64 t4.1), (10, .bool (decide (t4.1 > p1)))]) rfl trivial fun a hk => ?_
  refine wpListIn_nil ?_
  refine then_n ?_
  cases b10 : (decide (t4.1 > p1))
  · rw [b10] at hk H
    replace H := bifF H
    refine x_if hk (b := false) rfl ?_
    refine (show Code.wpIn _ _ _ _ _ _ _ from ?_)
    refine wpIn_skip ?_
    refine then_n ?_
    refine x_seq ?_
    refine wpIn_region_lit ?_
    refine x_run tab hk (k := 2) (lv := []) (ks := [4]) (e' := [(4, .int .i64 t4.1)]) rfl trivial fun a hk => ?_
    refine wpListIn_nil ?_
    refine then_n ?_
    refine wpIn_ret ?_
    obtain rfl := Option.some.inj H
    exact x_retG hk (rs := [.tmp 4]) (vs := [.int .i64 t4.1]) rfl ⟨rfl, trivial⟩ ⟨fun b_ => if b_ < w.heap.size then o b_ else (fun l_ => if l_ = 1 then Lp0 else 0) (o7 b_), rfl, hs.closeM hoz (by decide) (fun l_ => if l_ = 1 then Lp0 else 0), hs.closeM_ft (o := o) (ρ := fun l_ => if l_ = 1 then Lp0 else 0) f9 (lab_at hoa (i := 0) rfl) rfl⟩
  · rw [b10] at hk H
    replace H := bifT H
    refine x_if hk (b := true) rfl ?_
    refine (show Code.wpIn _ _ _ _ _ _ _ from ?_)
    refine x_seq ?_
    refine wpIn_region_lit ?_
    refine x_run tab hk (k := 1) (lv := []) (ks := [11]) (e' := [(11, .pointer (some ⟨bp0, 0, none⟩))]) rfl trivial fun a hk => ?_
    refine x_op hk rfl ?_
    obtain ⟨t14, hc15, H⟩ := bindS H
    refine op_call hk ent_51 (vs := [.pointer (some ⟨bp0, 0, none⟩), .int .i64 1]) rfl (num_In_Fail_calls bp0 t4.2 1 _ o7 1 f9 (by decide)   _ hc15) ?_
    rintro _ w16 ⟨o17, rfl, st18, f19⟩
    replace hs := hs.locM st18 (by decide) hom
    have hk := hk.put 12 (.tuple #[]) rfl
    refine wpListIn_nil ?_
    refine then_n ?_
    refine x_seq ?_
    refine wpIn_region_lit ?_
    refine x_run tab hk (k := 1) (lv := []) (ks := [4]) (e' := [(4, .int .i64 0)]) rfl trivial fun a hk => ?_
    refine wpListIn_nil ?_
    refine then_n ?_
    refine wpIn_ret ?_
    refine then_r ?_
    obtain rfl := Option.some.inj H
    exact x_retG hk (rs := [.tmp 4]) (vs := [.int .i64 0]) rfl ⟨rfl, trivial⟩ ⟨fun b_ => if b_ < w.heap.size then o b_ else (fun l_ => if l_ = 1 then Lp0 else 0) (o17 b_), rfl, hs.closeM hoz (by decide) (fun l_ => if l_ = 1 then Lp0 else 0), hs.closeM_ft (o := o) (ρ := fun l_ => if l_ = 1 then Lp0 else 0) f19 (lab_at hoa (i := 0) rfl) rfl⟩

/-! (*tidewrack/num.In).Err -/
theorem num_In_Err_calls (bp0 : Nat) (p0 : T88) (w : World) (o : Nat → Nat) (Lp0 : Nat) (hp0 : Ft (Bx bp0 89 [.string p0.s, .int .i64 p0.e]) w o Lp0)  (r : Int) (H : num_In_Err p0 = some r) :
    Calls Tryd.prog 28 #[.pointer (some ⟨bp0, 0, none⟩)] w (Ret fun v_ w' => ∃ o' : Nat → Nat, v_ = .int .i64 r ∧ St [] w o w' o') := by
  refine x_enter (vs := [.pointer (some ⟨bp0, 0, none⟩)]) Tryd.func28 rfl rfl rfl fun a hk => ?_
  obtain ⟨o0, hs, h0⟩ := St.start w o
  have f900019 := h0 _ _ hp0
  clear h0
  rw [num_In_Err] at H
  refine x_seq ?_
  refine wpIn_region_lit ?_
  refine x_run tab hk (k := 1) (lv := []) (ks := [0]) (e' := [(0, .pointer (some ⟨bp0, 0, none⟩))]) rfl trivial fun a hk => ?_
  refine wpListIn_nil ?_
  refine then_n ?_
  refine x_seq ?_
  refine wpIn_region_lit ?_
  refine x_run tab hk (k := 5) (lv := [.int .i64 p0.e]) (ks := [2]) (e' := [(2, .int .i64 p0.e)]) rfl ⟨(load1 tab rfl ((Bx.cell f900019.now 1).trans rfl)), trivial⟩ fun a hk => ?_
  refine wpListIn_nil ?_
  refine then_n ?_
  refine wpIn_ret ?_
  obtain rfl := Option.some.inj H
  exact x_retG hk (rs := [.tmp 2]) (vs := [.int .i64 p0.e]) rfl ⟨rfl, trivial⟩ ⟨fun b_ => if b_ < w.heap.size then o b_ else (fun _ => 0) (o0 b_), rfl, hs.close0 o (fun _ => 0)⟩

/-! tidewrack/book.Read -/
theorem book_Read_calls (K : Nat) (bp0 : Nat) (p0 : T88) (w : World) (o : Nat → Nat) (Lp0 : Nat) (hp0 : Ft (Bx bp0 89 [.string p0.s, .int .i64 p0.e]) w o Lp0) (hd0 : ([Lp0] : List Nat).Nodup) (R0 : Nat) (r : (List T49) × T88) (H : book_Read K p0 = some r) :
    Calls Tryd.prog 24 #[.pointer (some ⟨bp0, 0, none⟩)] w (Ret fun v_ w' => ∃ o' : Nat → Nat, ∃ A0 : Option Addr, ∃ c0 : Nat, v_ = .slice A0 (r.1).length c0 ∧ St [Lp0] w o w' o' ∧ Ft (Own ET49 50 (.slice A0 (r.1).length c0) (r.1)) w' o' R0 ∧ (r.1).length ≤ c0 ∧ Ft (Bx bp0 89 [.string r.2.s, .int .i64 r.2.e]) w' o' Lp0) := by
  refine x_enter (vs := [.pointer (some ⟨bp0, 0, none⟩)]) Tryd.func24 rfl rfl rfl fun a hk => ?_
  obtain ⟨oi, hs0, h0, h1, hob, hoz, hoa⟩ := St.startM2 w o (m := 1) hd0 rfl
  have hs := hs0 [1]
  have hom := lab_in hob (MM := [1]) (by decide)
  have f900019 := h1 0 1 hp0 rfl rfl
  clear h0 h1 hs0
  rw [book_Read] at H
  refine x_seq ?_
  refine wpIn_region_lit ?_
  refine x_run tab hk (k := 1) (lv := []) (ks := [0]) (e' := [(0, .pointer (some ⟨bp0, 0, none⟩))]) rfl trivial fun a hk => ?_
  refine wpListIn_nil ?_
  refine then_n ?_
  refine x_seq ?_
  refine wpIn_region_lit ?_
  refine x_run tab hk (k := 1) (lv := []) (ks := [0, 3]) (e' := [(0, .pointer (some ⟨bp0, 0, none⟩)), (3, .slice none 0 0)]) rfl trivial fun a hk => ?_
  refine wpListIn_nil ?_
  refine then_n ?_
  refine x_mid (fun a_ w_ => ∃ o135 : Nat → Nat, ∃ x136 : T88, ∃ A137 : Option Addr, ∃ c138 : Nat, ∃ l139 : List T49, Kn 22 a_ [(0, .pointer (some ⟨bp0, 0, none⟩)), (3, .slice A137 (l139).length c138)] ∧ St [1] w oi w_ o135 ∧ Ft (Own ET49 50 (.slice A137 (l139).length c138) l139) w_ o135 8 ∧ Ft (Bx bp0 89 [.string x136.s, .int .i64 x136.e]) w_ o135 1 ∧ (l139).length ≤ c138 ∧ book_Read_j1 x136 l139 = some r) ?_ ?_
  rotate_left
  · rintro a w142 ⟨o135, x136, A137, c138, l139, hk, hs, f140, f9, hc141, H⟩
    rw [book_Read_j1] at H
    refine x_seq ?_
    refine x_seq ?_
    refine wpIn_region_lit ?_
    refine x_run tab hk (k := 1) (lv := []) (ks := [3, 18]) (e' := [(3, .slice A137 (l139).length c138), (18, .pointer (some ⟨bp0, 0, none⟩))]) rfl trivial fun a hk => ?_
    refine x_op hk rfl ?_
    obtain ⟨t146, hc147, H⟩ := bindS H
    refine op_call hk ent_28 (vs := [.pointer (some ⟨bp0, 0, none⟩)]) rfl (num_In_Err_calls bp0 x136 _ o135 1 f9   _ hc147) ?_
    rintro _ w148 ⟨o149, rfl, st150⟩
    replace f140 := f140.st st150 (by decide)
    replace f9 := f9.st st150 (by decide)
    replace hs := hs.locM st150 (by decide) hom
    have hk := hk.put 19 (.int .i64 t146) rfl
    refine x_run tab hk (k := 1) (lv := []) (ks := [3, 20]) (e' := [(3, .slice A137 (l139).length c138), (20, .bool (t146 != (0 : Int)))]) rfl trivial fun a hk => ?_
    refine wpListIn_nil ?_
    refine then_n ?_
    cases b151 : (t146 != (0 : Int))
    · rw [b151] at hk H
      replace H := bifF H
      refine x_if hk (b := false) rfl ?_
      refine (show Code.wpIn _ _ _ _ _ _ _ from ?_)
      refine wpIn_skip ?_
      refine then_n ?_
      refine x_seq ?_
      refine wpIn_region_lit ?_
      refine x_run tab hk (k := 2) (lv := []) (ks := [2]) (e' := [(2, .slice A137 (l139).length c138)]) rfl trivial fun a hk => ?_
      refine wpListIn_nil ?_
      refine then_n ?_
      refine wpIn_ret ?_
      obtain rfl := Option.some.inj H
      exact x_retG hk (rs := [.tmp 2]) (vs := [.slice A137 (l139).length c138]) rfl ⟨rfl, trivial⟩ ⟨fun b_ => if b_ < w.heap.size then o b_ else (fun l_ => if l_ = 1 then Lp0 else if l_ = 8 then R0 else 0) (o149 b_), A137, c138, rfl, hs.closeM hoz (by decide) (fun l_ => if l_ = 1 then Lp0 else if l_ = 8 then R0 else 0), hs.closeM_ft (o := o) (ρ := fun l_ => if l_ = 1 then Lp0 else if l_ = 8 then R0 else 0) f140 (lab_none hob rfl) rfl, hc141, hs.closeM_ft (o := o) (ρ := fun l_ => if l_ = 1 then Lp0 else if l_ = 8 then R0 else 0) f9 (lab_at hoa (i := 0) rfl) rfl⟩
    · rw [b151] at hk H
      replace H := bifT H
      refine x_if hk (b := true) rfl ?_
      refine (show Code.wpIn _ _ _ _ _ _ _ from ?_)
      refine x_seq ?_
      refine wpIn_region_lit ?_
      refine x_run tab hk (k := 1) (lv := []) (ks := [2]) (e' := [(2, .slice none 0 0)]) rfl trivial fun a hk => ?_
      refine wpListIn_nil ?_
      refine then_n ?_
      refine wpIn_ret ?_
      refine then_r ?_
      obtain rfl := Option.some.inj H
      exact x_retG hk (rs := [.tmp 2]) (vs := [.slice none 0 0]) rfl ⟨rfl, trivial⟩ ⟨fun b_ => if b_ < w.heap.size then o b_ else (fun l_ => if l_ = 1 then Lp0 else 0) (o149 b_), none, 0, rfl, hs.closeM hoz (by decide) (fun l_ => if l_ = 1 then Lp0 else 0), (Ft.of_all (fun _ => Own.nil _ _ _) _ _ _), (by simp), hs.closeM_ft (o := o) (ρ := fun l_ => if l_ = 1 then Lp0 else 0) f9 (lab_at hoa (i := 0) rfl) rfl⟩
  refine x_seq ?_
  refine wpIn_region_lit ?_
  refine x_run tab hk (k := 1) (lv := []) (ks := [0, 3, 4]) (e' := [(0, .pointer (some ⟨bp0, 0, none⟩)), (3, .slice none 0 0), (4, .pointer (some ⟨bp0, 0, none⟩))]) rfl trivial fun a hk => ?_
  refine x_op hk rfl ?_
  obtain ⟨t155, hc156, H⟩ := bindS H
  refine op_call hk ent_40 (vs := [.pointer (some ⟨bp0, 0, none⟩), .int .i64 1024]) rfl (book_limited_calls K bp0 p0 1024 _ oi 1 f900019 (by decide)   _ hc156) ?_
  rintro _ w157 ⟨o158, rfl, st159, f160⟩
  replace hs := hs.locM st159 (by decide) hom
  have hk := hk.put 5 (.int .i64 t155.1) rfl
  refine x_run tab hk (k := 1) (lv := []) (ks := [0, 3, 5, 6]) (e' := [(0, .pointer (some ⟨bp0, 0, none⟩)), (3, .slice none 0 0), (5, .int .i64 t155.1), (6, .int .i64 0)]) rfl trivial fun a hk => ?_
  refine wpListIn_nil ?_
  refine then_n ?_
  refine wpIn_block ?_
  refine x_loop (fun j_ a_ w_ => ∃ o197 : Nat → Nat, ∃ x198 : T88, ∃ A199 : Option Addr, ∃ c200 : Nat, ∃ l201 : List T49, ∃ x204 : Int, Kn 22 a_ [(0, .pointer (some ⟨bp0, 0, none⟩)), (3, .slice A199 (l201).length c200), (5, .int .i64 t155.1), (6, .int .i64 x204)] ∧ St [1] w oi w_ o197 ∧ Ft (Bx bp0 89 [.string x198.s, .int .i64 x198.e]) w_ o197 1 ∧ Ft (Own ET49 50 (.slice A199 (l201).length c200) l201) w_ o197 11 ∧ (l201).length ≤ c200 ∧ book_Read_l2 K t155 j_ x198 l201 x204 = some r) (k := K) ⟨o158, t155.2, none, 0, ([] : List T49), 0, (by exact Kn.pick (ks := [0, 3, 5, 6]) hk rfl), hs, f160, (Ft.of_all (fun _ => Own.nil _ _ _) _ _ _), (by simp), H⟩ (by rintro _ _ ⟨_, _, _, _, _, _, _, _, _, _, _, H_⟩; exact absurd (show (none : Option ((List T49) × T88)) = some r from H_) (by simp)) ?_
  rintro k239 a w238 ⟨o197, x198, A199, c200, l201, x204, hk, hs, f160, f202, hc203, H⟩
  rw [book_Read_l2] at H
  obtain ⟨lp240, hlp241⟩ : ∃ lp_, lp_ = book_Read_l2 K t155 k239 := ⟨_, rfl⟩
  rw [← hlp241] at H
  refine x_seq ?_
  refine wpIn_region_lit ?_
  refine x_run tab hk (k := 1) (lv := []) (ks := [0, 3, 5, 6, 7]) (e' := [(0, .pointer (some ⟨bp0, 0, none⟩)), (3, .slice A199 (l201).length c200), (5, .int .i64 t155.1), (6, .int .i64 x204), (7, .bool (decide (x204 < t155.1)))]) rfl trivial fun a hk => ?_
  refine wpListIn_nil ?_
  refine then_n ?_
  refine x_seq ?_
  cases b242 : (decide (x204 < t155.1))
  · rw [b242] at hk H
    replace H := bifF H
    refine x_if hk (b := false) rfl ?_
    refine (show Code.wpIn _ _ _ _ _ _ _ from ?_)
    refine wpIn_exit ?_
    refine then_x ?_
    refine then_x ?_
    refine blk_x ?_
    refine then_n ?_
    exact ⟨(fun b_ => (fun l_ => if l_ = 11 then 8 else l_) (o197 b_)), x198, A199, c200, l201, (by exact Kn.pick (ks := [0, 3]) hk rfl), (hs.relabM hob (fun l_ => if l_ = 11 then 8 else l_) (by decide)), (f202.relab (fun l_ => if l_ = 11 then 8 else l_) rfl), (f160.relab (fun l_ => if l_ = 11 then 8 else l_) rfl), hc203, H⟩
  · rw [b242] at hk H
    replace H := bifT H
    refine x_if hk (b := true) rfl ?_
    refine (show Code.wpIn _ _ _ _ _ _ _ from ?_)
    refine wpIn_skip ?_
    refine then_n ?_
    refine x_seq ?_
    refine wpIn_block ?_
    refine wpIn_region_lit ?_
    refine x_run tab hk (k := 2) (lv := []) (ks := [0, 5, 6, 8, 9]) (e' := [(0, .pointer (some ⟨bp0, 0, none⟩)), (5, .int .i64 t155.1), (6, .int .i64 x204), (8, .slice A199 (l201).length c200), (9, .pointer (some ⟨bp0, 0, none⟩))]) rfl trivial fun a hk => ?_
    refine x_op hk rfl ?_
    obtain ⟨t246, hc247, H⟩ := bindS H
    refine op_call hk ent_40 (vs := [.pointer (some ⟨bp0, 0, none⟩), .int .i64 1114111]) rfl (book_limited_calls K bp0 x198 1114111 _ o197 1 f160 (by decide)   _ hc247) ?_
    rintro _ w248 ⟨o249, rfl, st250, f251⟩
    replace f202 := f202.st st250 (by decide)
    replace hs := hs.locM st250 (by decide) hom
    have hk := hk.put 10 (.int .i64 t246.1) rfl
    refine x_run tab hk (k := 2) (lv := []) (ks := [0, 5, 6, 8, 11, 12]) (e' := [(0, .pointer (some ⟨bp0, 0, none⟩)), (5, .int .i64 t155.1), (6, .int .i64 x204), (8, .slice A199 (l201).length c200), (11, .int .i32 (IntKind.wrap .i32 t246.1)), (12, .pointer (some ⟨bp0, 0, none⟩))]) rfl trivial fun a hk => ?_
    refine x_op hk rfl ?_
    obtain ⟨t255, hc256, H⟩ := bindS H
    refine op_call hk ent_40 (vs := [.pointer (some ⟨bp0, 0, none⟩), .int .i64 647]) rfl (book_limited_calls K bp0 t246.2 647 _ o249 1 f251 (by decide)   _ hc256) ?_
    rintro _ w257 ⟨o258, rfl, st259, f260⟩
    replace f202 := f202.st st259 (by decide)
    replace hs := hs.locM st259 (by decide) hom
    have hk := hk.put 13 (.int .i64 t255.1) rfl
    refine x_run tab hk (k := 1) (lv := []) (ks := [0, 5, 6, 8, 14]) (e' := [(0, .pointer (some ⟨bp0, 0, none⟩)), (5, .int .i64 t155.1), (6, .int .i64 x204), (8, .slice A199 (l201).length c200), (14, .agg #[.int .i32 (IntKind.wrap .i32 t246.1), .int .i64 t255.1])]) rfl trivial fun a hk => ?_
    refine x_op hk rfl ?_
    refine op_slice (o := o258) tab hk (vs := [.agg #[.int .i32 (IntKind.wrap .i32 t246.1), .int .i64 t255.1]]) (cs := [.int .i32 (IntKind.wrap .i32 t246.1), .int .i64 t255.1]) rfl rfl rfl rfl rfl rfl rfl rfl rfl 13 fun bx264 w261 o262 st263 f265 => ?_
    replace f202 := f202.st st263 (by decide)
    replace f260 := f260.st st263 (by decide)
    replace hs := hs.locM st263 (by decide) hom
    have f266 : Ft (Own ET49 50 (.slice (some ⟨bx264, 0, none⟩) (([(⟨(IntKind.wrap .i32 t246.1), t255.1⟩ : T49)] : List T49)).length 1) ([(⟨(IntKind.wrap .i32 t246.1), t255.1⟩ : T49)] : List T49)) w261 o262 13 := f265.imp fun _ h_ => Own.of_box h_ rfl (by simp)
    have hk := hk.put 15 (.slice (some ⟨bx264, 0, none⟩) (([(⟨(IntKind.wrap .i32 t246.1), t255.1⟩ : T49)] : List T49)).length 1) rfl
    refine x_op hk rfl ?_
    obtain ⟨q270, H⟩ := ifS H
    refine op_append (o := o262) (E := ET49) (xs := l201) (ys := ([(⟨(IntKind.wrap .i32 t246.1), t255.1⟩ : T49)] : List T49)) tab hk rfl rfl rfl rfl rfl rfl rfl f202 (Own.rd f266.now) q270 fun A271 c272 w267 o268 st269 f273 hc274 => ?_
    replace f260 := f260.st st269 (by decide)
    replace f266 := f266.st st269 (by decide)
    replace hs := hs.locM st269 (by decide) hom
    have hk := hk.put 16 (.slice A271 ((l201 ++ ([(⟨(IntKind.wrap .i32 t246.1), t255.1⟩ : T49)] : List T49))).length c272) rfl
    refine x_run tab hk (k := 1) (lv := []) (ks := [0, 3, 5, 6]) (e' := [(0, .pointer (some ⟨bp0, 0, none⟩)), (3, .slice A271 ((l201 ++ ([(⟨(IntKind.wrap .i32 t246.1), t255.1⟩ : T49)] : List T49))).length c272), (5, .int .i64 t155.1), (6, .int .i64 x204)]) rfl trivial fun a hk => ?_
    refine wpListIn_nil ?_
    refine blk_n ?_
    refine then_n ?_
    refine wpIn_region_lit ?_
    refine x_run tab hk (k := 2) (lv := []) (ks := [0, 3, 5, 6]) (e' := [(0, .pointer (some ⟨bp0, 0, none⟩)), (3, .slice A271 ((l201 ++ ([(⟨(IntKind.wrap .i32 t246.1), t255.1⟩ : T49)] : List T49))).length c272), (5, .int .i64 t155.1), (6, .int .i64 (IntKind.wrap .i64 (x204 + 1)))]) rfl trivial fun a hk => ?_
    refine wpListIn_nil ?_
    refine then_n ?_
    exact ⟨k239, Nat.le_refl _, o268, t255.2, A271, c272, (l201 ++ ([(⟨(IntKind.wrap .i32 t246.1), t255.1⟩ : T49)] : List T49)), (IntKind.wrap .i64 (x204 + 1)), (by exact Kn.pick (ks := [0, 3, 5, 6]) hk rfl), hs, f260, f273, hc274, (hlp241 ▸ H)⟩

/-! tidewrack/tidewrackref01.Read -/
theorem tidewrackref01_Read_calls (K : Nat) (p0 : T60) (w : World) (o : Nat → Nat)   (r : T60 × Int) (H : tidewrackref01_Read K p0 = some r) :
    Calls Tryd.prog 41 #[.agg #[.string p0.S, .int .i64 p0.E]] w (Ret fun v_ w' => ∃ o' : Nat → Nat, v_ = .tuple #[.agg #[.string r.1.S, .int .i64 r.1.E], .int .i64 r.2] ∧ St [] w o w' o') := by
  refine x_enter (vs := [.agg #[.string p0.S, .int .i64 p0.E]]) Tryd.func41 rfl rfl rfl fun a hk => ?_
  obtain ⟨o0, hs, h0⟩ := St.start w o
  clear h0
  rw [tidewrackref01_Read] at H
  refine x_seq ?_
  refine wpIn_region_lit ?_
  refine x_op hk rfl ?_
  refine op_box (o := o0) (t := 61) (v := .agg #[.string p0.S, .int .i64 p0.E]) (cs := [.string p0.S, .int .i64 p0.E]) hk rfl rfl 1 fun bx4 w1 o2 st3 f5 => ?_
  replace hs := hs.loc0 st3 (by decide)
  have hk := hk.put 1 (.pointer (some ⟨bx4, 0, none⟩)) rfl
  refine x_op hk rfl ?_
  refine op_alloc (o := o2) tab (t := 61) (cs := [.string (⟨#[]⟩ : ByteArray), .int .i64 0]) rfl rfl 2 fun bx9 w6 o7 st8 f10 => ?_
  replace f5 := f5.st st8 (by decide)
  replace hs := hs.loc0 st8 (by decide)
  have hk := hk.put 2 (.pointer (some ⟨bx9, 0, none⟩)) rfl
  refine x_run tab hk (k := 1) (lv := []) (ks := [1, 2]) (e' := [(1, .pointer (some ⟨bx4, 0, none⟩)), (2, .pointer (some ⟨bx9, 0, none⟩))]) rfl trivial fun a hk => ?_
  refine wpListIn_nil ?_
  refine then_n ?_
  refine x_seq ?_
  refine x_seq ?_
  refine wpIn_region_lit ?_
  refine x_run tab hk (k := 3) (lv := [.int .i64 p0.E]) (ks := [1, 2, 10]) (e' := [(1, .pointer (some ⟨bx4, 0, none⟩)), (2, .pointer (some ⟨bx9, 0, none⟩)), (10, .bool (p0.E != (0 : Int)))]) rfl ⟨(load1 tab rfl ((Bx.cell f5.now 1).trans rfl)), trivial⟩ fun a hk => ?_
  refine wpListIn_nil ?_
  refine then_n ?_
  cases b11 : (p0.E != (0 : Int))
  · rw [b11] at hk H
    replace H := bifF H
    refine x_if hk (b := false) rfl ?_
    refine (show Code.wpIn _ _ _ _ _ _ _ from ?_)
    refine wpIn_skip ?_
    refine then_n ?_
    refine x_seq ?_
    refine wpIn_region_lit ?_
    refine x_run tab hk (k := 1) (lv := []) (ks := [1, 2, 4]) (e' := [(1, .pointer (some ⟨bx4, 0, none⟩)), (2, .pointer (some ⟨bx9, 0, none⟩)), (4, .int .i64 0)]) rfl trivial fun a hk => ?_
    refine wpListIn_nil ?_
    refine then_n ?_
    refine x_seq ?_
    refine wpIn_region_lit ?_
    refine x_run tab hk (k := 1) (lv := []) (ks := [1, 2, 4, 5]) (e' := [(1, .pointer (some ⟨bx4, 0, none⟩)), (2, .pointer (some ⟨bx9, 0, none⟩)), (4, .int .i64 0), (5, .int .i64 1)]) rfl trivial fun a hk => ?_
    refine wpListIn_nil ?_
    refine then_n ?_
    refine x_mid (fun a_ w_ => ∃ o182 : Nat → Nat, Kn 58 a_ [(2, .pointer (some ⟨bx9, 0, none⟩))] ∧ St [] w (fun _ => 0) w_ o182 ∧ Ft (Bx bx9 61 [.string (⟨#[]⟩ : ByteArray), .int .i64 0]) w_ o182 25 ∧ tidewrackref01_Read_j1 = some r) ?_ ?_
    rotate_left
    · rintro a w183 ⟨o182, hk, hs, f10, H⟩
      rw [tidewrackref01_Read_j1] at H
      refine x_seq ?_
      refine wpIn_region_lit ?_
      refine x_run tab hk (k := 1) (lv := []) (ks := [2, 57]) (e' := [(2, .pointer (some ⟨bx9, 0, none⟩)), (57, .agg #[.string (⟨#[]⟩ : ByteArray), .int .i64 1])]) rfl trivial fun a hk => ?_
      refine x_op hk rfl ?_
      refine op_store tab hk (t := 61) (v := .agg #[.string (⟨#[]⟩ : ByteArray), .int .i64 1]) (b := bx9) (k := 0) (cs' := [.string (⟨#[]⟩ : ByteArray), .int .i64 1]) rfl rfl rfl rfl rfl rfl f10 rfl rfl fun w184 o185 st186 f10_ => ?_
      replace hs := hs.loc0 st186 (by decide)
      replace f10 := f10_
      refine x_run tab hk (k := 1) (lv := []) (ks := [2, 3]) (e' := [(2, .pointer (some ⟨bx9, 0, none⟩)), (3, .int .i64 0)]) rfl trivial fun a hk => ?_
      refine wpListIn_nil ?_
      refine then_n ?_
      refine wpIn_ret ?_
      obtain rfl := Option.some.inj H
      exact x_retG hk (rs := [.cell 2 61, .tmp 3]) (vs := [.agg #[.string (⟨#[]⟩ : ByteArray), .int .i64 1], .int .i64 0]) rfl ⟨⟨_, rfl, load_box tab rfl rfl f10.now (k := 0) rfl rfl⟩, rfl, trivial⟩ ⟨fun b_ => if b_ < w.heap.size then o b_ else (fun _ => 0) (o185 b_), rfl, hs.close0 o (fun _ => 0)⟩
    refine x_seq ?_
    refine wpIn_region_lit ?_
    refine x_run tab hk (k := 1) (lv := []) (ks := [1, 2, 4, 5, 6]) (e' := [(1, .pointer (some ⟨bx4, 0, none⟩)), (2, .pointer (some ⟨bx9, 0, none⟩)), (4, .int .i64 0), (5, .int .i64 1), (6, .int .i64 0)]) rfl trivial fun a hk => ?_
    refine wpListIn_nil ?_
    refine then_n ?_
    refine wpIn_block ?_
    refine x_loop (fun j_ a_ w_ => ∃ o242 : Nat → Nat, ∃ x243 : Int, ∃ x244 : Int, ∃ x245 : Int, Kn 58 a_ [(1, .pointer (some ⟨bx4, 0, none⟩)), (2, .pointer (some ⟨bx9, 0, none⟩)), (4, .int .i64 x243), (5, .int .i64 x244), (6, .int .i64 x245)] ∧ St [] w (fun _ => 0) w_ o242 ∧ Ft (Bx bx9 61 [.string (⟨#[]⟩ : ByteArray), .int .i64 0]) w_ o242 35 ∧ Ft (Bx bx4 61 [.string p0.S, .int .i64 p0.E]) w_ o242 34 ∧ tidewrackref01_Read_l2 p0 j_ x243 x244 x245 = some r) (k := K) ⟨(fun b_ => (fun l_ => if l_ = 1 then 34 else if l_ = 2 then 35 else l_) (o7 b_)), 0, 1, 0, (by exact Kn.pick (ks := [1, 2, 4, 5, 6]) hk rfl), (hs.relab0 (fun l_ => if l_ = 1 then 34 else if l_ = 2 then 35 else l_) rfl), (f10.relab (fun l_ => if l_ = 1 then 34 else if l_ = 2 then 35 else l_) rfl), (f5.relab (fun l_ => if l_ = 1 then 34 else if l_ = 2 then 35 else l_) rfl), H⟩ (by rintro _ _ ⟨_, _, _, _, _, _, _, _, H_⟩; exact absurd (show (none : Option (T60 × Int)) = some r from H_) (by simp)) ?_
    rintro k299 a w298 ⟨o242, x243, x244, x245, hk, hs, f10, f5, H⟩
    rw [tidewrackref01_Read_l2] at H
    obtain ⟨lp300, hlp301⟩ : ∃ lp_, lp_ = tidewrackref01_Read_l2 p0 k299 := ⟨_, rfl⟩
    rw [← hlp301] at H
    refine x_seq ?_
    refine x_seq ?_
    refine wpIn_region_lit ?_
    refine x_run tab hk (k := 2) (lv := []) (ks := [1, 2, 4, 5, 6, 13]) (e' := [(1, .pointer (some ⟨bx4, 0, none⟩)), (2, .pointer (some ⟨bx9, 0, none⟩)), (4, .int .i64 x243), (5, .int .i64 x244), (6, .int .i64 x245), (13, .bool (decide (x245 < (9 : Int))))]) rfl trivial fun a hk => ?_
    refine wpListIn_nil ?_
    refine then_n ?_
    cases b302 : (decide (x245 < (9 : Int)))
    · rw [b302] at hk H
      replace H := bifF H
      refine x_if hk (b := false) rfl ?_
      refine (show Code.wpIn _ _ _ _ _ _ _ from ?_)
      refine wpIn_exit ?_
      refine then_x ?_
      refine then_x ?_
      refine blk_x ?_
      refine then_n ?_
      exact ⟨(fun b_ => (fun l_ => if l_ = 35 then 25 else l_) (o242 b_)), (by exact Kn.pick (ks := [2]) hk rfl), (hs.relab0 (fun l_ => if l_ = 35 then 25 else l_) rfl), (f10.relab (fun l_ => if l_ = 35 then 25 else l_) rfl), H⟩
    · rw [b302] at hk H
      replace H := bifT H
      refine x_if hk (b := true) rfl ?_
      refine (show Code.wpIn _ _ _ _ _ _ _ from ?_)
      refine wpIn_skip ?_
      refine then_n ?_
      refine x_seq ?_
      refine wpIn_block ?_
      refine x_seq ?_
      refine x_seq ?_
      refine wpIn_region_lit ?_
      refine x_run tab hk (k := 5) (lv := [.string p0.S]) (ks := [1, 2, 4, 5, 6, 20]) (e' := [(1, .pointer (some ⟨bx4, 0, none⟩)), (2, .pointer (some ⟨bx9, 0, none⟩)), (4, .int .i64 x243), (5, .int .i64 x244), (6, .int .i64 x245), (20, .bool (x245 == ((p0.S).size : Int)))]) rfl ⟨(load1 tab rfl ((Bx.cell f5.now 0).trans rfl)), trivial⟩ fun a hk => ?_
      refine wpListIn_nil ?_
      refine then_n ?_
      cases b303 : (x245 == ((p0.S).size : Int))
      · rw [b303] at hk H
        replace H := bifF H
        refine x_if hk (b := false) rfl ?_
        refine (show Code.wpIn _ _ _ _ _ _ _ from ?_)
        refine wpIn_skip ?_
        refine then_n ?_
        refine x_seq ?_
        refine wpIn_region_lit ?_
        obtain ⟨q304, H⟩ := ifS H
        refine x_run tab hk (k := 6) (lv := [.string p0.S]) (ks := [1, 2, 4, 5, 6, 7]) (e' := [(1, .pointer (some ⟨bx4, 0, none⟩)), (2, .pointer (some ⟨bx9, 0, none⟩)), (4, .int .i64 x243), (5, .int .i64 x244), (6, .int .i64 x245), (7, .int .i64 (IntKind.wrap .i64 (bt p0.S x245)))]) rfl ⟨(load1 tab rfl ((Bx.cell f5.now 0).trans rfl)), q304, trivial⟩ fun a hk => ?_
        refine wpListIn_nil ?_
        refine then_n ?_
        refine x_seq ?_
        refine wpIn_region_lit ?_
        refine x_run tab hk (k := 7) (lv := []) (ks := [1, 2, 4, 5, 6, 7]) (e' := [(1, .pointer (some ⟨bx4, 0, none⟩)), (2, .pointer (some ⟨bx9, 0, none⟩)), (4, .int .i64 (IntKind.wrap .i64 (x243 + (IntKind.wrap .i64 ((Int.tmod (IntKind.wrap .i64 (bt p0.S x245)) 128) * x244))))), (5, .int .i64 x244), (6, .int .i64 x245), (7, .int .i64 (IntKind.wrap .i64 (bt p0.S x245)))]) rfl ⟨(show (128 : Int) ≠ 0 from by decide), trivial⟩ fun a hk => ?_
        refine wpListIn_nil ?_
        refine then_n ?_
        refine x_seq ?_
        refine x_seq ?_
        refine wpIn_region_lit ?_
        refine x_run tab hk (k := 2) (lv := []) (ks := [1, 2, 4, 5, 6, 7, 34]) (e' := [(1, .pointer (some ⟨bx4, 0, none⟩)), (2, .pointer (some ⟨bx9, 0, none⟩)), (4, .int .i64 (IntKind.wrap .i64 (x243 + (IntKind.wrap .i64 ((Int.tmod (IntKind.wrap .i64 (bt p0.S x245)) 128) * x244))))), (5, .int .i64 x244), (6, .int .i64 x245), (7, .int .i64 (IntKind.wrap .i64 (bt p0.S x245))), (34, .bool (decide ((IntKind.wrap .i64 (bt p0.S x245)) < (128 : Int))))]) rfl trivial fun a hk => ?_
        refine wpListIn_nil ?_
        refine then_n ?_
        cases b305 : (decide ((IntKind.wrap .i64 (bt p0.S x245)) < (128 : Int)))
        · rw [b305] at hk H
          replace H := bifF H
          refine x_if hk (b := false) rfl ?_
          refine (show Code.wpIn _ _ _ _ _ _ _ from ?_)
          refine wpIn_skip ?_
          refine then_n ?_
          refine x_seq ?_
          refine wpIn_region_lit ?_
          refine x_run tab hk (k := 2) (lv := []) (ks := [1, 2, 4, 5, 6, 54]) (e' := [(1, .pointer (some ⟨bx4, 0, none⟩)), (2, .pointer (some ⟨bx9, 0, none⟩)), (4, .int .i64 (IntKind.wrap .i64 (x243 + (IntKind.wrap .i64 ((Int.tmod (IntKind.wrap .i64 (bt p0.S x245)) 128) * x244))))), (5, .int .i64 x244), (6, .int .i64 x245), (54, .bool (decide (x245 < (8 : Int))))]) rfl trivial fun a hk => ?_
          refine wpListIn_nil ?_
          refine then_n ?_
          cases b306 : (decide (x245 < (8 : Int)))
          · rw [b306] at hk H
            replace H := bifF H
            refine x_if hk (b := false) rfl ?_
            refine (show Code.wpIn _ _ _ _ _ _ _ from ?_)
            refine wpIn_skip ?_
            refine blk_n ?_
            refine then_n ?_
            refine wpIn_region_lit ?_
            refine x_run tab hk (k := 3) (lv := []) (ks := [1, 2, 4, 5, 6]) (e' := [(1, .pointer (some ⟨bx4, 0, none⟩)), (2, .pointer (some ⟨bx9, 0, none⟩)), (4, .int .i64 (IntKind.wrap .i64 (x243 + (IntKind.wrap .i64 ((Int.tmod (IntKind.wrap .i64 (bt p0.S x245)) 128) * x244))))), (5, .int .i64 x244), (6, .int .i64 (IntKind.wrap .i64 (x245 + 1)))]) rfl trivial fun a hk => ?_
            refine wpListIn_nil ?_
            refine then_n ?_
            exact ⟨k299, Nat.le_refl _, o242, (IntKind.wrap .i64 (x243 + (IntKind.wrap .i64 ((Int.tmod (IntKind.wrap .i64 (bt p0.S x245)) 128) * x244)))), x244, (IntKind.wrap .i64 (x245 + 1)), (by exact Kn.pick (ks := [1, 2, 4, 5, 6]) hk rfl), hs, f10, f5, (hlp301 ▸ H)⟩
          · rw [b306] at hk H
            replace H := bifT H
            refine x_if hk (b := true) rfl ?_
            refine (show Code.wpIn _ _ _ _ _ _ _ from ?_)
            refine wpIn_region_lit ?_
            refine x_run tab hk (k := 3) (lv := []) (ks := [1, 2, 4, 5, 6]) (e' := [(1, .pointer (some ⟨bx4, 0, none⟩)), (2, .pointer (some ⟨bx9, 0, none⟩)), (4, .int .i64 (IntKind.wrap .i64 (x243 + (IntKind.wrap .i64 ((Int.tmod (IntKind.wrap .i64 (bt p0.S x245)) 128) * x244))))), (5, .int .i64 (IntKind.wrap .i64 (x244 * 128))), (6, .int .i64 x245)]) rfl trivial fun a hk => ?_
            refine wpListIn_nil ?_
            refine blk_n ?_
            refine then_n ?_
            refine wpIn_region_lit ?_
            refine x_run tab hk (k := 3) (lv := []) (ks := [1, 2, 4, 5, 6]) (e' := [(1, .pointer (some ⟨bx4, 0, none⟩)), (2, .pointer (some ⟨bx9, 0, none⟩)), (4, .int .i64 (IntKind.wrap .i64 (x243 + (IntKind.wrap .i64 ((Int.tmod (IntKind.wrap .i64 (bt p0.S x245)) 128) * x244))))), (5, .int .i64 (IntKind.wrap .i64 (x244 * 128))), (6, .int .i64 (IntKind.wrap .i64 (x245 + 1)))]) rfl trivial fun a hk => ?_
            refine wpListIn_nil ?_
            refine then_n ?_
            exact ⟨k299, Nat.le_refl _, o242, (IntKind.wrap .i64 (x243 + (IntKind.wrap .i64 ((Int.tmod (IntKind.wrap .i64 (bt p0.S x245)) 128) * x244)))), (IntKind.wrap .i64 (x244 * 128)), (IntKind.wrap .i64 (x245 + 1)), (by exact Kn.pick (ks := [1, 2, 4, 5, 6]) hk rfl), hs, f10, f5, (hlp301 ▸ H)⟩
        · rw [b305] at hk H
          replace H := bifT H
          refine x_if hk (b := true) rfl ?_
          refine (show Code.wpIn _ _ _ _ _ _ _ from ?_)
          refine x_mid (fun a_ w_ => ∃ o327 : Nat → Nat, Kn 58 a_ [(1, .pointer (some ⟨bx4, 0, none⟩)), (2, .pointer (some ⟨bx9, 0, none⟩)), (4, .int .i64 (IntKind.wrap .i64 (x243 + (IntKind.wrap .i64 ((Int.tmod (IntKind.wrap .i64 (bt p0.S x245)) 128) * x244))))), (6, .int .i64 x245)] ∧ St [] w (fun _ => 0) w_ o327 ∧ Ft (Bx bx9 61 [.string (⟨#[]⟩ : ByteArray), .int .i64 0]) w_ o327 45 ∧ Ft (Bx bx4 61 [.string p0.S, .int .i64 p0.E]) w_ o327 44 ∧ tidewrackref01_Read_j3 p0 x243 x244 x245 = some r) ?_ ?_
          rotate_left
          · rintro a w328 ⟨o327, hk, hs, f10, f5, H⟩
            rw [tidewrackref01_Read_j3] at H
            refine x_seq ?_
            refine wpIn_region_lit ?_
            obtain ⟨q329, H⟩ := ifS H
            obtain ⟨q330, H⟩ := ifS H
            refine x_run tab hk (k := 7) (lv := [.string p0.S]) (ks := [2, 51, 52]) (e' := [(2, .pointer (some ⟨bx9, 0, none⟩)), (51, .agg #[.string (ByteArray.extract p0.S (Int.toNat (IntKind.wrap .i64 (x245 + 1))) (p0.S).size), .int .i64 0]), (52, .int .i64 (IntKind.wrap .i64 (x243 + (IntKind.wrap .i64 ((Int.tmod (IntKind.wrap .i64 (bt p0.S x245)) 128) * x244)))))]) rfl ⟨(load1 tab rfl ((Bx.cell f5.now 0).trans rfl)), q329, q330, trivial⟩ fun a hk => ?_
            refine x_op hk rfl ?_
            refine op_store tab hk (t := 61) (v := .agg #[.string (ByteArray.extract p0.S (Int.toNat (IntKind.wrap .i64 (x245 + 1))) (p0.S).size), .int .i64 0]) (b := bx9) (k := 0) (cs' := [.string (ByteArray.extract p0.S (Int.toNat (IntKind.wrap .i64 (x245 + 1))) (p0.S).size), .int .i64 0]) rfl rfl rfl rfl rfl rfl f10 rfl rfl fun w331 o332 st333 f10_ => ?_
            replace hs := hs.loc0 st333 (by decide)
            replace f10 := f10_
            refine x_run tab hk (k := 1) (lv := []) (ks := [2, 3]) (e' := [(2, .pointer (some ⟨bx9, 0, none⟩)), (3, .int .i64 (IntKind.wrap .i64 (x243 + (IntKind.wrap .i64 ((Int.tmod (IntKind.wrap .i64 (bt p0.S x245)) 128) * x244)))))]) rfl trivial fun a hk => ?_
            refine wpListIn_nil ?_
            refine then_n ?_
            refine wpIn_ret ?_
            refine then_r ?_
            refine blk_r ?_
            refine then_r ?_
            refine then_r ?_
            refine blk_r ?_
            refine then_r ?_
            obtain rfl := Option.some.inj H
            exact x_retG hk (rs := [.cell 2 61, .tmp 3]) (vs := [.agg #[.string (ByteArray.extract p0.S (Int.toNat (IntKind.wrap .i64 (x245 + 1))) (p0.S).size), .int .i64 0], .int .i64 (IntKind.wrap .i64 (x243 + (IntKind.wrap .i64 ((Int.tmod (IntKind.wrap .i64 (bt p0.S x245)) 128) * x244))))]) rfl ⟨⟨_, rfl, load_box tab rfl rfl f10.now (k := 0) rfl rfl⟩, rfl, trivial⟩ ⟨fun b_ => if b_ < w.heap.size then o b_ else (fun _ => 0) (o332 b_), rfl, hs.close0 o (fun _ => 0)⟩
          refine x_mid (fun a_ w_ => ∃ o342 : Nat → Nat, ∃ x343 : Bool, Kn 58 a_ [(1, .pointer (some ⟨bx4, 0, none⟩)), (2, .pointer (some ⟨bx9, 0, none⟩)), (4, .int .i64 (IntKind.wrap .i64 (x243 + (IntKind.wrap .i64 ((Int.tmod (IntKind.wrap .i64 (bt p0.S x245)) 128) * x244))))), (6, .int .i64 x245), (44, .bool x343)] ∧ St [] w (fun _ => 0) w_ o342 ∧ Ft (Bx bx9 61 [.string (⟨#[]⟩ : ByteArray), .int .i64 0]) w_ o342 47 ∧ Ft (Bx bx4 61 [.string p0.S, .int .i64 p0.E]) w_ o342 46 ∧ tidewrackref01_Read_j4 p0 x243 x244 x245 x343 = some r) ?_ ?_
          rotate_left
          · rintro a w344 ⟨o342, x343, hk, hs, f10, f5, H⟩
            rw [tidewrackref01_Read_j4] at H
            cases b345 : x343
            · rw [b345] at hk H
              replace H := bifF H
              refine x_if hk (b := false) rfl ?_
              refine (show Code.wpIn _ _ _ _ _ _ _ from ?_)
              refine wpIn_skip ?_
              refine then_n ?_
              exact ⟨(fun b_ => (fun l_ => if l_ = 46 then 44 else if l_ = 47 then 45 else l_) (o342 b_)), (by exact Kn.pick (ks := [1, 2, 4, 6]) hk rfl), (hs.relab0 (fun l_ => if l_ = 46 then 44 else if l_ = 47 then 45 else l_) rfl), (f10.relab (fun l_ => if l_ = 46 then 44 else if l_ = 47 then 45 else l_) rfl), (f5.relab (fun l_ => if l_ = 46 then 44 else if l_ = 47 then 45 else l_) rfl), H⟩
            · rw [b345] at hk H
              replace H := bifT H
              refine x_if hk (b := true) rfl ?_
              refine (show Code.wpIn _ _ _ _ _ _ _ from ?_)
              refine x_seq ?_
              refine wpIn_region_lit ?_
              refine x_run tab hk (k := 1) (lv := []) (ks := [2, 45]) (e' := [(2, .pointer (some ⟨bx9, 0, none⟩)), (45, .agg #[.string (⟨#[]⟩ : ByteArray), .int .i64 1])]) rfl trivial fun a hk => ?_
              refine x_op hk rfl ?_
              refine op_store tab hk (t := 61) (v := .agg #[.string (⟨#[]⟩ : ByteArray), .int .i64 1]) (b := bx9) (k := 0) (cs' := [.string (⟨#[]⟩ : ByteArray), .int .i64 1]) rfl rfl rfl rfl rfl rfl f10 rfl rfl fun w346 o347 st348 f10_ => ?_
              replace hs := hs.loc0 st348 (by decide)
              replace f10 := f10_
              refine x_run tab hk (k := 1) (lv := []) (ks := [2, 3]) (e' := [(2, .pointer (some ⟨bx9, 0, none⟩)), (3, .int .i64 0)]) rfl trivial fun a hk => ?_
              refine wpListIn_nil ?_
              refine then_n ?_
              refine wpIn_ret ?_
              refine then_r ?_
              refine then_r ?_
              refine blk_r ?_
              refine then_r ?_
              refine then_r ?_
              refine blk_r ?_
              refine then_r ?_
              obtain rfl := Option.some.inj H
              exact x_retG hk (rs := [.cell 2 61, .tmp 3]) (vs := [.agg #[.string (⟨#[]⟩ : ByteArray), .int .i64 1], .int .i64 0]) rfl ⟨⟨_, rfl, load_box tab rfl rfl f10.now (k := 0) rfl rfl⟩, rfl, trivial⟩ ⟨fun b_ => if b_ < w.heap.size then o b_ else (fun _ => 0) (o347 b_), rfl, hs.close0 o (fun _ => 0)⟩
          refine wpIn_region_lit ?_
          refine x_run tab hk (k := 3) (lv := []) (ks := [1, 2, 4, 6, 7, 37]) (e' := [(1, .pointer (some ⟨bx4, 0, none⟩)), (2, .pointer (some ⟨bx9, 0, none⟩)), (4, .int .i64 (IntKind.wrap .i64 (x243 + (IntKind.wrap .i64 ((Int.tmod (IntKind.wrap .i64 (bt p0.S x245)) 128) * x244))))), (6, .int .i64 x245), (7, .int .i64 (IntKind.wrap .i64 (bt p0.S x245))), (37, .bool (decide (x245 > (0 : Int))))]) rfl trivial fun a hk => ?_
          cases b349 : (decide (x245 > (0 : Int)))
          · rw [b349] at hk H
            replace H := bifF H
            refine x_run tab hk (k := 7) (lv := []) (ks := [1, 2, 4, 6, 44]) (e' := [(1, .pointer (some ⟨bx4, 0, none⟩)), (2, .pointer (some ⟨bx9, 0, none⟩)), (4, .int .i64 (IntKind.wrap .i64 (x243 + (IntKind.wrap .i64 ((Int.tmod (IntKind.wrap .i64 (bt p0.S x245)) 128) * x244))))), (6, .int .i64 x245), (44, .bool (decide ((IntKind.wrap .i64 (x243 + (IntKind.wrap .i64 ((Int.tmod (IntKind.wrap .i64 (bt p0.S x245)) 128) * x244)))) > (4611686018427387904 : Int))))]) rfl trivial fun a hk => ?_
            refine wpListIn_nil ?_
            refine then_n ?_
            exact ⟨(fun b_ => (fun l_ => if l_ = 34 then 46 else if l_ = 35 then 47 else l_) (o242 b_)), (decide ((IntKind.wrap .i64 (x243 + (IntKind.wrap .i64 ((Int.tmod (IntKind.wrap .i64 (bt p0.S x245)) 128) * x244)))) > (4611686018427387904 : Int))), (by exact Kn.pick (ks := [1, 2, 4, 6, 44]) hk rfl), (hs.relab0 (fun l_ => if l_ = 34 then 46 else if l_ = 35 then 47 else l_) rfl), (f10.relab (fun l_ => if l_ = 34 then 46 else if l_ = 35 then 47 else l_) rfl), (f5.relab (fun l_ => if l_ = 34 then 46 else if l_ = 35 then 47 else l_) rfl), H⟩
          · rw [b349] at hk H
            replace H := bifT H
            refine x_run tab hk (k := 4) (lv := []) (ks := [1, 2, 4, 6, 41]) (e' := [(1, .pointer (some ⟨bx4, 0, none⟩)), (2, .pointer (some ⟨bx9, 0, none⟩)), (4, .int .i64 (IntKind.wrap .i64 (x243 + (IntKind.wrap .i64 ((Int.tmod (IntKind.wrap .i64 (bt p0.S x245)) 128) * x244))))), (6, .int .i64 x245), (41, .bool ((IntKind.wrap .i64 (bt p0.S x245)) == (0 : Int)))]) rfl trivial fun a hk => ?_
            cases b350 : ((IntKind.wrap .i64 (bt p0.S x245)) == (0 : Int))
            · rw [b350] at hk H
              replace H := bifF H
              refine x_run tab hk (k := 3) (lv := []) (ks := [1, 2, 4, 6, 44]) (e' := [(1, .pointer (some ⟨bx4, 0, none⟩)), (2, .pointer (some ⟨bx9, 0, none⟩)), (4, .int .i64 (IntKind.wrap .i64 (x243 + (IntKind.wrap .i64 ((Int.tmod (IntKind.wrap .i64 (bt p0.S x245)) 128) * x244))))), (6, .int .i64 x245), (44, .bool (decide ((IntKind.wrap .i64 (x243 + (IntKind.wrap .i64 ((Int.tmod (IntKind.wrap .i64 (bt p0.S x245)) 128) * x244)))) > (4611686018427387904 : Int))))]) rfl trivial fun a hk => ?_
              refine wpListIn_nil ?_
              refine then_n ?_
              exact ⟨(fun b_ => (fun l_ => if l_ = 34 then 46 else if l_ = 35 then 47 else l_) (o242 b_)), (decide ((IntKind.wrap .i64 (x243 + (IntKind.wrap .i64 ((Int.tmod (IntKind.wrap .i64 (bt p0.S x245)) 128) * x244)))) > (4611686018427387904 : Int))), (by exact Kn.pick (ks := [1, 2, 4, 6, 44]) hk rfl), (hs.relab0 (fun l_ => if l_ = 34 then 46 else if l_ = 35 then 47 else l_) rfl), (f10.relab (fun l_ => if l_ = 34 then 46 else if l_ = 35 then 47 else l_) rfl), (f5.relab (fun l_ => if l_ = 34 then 46 else if l_ = 35 then 47 else l_) rfl), H⟩
            · rw [b350] at hk H
              replace H := bifT H
              refine x_run tab hk (k := 3) (lv := []) (ks := [1, 2, 4, 6, 44]) (e' := [(1, .pointer (some ⟨bx4, 0, none⟩)), (2, .pointer (some ⟨bx9, 0, none⟩)), (4, .int .i64 (IntKind.wrap .i64 (x243 + (IntKind.wrap .i64 ((Int.tmod (IntKind.wrap .i64 (bt p0.S x245)) 128) * x244))))), (6, .int .i64 x245), (44, .bool true)]) rfl trivial fun a hk => ?_
              refine wpListIn_nil ?_
              refine then_n ?_
              exact ⟨(fun b_ => (fun l_ => if l_ = 34 then 46 else if l_ = 35 then 47 else l_) (o242 b_)), true, (by exact Kn.pick (ks := [1, 2, 4, 6, 44]) hk rfl), (hs.relab0 (fun l_ => if l_ = 34 then 46 else if l_ = 35 then 47 else l_) rfl), (f10.relab (fun l_ => if l_ = 34 then 46 else if l_ = 35 then 47 else l_) rfl), (f5.relab (fun l_ => if l_ = 34 then 46 else if l_ = 35 then 47 else l_) rfl), H⟩
      · rw [b303] at hk H
        replace H := bifT H
        refine x_if hk (b := true) rfl ?_
        refine (show Code.wpIn _ _ _ _ _ _ _ from ?_)
        refine x_seq ?_
        refine wpIn_region_lit ?_
        refine x_run tab hk (k := 1) (lv := []) (ks := [2, 21]) (e' := [(2, .pointer (some ⟨bx9, 0, none⟩)), (21, .agg #[.string (⟨#[]⟩ : ByteArray), .int .i64 2])]) rfl trivial fun a hk => ?_
        refine x_op hk rfl ?_
        refine op_store tab hk (t := 61) (v := .agg #[.string (⟨#[]⟩ : ByteArray), .int .i64 2]) (b := bx9) (k := 0) (cs' := [.string (⟨#[]⟩ : ByteArray), .int .i64 2]) rfl rfl rfl rfl rfl rfl f10 rfl rfl fun w351 o352 st353 f10_ => ?_
        replace hs := hs.loc0 st353 (by decide)
        replace f10 := f10_
        refine x_run tab hk (k := 1) (lv := []) (ks := [2, 3]) (e' := [(2, .pointer (some ⟨bx9, 0, none⟩)), (3, .int .i64 0)]) rfl trivial fun a hk => ?_
        refine wpListIn_nil ?_
        refine then_n ?_
        refine wpIn_ret ?_
        refine then_r ?_
        refine blk_r ?_
        refine then_r ?_
        refine then_r ?_
        refine blk_r ?_
        refine then_r ?_
        obtain rfl := Option.some.inj H
        exact x_retG hk (rs := [.cell 2 61, .tmp 3]) (vs := [.agg #[.string (⟨#[]⟩ : ByteArray), .int .i64 2], .int .i64 0]) rfl ⟨⟨_, rfl, load_box tab rfl rfl f10.now (k := 0) rfl rfl⟩, rfl, trivial⟩ ⟨fun b_ => if b_ < w.heap.size then o b_ else (fun _ => 0) (o352 b_), rfl, hs.close0 o (fun _ => 0)⟩
  · rw [b11] at hk H
    replace H := bifT H
    refine x_if hk (b := true) rfl ?_
    refine (show Code.wpIn _ _ _ _ _ _ _ from ?_)
    refine x_seq ?_
    refine wpIn_region_lit ?_
    refine x_run tab hk (k := 1) (lv := [.agg #[.string p0.S, .int .i64 p0.E]]) (ks := [2, 11]) (e' := [(2, .pointer (some ⟨bx9, 0, none⟩)), (11, .agg #[.string p0.S, .int .i64 p0.E])]) rfl ⟨(load_box tab rfl rfl f5.now (k := 0) rfl rfl), trivial⟩ fun a hk => ?_
    refine x_op hk rfl ?_
    refine op_store tab hk (t := 61) (v := .agg #[.string p0.S, .int .i64 p0.E]) (b := bx9) (k := 0) (cs' := [.string p0.S, .int .i64 p0.E]) rfl rfl rfl rfl rfl rfl f10 rfl rfl fun w354 o355 st356 f10_ => ?_
    replace hs := hs.loc0 st356 (by decide)
    replace f10 := f10_
    refine x_run tab hk (k := 1) (lv := []) (ks := [2, 3]) (e' := [(2, .pointer (some ⟨bx9, 0, none⟩)), (3, .int .i64 0)]) rfl trivial fun a hk => ?_
    refine wpListIn_nil ?_
    refine then_n ?_
    refine wpIn_ret ?_
    refine then_r ?_
    obtain rfl := Option.some.inj H
    exact x_retG hk (rs := [.cell 2 61, .tmp 3]) (vs := [.agg #[.string p0.S, .int .i64 p0.E], .int .i64 0]) rfl ⟨⟨_, rfl, load_box tab rfl rfl f10.now (k := 0) rfl rfl⟩, rfl, trivial⟩ ⟨fun b_ => if b_ < w.heap.size then o b_ else (fun _ => 0) (o355 b_), rfl, hs.close0 o (fun _ => 0)⟩

/-! tidewrack/tidewrackref12.Read -/
set_option maxHeartbeats 4000000 in
theorem tidewrackref12_Read_calls (K : Nat) (p0 : T60) (w : World) (o : Nat → Nat)   (R0 : Nat) (r : T60 × (List T69)) (H : tidewrackref12_Read K p0 = some r) :
    Calls Tryd.prog 25 #[.agg #[.string p0.S, .int .i64 p0.E]] w (Ret fun v_ w' => ∃ o' : Nat → Nat, ∃ A0 : Option Addr, ∃ c0 : Nat, v_ = .tuple #[.agg #[.string r.1.S, .int .i64 r.1.E], .slice A0 (r.2).length c0] ∧ St [] w o w' o' ∧ Ft (Own ET69 70 (.slice A0 (r.2).length c0) (r.2)) w' o' R0 ∧ (r.2).length ≤ c0) := by
  refine x_enter (vs := [.agg #[.string p0.S, .int .i64 p0.E]]) Tryd.func25 rfl rfl rfl fun a hk => ?_
  obtain ⟨o0, hs, h0⟩ := St.start w o
  clear h0
  rw [tidewrackref12_Read] at H
  refine x_seq ?_
  refine wpIn_region_lit ?_
  refine x_op hk rfl ?_
  refine op_box (o := o0) (t := 61) (v := .agg #[.string p0.S, .int .i64 p0.E]) (cs := [.string p0.S, .int .i64 p0.E]) hk rfl rfl 1 fun bx4 w1 o2 st3 f5 => ?_
  replace hs := hs.loc0 st3 (by decide)
  have hk := hk.put 1 (.pointer (some ⟨bx4, 0, none⟩)) rfl
  refine x_op hk rfl ?_
  refine op_alloc (o := o2) tab (t := 61) (cs := [.string (⟨#[]⟩ : ByteArray), .int .i64 0]) rfl rfl 2 fun bx9 w6 o7 st8 f10 => ?_
  replace f5 := f5.st st8 (by decide)
  replace hs := hs.loc0 st8 (by decide)
  have hk := hk.put 2 (.pointer (some ⟨bx9, 0, none⟩)) rfl
  refine x_run tab hk (k := 1) (lv := []) (ks := [1, 2]) (e' := [(1, .pointer (some ⟨bx4, 0, none⟩)), (2, .pointer (some ⟨bx9, 0, none⟩))]) rfl trivial fun a hk => ?_
  refine wpListIn_nil ?_
  refine then_n ?_
  refine x_seq ?_
  refine wpIn_region_lit ?_
  refine x_run tab hk (k := 1) (lv := []) (ks := [1, 2]) (e' := [(1, .pointer (some ⟨bx4, 0, none⟩)), (2, .pointer (some ⟨bx9, 0, none⟩))]) rfl trivial fun a hk => ?_
  refine wpListIn_nil ?_
  refine then_n ?_
  refine x_seq ?_
  refine wpIn_region_lit ?_
  refine x_run tab hk (k := 1) (lv := [.agg #[.string p0.S, .int .i64 p0.E]]) (ks := [1, 2, 10]) (e' := [(1, .pointer (some ⟨bx4, 0, none⟩)), (2, .pointer (some ⟨bx9, 0, none⟩)), (10, .agg #[.string p0.S, .int .i64 p0.E])]) rfl ⟨(load_box tab rfl rfl f5.now (k := 0) rfl rfl), trivial⟩ fun a hk => ?_
  refine x_op hk rfl ?_
  obtain ⟨t14, hc15, H⟩ := bindS H
  refine op_call hk ent_41 (vs := [.agg #[.string p0.S, .int .i64 p0.E]]) rfl (tidewrackref01_Read_calls K p0 _ o7    _ hc15) ?_
  rintro _ w16 ⟨o17, rfl, st18⟩
  replace f10 := f10.st st18 (by decide)
  replace f5 := f5.st st18 (by decide)
  replace hs := hs.loc0 st18 (by decide)
  have hk := hk.put 11 (.tuple #[.agg #[.string t14.1.S, .int .i64 t14.1.E], .int .i64 t14.2]) rfl
  refine x_run tab hk (k := 3) (lv := []) (ks := [1, 2, 12, 13]) (e' := [(1, .pointer (some ⟨bx4, 0, none⟩)), (2, .pointer (some ⟨bx9, 0, none⟩)), (12, .agg #[.string t14.1.S, .int .i64 t14.1.E]), (13, .int .i64 t14.2)]) rfl trivial fun a hk => ?_
  refine x_op hk rfl ?_
  refine op_store tab hk (t := 61) (v := .agg #[.string t14.1.S, .int .i64 t14.1.E]) (b := bx4) (k := 0) (cs' := [.string t14.1.S, .int .i64 t14.1.E]) rfl rfl rfl rfl rfl rfl f5 rfl rfl fun w19 o20 st21 f5_ => ?_
  replace f10 := f10.st st21 (by decide)
  replace hs := hs.loc0 st21 (by decide)
  replace f5 := f5_
  refine x_run tab hk (k := 1) (lv := []) (ks := [1, 2, 4]) (e' := [(1, .pointer (some ⟨bx4, 0, none⟩)), (2, .pointer (some ⟨bx9, 0, none⟩)), (4, .int .i64 t14.2)]) rfl trivial fun a hk => ?_
  refine wpListIn_nil ?_
  refine then_n ?_
  refine x_mid (fun a_ w_ => ∃ o40 : Nat → Nat, Kn 71 a_ [(1, .pointer (some ⟨bx4, 0, none⟩)), (2, .pointer (some ⟨bx9, 0, none⟩)), (4, .int .i64 t14.2)] ∧ St [] w (fun _ => 0) w_ o40 ∧ Ft (Bx bx9 61 [.string (⟨#[]⟩ : ByteArray), .int .i64 0]) w_ o40 6 ∧ Ft (Bx bx4 61 [.string t14.1.S, .int .i64 t14.1.E]) w_ o40 5 ∧ tidewrackref12_Read_j1 K t14 = some r) ?_ ?_
  rotate_left
  · rintro a w41 ⟨o40, hk, hs, f10, f5, H⟩
    rw [tidewrackref12_Read_j1] at H
    refine x_seq ?_
    refine wpIn_region_lit ?_
    refine x_op hk rfl ?_
    refine op_slice (o := o40) tab hk (vs := []) (cs := []) rfl rfl rfl rfl rfl rfl rfl rfl rfl 7 fun bx45 w42 o43 st44 f46 => ?_
    replace f10 := f10.st st44 (by decide)
    replace f5 := f5.st st44 (by decide)
    replace hs := hs.loc0 st44 (by decide)
    have f47 : Ft (Own ET69 70 (.slice (some ⟨bx45, 0, none⟩) (([] : List T69)).length 0) ([] : List T69)) w42 o43 7 := f46.imp fun _ h_ => Own.of_box h_ rfl (by simp)
    have hk := hk.put 22 (.slice (some ⟨bx45, 0, none⟩) (([] : List T69)).length 0) rfl
    refine x_run tab hk (k := 1) (lv := []) (ks := [1, 2, 4, 5]) (e' := [(1, .pointer (some ⟨bx4, 0, none⟩)), (2, .pointer (some ⟨bx9, 0, none⟩)), (4, .int .i64 t14.2), (5, .slice (some ⟨bx45, 0, none⟩) (([] : List T69)).length 0)]) rfl trivial fun a hk => ?_
    refine wpListIn_nil ?_
    refine then_n ?_
    refine x_mid (fun a_ w_ => ∃ o359 : Nat → Nat, ∃ x360 : T60, ∃ A361 : Option Addr, ∃ c362 : Nat, ∃ l363 : List T69, Kn 71 a_ [(1, .pointer (some ⟨bx4, 0, none⟩)), (2, .pointer (some ⟨bx9, 0, none⟩)), (5, .slice A361 (l363).length c362)] ∧ St [] w (fun _ => 0) w_ o359 ∧ Ft (Bx bx9 61 [.string (⟨#[]⟩ : ByteArray), .int .i64 0]) w_ o359 63 ∧ Ft (Own ET69 70 (.slice A361 (l363).length c362) l363) w_ o359 64 ∧ Ft (Bx bx4 61 [.string x360.S, .int .i64 x360.E]) w_ o359 62 ∧ (l363).length ≤ c362 ∧ tidewrackref12_Read_j2 x360 l363 = some r) ?_ ?_
    rotate_left
    · rintro a w366 ⟨o359, x360, A361, c362, l363, hk, hs, f10, f364, f5, hc365, H⟩
      rw [tidewrackref12_Read_j2] at H
      refine x_seq ?_
      refine x_seq ?_
      refine wpIn_region_lit ?_
      refine x_run tab hk (k := 3) (lv := [.int .i64 x360.E]) (ks := [1, 2, 5, 67]) (e' := [(1, .pointer (some ⟨bx4, 0, none⟩)), (2, .pointer (some ⟨bx9, 0, none⟩)), (5, .slice A361 (l363).length c362), (67, .bool (x360.E != (0 : Int)))]) rfl ⟨(load1 tab rfl ((Bx.cell f5.now 1).trans rfl)), trivial⟩ fun a hk => ?_
      refine wpListIn_nil ?_
      refine then_n ?_
      cases b367 : (x360.E != (0 : Int))
      · rw [b367] at hk H
        replace H := bifF H
        refine x_if hk (b := false) rfl ?_
        refine (show Code.wpIn _ _ _ _ _ _ _ from ?_)
        refine wpIn_skip ?_
        refine then_n ?_
        refine x_seq ?_
        refine wpIn_region_lit ?_
        refine x_run tab hk (k := 2) (lv := [.agg #[.string x360.S, .int .i64 x360.E]]) (ks := [2, 69, 70]) (e' := [(2, .pointer (some ⟨bx9, 0, none⟩)), (69, .agg #[.string x360.S, .int .i64 x360.E]), (70, .slice A361 (l363).length c362)]) rfl ⟨(load_box tab rfl rfl f5.now (k := 0) rfl rfl), trivial⟩ fun a hk => ?_
        refine x_op hk rfl ?_
        refine op_store tab hk (t := 61) (v := .agg #[.string x360.S, .int .i64 x360.E]) (b := bx9) (k := 0) (cs' := [.string x360.S, .int .i64 x360.E]) rfl rfl rfl rfl rfl rfl f10 rfl rfl fun w368 o369 st370 f10_ => ?_
        replace f364 := f364.st st370 (by decide)
        replace hs := hs.loc0 st370 (by decide)
        replace f10 := f10_
        refine x_run tab hk (k := 1) (lv := []) (ks := [2, 3]) (e' := [(2, .pointer (some ⟨bx9, 0, none⟩)), (3, .slice A361 (l363).length c362)]) rfl trivial fun a hk => ?_
        refine wpListIn_nil ?_
        refine then_n ?_
        refine wpIn_ret ?_
        obtain rfl := Option.some.inj H
        exact x_retG hk (rs := [.cell 2 61, .tmp 3]) (vs := [.agg #[.string x360.S, .int .i64 x360.E], .slice A361 (l363).length c362]) rfl ⟨⟨_, rfl, load_box tab rfl rfl f10.now (k := 0) rfl rfl⟩, rfl, trivial⟩ ⟨fun b_ => if b_ < w.heap.size then o b_ else (fun _ => R0) (o369 b_), A361, c362, rfl, hs.close0 o (fun _ => R0), hs.close_ft (o := o) (ρ := fun _ => R0) f364 (by decide) rfl, hc365⟩
      · rw [b367] at hk H
        replace H := bifT H
        refine x_if hk (b := true) rfl ?_
        refine (show Code.wpIn _ _ _ _ _ _ _ from ?_)
        refine x_seq ?_
        refine wpIn_region_lit ?_
        refine x_run tab hk (k := 1) (lv := [.agg #[.string x360.S, .int .i64 x360.E]]) (ks := [2, 68]) (e' := [(2, .pointer (some ⟨bx9, 0, none⟩)), (68, .agg #[.string x360.S, .int .i64 x360.E])]) rfl ⟨(load_box tab rfl rfl f5.now (k := 0) rfl rfl), trivial⟩ fun a hk => ?_
        refine x_op hk rfl ?_
        refine op_store tab hk (t := 61) (v := .agg #[.string x360.S, .int .i64 x360.E]) (b := bx9) (k := 0) (cs' := [.string x360.S, .int .i64 x360.E]) rfl rfl rfl rfl rfl rfl f10 rfl rfl fun w371 o372 st373 f10_ => ?_
        replace hs := hs.loc0 st373 (by decide)
        replace f10 := f10_
        refine x_run tab hk (k := 1) (lv := []) (ks := [2, 3]) (e' := [(2, .pointer (some ⟨bx9, 0, none⟩)), (3, .slice none 0 0)]) rfl trivial fun a hk => ?_
        refine wpListIn_nil ?_
        refine then_n ?_
        refine wpIn_ret ?_
        refine then_r ?_
        obtain rfl := Option.some.inj H
        exact x_retG hk (rs := [.cell 2 61, .tmp 3]) (vs := [.agg #[.string x360.S, .int .i64 x360.E], .slice none 0 0]) rfl ⟨⟨_, rfl, load_box tab rfl rfl f10.now (k := 0) rfl rfl⟩, rfl, trivial⟩ ⟨fun b_ => if b_ < w.heap.size then o b_ else (fun _ => 0) (o372 b_), none, 0, rfl, hs.close0 o (fun _ => 0), (Ft.of_all (fun _ => Own.nil _ _ _) _ _ _), (by simp)⟩
    refine x_seq ?_
    refine wpIn_region_lit ?_
    refine x_run tab hk (k := 1) (lv := []) (ks := [1, 2, 4, 5, 6]) (e' := [(1, .pointer (some ⟨bx4, 0, none⟩)), (2, .pointer (some ⟨bx9, 0, none⟩)), (4, .int .i64 t14.2), (5, .slice (some ⟨bx45, 0, none⟩) (([] : List T69)).length 0), (6, .int .i64 0)]) rfl trivial fun a hk => ?_
    refine wpListIn_nil ?_
    refine then_n ?_
    refine wpIn_block ?_
    refine x_loop (fun j_ a_ w_ => ∃ o472 : Nat → Nat, ∃ x473 : T60, ∃ A474 : Option Addr, ∃ c475 : Nat, ∃ l476 : List T69, ∃ x479 : Int, Kn 71 a_ [(1, .pointer (some ⟨bx4, 0, none⟩)), (2, .pointer (some ⟨bx9, 0, none⟩)), (4, .int .i64 t14.2), (5, .slice A474 (l476).length c475), (6, .int .i64 x479)] ∧ St [] w (fun _ => 0) w_ o472 ∧ Ft (Bx bx9 61 [.string (⟨#[]⟩ : ByteArray), .int .i64 0]) w_ o472 85 ∧ Ft (Own ET69 70 (.slice A474 (l476).length c475) l476) w_ o472 86 ∧ Ft (Bx bx4 61 [.string x473.S, .int .i64 x473.E]) w_ o472 84 ∧ (l476).length ≤ c475 ∧ tidewrackref12_Read_l3 K t14 j_ x473 l476 x479 = some r) (k := K) ⟨(fun b_ => (fun l_ => if l_ = 5 then 84 else if l_ = 6 then 85 else if l_ = 7 then 86 else l_) (o43 b_)), t14.1, (some ⟨bx45, 0, none⟩), 0, ([] : List T69), 0, (by exact Kn.pick (ks := [1, 2, 4, 5, 6]) hk rfl), (hs.relab0 (fun l_ => if l_ = 5 then 84 else if l_ = 6 then 85 else if l_ = 7 then 86 else l_) rfl), (f10.relab (fun l_ => if l_ = 5 then 84 else if l_ = 6 then 85 else if l_ = 7 then 86 else l_) rfl), (f47.relab (fun l_ => if l_ = 5 then 84 else if l_ = 6 then 85 else if l_ = 7 then 86 else l_) rfl), (f5.relab (fun l_ => if l_ = 5 then 84 else if l_ = 6 then 85 else if l_ = 7 then 86 else l_) rfl), (Nat.le_refl _), H⟩ (by rintro _ _ ⟨_, _, _, _, _, _, _, _, _, _, _, _, H_⟩; exact absurd (show (none : Option (T60 × (List T69))) = some r from H_) (by simp)) ?_
    rintro k576 a w575 ⟨o472, x473, A474, c475, l476, x479, hk, hs, f10, f477, f5, hc478, H⟩
    rw [tidewrackref12_Read_l3] at H
    obtain ⟨lp577, hlp578⟩ : ∃ lp_, lp_ = tidewrackref12_Read_l3 K t14 k576 := ⟨_, rfl⟩
    rw [← hlp578] at H
    refine x_mid (fun a_ w_ => ∃ o584 : Nat → Nat, Kn 71 a_ [(1, .pointer (some ⟨bx4, 0, none⟩)), (2, .pointer (some ⟨bx9, 0, none⟩)), (4, .int .i64 t14.2), (5, .slice A474 (l476).length c475), (6, .int .i64 x479)] ∧ St [] w (fun _ => 0) w_ o584 ∧ Ft (Bx bx9 61 [.string (⟨#[]⟩ : ByteArray), .int .i64 0]) w_ o584 104 ∧ Ft (Own ET69 70 (.slice A474 (l476).length c475) l476) w_ o584 105 ∧ Ft (Bx bx4 61 [.string x473.S, .int .i64 x473.E]) w_ o584 103 ∧ tidewrackref12_Read_j4 K x473 l476 x479 lp577 = some r) ?_ ?_
    rotate_left
    · rintro a w585 ⟨o584, hk, hs, f10, f477, f5, H⟩
      rw [tidewrackref12_Read_j4] at H
      refine x_seq ?_
      refine wpIn_block ?_
      refine x_seq ?_
      refine wpIn_region_lit ?_
      refine x_run tab hk (k := 1) (lv := []) (ks := [1, 2, 4, 5, 6]) (e' := [(1, .pointer (some ⟨bx4, 0, none⟩)), (2, .pointer (some ⟨bx9, 0, none⟩)), (4, .int .i64 t14.2), (5, .slice A474 (l476).length c475), (6, .int .i64 x479)]) rfl trivial fun a hk => ?_
      refine wpListIn_nil ?_
      refine then_n ?_
      refine x_seq ?_
      refine wpIn_region_lit ?_
      refine x_run tab hk (k := 1) (lv := []) (ks := [1, 2, 4, 5, 6]) (e' := [(1, .pointer (some ⟨bx4, 0, none⟩)), (2, .pointer (some ⟨bx9, 0, none⟩)), (4, .int .i64 t14.2), (5, .slice A474 (l476).length c475), (6, .int .i64 x479)]) rfl trivial fun a hk => ?_
      refine wpListIn_nil ?_
      refine then_n ?_
      refine x_seq ?_
      refine wpIn_region_lit ?_
      refine x_run tab hk (k := 1) (lv := [.agg #[.string x473.S, .int .i64 x473.E]]) (ks := [1, 2, 4, 5, 6, 34]) (e' := [(1, .pointer (some ⟨bx4, 0, none⟩)), (2, .pointer (some ⟨bx9, 0, none⟩)), (4, .int .i64 t14.2), (5, .slice A474 (l476).length c475), (6, .int .i64 x479), (34, .agg #[.string x473.S, .int .i64 x473.E])]) rfl ⟨(load_box tab rfl rfl f5.now (k := 0) rfl rfl), trivial⟩ fun a hk => ?_
      refine x_op hk rfl ?_
      obtain ⟨t589, hc590, H⟩ := bindS H
      refine op_call hk ent_41 (vs := [.agg #[.string x473.S, .int .i64 x473.E]]) rfl (tidewrackref01_Read_calls K x473 _ o584    _ hc590) ?_
      rintro _ w591 ⟨o592, rfl, st593⟩
      replace f10 := f10.st st593 (by decide)
      replace f477 := f477.st st593 (by decide)
      replace f5 := f5.st st593 (by decide)
      replace hs := hs.loc0 st593 (by decide)
      have hk := hk.put 35 (.tuple #[.agg #[.string t589.1.S, .int .i64 t589.1.E], .int .i64 t589.2]) rfl
      refine x_run tab hk (k := 3) (lv := []) (ks := [1, 2, 4, 5, 6, 36, 37]) (e' := [(1, .pointer (some ⟨bx4, 0, none⟩)), (2, .pointer (some ⟨bx9, 0, none⟩)), (4, .int .i64 t14.2), (5, .slice A474 (l476).length c475), (6, .int .i64 x479), (36, .agg #[.string t589.1.S, .int .i64 t589.1.E]), (37, .int .i64 t589.2)]) rfl trivial fun a hk => ?_
      refine x_op hk rfl ?_
      refine op_store tab hk (t := 61) (v := .agg #[.string t589.1.S, .int .i64 t589.1.E]) (b := bx4) (k := 0) (cs' := [.string t589.1.S, .int .i64 t589.1.E]) rfl rfl rfl rfl rfl rfl f5 rfl rfl fun w594 o595 st596 f5_ => ?_
      replace f10 := f10.st st596 (by decide)
      replace f477 := f477.st st596 (by decide)
      replace hs := hs.loc0 st596 (by decide)
      replace f5 := f5_
      refine x_run tab hk (k := 1) (lv := []) (ks := [1, 2, 4, 5, 6, 7]) (e' := [(1, .pointer (some ⟨bx4, 0, none⟩)), (2, .pointer (some ⟨bx9, 0, none⟩)), (4, .int .i64 t14.2), (5, .slice A474 (l476).length c475), (6, .int .i64 x479), (7, .int .i64 t589.2)]) rfl trivial fun a hk => ?_
      refine wpListIn_nil ?_
      refine then_n ?_
      refine x_mid (fun a_ w_ => ∃ o615 : Nat → Nat, Kn 71 a_ [(1, .pointer (some ⟨bx4, 0, none⟩)), (2, .pointer (some ⟨bx9, 0, none⟩)), (4, .int .i64 t14.2), (5, .slice A474 (l476).length c475), (6, .int .i64 x479), (7, .int .i64 t589.2)] ∧ St [] w (fun _ => 0) w_ o615 ∧ Ft (Bx bx9 61 [.string (⟨#[]⟩ : ByteArray), .int .i64 0]) w_ o615 110 ∧ Ft (Own ET69 70 (.slice A474 (l476).length c475) l476) w_ o615 111 ∧ Ft (Bx bx4 61 [.string t589.1.S, .int .i64 t589.1.E]) w_ o615 109 ∧ tidewrackref12_Read_j5 K l476 x479 lp577 t589 = some r) ?_ ?_
      rotate_left
      · rintro a w616 ⟨o615, hk, hs, f10, f477, f5, H⟩
        rw [tidewrackref12_Read_j5] at H
        refine x_seq ?_
        refine wpIn_region_lit ?_
        refine x_run tab hk (k := 1) (lv := [.agg #[.string t589.1.S, .int .i64 t589.1.E]]) (ks := [1, 2, 4, 5, 6, 7, 47]) (e' := [(1, .pointer (some ⟨bx4, 0, none⟩)), (2, .pointer (some ⟨bx9, 0, none⟩)), (4, .int .i64 t14.2), (5, .slice A474 (l476).length c475), (6, .int .i64 x479), (7, .int .i64 t589.2), (47, .agg #[.string t589.1.S, .int .i64 t589.1.E])]) rfl ⟨(load_box tab rfl rfl f5.now (k := 0) rfl rfl), trivial⟩ fun a hk => ?_
        refine x_op hk rfl ?_
        obtain ⟨t620, hc621, H⟩ := bindS H
        refine op_call hk ent_41 (vs := [.agg #[.string t589.1.S, .int .i64 t589.1.E]]) rfl (tidewrackref01_Read_calls K t589.1 _ o615    _ hc621) ?_
        rintro _ w622 ⟨o623, rfl, st624⟩
        replace f10 := f10.st st624 (by decide)
        replace f477 := f477.st st624 (by decide)
        replace f5 := f5.st st624 (by decide)
        replace hs := hs.loc0 st624 (by decide)
        have hk := hk.put 48 (.tuple #[.agg #[.string t620.1.S, .int .i64 t620.1.E], .int .i64 t620.2]) rfl
        refine x_run tab hk (k := 3) (lv := []) (ks := [1, 2, 4, 5, 6, 7, 49, 50]) (e' := [(1, .pointer (some ⟨bx4, 0, none⟩)), (2, .pointer (some ⟨bx9, 0, none⟩)), (4, .int .i64 t14.2), (5, .slice A474 (l476).length c475), (6, .int .i64 x479), (7, .int .i64 t589.2), (49, .agg #[.string t620.1.S, .int .i64 t620.1.E]), (50, .int .i64 t620.2)]) rfl trivial fun a hk => ?_
        refine x_op hk rfl ?_
        refine op_store tab hk (t := 61) (v := .agg #[.string t620.1.S, .int .i64 t620.1.E]) (b := bx4) (k := 0) (cs' := [.string t620.1.S, .int .i64 t620.1.E]) rfl rfl rfl rfl rfl rfl f5 rfl rfl fun w625 o626 st627 f5_ => ?_
        replace f10 := f10.st st627 (by decide)
        replace f477 := f477.st st627 (by decide)
        replace hs := hs.loc0 st627 (by decide)
        replace f5 := f5_
        refine x_run tab hk (k := 1) (lv := []) (ks := [1, 2, 4, 5, 6, 7, 8]) (e' := [(1, .pointer (some ⟨bx4, 0, none⟩)), (2, .pointer (some ⟨bx9, 0, none⟩)), (4, .int .i64 t14.2), (5, .slice A474 (l476).length c475), (6, .int .i64 x479), (7, .int .i64 t589.2), (8, .int .i64 t620.2)]) rfl trivial fun a hk => ?_
        refine wpListIn_nil ?_
        refine then_n ?_
        refine x_seq ?_
        refine x_mid (fun a_ w_ => ∃ o635 : Nat → Nat, ∃ x636 : Bool, Kn 71 a_ [(1, .pointer (some ⟨bx4, 0, none⟩)), (2, .pointer (some ⟨bx9, 0, none⟩)), (4, .int .i64 t14.2), (5, .slice A474 (l476).length c475), (6, .int .i64 x479), (7, .int .i64 t589.2), (8, .int .i64 t620.2), (57, .bool x636)] ∧ St [] w (fun _ => 0) w_ o635 ∧ Ft (Bx bx9 61 [.string (⟨#[]⟩ : ByteArray), .int .i64 0]) w_ o635 113 ∧ Ft (Own ET69 70 (.slice A474 (l476).length c475) l476) w_ o635 114 ∧ Ft (Bx bx4 61 [.string t620.1.S, .int .i64 t620.1.E]) w_ o635 112 ∧ tidewrackref12_Read_j6 l476 x479 lp577 t589 t620 x636 = some r) ?_ ?_
        rotate_left
        · rintro a w637 ⟨o635, x636, hk, hs, f10, f477, f5, H⟩
          rw [tidewrackref12_Read_j6] at H
          cases b638 : x636
          · rw [b638] at hk H
            replace H := bifF H
            refine x_if hk (b := false) rfl ?_
            refine (show Code.wpIn _ _ _ _ _ _ _ from ?_)
            refine wpIn_skip ?_
            refine then_n ?_
            refine wpIn_region_lit ?_
            refine x_run tab hk (k := 4) (lv := []) (ks := [1, 2, 4, 6, 59, 62]) (e' := [(1, .pointer (some ⟨bx4, 0, none⟩)), (2, .pointer (some ⟨bx9, 0, none⟩)), (4, .int .i64 t14.2), (6, .int .i64 x479), (59, .slice A474 (l476).length c475), (62, .agg #[.int .i64 t589.2, .int .i64 t620.2])]) rfl trivial fun a hk => ?_
            refine x_op hk rfl ?_
            refine op_slice (o := o635) tab hk (vs := [.agg #[.int .i64 t589.2, .int .i64 t620.2]]) (cs := [.int .i64 t589.2, .int .i64 t620.2]) rfl rfl rfl rfl rfl rfl rfl rfl rfl 115 fun bx642 w639 o640 st641 f643 => ?_
            replace f10 := f10.st st641 (by decide)
            replace f477 := f477.st st641 (by decide)
            replace f5 := f5.st st641 (by decide)
            replace hs := hs.loc0 st641 (by decide)
            have f644 : Ft (Own ET69 70 (.slice (some ⟨bx642, 0, none⟩) (([(⟨t589.2, t620.2⟩ : T69)] : List T69)).length 1) ([(⟨t589.2, t620.2⟩ : T69)] : List T69)) w639 o640 115 := f643.imp fun _ h_ => Own.of_box h_ rfl (by simp)
            have hk := hk.put 63 (.slice (some ⟨bx642, 0, none⟩) (([(⟨t589.2, t620.2⟩ : T69)] : List T69)).length 1) rfl
            refine x_op hk rfl ?_
            obtain ⟨q648, H⟩ := ifS H
            refine op_append (o := o640) (E := ET69) (xs := l476) (ys := ([(⟨t589.2, t620.2⟩ : T69)] : List T69)) tab hk rfl rfl rfl rfl rfl rfl rfl f477 (Own.rd f644.now) q648 fun A649 c650 w645 o646 st647 f651 hc652 => ?_
            replace f10 := f10.st st647 (by decide)
            replace f5 := f5.st st647 (by decide)
            replace f644 := f644.st st647 (by decide)
            replace hs := hs.loc0 st647 (by decide)
            have hk := hk.put 64 (.slice A649 ((l476 ++ ([(⟨t589.2, t620.2⟩ : T69)] : List T69))).length c650) rfl
            refine x_run tab hk (k := 1) (lv := []) (ks := [1, 2, 4, 5, 6]) (e' := [(1, .pointer (some ⟨bx4, 0, none⟩)), (2, .pointer (some ⟨bx9, 0, none⟩)), (4, .int .i64 t14.2), (5, .slice A649 ((l476 ++ ([(⟨t589.2, t620.2⟩ : T69)] : List T69))).length c650), (6, .int .i64 x479)]) rfl trivial fun a hk => ?_
            refine wpListIn_nil ?_
            refine blk_n ?_
            refine then_n ?_
            refine wpIn_region_lit ?_
            refine x_run tab hk (k := 3) (lv := []) (ks := [1, 2, 4, 5, 6]) (e' := [(1, .pointer (some ⟨bx4, 0, none⟩)), (2, .pointer (some ⟨bx9, 0, none⟩)), (4, .int .i64 t14.2), (5, .slice A649 ((l476 ++ ([(⟨t589.2, t620.2⟩ : T69)] : List T69))).length c650), (6, .int .i64 (IntKind.wrap .i64 (x479 + 1)))]) rfl trivial fun a hk => ?_
            refine wpListIn_nil ?_
            refine then_n ?_
            exact ⟨k576, Nat.le_refl _, (fun b_ => (fun l_ => if l_ = 112 then 84 else if l_ = 113 then 85 else if l_ = 114 then 86 else l_) (o646 b_)), t620.1, A649, c650, (l476 ++ ([(⟨t589.2, t620.2⟩ : T69)] : List T69)), (IntKind.wrap .i64 (x479 + 1)), (by exact Kn.pick (ks := [1, 2, 4, 5, 6]) hk rfl), (hs.relab0 (fun l_ => if l_ = 112 then 84 else if l_ = 113 then 85 else if l_ = 114 then 86 else l_) rfl), (f10.relab (fun l_ => if l_ = 112 then 84 else if l_ = 113 then 85 else if l_ = 114 then 86 else l_) rfl), (f651.relab (fun l_ => if l_ = 112 then 84 else if l_ = 113 then 85 else if l_ = 114 then 86 else l_) rfl), (f5.relab (fun l_ => if l_ = 112 then 84 else if l_ = 113 then 85 else if l_ = 114 then 86 else l_) rfl), hc652, (hlp578 ▸ H)⟩
          · rw [b638] at hk H
            replace H := bifT H
            refine x_if hk (b := true) rfl ?_
            refine (show Code.wpIn _ _ _ _ _ _ _ from ?_)
            refine x_seq ?_
            refine wpIn_region_lit ?_
            refine x_run tab hk (k := 1) (lv := []) (ks := [2, 58]) (e' := [(2, .pointer (some ⟨bx9, 0, none⟩)), (58, .agg #[.string (⟨#[]⟩ : ByteArray), .int .i64 1])]) rfl trivial fun a hk => ?_
            refine x_op hk rfl ?_
            refine op_store tab hk (t := 61) (v := .agg #[.string (⟨#[]⟩ : ByteArray), .int .i64 1]) (b := bx9) (k := 0) (cs' := [.string (⟨#[]⟩ : ByteArray), .int .i64 1]) rfl rfl rfl rfl rfl rfl f10 rfl rfl fun w653 o654 st655 f10_ => ?_
            replace hs := hs.loc0 st655 (by decide)
            replace f10 := f10_
            refine x_run tab hk (k := 1) (lv := []) (ks := [2, 3]) (e' := [(2, .pointer (some ⟨bx9, 0, none⟩)), (3, .slice none 0 0)]) rfl trivial fun a hk => ?_
            refine wpListIn_nil ?_
            refine then_n ?_
            refine wpIn_ret ?_
            refine then_r ?_
            refine blk_r ?_
            refine then_r ?_
            refine then_r ?_
            refine blk_r ?_
            refine then_r ?_
            obtain rfl := Option.some.inj H
            exact x_retG hk (rs := [.cell 2 61, .tmp 3]) (vs := [.agg #[.string (⟨#[]⟩ : ByteArray), .int .i64 1], .slice none 0 0]) rfl ⟨⟨_, rfl, load_box tab rfl rfl f10.now (k := 0) rfl rfl⟩, rfl, trivial⟩ ⟨fun b_ => if b_ < w.heap.size then o b_ else (fun _ => 0) (o654 b_), none, 0, rfl, hs.close0 o (fun _ => 0), (Ft.of_all (fun _ => Own.nil _ _ _) _ _ _), (by simp)⟩
        refine wpIn_region_lit ?_
        refine x_run tab hk (k := 4) (lv := [.int .i64 t620.1.E]) (ks := [1, 2, 4, 5, 6, 7, 8, 54]) (e' := [(1, .pointer (some ⟨bx4, 0, none⟩)), (2, .pointer (some ⟨bx9, 0, none⟩)), (4, .int .i64 t14.2), (5, .slice A474 (l476).length c475), (6, .int .i64 x479), (7, .int .i64 t589.2), (8, .int .i64 t620.2), (54, .bool (t620.1.E == (0 : Int)))]) rfl ⟨(load1 tab rfl ((Bx.cell f5.now 1).trans rfl)), trivial⟩ fun a hk => ?_
        cases b656 : (t620.1.E == (0 : Int))
        · rw [b656] at hk H
          replace H := bifF H
          refine x_run tab hk (k := 3) (lv := []) (ks := [1, 2, 4, 5, 6, 7, 8, 57]) (e' := [(1, .pointer (some ⟨bx4, 0, none⟩)), (2, .pointer (some ⟨bx9, 0, none⟩)), (4, .int .i64 t14.2), (5, .slice A474 (l476).length c475), (6, .int .i64 x479), (7, .int .i64 t589.2), (8, .int .i64 t620.2), (57, .bool false)]) rfl trivial fun a hk => ?_
          refine wpListIn_nil ?_
          refine then_n ?_
          exact ⟨(fun b_ => (fun l_ => if l_ = 109 then 112 else if l_ = 110 then 113 else if l_ = 111 then 114 else l_) (o626 b_)), false, (by exact Kn.pick (ks := [1, 2, 4, 5, 6, 7, 8, 57]) hk rfl), (hs.relab0 (fun l_ => if l_ = 109 then 112 else if l_ = 110 then 113 else if l_ = 111 then 114 else l_) rfl), (f10.relab (fun l_ => if l_ = 109 then 112 else if l_ = 110 then 113 else if l_ = 111 then 114 else l_) rfl), (f477.relab (fun l_ => if l_ = 109 then 112 else if l_ = 110 then 113 else if l_ = 111 then 114 else l_) rfl), (f5.relab (fun l_ => if l_ = 109 then 112 else if l_ = 110 then 113 else if l_ = 111 then 114 else l_) rfl), H⟩
        · rw [b656] at hk H
          replace H := bifT H
          refine x_run tab hk (k := 3) (lv := []) (ks := [1, 2, 4, 5, 6, 7, 8, 57]) (e' := [(1, .pointer (some ⟨bx4, 0, none⟩)), (2, .pointer (some ⟨bx9, 0, none⟩)), (4, .int .i64 t14.2), (5, .slice A474 (l476).length c475), (6, .int .i64 x479), (7, .int .i64 t589.2), (8, .int .i64 t620.2), (57, .bool (decide (t620.2 > (647 : Int))))]) rfl trivial fun a hk => ?_
          refine wpListIn_nil ?_
          refine then_n ?_
          exact ⟨(fun b_ => (fun l_ => if l_ = 109 then 112 else if l_ = 110 then 113 else if l_ = 111 then 114 else l_) (o626 b_)), (decide (t620.2 > (647 : Int))), (by exact Kn.pick (ks := [1, 2, 4, 5, 6, 7, 8, 57]) hk rfl), (hs.relab0 (fun l_ => if l_ = 109 then 112 else if l_ = 110 then 113 else if l_ = 111 then 114 else l_) rfl), (f10.relab (fun l_ => if l_ = 109 then 112 else if l_ = 110 then 113 else if l_ = 111 then 114 else l_) rfl), (f477.relab (fun l_ => if l_ = 109 then 112 else if l_ = 110 then 113 else if l_ = 111 then 114 else l_) rfl), (f5.relab (fun l_ => if l_ = 109 then 112 else if l_ = 110 then 113 else if l_ = 111 then 114 else l_) rfl), H⟩
      refine x_mid (fun a_ w_ => ∃ o664 : Nat → Nat, ∃ x665 : Bool, Kn 71 a_ [(1, .pointer (some ⟨bx4, 0, none⟩)), (2, .pointer (some ⟨bx9, 0, none⟩)), (4, .int .i64 t14.2), (5, .slice A474 (l476).length c475), (6, .int .i64 x479), (7, .int .i64 t589.2), (44, .bool x665)] ∧ St [] w (fun _ => 0) w_ o664 ∧ Ft (Bx bx9 61 [.string (⟨#[]⟩ : ByteArray), .int .i64 0]) w_ o664 117 ∧ Ft (Own ET69 70 (.slice A474 (l476).length c475) l476) w_ o664 118 ∧ Ft (Bx bx4 61 [.string t589.1.S, .int .i64 t589.1.E]) w_ o664 116 ∧ tidewrackref12_Read_j7 K l476 x479 lp577 t589 x665 = some r) ?_ ?_
      rotate_left
      · rintro a w666 ⟨o664, x665, hk, hs, f10, f477, f5, H⟩
        rw [tidewrackref12_Read_j7] at H
        cases b667 : x665
        · rw [b667] at hk H
          replace H := bifF H
          refine x_if hk (b := false) rfl ?_
          refine (show Code.wpIn _ _ _ _ _ _ _ from ?_)
          refine wpIn_skip ?_
          refine then_n ?_
          exact ⟨(fun b_ => (fun l_ => if l_ = 116 then 109 else if l_ = 117 then 110 else if l_ = 118 then 111 else l_) (o664 b_)), (by exact Kn.pick (ks := [1, 2, 4, 5, 6, 7]) hk rfl), (hs.relab0 (fun l_ => if l_ = 116 then 109 else if l_ = 117 then 110 else if l_ = 118 then 111 else l_) rfl), (f10.relab (fun l_ => if l_ = 116 then 109 else if l_ = 117 then 110 else if l_ = 118 then 111 else l_) rfl), (f477.relab (fun l_ => if l_ = 116 then 109 else if l_ = 117 then 110 else if l_ = 118 then 111 else l_) rfl), (f5.relab (fun l_ => if l_ = 116 then 109 else if l_ = 117 then 110 else if l_ = 118 then 111 else l_) rfl), H⟩
        · rw [b667] at hk H
          replace H := bifT H
          refine x_if hk (b := true) rfl ?_
          refine (show Code.wpIn _ _ _ _ _ _ _ from ?_)
          refine x_seq ?_
          refine wpIn_region_lit ?_
          refine x_run tab hk (k := 1) (lv := []) (ks := [2, 45]) (e' := [(2, .pointer (some ⟨bx9, 0, none⟩)), (45, .agg #[.string (⟨#[]⟩ : ByteArray), .int .i64 1])]) rfl trivial fun a hk => ?_
          refine x_op hk rfl ?_
          refine op_store tab hk (t := 61) (v := .agg #[.string (⟨#[]⟩ : ByteArray), .int .i64 1]) (b := bx9) (k := 0) (cs' := [.string (⟨#[]⟩ : ByteArray), .int .i64 1]) rfl rfl rfl rfl rfl rfl f10 rfl rfl fun w668 o669 st670 f10_ => ?_
          replace hs := hs.loc0 st670 (by decide)
          replace f10 := f10_
          refine x_run tab hk (k := 1) (lv := []) (ks := [2, 3]) (e' := [(2, .pointer (some ⟨bx9, 0, none⟩)), (3, .slice none 0 0)]) rfl trivial fun a hk => ?_
          refine wpListIn_nil ?_
          refine then_n ?_
          refine wpIn_ret ?_
          refine then_r ?_
          refine blk_r ?_
          refine then_r ?_
          refine then_r ?_
          refine blk_r ?_
          refine then_r ?_
          obtain rfl := Option.some.inj H
          exact x_retG hk (rs := [.cell 2 61, .tmp 3]) (vs := [.agg #[.string (⟨#[]⟩ : ByteArray), .int .i64 1], .slice none 0 0]) rfl ⟨⟨_, rfl, load_box tab rfl rfl f10.now (k := 0) rfl rfl⟩, rfl, trivial⟩ ⟨fun b_ => if b_ < w.heap.size then o b_ else (fun _ => 0) (o669 b_), none, 0, rfl, hs.close0 o (fun _ => 0), (Ft.of_all (fun _ => Own.nil _ _ _) _ _ _), (by simp)⟩
      refine wpIn_region_lit ?_
      refine x_run tab hk (k := 4) (lv := [.int .i64 t589.1.E]) (ks := [1, 2, 4, 5, 6, 7, 41]) (e' := [(1, .pointer (some ⟨bx4, 0, none⟩)), (2, .pointer (some ⟨bx9, 0, none⟩)), (4, .int .i64 t14.2), (5, .slice A474 (l476).length c475), (6, .int .i64 x479), (7, .int .i64 t589.2), (41, .bool (t589.1.E == (0 : Int)))]) rfl ⟨(load1 tab rfl ((Bx.cell f5.now 1).trans rfl)), trivial⟩ fun a hk => ?_
      cases b671 : (t589.1.E == (0 : Int))
      · rw [b671] at hk H
        replace H := bifF H
        refine x_run tab hk (k := 3) (lv := []) (ks := [1, 2, 4, 5, 6, 7, 44]) (e' := [(1, .pointer (some ⟨bx4, 0, none⟩)), (2, .pointer (some ⟨bx9, 0, none⟩)), (4, .int .i64 t14.2), (5, .slice A474 (l476).length c475), (6, .int .i64 x479), (7, .int .i64 t589.2), (44, .bool false)]) rfl trivial fun a hk => ?_
        refine wpListIn_nil ?_
        refine then_n ?_
        exact ⟨(fun b_ => (fun l_ => if l_ = 103 then 116 else if l_ = 104 then 117 else if l_ = 105 then 118 else l_) (o595 b_)), false, (by exact Kn.pick (ks := [1, 2, 4, 5, 6, 7, 44]) hk rfl), (hs.relab0 (fun l_ => if l_ = 103 then 116 else if l_ = 104 then 117 else if l_ = 105 then 118 else l_) rfl), (f10.relab (fun l_ => if l_ = 103 then 116 else if l_ = 104 then 117 else if l_ = 105 then 118 else l_) rfl), (f477.relab (fun l_ => if l_ = 103 then 116 else if l_ = 104 then 117 else if l_ = 105 then 118 else l_) rfl), (f5.relab (fun l_ => if l_ = 103 then 116 else if l_ = 104 then 117 else if l_ = 105 then 118 else l_) rfl), H⟩
      · rw [b671] at hk H
        replace H := bifT H
        refine x_run tab hk (k := 3) (lv := []) (ks := [1, 2, 4, 5, 6, 7, 44]) (e' := [(1, .pointer (some ⟨bx4, 0, none⟩)), (2, .pointer (some ⟨bx9, 0, none⟩)), (4, .int .i64 t14.2), (5, .slice A474 (l476).length c475), (6, .int .i64 x479), (7, .int .i64 t589.2), (44, .bool (decide (t589.2 > (1114111 : Int))))]) rfl trivial fun a hk => ?_
        refine wpListIn_nil ?_
        refine then_n ?_
        exact ⟨(fun b_ => (fun l_ => if l_ = 103 then 116 else if l_ = 104 then 117 else if l_ = 105 then 118 else l_) (o595 b_)), (decide (t589.2 > (1114111 : Int))), (by exact Kn.pick (ks := [1, 2, 4, 5, 6, 7, 44]) hk rfl), (hs.relab0 (fun l_ => if l_ = 103 then 116 else if l_ = 104 then 117 else if l_ = 105 then 118 else l_) rfl), (f10.relab (fun l_ => if l_ = 103 then 116 else if l_ = 104 then 117 else if l_ = 105 then 118 else l_) rfl), (f477.relab (fun l_ => if l_ = 103 then 116 else if l_ = 104 then 117 else if l_ = 105 then 118 else l_) rfl), (f5.relab (fun l_ => if l_ = 103 then 116 else if l_ = 104 then 117 else if l_ = 105 then 118 else l_) rfl), H⟩
    refine x_seq ?_
    refine wpIn_region_lit ?_
    refine x_run tab hk (k := 4) (lv := []) (ks := [1, 2, 4, 5, 6, 26]) (e' := [(1, .pointer (some ⟨bx4, 0, none⟩)), (2, .pointer (some ⟨bx9, 0, none⟩)), (4, .int .i64 t14.2), (5, .slice A474 (l476).length c475), (6, .int .i64 x479), (26, .bool (decide (x479 < t14.2)))]) rfl trivial fun a hk => ?_
    cases b672 : (decide (x479 < t14.2))
    · rw [b672] at hk H
      replace H := bifF H
      refine x_run tab hk (k := 4) (lv := []) (ks := [1, 2, 4, 5, 6, 30]) (e' := [(1, .pointer (some ⟨bx4, 0, none⟩)), (2, .pointer (some ⟨bx9, 0, none⟩)), (4, .int .i64 t14.2), (5, .slice A474 (l476).length c475), (6, .int .i64 x479), (30, .bool false)]) rfl trivial fun a hk => ?_
      refine wpListIn_nil ?_
      refine then_n ?_
      refine x_if hk (b := false) rfl ?_
      refine (show Code.wpIn _ _ _ _ _ _ _ from ?_)
      refine wpIn_exit ?_
      refine then_x ?_
      refine then_x ?_
      refine blk_x ?_
      refine then_n ?_
      exact ⟨(fun b_ => (fun l_ => if l_ = 84 then 62 else if l_ = 85 then 63 else if l_ = 86 then 64 else l_) (o472 b_)), x473, A474, c475, l476, (by exact Kn.pick (ks := [1, 2, 5]) hk rfl), (hs.relab0 (fun l_ => if l_ = 84 then 62 else if l_ = 85 then 63 else if l_ = 86 then 64 else l_) rfl), (f10.relab (fun l_ => if l_ = 84 then 62 else if l_ = 85 then 63 else if l_ = 86 then 64 else l_) rfl), (f477.relab (fun l_ => if l_ = 84 then 62 else if l_ = 85 then 63 else if l_ = 86 then 64 else l_) rfl), (f5.relab (fun l_ => if l_ = 84 then 62 else if l_ = 85 then 63 else if l_ = 86 then 64 else l_) rfl), hc478, H⟩
    · rw [b672] at hk H
      replace H := bifT H
      refine x_run tab hk (k := 4) (lv := [.int .i64 x473.E]) (ks := [1, 2, 4, 5, 6, 30]) (e' := [(1, .pointer (some ⟨bx4, 0, none⟩)), (2, .pointer (some ⟨bx9, 0, none⟩)), (4, .int .i64 t14.2), (5, .slice A474 (l476).length c475), (6, .int .i64 x479), (30, .bool (x473.E == (0 : Int)))]) rfl ⟨(load1 tab rfl ((Bx.cell f5.now 1).trans rfl)), trivial⟩ fun a hk => ?_
      refine wpListIn_nil ?_
      refine then_n ?_
      cases b673 : (x473.E == (0 : Int))
      · rw [b673] at hk H
        replace H := bifF H
        refine x_if hk (b := false) rfl ?_
        refine (show Code.wpIn _ _ _ _ _ _ _ from ?_)
        refine wpIn_exit ?_
        refine then_x ?_
        refine then_x ?_
        refine blk_x ?_
        refine then_n ?_
        exact ⟨(fun b_ => (fun l_ => if l_ = 84 then 62 else if l_ = 85 then 63 else if l_ = 86 then 64 else l_) (o472 b_)), x473, A474, c475, l476, (by exact Kn.pick (ks := [1, 2, 5]) hk rfl), (hs.relab0 (fun l_ => if l_ = 84 then 62 else if l_ = 85 then 63 else if l_ = 86 then 64 else l_) rfl), (f10.relab (fun l_ => if l_ = 84 then 62 else if l_ = 85 then 63 else if l_ = 86 then 64 else l_) rfl), (f477.relab (fun l_ => if l_ = 84 then 62 else if l_ = 85 then 63 else if l_ = 86 then 64 else l_) rfl), (f5.relab (fun l_ => if l_ = 84 then 62 else if l_ = 85 then 63 else if l_ = 86 then 64 else l_) rfl), hc478, H⟩
      · rw [b673] at hk H
        replace H := bifT H
        refine x_if hk (b := true) rfl ?_
        refine (show Code.wpIn _ _ _ _ _ _ _ from ?_)
        refine wpIn_skip ?_
        refine then_n ?_
        exact ⟨(fun b_ => (fun l_ => if l_ = 84 then 103 else if l_ = 85 then 104 else if l_ = 86 then 105 else l_) (o472 b_)), (by exact Kn.pick (ks := [1, 2, 4, 5, 6]) hk rfl), (hs.relab0 (fun l_ => if l_ = 84 then 103 else if l_ = 85 then 104 else if l_ = 86 then 105 else l_) rfl), (f10.relab (fun l_ => if l_ = 84 then 103 else if l_ = 85 then 104 else if l_ = 86 then 105 else l_) rfl), (f477.relab (fun l_ => if l_ = 84 then 103 else if l_ = 85 then 104 else if l_ = 86 then 105 else l_) rfl), (f5.relab (fun l_ => if l_ = 84 then 103 else if l_ = 85 then 104 else if l_ = 86 then 105 else l_) rfl), H⟩
  refine x_mid (fun a_ w_ => ∃ o681 : Nat → Nat, ∃ x682 : Bool, Kn 71 a_ [(1, .pointer (some ⟨bx4, 0, none⟩)), (2, .pointer (some ⟨bx9, 0, none⟩)), (4, .int .i64 t14.2), (20, .bool x682)] ∧ St [] w (fun _ => 0) w_ o681 ∧ Ft (Bx bx9 61 [.string (⟨#[]⟩ : ByteArray), .int .i64 0]) w_ o681 120 ∧ Ft (Bx bx4 61 [.string t14.1.S, .int .i64 t14.1.E]) w_ o681 119 ∧ tidewrackref12_Read_j8 K t14 x682 = some r) ?_ ?_
  rotate_left
  · rintro a w683 ⟨o681, x682, hk, hs, f10, f5, H⟩
    rw [tidewrackref12_Read_j8] at H
    cases b684 : x682
    · rw [b684] at hk H
      replace H := bifF H
      refine x_if hk (b := false) rfl ?_
      refine (show Code.wpIn _ _ _ _ _ _ _ from ?_)
      refine wpIn_skip ?_
      refine then_n ?_
      exact ⟨(fun b_ => (fun l_ => if l_ = 119 then 5 else if l_ = 120 then 6 else l_) (o681 b_)), (by exact Kn.pick (ks := [1, 2, 4]) hk rfl), (hs.relab0 (fun l_ => if l_ = 119 then 5 else if l_ = 120 then 6 else l_) rfl), (f10.relab (fun l_ => if l_ = 119 then 5 else if l_ = 120 then 6 else l_) rfl), (f5.relab (fun l_ => if l_ = 119 then 5 else if l_ = 120 then 6 else l_) rfl), H⟩
    · rw [b684] at hk H
      replace H := bifT H
      refine x_if hk (b := true) rfl ?_
      refine (show Code.wpIn _ _ _ _ _ _ _ from ?_)
      refine x_seq ?_
      refine wpIn_region_lit ?_
      refine x_run tab hk (k := 1) (lv := []) (ks := [2, 21]) (e' := [(2, .pointer (some ⟨bx9, 0, none⟩)), (21, .agg #[.string (⟨#[]⟩ : ByteArray), .int .i64 1])]) rfl trivial fun a hk => ?_
      refine x_op hk rfl ?_
      refine op_store tab hk (t := 61) (v := .agg #[.string (⟨#[]⟩ : ByteArray), .int .i64 1]) (b := bx9) (k := 0) (cs' := [.string (⟨#[]⟩ : ByteArray), .int .i64 1]) rfl rfl rfl rfl rfl rfl f10 rfl rfl fun w685 o686 st687 f10_ => ?_
      replace hs := hs.loc0 st687 (by decide)
      replace f10 := f10_
      refine x_run tab hk (k := 1) (lv := []) (ks := [2, 3]) (e' := [(2, .pointer (some ⟨bx9, 0, none⟩)), (3, .slice none 0 0)]) rfl trivial fun a hk => ?_
      refine wpListIn_nil ?_
      refine then_n ?_
      refine wpIn_ret ?_
      refine then_r ?_
      obtain rfl := Option.some.inj H
      exact x_retG hk (rs := [.cell 2 61, .tmp 3]) (vs := [.agg #[.string (⟨#[]⟩ : ByteArray), .int .i64 1], .slice none 0 0]) rfl ⟨⟨_, rfl, load_box tab rfl rfl f10.now (k := 0) rfl rfl⟩, rfl, trivial⟩ ⟨fun b_ => if b_ < w.heap.size then o b_ else (fun _ => 0) (o686 b_), none, 0, rfl, hs.close0 o (fun _ => 0), (Ft.of_all (fun _ => Own.nil _ _ _) _ _ _), (by simp)⟩
  refine wpIn_region_lit ?_
  refine x_run tab hk (k := 4) (lv := [.int .i64 t14.1.E]) (ks := [1, 2, 4, 17]) (e' := [(1, .pointer (some ⟨bx4, 0, none⟩)), (2, .pointer (some ⟨bx9, 0, none⟩)), (4, .int .i64 t14.2), (17, .bool (t14.1.E == (0 : Int)))]) rfl ⟨(load1 tab rfl ((Bx.cell f5.now 1).trans rfl)), trivial⟩ fun a hk => ?_
  cases b688 : (t14.1.E == (0 : Int))
  · rw [b688] at hk H
    replace H := bifF H
    refine x_run tab hk (k := 3) (lv := []) (ks := [1, 2, 4, 20]) (e' := [(1, .pointer (some ⟨bx4, 0, none⟩)), (2, .pointer (some ⟨bx9, 0, none⟩)), (4, .int .i64 t14.2), (20, .bool false)]) rfl trivial fun a hk => ?_
    refine wpListIn_nil ?_
    refine then_n ?_
    exact ⟨(fun b_ => (fun l_ => if l_ = 1 then 119 else if l_ = 2 then 120 else l_) (o20 b_)), false, (by exact Kn.pick (ks := [1, 2, 4, 20]) hk rfl), (hs.relab0 (fun l_ => if l_ = 1 then 119 else if l_ = 2 then 120 else l_) rfl), (f10.relab (fun l_ => if l_ = 1 then 119 else if l_ = 2 then 120 else l_) rfl), (f5.relab (fun l_ => if l_ = 1 then 119 else if l_ = 2 then 120 else l_) rfl), H⟩
  · rw [b688] at hk H
    replace H := bifT H
    refine x_run tab hk (k := 3) (lv := []) (ks := [1, 2, 4, 20]) (e' := [(1, .pointer (some ⟨bx4, 0, none⟩)), (2, .pointer (some ⟨bx9, 0, none⟩)), (4, .int .i64 t14.2), (20, .bool (decide (t14.2 > (1024 : Int))))]) rfl trivial fun a hk => ?_
    refine wpListIn_nil ?_
    refine then_n ?_
    exact ⟨(fun b_ => (fun l_ => if l_ = 1 then 119 else if l_ = 2 then 120 else l_) (o20 b_)), (decide (t14.2 > (1024 : Int))), (by exact Kn.pick (ks := [1, 2, 4, 20]) hk rfl), (hs.relab0 (fun l_ => if l_ = 1 then 119 else if l_ = 2 then 120 else l_) rfl), (f10.relab (fun l_ => if l_ = 1 then 119 else if l_ = 2 then 120 else l_) rfl), (f5.relab (fun l_ => if l_ = 1 then 119 else if l_ = 2 then 120 else l_) rfl), H⟩

/-! (*tidewrack/num.In).Left -/
theorem num_In_Left_calls (bp0 : Nat) (p0 : T88) (w : World) (o : Nat → Nat) (Lp0 : Nat) (hp0 : Ft (Bx bp0 89 [.string p0.s, .int .i64 p0.e]) w o Lp0)  (r : Int) (H : num_In_Left p0 = some r) :
    Calls Tryd.prog 27 #[.pointer (some ⟨bp0, 0, none⟩)] w (Ret fun v_ w' => ∃ o' : Nat → Nat, v_ = .int .i64 r ∧ St [] w o w' o') := by
  refine x_enter (vs := [.pointer (some ⟨bp0, 0, none⟩)]) Tryd.func27 rfl rfl rfl fun a hk => ?_
  obtain ⟨o0, hs, h0⟩ := St.start w o
  have f900019 := h0 _ _ hp0
  clear h0
  rw [num_In_Left] at H
  refine x_seq ?_
  refine wpIn_region_lit ?_
  refine x_run tab hk (k := 1) (lv := []) (ks := [0]) (e' := [(0, .pointer (some ⟨bp0, 0, none⟩))]) rfl trivial fun a hk => ?_
  refine wpListIn_nil ?_
  refine then_n ?_
  refine x_seq ?_
  refine wpIn_region_lit ?_
  refine x_run tab hk (k := 6) (lv := [.string p0.s]) (ks := [2]) (e' := [(2, .int .i64 ((p0.s).size : Int))]) rfl ⟨(load1 tab rfl ((Bx.cell f900019.now 0).trans rfl)), trivial⟩ fun a hk => ?_
  refine wpListIn_nil ?_
  refine then_n ?_
  refine wpIn_ret ?_
  obtain rfl := Option.some.inj H
  exact x_retG hk (rs := [.tmp 2]) (vs := [.int .i64 ((p0.s).size : Int)]) rfl ⟨rfl, trivial⟩ ⟨fun b_ => if b_ < w.heap.size then o b_ else (fun _ => 0) (o0 b_), rfl, hs.close0 o (fun _ => 0)⟩

/-! tidewrack/tidewracklaw12.BookReads -/
theorem tidewracklaw12_BookReads_calls (K : Nat) (p0 : ByteArray) (w : World) (o : Nat → Nat) (Lg0 : Nat) (hg0 : Ft (RdC ET111 (some ⟨0, 0, none⟩) glob0) w o Lg0) (Lg1 : Nat) (hg1 : Ft (RdC ET111 (some ⟨1, 0, none⟩) glob1) w o Lg1) (Lg2 : Nat) (hg2 : Ft (RdC (encInt .u32) (some ⟨2, 0, none⟩) glob2) w o Lg2)   (r : Bool) (H : tidewracklaw12_BookReads K p0 = some r) :
    Calls Tryd.prog 7 #[.string p0] w (Ret fun v_ w' => ∃ o' : Nat → Nat, v_ = .bool r ∧ St [] w o w' o') := by
  refine x_enter (vs := [.string p0]) Tryd.func7 rfl rfl rfl fun a hk => ?_
  obtain ⟨o0, hs, h0⟩ := St.start w o
  have fg0 := h0 _ _ hg0
  have fg1 := h0 _ _ hg1
  have fg2 := h0 _ _ hg2
  clear h0
  rw [tidewracklaw12_BookReads] at H
  refine x_seq ?_
  refine wpIn_region_lit ?_
  refine x_run tab hk (k := 1) (lv := []) (ks := [0]) (e' := [(0, .string p0)]) rfl trivial fun a hk => ?_
  refine wpListIn_nil ?_
  refine then_n ?_
  refine x_seq ?_
  refine x_seq ?_
  refine wpIn_region_lit ?_
  refine x_op hk rfl ?_
  obtain ⟨t4, hc5, H⟩ := bindS H
  refine op_call hk ent_9 (vs := []) rfl (tidewracklaw12_awake_calls K  _ o0 0 fg0 0 fg1 0 fg2   _ hc5) ?_
  rintro _ w6 ⟨o7, rfl, st8⟩
  replace fg0 := fg0.st st8 (by decide)
  replace fg1 := fg1.st st8 (by decide)
  replace fg2 := fg2.st st8 (by decide)
  replace hs := hs.loc0 st8 (by decide)
  have hk := hk.put 7 (.bool t4) rfl
  refine x_run tab hk (k := 1) (lv := []) (ks := [0, 8]) (e' := [(0, .string p0), (8, .bool (!t4))]) rfl trivial fun a hk => ?_
  refine wpListIn_nil ?_
  refine then_n ?_
  cases b9 : (!t4)
  · rw [b9] at hk H
    replace H := bifF H
    refine x_if hk (b := false) rfl ?_
    refine (show Code.wpIn _ _ _ _ _ _ _ from ?_)
    refine wpIn_skip ?_
    refine then_n ?_
    refine x_seq ?_
    refine wpIn_region_lit ?_
    refine x_run tab hk (k := 1) (lv := []) (ks := [9]) (e' := [(9, .string p0)]) rfl trivial fun a hk => ?_
    refine x_op hk rfl ?_
    obtain ⟨t13, hc14, H⟩ := bindS H
    refine op_call hk ent_22 (vs := [.string p0, .int .i64 120]) rfl (tidewracklaw01_Cut_calls p0 120 _ o7    _ hc14) ?_
    rintro _ w15 ⟨o16, rfl, st17⟩
    replace fg0 := fg0.st st17 (by decide)
    replace fg1 := fg1.st st17 (by decide)
    replace fg2 := fg2.st st17 (by decide)
    replace hs := hs.loc0 st17 (by decide)
    have hk := hk.put 10 (.string t13) rfl
    refine x_run tab hk (k := 1) (lv := []) (ks := [0]) (e' := [(0, .string t13)]) rfl trivial fun a hk => ?_
    refine wpListIn_nil ?_
    refine then_n ?_
    refine x_seq ?_
    refine wpIn_region_lit ?_
    refine x_run tab hk (k := 1) (lv := []) (ks := [0, 11]) (e' := [(0, .string t13), (11, .string t13)]) rfl trivial fun a hk => ?_
    refine x_op hk rfl ?_
    obtain ⟨t21, hc22, H⟩ := bindS H
    refine op_call hk ent_23 (vs := [.string t13]) rfl (num_Of_calls t13 _ o16  1  _ hc22) ?_
    rintro _ w23 ⟨o24, bx26, rfl, st25, f27⟩
    replace fg0 := fg0.st st25 (by decide)
    replace fg1 := fg1.st st25 (by decide)
    replace fg2 := fg2.st st25 (by decide)
    replace hs := hs.loc0 st25 (by decide)
    have hk := hk.put 12 (.pointer (some ⟨bx26, 0, none⟩)) rfl
    refine x_run tab hk (k := 1) (lv := []) (ks := [0, 3]) (e' := [(0, .string t13), (3, .pointer (some ⟨bx26, 0, none⟩))]) rfl trivial fun a hk => ?_
    refine wpListIn_nil ?_
    refine then_n ?_
    refine x_seq ?_
    refine x_seq ?_
    refine wpIn_region_lit ?_
    refine x_run tab hk (k := 2) (lv := []) (ks := [0, 3, 14]) (e' := [(0, .string t13), (3, .pointer (some ⟨bx26, 0, none⟩)), (14, .bool false)]) rfl trivial fun a hk => ?_
    refine wpListIn_nil ?_
    refine then_n ?_
    refine x_if hk (b := false) rfl ?_
    refine (show Code.wpIn _ _ _ _ _ _ _ from ?_)
    refine wpIn_skip ?_
    refine then_n ?_
    refine x_seq ?_
    refine wpIn_region_lit ?_
    refine x_run tab hk (k := 1) (lv := []) (ks := [0, 3, 15]) (e' := [(0, .string t13), (3, .pointer (some ⟨bx26, 0, none⟩)), (15, .pointer (some ⟨bx26, 0, none⟩))]) rfl trivial fun a hk => ?_
    refine x_op hk rfl ?_
    obtain ⟨t31, hc32, H⟩ := bindS H
    refine op_call hk ent_24 (vs := [.pointer (some ⟨bx26, 0, none⟩)]) rfl (book_Read_calls K bx26 t21 _ o24 1 f27 (by decide) 2  _ hc32) ?_
    rintro _ w33 ⟨o34, A36, c37, rfl, st35, f38, hc39, f40⟩
    replace fg0 := fg0.st st35 (by decide)
    replace fg1 := fg1.st st35 (by decide)
    replace fg2 := fg2.st st35 (by decide)
    replace hs := hs.loc0 st35 (by decide)
    have hk := hk.put 16 (.slice A36 (t31.1).length c37) rfl
    refine x_run tab hk (k := 1) (lv := []) (ks := [0, 3, 4]) (e' := [(0, .string t13), (3, .pointer (some ⟨bx26, 0, none⟩)), (4, .slice A36 (t31.1).length c37)]) rfl trivial fun a hk => ?_
    refine wpListIn_nil ?_
    refine then_n ?_
    refine x_seq ?_
    refine wpIn_region_lit ?_
    refine x_run tab hk (k := 2) (lv := []) (ks := [0, 3, 4, 19]) (e' := [(0, .string t13), (3, .pointer (some ⟨bx26, 0, none⟩)), (4, .slice A36 (t31.1).length c37), (19, .agg #[.string t13, .int .i64 0])]) rfl trivial fun a hk => ?_
    refine x_op hk rfl ?_
    obtain ⟨t44, hc45, H⟩ := bindS H
    refine op_call hk ent_25 (vs := [.agg #[.string t13, .int .i64 0]]) rfl (tidewrackref12_Read_calls K (⟨t13, 0⟩ : T60) _ o34  3  _ hc45) ?_
    rintro _ w46 ⟨o47, A49, c50, rfl, st48, f51, hc52⟩
    replace f38 := f38.st st48 (by decide)
    replace f40 := f40.st st48 (by decide)
    replace fg0 := fg0.st st48 (by decide)
    replace fg1 := fg1.st st48 (by decide)
    replace fg2 := fg2.st st48 (by decide)
    replace hs := hs.loc0 st48 (by decide)
    have hk := hk.put 20 (.tuple #[.agg #[.string t44.1.S, .int .i64 t44.1.E], .slice A49 (t44.2).length c50]) rfl
    refine x_run tab hk (k := 3) (lv := []) (ks := [0, 3, 4, 21, 22]) (e' := [(0, .string t13), (3, .pointer (some ⟨bx26, 0, none⟩)), (4, .slice A36 (t31.1).length c37), (21, .agg #[.string t44.1.S, .int .i64 t44.1.E]), (22, .slice A49 (t44.2).length c50)]) rfl trivial fun a hk => ?_
    refine x_op hk rfl ?_
    refine op_alloc (o := o47) tab (t := 61) (cs := [.string (⟨#[]⟩ : ByteArray), .int .i64 0]) rfl rfl 4 fun bx56 w53 o54 st55 f57 => ?_
    replace f38 := f38.st st55 (by decide)
    replace f40 := f40.st st55 (by decide)
    replace f51 := f51.st st55 (by decide)
    replace fg0 := fg0.st st55 (by decide)
    replace fg1 := fg1.st st55 (by decide)
    replace fg2 := fg2.st st55 (by decide)
    replace hs := hs.loc0 st55 (by decide)
    have hk := hk.put 5 (.pointer (some ⟨bx56, 0, none⟩)) rfl
    refine x_op hk rfl ?_
    refine op_store tab hk (t := 61) (v := .agg #[.string t44.1.S, .int .i64 t44.1.E]) (b := bx56) (k := 0) (cs' := [.string t44.1.S, .int .i64 t44.1.E]) rfl rfl rfl rfl rfl rfl f57 rfl rfl fun w58 o59 st60 f57_ => ?_
    replace f38 := f38.st st60 (by decide)
    replace f40 := f40.st st60 (by decide)
    replace f51 := f51.st st60 (by decide)
    replace fg0 := fg0.st st60 (by decide)
    replace fg1 := fg1.st st60 (by decide)
    replace fg2 := fg2.st st60 (by decide)
    replace hs := hs.loc0 st60 (by decide)
    replace f57 := f57_
    refine x_run tab hk (k := 1) (lv := []) (ks := [0, 3, 4, 5, 6]) (e' := [(0, .string t13), (3, .pointer (some ⟨bx26, 0, none⟩)), (4, .slice A36 (t31.1).length c37), (5, .pointer (some ⟨bx56, 0, none⟩)), (6, .slice A49 (t44.2).length c50)]) rfl trivial fun a hk => ?_
    refine wpListIn_nil ?_
    refine then_n ?_
    refine x_mid (fun a_ w_ => ∃ o145 : Nat → Nat, Kn 58 a_ [(0, .string t13), (4, .slice A36 (t31.1).length c37), (5, .pointer (some ⟨bx56, 0, none⟩))] ∧ St [] w (fun _ => 0) w_ o145 ∧ Ft (Own ET49 50 (.slice A36 (t31.1).length c37) t31.1) w_ o145 5 ∧ Ft (Bx bx56 61 [.string t44.1.S, .int .i64 t44.1.E]) w_ o145 6 ∧ Ft (RdC ET111 (some ⟨0, 0, none⟩) glob0) w_ o145 0 ∧ Ft (RdC ET111 (some ⟨1, 0, none⟩) glob1) w_ o145 0 ∧ Ft (RdC (encInt .u32) (some ⟨2, 0, none⟩) glob2) w_ o145 0 ∧ tidewracklaw12_BookReads_j1 K t13 t31 t44 = some r) ?_ ?_
    rotate_left
    · rintro a w146 ⟨o145, hk, hs, f38, f57, fg0, fg1, fg2, H⟩
      rw [tidewracklaw12_BookReads_j1] at H
      refine x_seq ?_
      refine xd_begin (o := o145) (fun W_ => (Bx bx56 61 [.string t44.1.S, .int .i64 t44.1.E]) W_ ∧ True) mixed rfl rfl fun w169 st170 => ?_
      replace f38 := f38.st st170 (by decide)
      replace f57 := f57.st st170 (by decide)
      replace fg0 := fg0.st st170 (by decide)
      replace fg1 := fg1.st st170 (by decide)
      replace fg2 := fg2.st st170 (by decide)
      replace hs := hs.loc0 st170 (by decide)
      refine xd_take tab hk (k := 13) (is := [0, 1, 2, 3]) (ls' := #[true, true, true, true, false, false, false, false, false, false, false, false, false, false, false, false, false]) (lv := [.int .i64 t44.1.E]) (ks := [0, 4, 5, 45]) (e' := [(0, .string t13), (4, .slice A36 (t31.1).length c37), (5, .pointer (some ⟨bx56, 0, none⟩)), (45, .bool (t44.1.E != (0 : Int)))]) (by kernel_rfl) rfl rfl (by kernel_rfl) (np_then np_body) ⟨f57.now, trivial⟩ (fun W_ hS => ⟨(load1 tab rfl ((Bx.cell hS.1 1).trans rfl)), trivial⟩) fun a hk => ?_
      cases b171 : (t44.1.E != (0 : Int))
      · rw [b171] at hk H
        replace H := bifF H
        obtain ⟨q172, H⟩ := ifS H
        obtain ⟨q173, H⟩ := ifS H
        refine xd_take tab hk (k := 4) (is := [4, 6, 7, 8, 9, 10, 11, 12, 13]) (ls' := #[true, true, true, true, true, false, true, true, true, true, true, true, true, true, false, false, false]) (lv := [.string t44.1.S]) (ks := [45, 46, 55]) (e' := [(45, .bool false), (46, .slice A36 (t31.1).length c37), (55, .string (ByteArray.extract t13 0 (Int.toNat (IntKind.wrap .i64 (((t13).size : Int) - ((t44.1.S).size : Int))))))]) (by kernel_rfl) rfl rfl (by kernel_rfl) (np_then np_body) ⟨f57.now, trivial⟩ (fun W_ hS => ⟨(load1 tab rfl ((Bx.cell hS.1 0).trans rfl)), q172, q173, trivial⟩) fun a hk => ?_
        refine xd_op hk (i := 5) (by kernel_rfl) rfl rfl ?_
        obtain ⟨t177, hc178, H⟩ := bindS H
        refine op_call hk ent_29 (vs := [.slice A36 (t31.1).length c37]) rfl (book_Pack_calls K A36 c37 t31.1 _ o145 _ (f38.imp fun _ h_ => Own.rd h_) hc39   _ hc178) ?_
        rintro _ w179 ⟨o180, rfl, st181⟩
        replace f38 := f38.st st181 (by decide)
        replace f57 := f57.st st181 (by decide)
        replace fg0 := fg0.st st181 (by decide)
        replace fg1 := fg1.st st181 (by decide)
        replace fg2 := fg2.st st181 (by decide)
        replace hs := hs.loc0 st181 (by decide)
        have hk := hk.put 47 (.string t177) rfl
        refine ⟨.inr ⟨f57.now, trivial⟩, ?_⟩
        refine xd_take tab hk (k := 0) (is := [14, 15, 16]) (ls' := #[true, true, true, true, true, true, true, true, true, true, true, true, true, true, true, true, true]) (lv := []) (ks := [2]) (e' := [(2, .bool (ByteArray.toList t177 == ByteArray.toList (ByteArray.extract t13 0 (Int.toNat (IntKind.wrap .i64 (((t13).size : Int) - ((t44.1.S).size : Int)))))))]) (by kernel_rfl) rfl rfl (by kernel_rfl) (np_then np_body) ⟨f57.now, trivial⟩ (fun W_ hS => trivial) fun a hk => ?_
        refine xd_done (by kernel_rfl) ?_
        refine then_n ?_
        refine wpIn_ret ?_
        obtain rfl := Option.some.inj H
        exact x_retG hk (rs := [.tmp 2]) (vs := [.bool (ByteArray.toList t177 == ByteArray.toList (ByteArray.extract t13 0 (Int.toNat (IntKind.wrap .i64 (((t13).size : Int) - ((t44.1.S).size : Int))))))]) rfl ⟨rfl, trivial⟩ ⟨fun b_ => if b_ < w.heap.size then o b_ else (fun _ => 0) (o180 b_), rfl, hs.close0 o (fun _ => 0)⟩
      · rw [b171] at hk H
        replace H := bifT H
        refine xd_take tab hk (k := 0) (is := [4, 5, 6, 7, 8, 9, 10, 11, 12, 13, 14, 15, 16]) (ls' := #[true, true, true, true, true, true, true, true, true, true, true, true, true, true, true, true, true]) (lv := []) (ks := [2]) (e' := [(2, .bool true)]) (by kernel_rfl) rfl rfl (by kernel_rfl) (np_then np_body) ⟨f57.now, trivial⟩ (fun W_ hS => trivial) fun a hk => ?_
        refine xd_done (by kernel_rfl) ?_
        refine then_n ?_
        refine wpIn_ret ?_
        obtain rfl := Option.some.inj H
        exact x_retG hk (rs := [.tmp 2]) (vs := [.bool true]) rfl ⟨rfl, trivial⟩ ⟨fun b_ => if b_ < w.heap.size then o b_ else (fun _ => 0) (o145 b_), rfl, hs.close0 o (fun _ => 0)⟩
    refine x_seq ?_
    refine xd_begin (o := o59) (fun W_ => (Bx bx56 61 [.string t44.1.S, .int .i64 t44.1.E]) W_ ∧ True) mixed rfl rfl fun w234 st235 => ?_
    replace f38 := f38.st st235 (by decide)
    replace f40 := f40.st st235 (by decide)
    replace f51 := f51.st st235 (by decide)
    replace f57 := f57.st st235 (by decide)
    replace fg0 := fg0.st st235 (by decide)
    replace fg1 := fg1.st st235 (by decide)
    replace fg2 := fg2.st st235 (by decide)
    replace hs := hs.loc0 st235 (by decide)
    refine xd_take tab hk (k := 17) (is := [0, 1]) (ls' := #[true, true, false, false, false, false, false, false, false, false, false, false, false, false, false, false, false, false, false]) (lv := []) (ks := [0, 3, 4, 5, 23, 24]) (e' := [(0, .string t13), (3, .pointer (some ⟨bx26, 0, none⟩)), (4, .slice A36 (t31.1).length c37), (5, .pointer (some ⟨bx56, 0, none⟩)), (23, .slice A36 (t31.1).length c37), (24, .slice A49 (t44.2).length c50)]) (by kernel_rfl) rfl rfl (by kernel_rfl) (np_then (np_then np_body)) ⟨f57.now, trivial⟩ (fun W_ hS => trivial) fun a hk => ?_
    refine xd_op hk (i := 2) (by kernel_rfl) rfl rfl ?_
    obtain ⟨t239, hc240, H⟩ := bindS H
    refine op_call hk ent_26 (vs := [.slice A36 (t31.1).length c37, .slice A49 (t44.2).length c50]) rfl (tidewracklaw09_Glyphs_calls K A36 c37 t31.1 A49 c50 t44.2 _ o59 _ (f38.imp fun _ h_ => Own.rd h_) hc39 _ (f51.imp fun _ h_ => Own.rd h_) hc52   _ hc240) ?_
    rintro _ w241 ⟨o242, rfl, st243⟩
    replace f38 := f38.st st243 (by decide)
    replace f40 := f40.st st243 (by decide)
    replace f51 := f51.st st243 (by decide)
    replace f57 := f57.st st243 (by decide)
    replace fg0 := fg0.st st243 (by decide)
    replace fg1 := fg1.st st243 (by decide)
    replace fg2 := fg2.st st243 (by decide)
    replace hs := hs.loc0 st243 (by decide)
    have hk := hk.put 25 (.bool t239) rfl
    refine ⟨.inr ⟨f57.now, trivial⟩, ?_⟩
    refine xd_take tab hk (k := 14) (is := [3, 4]) (ls' := #[true, true, true, true, true, false, false, false, false, false, false, false, false, false, false, false, false, false, false]) (lv := []) (ks := [0, 3, 4, 5, 27]) (e' := [(0, .string t13), (3, .pointer (some ⟨bx26, 0, none⟩)), (4, .slice A36 (t31.1).length c37), (5, .pointer (some ⟨bx56, 0, none⟩)), (27, .bool (!t239))]) (by kernel_rfl) rfl rfl (by kernel_rfl) (np_then (np_then np_body)) ⟨f57.now, trivial⟩ (fun W_ hS => trivial) fun a hk => ?_
    cases b244 : (!t239)
    · rw [b244] at hk H
      replace H := bifF H
      refine xd_take tab hk (k := 10) (is := [5, 7, 8, 9]) (ls' := #[true, true, true, true, true, true, false, true, true, true, false, false, false, false, false, false, false, false, false]) (lv := [.string t44.1.S]) (ks := [0, 3, 4, 5, 27, 28, 32]) (e' := [(0, .string t13), (3, .pointer (some ⟨bx26, 0, none⟩)), (4, .slice A36 (t31.1).length c37), (5, .pointer (some ⟨bx56, 0, none⟩)), (27, .bool false), (28, .pointer (some ⟨bx26, 0, none⟩)), (32, .int .i64 ((t44.1.S).size : Int))]) (by kernel_rfl) rfl rfl (by kernel_rfl) (np_then (np_then np_body)) ⟨f57.now, trivial⟩ (fun W_ hS => ⟨(load1 tab rfl ((Bx.cell hS.1 0).trans rfl)), trivial⟩) fun a hk => ?_
      refine xd_op hk (i := 6) (by kernel_rfl) rfl rfl ?_
      obtain ⟨t248, hc249, H⟩ := bindS H
      refine op_call hk ent_27 (vs := [.pointer (some ⟨bx26, 0, none⟩)]) rfl (num_In_Left_calls bx26 t31.2 _ o242 1 f40   _ hc249) ?_
      rintro _ w250 ⟨o251, rfl, st252⟩
      replace f38 := f38.st st252 (by decide)
      replace f40 := f40.st st252 (by decide)
      replace f51 := f51.st st252 (by decide)
      replace f57 := f57.st st252 (by decide)
      replace fg0 := fg0.st st252 (by decide)
      replace fg1 := fg1.st st252 (by decide)
      replace fg2 := fg2.st st252 (by decide)
      replace hs := hs.loc0 st252 (by decide)
      have hk := hk.put 29 (.int .i64 t248) rfl
      refine ⟨.inr ⟨f57.now, trivial⟩, ?_⟩
      refine xd_take tab hk (k := 6) (is := [10, 11, 12]) (ls' := #[true, true, true, true, true, true, true, true, true, true, true, true, true, false, false, false, false, false, false]) (lv := []) (ks := [0, 3, 4, 5, 35]) (e' := [(0, .string t13), (3, .pointer (some ⟨bx26, 0, none⟩)), (4, .slice A36 (t31.1).length c37), (5, .pointer (some ⟨bx56, 0, none⟩)), (35, .bool (t248 != ((t44.1.S).size : Int)))]) (by kernel_rfl) rfl rfl (by kernel_rfl) (np_then (np_then np_body)) ⟨f57.now, trivial⟩ (fun W_ hS => trivial) fun a hk => ?_
      cases b253 : (t248 != ((t44.1.S).size : Int))
      · rw [b253] at hk H
        replace H := bifF H
        refine xd_take tab hk (k := 3) (is := [13, 15, 16]) (ls' := #[true, true, true, true, true, true, true, true, true, true, true, true, true, true, false, true, true, false, false]) (lv := [.int .i64 t44.1.E]) (ks := [0, 4, 5, 35, 36, 39]) (e' := [(0, .string t13), (4, .slice A36 (t31.1).length c37), (5, .pointer (some ⟨bx56, 0, none⟩)), (35, .bool false), (36, .pointer (some ⟨bx26, 0, none⟩)), (39, .int .i64 t44.1.E)]) (by kernel_rfl) rfl rfl (by kernel_rfl) (np_then (np_then np_body)) ⟨f57.now, trivial⟩ (fun W_ hS => ⟨(load1 tab rfl ((Bx.cell hS.1 1).trans rfl)), trivial⟩) fun a hk => ?_
        refine xd_op hk (i := 14) (by kernel_rfl) rfl rfl ?_
        obtain ⟨t257, hc258, H⟩ := bindS H
        refine op_call hk ent_28 (vs := [.pointer (some ⟨bx26, 0, none⟩)]) rfl (num_In_Err_calls bx26 t31.2 _ o251 1 f40   _ hc258) ?_
        rintro _ w259 ⟨o260, rfl, st261⟩
        replace f38 := f38.st st261 (by decide)
        replace f40 := f40.st st261 (by decide)
        replace f51 := f51.st st261 (by decide)
        replace f57 := f57.st st261 (by decide)
        replace fg0 := fg0.st st261 (by decide)
        replace fg1 := fg1.st st261 (by decide)
        replace fg2 := fg2.st st261 (by decide)
        replace hs := hs.loc0 st261 (by decide)
        have hk := hk.put 37 (.int .i64 t257) rfl
        refine ⟨.inr ⟨f57.now, trivial⟩, ?_⟩
        refine xd_take tab hk (k := 0) (is := [17, 18]) (ls' := #[true, true, true, true, true, true, true, true, true, true, true, true, true, true, true, true, true, true, true]) (lv := []) (ks := [0, 4, 5, 41]) (e' := [(0, .string t13), (4, .slice A36 (t31.1).length c37), (5, .pointer (some ⟨bx56, 0, none⟩)), (41, .bool (t257 != t44.1.E))]) (by kernel_rfl) rfl rfl (by kernel_rfl) (np_then (np_then np_body)) ⟨f57.now, trivial⟩ (fun W_ hS => trivial) fun a hk => ?_
        refine xd_done (by kernel_rfl) ?_
        refine then_n ?_
        cases b262 : (t257 != t44.1.E)
        · rw [b262] at hk H
          replace H := bifF H
          refine x_if hk (b := false) rfl ?_
          refine (show Code.wpIn _ _ _ _ _ _ _ from ?_)
          refine wpIn_skip ?_
          refine then_n ?_
          exact ⟨(fun b_ => (fun l_ => if l_ = 2 then 5 else if l_ = 4 then 6 else l_) (o260 b_)), (by exact Kn.pick (ks := [0, 4, 5]) hk rfl), (hs.relab0 (fun l_ => if l_ = 2 then 5 else if l_ = 4 then 6 else l_) rfl), (f38.relab (fun l_ => if l_ = 2 then 5 else if l_ = 4 then 6 else l_) rfl), (f57.relab (fun l_ => if l_ = 2 then 5 else if l_ = 4 then 6 else l_) rfl), (fg0.relab (fun l_ => if l_ = 2 then 5 else if l_ = 4 then 6 else l_) rfl), (fg1.relab (fun l_ => if l_ = 2 then 5 else if l_ = 4 then 6 else l_) rfl), (fg2.relab (fun l_ => if l_ = 2 then 5 else if l_ = 4 then 6 else l_) rfl), H⟩
        · rw [b262] at hk H
          replace H := bifT H
          refine x_if hk (b := true) rfl ?_
          refine (show Code.wpIn _ _ _ _ _ _ _ from ?_)
          refine x_seq ?_
          refine wpIn_region_lit ?_
          refine x_run tab hk (k := 1) (lv := []) (ks := [2]) (e' := [(2, .bool false)]) rfl trivial fun a hk => ?_
          refine wpListIn_nil ?_
          refine then_n ?_
          refine wpIn_ret ?_
          refine then_r ?_
          obtain rfl := Option.some.inj H
          exact x_retG hk (rs := [.tmp 2]) (vs := [.bool false]) rfl ⟨rfl, trivial⟩ ⟨fun b_ => if b_ < w.heap.size then o b_ else (fun _ => 0) (o260 b_), rfl, hs.close0 o (fun _ => 0)⟩
      · rw [b253] at hk H
        replace H := bifT H
        refine xd_take tab hk (k := 0) (is := [13, 14, 15, 16, 17, 18]) (ls' := #[true, true, true, true, true, true, true, true, true, true, true, true, true, true, true, true, true, true, true]) (lv := []) (ks := [0, 4, 5, 41]) (e' := [(0, .string t13), (4, .slice A36 (t31.1).length c37), (5, .pointer (some ⟨bx56, 0, none⟩)), (41, .bool true)]) (by kernel_rfl) rfl rfl (by kernel_rfl) (np_then (np_then np_body)) ⟨f57.now, trivial⟩ (fun W_ hS => trivial) fun a hk => ?_
        refine xd_done (by kernel_rfl) ?_
        refine then_n ?_
        refine x_if hk (b := true) rfl ?_
        refine (show Code.wpIn _ _ _ _ _ _ _ from ?_)
        refine x_seq ?_
        refine wpIn_region_lit ?_
        refine x_run tab hk (k := 1) (lv := []) (ks := [2]) (e' := [(2, .bool false)]) rfl trivial fun a hk => ?_
        refine wpListIn_nil ?_
        refine then_n ?_
        refine wpIn_ret ?_
        refine then_r ?_
        obtain rfl := Option.some.inj H
        exact x_retG hk (rs := [.tmp 2]) (vs := [.bool false]) rfl ⟨rfl, trivial⟩ ⟨fun b_ => if b_ < w.heap.size then o b_ else (fun _ => 0) (o251 b_), rfl, hs.close0 o (fun _ => 0)⟩
    · rw [b244] at hk H
      replace H := bifT H
      refine xd_take tab hk (k := 0) (is := [5, 6, 7, 8, 9, 10, 11, 12, 13, 14, 15, 16, 17, 18]) (ls' := #[true, true, true, true, true, true, true, true, true, true, true, true, true, true, true, true, true, true, true]) (lv := []) (ks := [0, 4, 5, 41]) (e' := [(0, .string t13), (4, .slice A36 (t31.1).length c37), (5, .pointer (some ⟨bx56, 0, none⟩)), (41, .bool true)]) (by kernel_rfl) rfl rfl (by kernel_rfl) (np_then (np_then np_body)) ⟨f57.now, trivial⟩ (fun W_ hS => trivial) fun a hk => ?_
      refine xd_done (by kernel_rfl) ?_
      refine then_n ?_
      refine x_if hk (b := true) rfl ?_
      refine (show Code.wpIn _ _ _ _ _ _ _ from ?_)
      refine x_seq ?_
      refine wpIn_region_lit ?_
      refine x_run tab hk (k := 1) (lv := []) (ks := [2]) (e' := [(2, .bool false)]) rfl trivial fun a hk => ?_
      refine wpListIn_nil ?_
      refine then_n ?_
      refine wpIn_ret ?_
      refine then_r ?_
      obtain rfl := Option.some.inj H
      exact x_retG hk (rs := [.tmp 2]) (vs := [.bool false]) rfl ⟨rfl, trivial⟩ ⟨fun b_ => if b_ < w.heap.size then o b_ else (fun _ => 0) (o242 b_), rfl, hs.close0 o (fun _ => 0)⟩
  · rw [b9] at hk H
    replace H := bifT H
    refine x_if hk (b := true) rfl ?_
    refine (show Code.wpIn _ _ _ _ _ _ _ from ?_)
    refine x_seq ?_
    refine wpIn_region_lit ?_
    refine x_run tab hk (k := 1) (lv := []) (ks := [2]) (e' := [(2, .bool false)]) rfl trivial fun a hk => ?_
    refine wpListIn_nil ?_
    refine then_n ?_
    refine wpIn_ret ?_
    refine then_r ?_
    obtain rfl := Option.some.inj H
    exact x_retG hk (rs := [.tmp 2]) (vs := [.bool false]) rfl ⟨rfl, trivial⟩ ⟨fun b_ => if b_ < w.heap.size then o b_ else (fun _ => 0) (o7 b_), rfl, hs.close0 o (fun _ => 0)⟩

end Go.Proofs.YthmdgjdgnfoloaaDoor
